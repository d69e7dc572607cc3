/-
  Walks of GraphOne.
-/
import Derived.Test.YtlnimgpfopaicaaGe
import Derived.Test.YtlnimgpfopaicaaGk
import Derived.Test.YtlnimgpfopaicaaSx
import Derived.Test.YtlnimgpfopaicaaFa
import Derived.Test.YtlnimgpfopaicaaFb
import Derived.Test.YtlnimgpfopaicaaYa
set_option linter.unusedVariables false
set_option linter.unusedSimpArgs false
set_option maxRecDepth 100000
set_option maxHeartbeats 1000000
namespace Go.Proofs
open Go Go.TL Go.RowKit
theorem GraphOne_spec (w0 : World) (v : FIn) (f : GFlow) (raws : List RLet) (R1 : Rd tRLet w0 v.la raws) (hraw : RawOk w0 raws f.lets) (Ro : Rd (tI .i64) w0 v.oa f.outs) (hlc : f.lets.length ≤ v.lc) (hoc : f.outs.length ≤ v.oc) (hlm : f.lets.length ≤ 140737488355328) (hom : f.outs.length ≤ 140737488355328) (m : GMaker) (n : Int) (other : GEnd) :
    Calls Try.prog 3 [.agg (fL v f).toArray, .agg (tMaker.enc m).toArray, .int .i64 n, .agg (tEnd.enc other).toArray].toArray w0 (fun r w => r = .returned (.bool true) ∧ Ext w0 w) := by
 have S := Sat.refl w0
 obtain ⟨l, e, hp1, hp2, hpe, hpo⟩ := plain_cases3 f m
 refine calls_of_W (args := [.agg (fL v f).toArray, .agg (tMaker.enc m).toArray, .int .i64 n, .agg (tEnd.enc other).toArray]) 135 Try.func3 rfl Try.ntmps3 rfl ?_
 refine W.seq ?_
 refine W.region rfl ?_
 refine WO.e (O.box rfl rfl S (fun b4 w S => ?_))
 refine WO.e (O.box rfl rfl S (fun b5 w S => ?_))
 refine WO.e (O.box rfl rfl S (fun b7 w S => ?_))
 refine WO.q (Y.assign (v := .bool _) rfl) ?_
 refine WO.nil ?_
 refine Then.nx ?_
 refine W.seq ?_
 refine W.seq ?_
 refine W.region rfl ?_
 first | refine WO.q (Y.load rfl (loadSN sz_25 S 0 rfl rfl rfl)) ?_ | refine WO.q (Y.load rfl (loadSN sz_25 S 1 rfl rfl rfl)) ?_ | refine WO.q (Y.load rfl (loadSN sz_25 S 2 rfl rfl rfl)) ?_ | refine WO.q (Y.load rfl (loadSN sz_25 S 3 rfl rfl rfl)) ?_ | refine WO.q (Y.load rfl (loadSN sz_25 S 4 rfl rfl rfl)) ?_ | refine WO.q (Y.load rfl (loadSN sz_25 S 5 rfl rfl rfl)) ?_ | refine WO.q (Y.load rfl (loadSN sz_25 S 6 rfl rfl rfl)) ?_ | refine WO.q (Y.load rfl (loadSN sz_25 S 7 rfl rfl rfl)) ?_
 refine WO.e (O.call cf_5 rfl (wideG_spec _ v f raws (R1.ext S.ext) (hraw.ext S.ext) hlm hom) ?_)
 rintro _ w ⟨wb, rfl, hwb, E⟩
 replace S := S.keep E
 refine ⟨_, rfl, ?_⟩
 refine WO.nil ?_
 refine Then.nx ?_
 refine W.cond rfl (fun h1 => ?_) (fun h1 => ?_) -- cond 0
 ·
  have rh1 := h1
  (try simp only [Q1, Q2, Q3, Q4, Q5, Q6, Q7, Q8, Q9, Qa] at h1)
  refine W.seq ?_
  refine W.region rfl ?_
  refine WO.e (O.call cf_6 rfl (livesG_spec _) ?_)
  rintro _ w ⟨rfl, E⟩
  replace S := S.keep E
  refine ⟨_, rfl, ?_⟩
  refine WO.q (Y.assign (v := .bool _) rfl) ?_
  refine WO.nil ?_
  refine Then.nx ?_
  refine W.ret ?_
  refine Then.r ?_
  refine BodyQ.ret1 Try.results3 (ResV.tmp _ rfl) ?_
  first | exact ⟨rfl, S.ext⟩ | (exfalso; omega) | (exfalso; contradiction)
 ·
  have rh1 := h1
  (try simp only [Q1, Q2, Q3, Q4, Q5, Q6, Q7, Q8, Q9, Qa] at h1)
  refine W.skip ?_
  refine Then.nx ?_
  refine W.seq ?_
  obtain ⟨hw1, hw2, hw3⟩ := hwb (by assumption)
  have hR : RdFlow w0 v f := ⟨⟨raws, R1, hraw⟩, Ro, hlc, hoc, by omega, hw2, fun i x hx => by (have := hw3 i x hx; omega)⟩
  refine W.draw (.q 0 (.q 2 (.e 1 (.e 3 (.q 4 (.q 5 (.q 6 (.q 7 (.q 8 .nil))))))))) (fun w => Sat _ w _) rfl rfl (by kernel_rfl) rfl (by kernel_rfl) (by repeat (first | exact BodyQ.noFrame | refine Then.noFrame ?_ | refine InB.noFrame ?_)) S.drew ?_
  clear S
  first | refine Plan.q rfl (fun w S => Y.load rfl (loadSN sz_25 S 0 rfl rfl rfl)) ?_ | refine Plan.q rfl (fun w S => Y.load rfl (loadSN sz_25 S 1 rfl rfl rfl)) ?_ | refine Plan.q rfl (fun w S => Y.load rfl (loadSN sz_25 S 2 rfl rfl rfl)) ?_ | refine Plan.q rfl (fun w S => Y.load rfl (loadSN sz_25 S 3 rfl rfl rfl)) ?_ | refine Plan.q rfl (fun w S => Y.load rfl (loadSN sz_25 S 4 rfl rfl rfl)) ?_ | refine Plan.q rfl (fun w S => Y.load rfl (loadSN sz_25 S 5 rfl rfl rfl)) ?_ | refine Plan.q rfl (fun w S => Y.load rfl (loadSN sz_25 S 6 rfl rfl rfl)) ?_ | refine Plan.q rfl (fun w S => Y.load rfl (loadSN sz_25 S 7 rfl rfl rfl)) ?_
  first | refine Plan.q rfl (fun w S => Y.load rfl (loadSN sz_27 S 0 rfl rfl rfl)) ?_ | refine Plan.q rfl (fun w S => Y.load rfl (loadSN sz_27 S 1 rfl rfl rfl)) ?_ | refine Plan.q rfl (fun w S => Y.load rfl (loadSN sz_27 S 2 rfl rfl rfl)) ?_ | refine Plan.q rfl (fun w S => Y.load rfl (loadSN sz_27 S 3 rfl rfl rfl)) ?_ | refine Plan.q rfl (fun w S => Y.load rfl (loadSN sz_27 S 4 rfl rfl rfl)) ?_ | refine Plan.q rfl (fun w S => Y.load rfl (loadSN sz_27 S 5 rfl rfl rfl)) ?_ | refine Plan.q rfl (fun w S => Y.load rfl (loadSN sz_27 S 6 rfl rfl rfl)) ?_ | refine Plan.q rfl (fun w S => Y.load rfl (loadSN sz_27 S 7 rfl rfl rfl)) ?_
  refine Plan.e1 rfl (fun w S => O.call cf_8 rfl (CopyFlow_spec _ v f (hR.ext S.ext)) ?_)
  rintro _ w ⟨v22, M22, rfl, S22, H22⟩
  replace S := S.trans S22
  refine ⟨_, rfl, ?_⟩
  refine ⟨(fun w => Sat _ w _), S, (.inr (fun w S => S.pk (by repeat (first | exact Pk.nil _ | exact Pk.refl _ | refine Pk.cons 0 rfl ?_ | refine Pk.cons 1 rfl ?_ | refine Pk.cons 2 rfl ?_ | refine Pk.cons 3 rfl ?_ | refine Pk.cons 4 rfl ?_ | refine Pk.cons 5 rfl ?_ | refine Pk.cons 6 rfl ?_ | refine Pk.cons 7 rfl ?_ | refine Pk.cons 8 rfl ?_ | refine Pk.cons 9 rfl ?_ | refine Pk.cons 10 rfl ?_ | refine Pk.cons 11 rfl ?_ | refine Pk.cons 12 rfl ?_ | refine Pk.cons 13 rfl ?_ | refine Pk.drop ?_)))), ?_⟩
  clear S
  refine Plan.e1 rfl (fun w S => O.call cf_7 rfl (Plain_spec _ _ [] v22 f m (S.hasFlow 0 rfl H22 hR.small) (Sat.refl _)) ?_)
  rintro _ w ⟨a24, c24, rfl, S24⟩
  rw [hp1] at S24
  rw [hp1, hp2]
  replace S := S.trans S24
  refine ⟨_, rfl, ?_⟩
  refine ⟨(fun w => Sat _ w _), S, (.inr (fun w S => S.pk (by repeat (first | exact Pk.nil _ | exact Pk.refl _ | refine Pk.cons 0 rfl ?_ | refine Pk.cons 1 rfl ?_ | refine Pk.cons 2 rfl ?_ | refine Pk.cons 3 rfl ?_ | refine Pk.cons 4 rfl ?_ | refine Pk.cons 5 rfl ?_ | refine Pk.cons 6 rfl ?_ | refine Pk.cons 7 rfl ?_ | refine Pk.cons 8 rfl ?_ | refine Pk.cons 9 rfl ?_ | refine Pk.cons 10 rfl ?_ | refine Pk.cons 11 rfl ?_ | refine Pk.cons 12 rfl ?_ | refine Pk.cons 13 rfl ?_ | refine Pk.drop ?_)))), ?_⟩
  clear S
  refine Plan.q rfl (fun w S => Y.move (v := .tuple _) rfl) ?_
  refine Plan.q rfl (fun w S => Y.extract (v := .slice _ _ _) rfl rfl) ?_
  refine Plan.q rfl (fun w S => Y.extract (v := .int .i64 _) rfl rfl) ?_
  refine Plan.q rfl (fun w S => Y.assign (v := .slice _ _ _) rfl) ?_
  refine Plan.q rfl (fun w S => Y.assign (v := .int .i64 _) rfl) ?_
  refine Plan.nil (fun w S => ?_)
  replace S : Sat _ _ _ := S
  refine Then.nx ?_
  refine W.seq ?_
  refine W.seq ?_
  refine W.region rfl ?_
  refine WO.q (Y.move (v := .int .i64 _) rfl) ?_
  refine WO.q (Y.neq rfl rfl) ?_
  refine WO.nil ?_
  refine Then.nx ?_
  refine W.cond rfl (fun h2 => ?_) (fun h2 => ?_) -- cond 1
  ·
   have rh2 := h2
   (try simp only [Q1, Q2, Q3, Q4, Q5, Q6, Q7, Q8, Q9, Qa] at h2)
   refine W.seq ?_
   have hl0 := hpe (by assumption)
   refine W.region rfl ?_
   refine WO.q (Y.move (v := .slice _ _ _) rfl) ?_
   refine WO.q (Y.len (t' := 0) Try.underlying33 rfl) ?_
   refine WO.q (Y.eql rfl rfl) ?_
   refine WO.q (Y.move (v := .bool _) rfl) ?_
   refine WO.splitB (fun h3 => ?_) (fun h3 => ?_)
   ·
    (try simp only [Q1, Q2, Q3, Q4, Q5, Q6, Q7, Q8, Q9, Qa] at h3)
    refine WO.eT rfl (O.call cf_6 rfl (livesG_spec _) ?_)
    rintro _ w ⟨rfl, E⟩
    replace S := S.keep E
    refine ⟨_, rfl, ?_⟩
    refine WO.q (Y.pickT (u := .bool _) rfl rfl) ?_
    refine WO.q (Y.assign (v := .bool _) rfl) ?_
    refine WO.nil ?_
    refine Then.nx ?_
    refine W.ret ?_
    refine Then.r ?_
    refine BodyQ.ret1 Try.results3 (ResV.tmp _ rfl) ?_
    first | exact ⟨rfl, S.ext⟩ | (exfalso; omega) | (exfalso; contradiction)
   ·
    (try simp only [Q1, Q2, Q3, Q4, Q5, Q6, Q7, Q8, Q9, Qa] at h3)
    refine WO.qF rfl ?_
    refine WO.q (Y.pickF (u := .bool _) rfl rfl) ?_
    refine WO.q (Y.assign (v := .bool _) rfl) ?_
    refine WO.nil ?_
    refine Then.nx ?_
    refine W.ret ?_
    refine Then.r ?_
    refine BodyQ.ret1 Try.results3 (ResV.tmp _ rfl) ?_
    first | exact ⟨rfl, S.ext⟩ | (exfalso; omega) | (exfalso; contradiction)
  ·
   have rh2 := h2
   (try simp only [Q1, Q2, Q3, Q4, Q5, Q6, Q7, Q8, Q9, Qa] at h2)
   refine W.skip ?_
   refine Then.nx ?_
   refine W.seq ?_
   refine W.seq ?_
   have ho := hpo (by omega)
   have hol := ho.len
   refine W.region rfl ?_
   refine WO.q (Y.move (v := .slice _ _ _) rfl) ?_
   refine WO.q (Y.len (t' := 0) Try.underlying33 rfl) ?_
   refine WO.q (Y.fieldB fo_25_0 rfl) ?_
   first | refine WO.q (Y.load rfl (loadS1 sz_22 S 0 rfl rfl)) ?_ | refine WO.q (Y.load rfl (loadS1 sz_22 S 1 rfl rfl)) ?_ | refine WO.q (Y.load rfl (loadS1 sz_22 S 2 rfl rfl)) ?_ | refine WO.q (Y.load rfl (loadS1 sz_22 S 3 rfl rfl)) ?_ | refine WO.q (Y.load rfl (loadS1 sz_22 S 4 rfl rfl)) ?_ | refine WO.q (Y.load rfl (loadS1 sz_22 S 5 rfl rfl)) ?_ | refine WO.q (Y.load rfl (loadS1 sz_22 S 6 rfl rfl)) ?_ | refine WO.q (Y.load rfl (loadS1 sz_22 S 7 rfl rfl)) ?_
   refine WO.q (Y.len (t' := 0) Try.underlying22 rfl) ?_
   refine WO.q (Y.neq rfl rfl) ?_
   refine WO.nil ?_
   refine Then.nx ?_
   refine W.cond rfl (fun h4 => ?_) (fun h4 => ?_) -- cond 2
   ·
    have rh4 := h4
    (try simp only [Q1, Q2, Q3, Q4, Q5, Q6, Q7, Q8, Q9, Qa] at h4)
    exfalso; omega
   ·
    have rh4 := h4
    (try simp only [Q1, Q2, Q3, Q4, Q5, Q6, Q7, Q8, Q9, Qa] at h4)
    refine W.skip ?_
    refine Then.nx ?_
    refine W.seq ?_
    refine W.draw (.q 0 (.q 2 (.q 3 (.e 1 (.e 4 (.e 5 (.q 6 (.q 7 (.q 8 (.q 9 (.q 10 .nil))))))))))) (fun w => Sat _ w _) rfl rfl (by kernel_rfl) rfl (by kernel_rfl) (by repeat (first | exact BodyQ.noFrame | refine Then.noFrame ?_ | refine InB.noFrame ?_)) S.drew ?_
    clear S
    first | refine Plan.q rfl (fun w S => Y.load rfl (loadSN sz_25 S 0 rfl rfl rfl)) ?_ | refine Plan.q rfl (fun w S => Y.load rfl (loadSN sz_25 S 1 rfl rfl rfl)) ?_ | refine Plan.q rfl (fun w S => Y.load rfl (loadSN sz_25 S 2 rfl rfl rfl)) ?_ | refine Plan.q rfl (fun w S => Y.load rfl (loadSN sz_25 S 3 rfl rfl rfl)) ?_ | refine Plan.q rfl (fun w S => Y.load rfl (loadSN sz_25 S 4 rfl rfl rfl)) ?_ | refine Plan.q rfl (fun w S => Y.load rfl (loadSN sz_25 S 5 rfl rfl rfl)) ?_ | refine Plan.q rfl (fun w S => Y.load rfl (loadSN sz_25 S 6 rfl rfl rfl)) ?_ | refine Plan.q rfl (fun w S => Y.load rfl (loadSN sz_25 S 7 rfl rfl rfl)) ?_
    first | refine Plan.q rfl (fun w S => Y.load rfl (loadSN sz_27 S 0 rfl rfl rfl)) ?_ | refine Plan.q rfl (fun w S => Y.load rfl (loadSN sz_27 S 1 rfl rfl rfl)) ?_ | refine Plan.q rfl (fun w S => Y.load rfl (loadSN sz_27 S 2 rfl rfl rfl)) ?_ | refine Plan.q rfl (fun w S => Y.load rfl (loadSN sz_27 S 3 rfl rfl rfl)) ?_ | refine Plan.q rfl (fun w S => Y.load rfl (loadSN sz_27 S 4 rfl rfl rfl)) ?_ | refine Plan.q rfl (fun w S => Y.load rfl (loadSN sz_27 S 5 rfl rfl rfl)) ?_ | refine Plan.q rfl (fun w S => Y.load rfl (loadSN sz_27 S 6 rfl rfl rfl)) ?_ | refine Plan.q rfl (fun w S => Y.load rfl (loadSN sz_27 S 7 rfl rfl rfl)) ?_
    refine Plan.q rfl (fun w S => Y.move (v := .slice _ _ _) rfl) ?_
    refine Plan.e1 rfl (fun w S => O.call cf_8 rfl (CopyFlow_spec _ v f (hR.ext S.ext)) ?_)
    rintro _ w ⟨v43, M43, rfl, S43, H43⟩
    replace S := S.trans S43
    refine ⟨_, rfl, ?_⟩
    refine ⟨(fun w => Sat _ w _), S, (.inr (fun w S => S.pk (by repeat (first | exact Pk.nil _ | exact Pk.refl _ | refine Pk.cons 0 rfl ?_ | refine Pk.cons 1 rfl ?_ | refine Pk.cons 2 rfl ?_ | refine Pk.cons 3 rfl ?_ | refine Pk.cons 4 rfl ?_ | refine Pk.cons 5 rfl ?_ | refine Pk.cons 6 rfl ?_ | refine Pk.cons 7 rfl ?_ | refine Pk.cons 8 rfl ?_ | refine Pk.cons 9 rfl ?_ | refine Pk.cons 10 rfl ?_ | refine Pk.cons 11 rfl ?_ | refine Pk.cons 12 rfl ?_ | refine Pk.cons 13 rfl ?_ | refine Pk.drop ?_)))), ?_⟩
    clear S
    refine Plan.e1 rfl (fun w S => O.call cf_10 rfl (CopyEnds_spec _ a24 c24 l (S.rd 1 rfl) (by omega)) ?_)
    rintro _ w ⟨a46, c46, rfl, S46⟩
    replace S := S.trans S46
    have hc46 := (S.ownLen 0 rfl).1
    refine ⟨_, rfl, ?_⟩
    refine ⟨(fun w => Sat _ w _), S, (.inr (fun w S => S.pk (by repeat (first | exact Pk.nil _ | exact Pk.refl _ | refine Pk.cons 0 rfl ?_ | refine Pk.cons 1 rfl ?_ | refine Pk.cons 2 rfl ?_ | refine Pk.cons 3 rfl ?_ | refine Pk.cons 4 rfl ?_ | refine Pk.cons 5 rfl ?_ | refine Pk.cons 6 rfl ?_ | refine Pk.cons 7 rfl ?_ | refine Pk.cons 8 rfl ?_ | refine Pk.cons 9 rfl ?_ | refine Pk.cons 10 rfl ?_ | refine Pk.cons 11 rfl ?_ | refine Pk.cons 12 rfl ?_ | refine Pk.cons 13 rfl ?_ | refine Pk.drop ?_)))), ?_⟩
    clear S
    refine Plan.e1 rfl (fun w S => O.call cf_9 rfl (Fits_spec _ v43 f (S.hasFlow 1 rfl H43 hR.small) m a46 c46 l (S.rd 0 rfl) hc46 (by omega)) ?_)
    rintro _ w ⟨rfl, E⟩
    rw [ho.fits1, ho.fits2]
    replace S := S.keep E
    refine ⟨_, rfl, ?_⟩
    refine ⟨(fun w => Sat _ w _), S, (.inr (fun w S => S.pk (by repeat (first | exact Pk.nil _ | exact Pk.refl _ | refine Pk.cons 0 rfl ?_ | refine Pk.cons 1 rfl ?_ | refine Pk.cons 2 rfl ?_ | refine Pk.cons 3 rfl ?_ | refine Pk.cons 4 rfl ?_ | refine Pk.cons 5 rfl ?_ | refine Pk.cons 6 rfl ?_ | refine Pk.cons 7 rfl ?_ | refine Pk.cons 8 rfl ?_ | refine Pk.cons 9 rfl ?_ | refine Pk.cons 10 rfl ?_ | refine Pk.cons 11 rfl ?_ | refine Pk.cons 12 rfl ?_ | refine Pk.cons 13 rfl ?_ | refine Pk.drop ?_)))), ?_⟩
    clear S
    refine Plan.q rfl (fun w S => Y.move (v := .tuple _) rfl) ?_
    refine Plan.q rfl (fun w S => Y.extract (v := .int .i64 _) rfl rfl) ?_
    refine Plan.q rfl (fun w S => Y.extract (v := .int .i64 _) rfl rfl) ?_
    refine Plan.q rfl (fun w S => Y.assign (v := .int .i64 _) rfl) ?_
    refine Plan.q rfl (fun w S => Y.assign (v := .int .i64 _) rfl) ?_
    refine Plan.nil (fun w S => ?_)
    replace S : Sat _ _ _ := S
    refine Then.nx ?_
    refine W.seq ?_
    refine W.seq ?_
    refine W.region rfl ?_
    refine WO.q (Y.move (v := .int .i64 _) rfl) ?_
    refine WO.q (Y.neq rfl rfl) ?_
    refine WO.q (Y.move (v := .bool _) rfl) ?_
    refine WO.splitB (fun h5 => ?_) (fun h5 => ?_)
    ·
     (try simp only [Q1, Q2, Q3, Q4, Q5, Q6, Q7, Q8, Q9, Qa] at h5)
     refine WO.qF rfl ?_
     refine WO.qF rfl ?_
     refine WO.q (Y.pickT (u := .bool _) rfl rfl) ?_
     refine WO.nil ?_
     refine Then.nx ?_
     first | refine W.condT rfl ?_ | refine W.condT (congrArg Value.bool (by assumption)) ?_
     refine W.seq ?_
     refine W.region rfl ?_
     refine WO.q (Y.assign (v := .bool _) rfl) ?_
     refine WO.nil ?_
     refine Then.nx ?_
     refine W.ret ?_
     refine Then.r ?_
     refine BodyQ.ret1 Try.results3 (ResV.tmp _ rfl) ?_
     first | exact ⟨rfl, S.ext⟩ | (exfalso; omega) | (exfalso; contradiction)
    ·
     (try simp only [Q1, Q2, Q3, Q4, Q5, Q6, Q7, Q8, Q9, Qa] at h5)
     refine WO.qT rfl (Y.move (v := .int .i64 _) rfl) ?_
     refine WO.qT rfl (Y.neq rfl rfl) ?_
     refine WO.q (Y.pickF (u := .bool _) rfl rfl) ?_
     refine WO.nil ?_
     refine Then.nx ?_
     refine W.cond rfl (fun h6 => ?_) (fun h6 => ?_) -- cond 3
     ·
      have rh6 := h6
      (try simp only [Q1, Q2, Q3, Q4, Q5, Q6, Q7, Q8, Q9, Qa] at h6)
      refine W.seq ?_
      refine W.region rfl ?_
      refine WO.q (Y.assign (v := .bool _) rfl) ?_
      refine WO.nil ?_
      refine Then.nx ?_
      refine W.ret ?_
      refine Then.r ?_
      refine BodyQ.ret1 Try.results3 (ResV.tmp _ rfl) ?_
      first | exact ⟨rfl, S.ext⟩ | (exfalso; omega) | (exfalso; contradiction)
     ·
      have rh6 := h6
      (try simp only [Q1, Q2, Q3, Q4, Q5, Q6, Q7, Q8, Q9, Qa] at h6)
      refine W.skip ?_
      refine Then.nx ?_
      refine W.seq ?_
      refine W.seq ?_
      refine W.region rfl ?_
      refine WO.q (Y.assign (v := .int .i64 _) rfl) ?_
      refine WO.nil ?_
      refine Then.nx ?_
      refine W.block ?_
      -- loop 0 carries 13:i
      refine W.loop1 [8, 13, 14, 15, 56, 57, 58, 59, 60, 61, 62, 63, 64, 65, 66, 67, 68, 69, 70, 71, 72, 73, 74, 75, 76, 77, 78, 79, 80, 81, 82, 83] 13 (fun v13 w => ∃ i : Nat, v13 = .int .i64 (i : Int) ∧ i ≤ l.length ∧ Sat w0 w [Own tEnd 30 a24 c24 l, Cel b7 (tEnd.enc other) 30, Cel b5 (tMaker.enc m) 27, Cel b4 (fL v f) 25]) (fun v13 w => l.length - (intOf v13).toNat) ?_ ?_
      ·
       exact ⟨0, rfl, Nat.zero_le _, S.pk (by repeat (first | exact Pk.nil _ | exact Pk.refl _ | refine Pk.cons 0 rfl ?_ | refine Pk.cons 1 rfl ?_ | refine Pk.cons 2 rfl ?_ | refine Pk.cons 3 rfl ?_ | refine Pk.cons 4 rfl ?_ | refine Pk.cons 5 rfl ?_ | refine Pk.cons 6 rfl ?_ | refine Pk.cons 7 rfl ?_ | refine Pk.cons 8 rfl ?_ | refine Pk.cons 9 rfl ?_ | refine Pk.cons 10 rfl ?_ | refine Pk.cons 11 rfl ?_ | refine Pk.cons 12 rfl ?_ | refine Pk.cons 13 rfl ?_ | refine Pk.drop ?_))⟩
      ·
       rintro g0 v13 w ⟨i, rfl, hi, S⟩
       refine W.seq ?_
       refine W.seq ?_
       refine W.region rfl ?_
       refine WO.q (Y.move (v := .int .i64 _) rfl) ?_
       refine WO.q (Y.move (v := .slice _ _ _) rfl) ?_
       refine WO.q (Y.len (t' := 0) Try.underlying33 rfl) ?_
       refine WO.q (Y.lss rfl rfl) ?_
       refine WO.nil ?_
       refine Then.nx ?_
       refine W.cond rfl (fun h7 => ?_) (fun h7 => ?_) -- cond 4
       ·
        have rh7 := h7
        (try simp only [Q1, Q2, Q3, Q4, Q5, Q6, Q7, Q8, Q9, Qa] at h7)
        refine W.skip ?_
        refine Then.nx ?_
        refine W.seq ?_
        refine W.block ?_
        obtain ⟨u, hu⟩ := at_ex (xs := l) (k := i) (by omega)
        have hcp := (S.ownLen 0 rfl).1
        have htk : (l.take i).length = i := by (rw [List.length_take]; omega)
        refine W.cut2 [14, 15, 62, 63, 64, 65, 66, 67, 68, 69, 70, 71, 72, 73] 14 15 (fun v14 v15 w => ∃ b14 : Nat, v14 = .pointer (some ⟨b14, 0, none⟩) ∧ v15 = .int .i64 0 ∧ Sat w0 w [Cel b14 (tEnd.enc u) 30, Own tEnd 30 a24 c24 l, Cel b7 (tEnd.enc other) 30, Cel b5 (tMaker.enc m) 27, Cel b4 (fL v f) 25]) ?_ ?_
        ·
         refine W.drawT (.q 0 (.q 2 (.q 3 (.q 4 (.q 5 (.q 6 (.br 1 (.br 7 (.br 8 (.q 9 (.q 10 (.q 11 (.e 12 (.e 13 (.q 14 .nil)))))) 12 (.e 8 (.q 9 (.q 10 (.q 11 (.e 13 (.q 14 .nil))))))) 12 (.e 7 (.e 8 (.q 9 (.q 10 (.q 11 (.e 13 (.q 14 .nil)))))))) 12 (.e 1 (.e 7 (.e 8 (.q 9 (.q 10 (.q 11 (.e 13 (.q 14 .nil))))))))))))))) (fun w => Sat w0 w [Own tEnd 30 a24 c24 l, Cel b7 (tEnd.enc other) 30, Cel b5 (tMaker.enc m) 27, Cel b4 (fL v f) 25]) (fun w => Sat _ w _) rfl rfl (by kernel_rfl) rfl (by kernel_rfl) (by repeat (first | exact BodyQ.noFrame | refine Then.noFrame ?_ | refine InB.noFrame ?_)) (fun w S => S.pk (by repeat (first | exact Pk.nil _ | exact Pk.refl _ | refine Pk.cons 0 rfl ?_ | refine Pk.cons 1 rfl ?_ | refine Pk.cons 2 rfl ?_ | refine Pk.cons 3 rfl ?_ | refine Pk.cons 4 rfl ?_ | refine Pk.cons 5 rfl ?_ | refine Pk.cons 6 rfl ?_ | refine Pk.cons 7 rfl ?_ | refine Pk.cons 8 rfl ?_ | refine Pk.cons 9 rfl ?_ | refine Pk.cons 10 rfl ?_ | refine Pk.cons 11 rfl ?_ | refine Pk.cons 12 rfl ?_ | refine Pk.cons 13 rfl ?_ | refine Pk.drop ?_))) S.drew ?_
         clear S
         first | refine PlanT.q rfl (fun w S => Y.load rfl (loadSN sz_25 S 0 rfl rfl rfl)) ?_ | refine PlanT.q rfl (fun w S => Y.load rfl (loadSN sz_25 S 1 rfl rfl rfl)) ?_ | refine PlanT.q rfl (fun w S => Y.load rfl (loadSN sz_25 S 2 rfl rfl rfl)) ?_ | refine PlanT.q rfl (fun w S => Y.load rfl (loadSN sz_25 S 3 rfl rfl rfl)) ?_ | refine PlanT.q rfl (fun w S => Y.load rfl (loadSN sz_25 S 4 rfl rfl rfl)) ?_ | refine PlanT.q rfl (fun w S => Y.load rfl (loadSN sz_25 S 5 rfl rfl rfl)) ?_ | refine PlanT.q rfl (fun w S => Y.load rfl (loadSN sz_25 S 6 rfl rfl rfl)) ?_ | refine PlanT.q rfl (fun w S => Y.load rfl (loadSN sz_25 S 7 rfl rfl rfl)) ?_
         refine PlanT.q rfl (fun w S => Y.move (v := .int .i64 _) rfl) ?_
         first | refine PlanT.q rfl (fun w S => Y.load rfl (loadSN sz_27 S 0 rfl rfl rfl)) ?_ | refine PlanT.q rfl (fun w S => Y.load rfl (loadSN sz_27 S 1 rfl rfl rfl)) ?_ | refine PlanT.q rfl (fun w S => Y.load rfl (loadSN sz_27 S 2 rfl rfl rfl)) ?_ | refine PlanT.q rfl (fun w S => Y.load rfl (loadSN sz_27 S 3 rfl rfl rfl)) ?_ | refine PlanT.q rfl (fun w S => Y.load rfl (loadSN sz_27 S 4 rfl rfl rfl)) ?_ | refine PlanT.q rfl (fun w S => Y.load rfl (loadSN sz_27 S 5 rfl rfl rfl)) ?_ | refine PlanT.q rfl (fun w S => Y.load rfl (loadSN sz_27 S 6 rfl rfl rfl)) ?_ | refine PlanT.q rfl (fun w S => Y.load rfl (loadSN sz_27 S 7 rfl rfl rfl)) ?_
         refine PlanT.q rfl (fun w S => Y.move (v := .slice _ _ _) rfl) ?_
         refine PlanT.q rfl (fun w S => Y.move (v := .int .i64 _) rfl) ?_
         refine PlanT.q rfl (fun w S => Y.sliceH (h := (l.take i).length) sl_33 rfl (by (rw [htk]; rfl)) (by omega)) ?_
         refine PlanT.br ?_ ?_
         ·
          refine PlanT.e1 rfl (fun w S => O.call cf_8 rfl (CopyFlow_spec _ v f (hR.ext S.ext)) ?_)
          rintro _ w ⟨v64, M64, rfl, S64, H64⟩
          replace S := S.trans S64
          refine ⟨_, rfl, ?_⟩
          refine ⟨(fun w => Sat w0 w [Own tEnd 30 a24 c24 l, Cel b7 (tEnd.enc other) 30, Cel b5 (tMaker.enc m) 27, Cel b4 (fL v f) 25]), (fun w => Sat _ w _), S, (.inr (fun _ h => h)), (fun w S => S.pk (by repeat (first | exact Pk.nil _ | exact Pk.refl _ | refine Pk.cons 0 rfl ?_ | refine Pk.cons 1 rfl ?_ | refine Pk.cons 2 rfl ?_ | refine Pk.cons 3 rfl ?_ | refine Pk.cons 4 rfl ?_ | refine Pk.cons 5 rfl ?_ | refine Pk.cons 6 rfl ?_ | refine Pk.cons 7 rfl ?_ | refine Pk.cons 8 rfl ?_ | refine Pk.cons 9 rfl ?_ | refine Pk.cons 10 rfl ?_ | refine Pk.cons 11 rfl ?_ | refine Pk.cons 12 rfl ?_ | refine Pk.cons 13 rfl ?_ | refine Pk.drop ?_))), ?_⟩
          clear S
          refine PlanT.br ?_ ?_
          ·
           first | refine PlanT.e1 rfl (fun w S => O.call cf_10 rfl (CopyEnds_spec _ a24 c24 (l.take i) ((S.rd (xs := l) 1 rfl).take i) (by omega)) ?_) | refine PlanT.e1 rfl (fun w S => O.call cf_10 rfl (CopyEnds_spec _ a24 c24 (l.take i) ((S.rd (xs := l) 2 rfl).take i) (by omega)) ?_)
           rintro _ w ⟨a70, c70, rfl, S70⟩
           replace S := S.trans S70
           have hc70 := (S.ownLen 0 rfl).1
           refine ⟨_, rfl, ?_⟩
           refine ⟨(fun w => Sat w0 w [Own tEnd 30 a24 c24 l, Cel b7 (tEnd.enc other) 30, Cel b5 (tMaker.enc m) 27, Cel b4 (fL v f) 25]), (fun w => Sat _ w _), S, (.inr (fun _ h => h)), (fun w S => S.pk (by repeat (first | exact Pk.nil _ | exact Pk.refl _ | refine Pk.cons 0 rfl ?_ | refine Pk.cons 1 rfl ?_ | refine Pk.cons 2 rfl ?_ | refine Pk.cons 3 rfl ?_ | refine Pk.cons 4 rfl ?_ | refine Pk.cons 5 rfl ?_ | refine Pk.cons 6 rfl ?_ | refine Pk.cons 7 rfl ?_ | refine Pk.cons 8 rfl ?_ | refine Pk.cons 9 rfl ?_ | refine Pk.cons 10 rfl ?_ | refine Pk.cons 11 rfl ?_ | refine Pk.cons 12 rfl ?_ | refine Pk.cons 13 rfl ?_ | refine Pk.drop ?_))), ?_⟩
           clear S
           refine PlanT.br ?_ ?_
           ·
            first | refine PlanT.e1 rfl (fun w S => O.call cf_11 rfl (Let_spec _ v64 f (i : Int) m a70 c70 (l.take i) (S.hasFlow 1 rfl H64 hR.small) (S.rd 0 rfl) hc70 (by omega)) ?_) | refine PlanT.e1 rfl (fun w S => O.call cf_11 rfl (Let_spec _ v64 f (i : Int) m a70 c70 (l.take i) (S.hasFlow 2 rfl H64 hR.small) (S.rd 0 rfl) hc70 (by omega)) ?_) | refine PlanT.e1 rfl (fun w S => O.call cf_11 rfl (Let_spec _ v64 f (i : Int) m a70 c70 (l.take i) (S.hasFlow 2 rfl H64 hR.small) (S.rd 1 rfl) hc70 (by omega)) ?_)
            rintro _ w ⟨rfl, E⟩
            rw [ho.let1 hu, ho.let2 hu]
            replace S := S.keep E
            refine ⟨_, rfl, ?_⟩
            refine ⟨(fun w => Sat w0 w [Own tEnd 30 a24 c24 l, Cel b7 (tEnd.enc other) 30, Cel b5 (tMaker.enc m) 27, Cel b4 (fL v f) 25]), (fun w => Sat _ w _), S, (.inr (fun _ h => h)), (fun w S => S.pk (by repeat (first | exact Pk.nil _ | exact Pk.refl _ | refine Pk.cons 0 rfl ?_ | refine Pk.cons 1 rfl ?_ | refine Pk.cons 2 rfl ?_ | refine Pk.cons 3 rfl ?_ | refine Pk.cons 4 rfl ?_ | refine Pk.cons 5 rfl ?_ | refine Pk.cons 6 rfl ?_ | refine Pk.cons 7 rfl ?_ | refine Pk.cons 8 rfl ?_ | refine Pk.cons 9 rfl ?_ | refine Pk.cons 10 rfl ?_ | refine Pk.cons 11 rfl ?_ | refine Pk.cons 12 rfl ?_ | refine Pk.cons 13 rfl ?_ | refine Pk.drop ?_))), ?_⟩
            clear S
            refine PlanT.q rfl (fun w S => Y.move (v := .tuple _) rfl) ?_
            refine PlanT.q rfl (fun w S => Y.extract (v := .agg _) rfl rfl) ?_
            refine PlanT.q rfl (fun w S => Y.extract (v := .int .i64 _) rfl rfl) ?_
            refine PlanT.e1 rfl (fun w S => O.alloc z_30 S (fun b14 w S => ?_))
            refine ⟨(fun w => Sat w0 w [Own tEnd 30 a24 c24 l, Cel b7 (tEnd.enc other) 30, Cel b5 (tMaker.enc m) 27, Cel b4 (fL v f) 25]), (fun w => Sat _ w _), S, (.inr (fun _ h => h)), (fun w S => S.pk (by repeat (first | exact Pk.nil _ | exact Pk.refl _ | refine Pk.cons 0 rfl ?_ | refine Pk.cons 1 rfl ?_ | refine Pk.cons 2 rfl ?_ | refine Pk.cons 3 rfl ?_ | refine Pk.cons 4 rfl ?_ | refine Pk.cons 5 rfl ?_ | refine Pk.cons 6 rfl ?_ | refine Pk.cons 7 rfl ?_ | refine Pk.cons 8 rfl ?_ | refine Pk.cons 9 rfl ?_ | refine Pk.cons 10 rfl ?_ | refine Pk.cons 11 rfl ?_ | refine Pk.cons 12 rfl ?_ | refine Pk.cons 13 rfl ?_ | refine Pk.drop ?_))), ?_⟩
            clear S
            first | refine PlanT.e0 rfl (fun w S => O.store (v := .agg _) 0 S rfl rfl rfl sz_30 rfl rfl rfl rfl (fun w S => ?_)) | refine PlanT.e0 rfl (fun w S => O.store (v := .agg _) 1 S rfl rfl rfl sz_30 rfl rfl rfl rfl (fun w S => ?_)) | refine PlanT.e0 rfl (fun w S => O.store (v := .agg _) 2 S rfl rfl rfl sz_30 rfl rfl rfl rfl (fun w S => ?_)) | refine PlanT.e0 rfl (fun w S => O.store (v := .agg _) 3 S rfl rfl rfl sz_30 rfl rfl rfl rfl (fun w S => ?_)) | refine PlanT.e0 rfl (fun w S => O.store (v := .agg _) 4 S rfl rfl rfl sz_30 rfl rfl rfl rfl (fun w S => ?_)) | refine PlanT.e0 rfl (fun w S => O.store (v := .agg _) 5 S rfl rfl rfl sz_30 rfl rfl rfl rfl (fun w S => ?_)) | refine PlanT.e0 rfl (fun w S => O.store (v := .agg _) 6 S rfl rfl rfl sz_30 rfl rfl rfl rfl (fun w S => ?_)) | refine PlanT.e0 rfl (fun w S => O.store (v := .agg _) 7 S rfl rfl rfl sz_30 rfl rfl rfl rfl (fun w S => ?_))
            refine ⟨(fun w => Sat w0 w [Own tEnd 30 a24 c24 l, Cel b7 (tEnd.enc other) 30, Cel b5 (tMaker.enc m) 27, Cel b4 (fL v f) 25]), (fun w => Sat _ w _), S, (.inr (fun _ h => h)), (fun w S => S.pk (by repeat (first | exact Pk.nil _ | exact Pk.refl _ | refine Pk.cons 0 rfl ?_ | refine Pk.cons 1 rfl ?_ | refine Pk.cons 2 rfl ?_ | refine Pk.cons 3 rfl ?_ | refine Pk.cons 4 rfl ?_ | refine Pk.cons 5 rfl ?_ | refine Pk.cons 6 rfl ?_ | refine Pk.cons 7 rfl ?_ | refine Pk.cons 8 rfl ?_ | refine Pk.cons 9 rfl ?_ | refine Pk.cons 10 rfl ?_ | refine Pk.cons 11 rfl ?_ | refine Pk.cons 12 rfl ?_ | refine Pk.cons 13 rfl ?_ | refine Pk.drop ?_))), ?_⟩
            clear S
            refine PlanT.q rfl (fun w S => Y.assign (v := .int .i64 _) rfl) ?_
            refine PlanT.nil (fun w S => ?_)
            replace S : Sat _ _ _ := S
            refine Then.nx ⟨?_, ?_⟩
            ·
             (repeat (first | exact Out.hav _ _ _ | exact Out.refl _ _ | refine Out.up rfl ?_ | refine Out.sub rfl ?_))
            ·
             exact ⟨_, rfl, rfl, S.pk (by repeat (first | exact Pk.nil _ | exact Pk.refl _ | refine Pk.cons 0 rfl ?_ | refine Pk.cons 1 rfl ?_ | refine Pk.cons 2 rfl ?_ | refine Pk.cons 3 rfl ?_ | refine Pk.cons 4 rfl ?_ | refine Pk.cons 5 rfl ?_ | refine Pk.cons 6 rfl ?_ | refine Pk.cons 7 rfl ?_ | refine Pk.cons 8 rfl ?_ | refine Pk.cons 9 rfl ?_ | refine Pk.cons 10 rfl ?_ | refine Pk.cons 11 rfl ?_ | refine Pk.cons 12 rfl ?_ | refine Pk.cons 13 rfl ?_ | refine Pk.drop ?_))⟩
           ·
            refine PlanT.e1 rfl (fun w S => O.alloc z_30 S (fun b14 w S => ?_))
            refine ⟨(fun w => Sat w0 w [Own tEnd 30 a24 c24 l, Cel b7 (tEnd.enc other) 30, Cel b5 (tMaker.enc m) 27, Cel b4 (fL v f) 25]), (fun w => Sat _ w _), S, (.inr (fun _ h => h)), (fun w S => S.pk (by repeat (first | exact Pk.nil _ | exact Pk.refl _ | refine Pk.cons 0 rfl ?_ | refine Pk.cons 1 rfl ?_ | refine Pk.cons 2 rfl ?_ | refine Pk.cons 3 rfl ?_ | refine Pk.cons 4 rfl ?_ | refine Pk.cons 5 rfl ?_ | refine Pk.cons 6 rfl ?_ | refine Pk.cons 7 rfl ?_ | refine Pk.cons 8 rfl ?_ | refine Pk.cons 9 rfl ?_ | refine Pk.cons 10 rfl ?_ | refine Pk.cons 11 rfl ?_ | refine Pk.cons 12 rfl ?_ | refine Pk.cons 13 rfl ?_ | refine Pk.drop ?_))), ?_⟩
            clear S
            first | refine PlanT.e1 rfl (fun w S => O.call cf_11 rfl (Let_spec _ v64 f (i : Int) m a70 c70 (l.take i) (S.hasFlow 1 rfl H64 hR.small) (S.rd 0 rfl) hc70 (by omega)) ?_) | refine PlanT.e1 rfl (fun w S => O.call cf_11 rfl (Let_spec _ v64 f (i : Int) m a70 c70 (l.take i) (S.hasFlow 2 rfl H64 hR.small) (S.rd 0 rfl) hc70 (by omega)) ?_) | refine PlanT.e1 rfl (fun w S => O.call cf_11 rfl (Let_spec _ v64 f (i : Int) m a70 c70 (l.take i) (S.hasFlow 2 rfl H64 hR.small) (S.rd 1 rfl) hc70 (by omega)) ?_)
            rintro _ w ⟨rfl, E⟩
            rw [ho.let1 hu, ho.let2 hu]
            replace S := S.keep E
            refine ⟨_, rfl, ?_⟩
            refine ⟨(fun w => Sat w0 w [Own tEnd 30 a24 c24 l, Cel b7 (tEnd.enc other) 30, Cel b5 (tMaker.enc m) 27, Cel b4 (fL v f) 25]), (fun w => Sat _ w _), S, (.inr (fun _ h => h)), (fun w S => S.pk (by repeat (first | exact Pk.nil _ | exact Pk.refl _ | refine Pk.cons 0 rfl ?_ | refine Pk.cons 1 rfl ?_ | refine Pk.cons 2 rfl ?_ | refine Pk.cons 3 rfl ?_ | refine Pk.cons 4 rfl ?_ | refine Pk.cons 5 rfl ?_ | refine Pk.cons 6 rfl ?_ | refine Pk.cons 7 rfl ?_ | refine Pk.cons 8 rfl ?_ | refine Pk.cons 9 rfl ?_ | refine Pk.cons 10 rfl ?_ | refine Pk.cons 11 rfl ?_ | refine Pk.cons 12 rfl ?_ | refine Pk.cons 13 rfl ?_ | refine Pk.drop ?_))), ?_⟩
            clear S
            refine PlanT.q rfl (fun w S => Y.move (v := .tuple _) rfl) ?_
            refine PlanT.q rfl (fun w S => Y.extract (v := .agg _) rfl rfl) ?_
            refine PlanT.q rfl (fun w S => Y.extract (v := .int .i64 _) rfl rfl) ?_
            first | refine PlanT.e0 rfl (fun w S => O.store (v := .agg _) 0 S rfl rfl rfl sz_30 rfl rfl rfl rfl (fun w S => ?_)) | refine PlanT.e0 rfl (fun w S => O.store (v := .agg _) 1 S rfl rfl rfl sz_30 rfl rfl rfl rfl (fun w S => ?_)) | refine PlanT.e0 rfl (fun w S => O.store (v := .agg _) 2 S rfl rfl rfl sz_30 rfl rfl rfl rfl (fun w S => ?_)) | refine PlanT.e0 rfl (fun w S => O.store (v := .agg _) 3 S rfl rfl rfl sz_30 rfl rfl rfl rfl (fun w S => ?_)) | refine PlanT.e0 rfl (fun w S => O.store (v := .agg _) 4 S rfl rfl rfl sz_30 rfl rfl rfl rfl (fun w S => ?_)) | refine PlanT.e0 rfl (fun w S => O.store (v := .agg _) 5 S rfl rfl rfl sz_30 rfl rfl rfl rfl (fun w S => ?_)) | refine PlanT.e0 rfl (fun w S => O.store (v := .agg _) 6 S rfl rfl rfl sz_30 rfl rfl rfl rfl (fun w S => ?_)) | refine PlanT.e0 rfl (fun w S => O.store (v := .agg _) 7 S rfl rfl rfl sz_30 rfl rfl rfl rfl (fun w S => ?_))
            refine ⟨(fun w => Sat w0 w [Own tEnd 30 a24 c24 l, Cel b7 (tEnd.enc other) 30, Cel b5 (tMaker.enc m) 27, Cel b4 (fL v f) 25]), (fun w => Sat _ w _), S, (.inr (fun _ h => h)), (fun w S => S.pk (by repeat (first | exact Pk.nil _ | exact Pk.refl _ | refine Pk.cons 0 rfl ?_ | refine Pk.cons 1 rfl ?_ | refine Pk.cons 2 rfl ?_ | refine Pk.cons 3 rfl ?_ | refine Pk.cons 4 rfl ?_ | refine Pk.cons 5 rfl ?_ | refine Pk.cons 6 rfl ?_ | refine Pk.cons 7 rfl ?_ | refine Pk.cons 8 rfl ?_ | refine Pk.cons 9 rfl ?_ | refine Pk.cons 10 rfl ?_ | refine Pk.cons 11 rfl ?_ | refine Pk.cons 12 rfl ?_ | refine Pk.cons 13 rfl ?_ | refine Pk.drop ?_))), ?_⟩
            clear S
            refine PlanT.q rfl (fun w S => Y.assign (v := .int .i64 _) rfl) ?_
            refine PlanT.nil (fun w S => ?_)
            replace S : Sat _ _ _ := S
            refine Then.nx ⟨?_, ?_⟩
            ·
             (repeat (first | exact Out.hav _ _ _ | exact Out.refl _ _ | refine Out.up rfl ?_ | refine Out.sub rfl ?_))
            ·
             exact ⟨_, rfl, rfl, S.pk (by repeat (first | exact Pk.nil _ | exact Pk.refl _ | refine Pk.cons 0 rfl ?_ | refine Pk.cons 1 rfl ?_ | refine Pk.cons 2 rfl ?_ | refine Pk.cons 3 rfl ?_ | refine Pk.cons 4 rfl ?_ | refine Pk.cons 5 rfl ?_ | refine Pk.cons 6 rfl ?_ | refine Pk.cons 7 rfl ?_ | refine Pk.cons 8 rfl ?_ | refine Pk.cons 9 rfl ?_ | refine Pk.cons 10 rfl ?_ | refine Pk.cons 11 rfl ?_ | refine Pk.cons 12 rfl ?_ | refine Pk.cons 13 rfl ?_ | refine Pk.drop ?_))⟩
          ·
           refine PlanT.e1 rfl (fun w S => O.alloc z_30 S (fun b14 w S => ?_))
           refine ⟨(fun w => Sat w0 w [Own tEnd 30 a24 c24 l, Cel b7 (tEnd.enc other) 30, Cel b5 (tMaker.enc m) 27, Cel b4 (fL v f) 25]), (fun w => Sat _ w _), S, (.inr (fun _ h => h)), (fun w S => S.pk (by repeat (first | exact Pk.nil _ | exact Pk.refl _ | refine Pk.cons 0 rfl ?_ | refine Pk.cons 1 rfl ?_ | refine Pk.cons 2 rfl ?_ | refine Pk.cons 3 rfl ?_ | refine Pk.cons 4 rfl ?_ | refine Pk.cons 5 rfl ?_ | refine Pk.cons 6 rfl ?_ | refine Pk.cons 7 rfl ?_ | refine Pk.cons 8 rfl ?_ | refine Pk.cons 9 rfl ?_ | refine Pk.cons 10 rfl ?_ | refine Pk.cons 11 rfl ?_ | refine Pk.cons 12 rfl ?_ | refine Pk.cons 13 rfl ?_ | refine Pk.drop ?_))), ?_⟩
           clear S
           first | refine PlanT.e1 rfl (fun w S => O.call cf_10 rfl (CopyEnds_spec _ a24 c24 (l.take i) ((S.rd (xs := l) 1 rfl).take i) (by omega)) ?_) | refine PlanT.e1 rfl (fun w S => O.call cf_10 rfl (CopyEnds_spec _ a24 c24 (l.take i) ((S.rd (xs := l) 2 rfl).take i) (by omega)) ?_)
           rintro _ w ⟨a70, c70, rfl, S70⟩
           replace S := S.trans S70
           have hc70 := (S.ownLen 0 rfl).1
           refine ⟨_, rfl, ?_⟩
           refine ⟨(fun w => Sat w0 w [Own tEnd 30 a24 c24 l, Cel b7 (tEnd.enc other) 30, Cel b5 (tMaker.enc m) 27, Cel b4 (fL v f) 25]), (fun w => Sat _ w _), S, (.inr (fun _ h => h)), (fun w S => S.pk (by repeat (first | exact Pk.nil _ | exact Pk.refl _ | refine Pk.cons 0 rfl ?_ | refine Pk.cons 1 rfl ?_ | refine Pk.cons 2 rfl ?_ | refine Pk.cons 3 rfl ?_ | refine Pk.cons 4 rfl ?_ | refine Pk.cons 5 rfl ?_ | refine Pk.cons 6 rfl ?_ | refine Pk.cons 7 rfl ?_ | refine Pk.cons 8 rfl ?_ | refine Pk.cons 9 rfl ?_ | refine Pk.cons 10 rfl ?_ | refine Pk.cons 11 rfl ?_ | refine Pk.cons 12 rfl ?_ | refine Pk.cons 13 rfl ?_ | refine Pk.drop ?_))), ?_⟩
           clear S
           first | refine PlanT.e1 rfl (fun w S => O.call cf_11 rfl (Let_spec _ v64 f (i : Int) m a70 c70 (l.take i) (S.hasFlow 1 rfl H64 hR.small) (S.rd 0 rfl) hc70 (by omega)) ?_) | refine PlanT.e1 rfl (fun w S => O.call cf_11 rfl (Let_spec _ v64 f (i : Int) m a70 c70 (l.take i) (S.hasFlow 2 rfl H64 hR.small) (S.rd 0 rfl) hc70 (by omega)) ?_) | refine PlanT.e1 rfl (fun w S => O.call cf_11 rfl (Let_spec _ v64 f (i : Int) m a70 c70 (l.take i) (S.hasFlow 2 rfl H64 hR.small) (S.rd 1 rfl) hc70 (by omega)) ?_)
           rintro _ w ⟨rfl, E⟩
           rw [ho.let1 hu, ho.let2 hu]
           replace S := S.keep E
           refine ⟨_, rfl, ?_⟩
           refine ⟨(fun w => Sat w0 w [Own tEnd 30 a24 c24 l, Cel b7 (tEnd.enc other) 30, Cel b5 (tMaker.enc m) 27, Cel b4 (fL v f) 25]), (fun w => Sat _ w _), S, (.inr (fun _ h => h)), (fun w S => S.pk (by repeat (first | exact Pk.nil _ | exact Pk.refl _ | refine Pk.cons 0 rfl ?_ | refine Pk.cons 1 rfl ?_ | refine Pk.cons 2 rfl ?_ | refine Pk.cons 3 rfl ?_ | refine Pk.cons 4 rfl ?_ | refine Pk.cons 5 rfl ?_ | refine Pk.cons 6 rfl ?_ | refine Pk.cons 7 rfl ?_ | refine Pk.cons 8 rfl ?_ | refine Pk.cons 9 rfl ?_ | refine Pk.cons 10 rfl ?_ | refine Pk.cons 11 rfl ?_ | refine Pk.cons 12 rfl ?_ | refine Pk.cons 13 rfl ?_ | refine Pk.drop ?_))), ?_⟩
           clear S
           refine PlanT.q rfl (fun w S => Y.move (v := .tuple _) rfl) ?_
           refine PlanT.q rfl (fun w S => Y.extract (v := .agg _) rfl rfl) ?_
           refine PlanT.q rfl (fun w S => Y.extract (v := .int .i64 _) rfl rfl) ?_
           first | refine PlanT.e0 rfl (fun w S => O.store (v := .agg _) 0 S rfl rfl rfl sz_30 rfl rfl rfl rfl (fun w S => ?_)) | refine PlanT.e0 rfl (fun w S => O.store (v := .agg _) 1 S rfl rfl rfl sz_30 rfl rfl rfl rfl (fun w S => ?_)) | refine PlanT.e0 rfl (fun w S => O.store (v := .agg _) 2 S rfl rfl rfl sz_30 rfl rfl rfl rfl (fun w S => ?_)) | refine PlanT.e0 rfl (fun w S => O.store (v := .agg _) 3 S rfl rfl rfl sz_30 rfl rfl rfl rfl (fun w S => ?_)) | refine PlanT.e0 rfl (fun w S => O.store (v := .agg _) 4 S rfl rfl rfl sz_30 rfl rfl rfl rfl (fun w S => ?_)) | refine PlanT.e0 rfl (fun w S => O.store (v := .agg _) 5 S rfl rfl rfl sz_30 rfl rfl rfl rfl (fun w S => ?_)) | refine PlanT.e0 rfl (fun w S => O.store (v := .agg _) 6 S rfl rfl rfl sz_30 rfl rfl rfl rfl (fun w S => ?_)) | refine PlanT.e0 rfl (fun w S => O.store (v := .agg _) 7 S rfl rfl rfl sz_30 rfl rfl rfl rfl (fun w S => ?_))
           refine ⟨(fun w => Sat w0 w [Own tEnd 30 a24 c24 l, Cel b7 (tEnd.enc other) 30, Cel b5 (tMaker.enc m) 27, Cel b4 (fL v f) 25]), (fun w => Sat _ w _), S, (.inr (fun _ h => h)), (fun w S => S.pk (by repeat (first | exact Pk.nil _ | exact Pk.refl _ | refine Pk.cons 0 rfl ?_ | refine Pk.cons 1 rfl ?_ | refine Pk.cons 2 rfl ?_ | refine Pk.cons 3 rfl ?_ | refine Pk.cons 4 rfl ?_ | refine Pk.cons 5 rfl ?_ | refine Pk.cons 6 rfl ?_ | refine Pk.cons 7 rfl ?_ | refine Pk.cons 8 rfl ?_ | refine Pk.cons 9 rfl ?_ | refine Pk.cons 10 rfl ?_ | refine Pk.cons 11 rfl ?_ | refine Pk.cons 12 rfl ?_ | refine Pk.cons 13 rfl ?_ | refine Pk.drop ?_))), ?_⟩
           clear S
           refine PlanT.q rfl (fun w S => Y.assign (v := .int .i64 _) rfl) ?_
           refine PlanT.nil (fun w S => ?_)
           replace S : Sat _ _ _ := S
           refine Then.nx ⟨?_, ?_⟩
           ·
            (repeat (first | exact Out.hav _ _ _ | exact Out.refl _ _ | refine Out.up rfl ?_ | refine Out.sub rfl ?_))
           ·
            exact ⟨_, rfl, rfl, S.pk (by repeat (first | exact Pk.nil _ | exact Pk.refl _ | refine Pk.cons 0 rfl ?_ | refine Pk.cons 1 rfl ?_ | refine Pk.cons 2 rfl ?_ | refine Pk.cons 3 rfl ?_ | refine Pk.cons 4 rfl ?_ | refine Pk.cons 5 rfl ?_ | refine Pk.cons 6 rfl ?_ | refine Pk.cons 7 rfl ?_ | refine Pk.cons 8 rfl ?_ | refine Pk.cons 9 rfl ?_ | refine Pk.cons 10 rfl ?_ | refine Pk.cons 11 rfl ?_ | refine Pk.cons 12 rfl ?_ | refine Pk.cons 13 rfl ?_ | refine Pk.drop ?_))⟩
         ·
          refine PlanT.e1 rfl (fun w S => O.alloc z_30 S (fun b14 w S => ?_))
          refine ⟨(fun w => Sat w0 w [Own tEnd 30 a24 c24 l, Cel b7 (tEnd.enc other) 30, Cel b5 (tMaker.enc m) 27, Cel b4 (fL v f) 25]), (fun w => Sat _ w _), S, (.inr (fun _ h => h)), (fun w S => S.pk (by repeat (first | exact Pk.nil _ | exact Pk.refl _ | refine Pk.cons 0 rfl ?_ | refine Pk.cons 1 rfl ?_ | refine Pk.cons 2 rfl ?_ | refine Pk.cons 3 rfl ?_ | refine Pk.cons 4 rfl ?_ | refine Pk.cons 5 rfl ?_ | refine Pk.cons 6 rfl ?_ | refine Pk.cons 7 rfl ?_ | refine Pk.cons 8 rfl ?_ | refine Pk.cons 9 rfl ?_ | refine Pk.cons 10 rfl ?_ | refine Pk.cons 11 rfl ?_ | refine Pk.cons 12 rfl ?_ | refine Pk.cons 13 rfl ?_ | refine Pk.drop ?_))), ?_⟩
          clear S
          refine PlanT.e1 rfl (fun w S => O.call cf_8 rfl (CopyFlow_spec _ v f (hR.ext S.ext)) ?_)
          rintro _ w ⟨v64, M64, rfl, S64, H64⟩
          replace S := S.trans S64
          refine ⟨_, rfl, ?_⟩
          refine ⟨(fun w => Sat w0 w [Own tEnd 30 a24 c24 l, Cel b7 (tEnd.enc other) 30, Cel b5 (tMaker.enc m) 27, Cel b4 (fL v f) 25]), (fun w => Sat _ w _), S, (.inr (fun _ h => h)), (fun w S => S.pk (by repeat (first | exact Pk.nil _ | exact Pk.refl _ | refine Pk.cons 0 rfl ?_ | refine Pk.cons 1 rfl ?_ | refine Pk.cons 2 rfl ?_ | refine Pk.cons 3 rfl ?_ | refine Pk.cons 4 rfl ?_ | refine Pk.cons 5 rfl ?_ | refine Pk.cons 6 rfl ?_ | refine Pk.cons 7 rfl ?_ | refine Pk.cons 8 rfl ?_ | refine Pk.cons 9 rfl ?_ | refine Pk.cons 10 rfl ?_ | refine Pk.cons 11 rfl ?_ | refine Pk.cons 12 rfl ?_ | refine Pk.cons 13 rfl ?_ | refine Pk.drop ?_))), ?_⟩
          clear S
          first | refine PlanT.e1 rfl (fun w S => O.call cf_10 rfl (CopyEnds_spec _ a24 c24 (l.take i) ((S.rd (xs := l) 1 rfl).take i) (by omega)) ?_) | refine PlanT.e1 rfl (fun w S => O.call cf_10 rfl (CopyEnds_spec _ a24 c24 (l.take i) ((S.rd (xs := l) 2 rfl).take i) (by omega)) ?_)
          rintro _ w ⟨a70, c70, rfl, S70⟩
          replace S := S.trans S70
          have hc70 := (S.ownLen 0 rfl).1
          refine ⟨_, rfl, ?_⟩
          refine ⟨(fun w => Sat w0 w [Own tEnd 30 a24 c24 l, Cel b7 (tEnd.enc other) 30, Cel b5 (tMaker.enc m) 27, Cel b4 (fL v f) 25]), (fun w => Sat _ w _), S, (.inr (fun _ h => h)), (fun w S => S.pk (by repeat (first | exact Pk.nil _ | exact Pk.refl _ | refine Pk.cons 0 rfl ?_ | refine Pk.cons 1 rfl ?_ | refine Pk.cons 2 rfl ?_ | refine Pk.cons 3 rfl ?_ | refine Pk.cons 4 rfl ?_ | refine Pk.cons 5 rfl ?_ | refine Pk.cons 6 rfl ?_ | refine Pk.cons 7 rfl ?_ | refine Pk.cons 8 rfl ?_ | refine Pk.cons 9 rfl ?_ | refine Pk.cons 10 rfl ?_ | refine Pk.cons 11 rfl ?_ | refine Pk.cons 12 rfl ?_ | refine Pk.cons 13 rfl ?_ | refine Pk.drop ?_))), ?_⟩
          clear S
          first | refine PlanT.e1 rfl (fun w S => O.call cf_11 rfl (Let_spec _ v64 f (i : Int) m a70 c70 (l.take i) (S.hasFlow 1 rfl H64 hR.small) (S.rd 0 rfl) hc70 (by omega)) ?_) | refine PlanT.e1 rfl (fun w S => O.call cf_11 rfl (Let_spec _ v64 f (i : Int) m a70 c70 (l.take i) (S.hasFlow 2 rfl H64 hR.small) (S.rd 0 rfl) hc70 (by omega)) ?_) | refine PlanT.e1 rfl (fun w S => O.call cf_11 rfl (Let_spec _ v64 f (i : Int) m a70 c70 (l.take i) (S.hasFlow 2 rfl H64 hR.small) (S.rd 1 rfl) hc70 (by omega)) ?_)
          rintro _ w ⟨rfl, E⟩
          rw [ho.let1 hu, ho.let2 hu]
          replace S := S.keep E
          refine ⟨_, rfl, ?_⟩
          refine ⟨(fun w => Sat w0 w [Own tEnd 30 a24 c24 l, Cel b7 (tEnd.enc other) 30, Cel b5 (tMaker.enc m) 27, Cel b4 (fL v f) 25]), (fun w => Sat _ w _), S, (.inr (fun _ h => h)), (fun w S => S.pk (by repeat (first | exact Pk.nil _ | exact Pk.refl _ | refine Pk.cons 0 rfl ?_ | refine Pk.cons 1 rfl ?_ | refine Pk.cons 2 rfl ?_ | refine Pk.cons 3 rfl ?_ | refine Pk.cons 4 rfl ?_ | refine Pk.cons 5 rfl ?_ | refine Pk.cons 6 rfl ?_ | refine Pk.cons 7 rfl ?_ | refine Pk.cons 8 rfl ?_ | refine Pk.cons 9 rfl ?_ | refine Pk.cons 10 rfl ?_ | refine Pk.cons 11 rfl ?_ | refine Pk.cons 12 rfl ?_ | refine Pk.cons 13 rfl ?_ | refine Pk.drop ?_))), ?_⟩
          clear S
          refine PlanT.q rfl (fun w S => Y.move (v := .tuple _) rfl) ?_
          refine PlanT.q rfl (fun w S => Y.extract (v := .agg _) rfl rfl) ?_
          refine PlanT.q rfl (fun w S => Y.extract (v := .int .i64 _) rfl rfl) ?_
          first | refine PlanT.e0 rfl (fun w S => O.store (v := .agg _) 0 S rfl rfl rfl sz_30 rfl rfl rfl rfl (fun w S => ?_)) | refine PlanT.e0 rfl (fun w S => O.store (v := .agg _) 1 S rfl rfl rfl sz_30 rfl rfl rfl rfl (fun w S => ?_)) | refine PlanT.e0 rfl (fun w S => O.store (v := .agg _) 2 S rfl rfl rfl sz_30 rfl rfl rfl rfl (fun w S => ?_)) | refine PlanT.e0 rfl (fun w S => O.store (v := .agg _) 3 S rfl rfl rfl sz_30 rfl rfl rfl rfl (fun w S => ?_)) | refine PlanT.e0 rfl (fun w S => O.store (v := .agg _) 4 S rfl rfl rfl sz_30 rfl rfl rfl rfl (fun w S => ?_)) | refine PlanT.e0 rfl (fun w S => O.store (v := .agg _) 5 S rfl rfl rfl sz_30 rfl rfl rfl rfl (fun w S => ?_)) | refine PlanT.e0 rfl (fun w S => O.store (v := .agg _) 6 S rfl rfl rfl sz_30 rfl rfl rfl rfl (fun w S => ?_)) | refine PlanT.e0 rfl (fun w S => O.store (v := .agg _) 7 S rfl rfl rfl sz_30 rfl rfl rfl rfl (fun w S => ?_))
          refine ⟨(fun w => Sat w0 w [Own tEnd 30 a24 c24 l, Cel b7 (tEnd.enc other) 30, Cel b5 (tMaker.enc m) 27, Cel b4 (fL v f) 25]), (fun w => Sat _ w _), S, (.inr (fun _ h => h)), (fun w S => S.pk (by repeat (first | exact Pk.nil _ | exact Pk.refl _ | refine Pk.cons 0 rfl ?_ | refine Pk.cons 1 rfl ?_ | refine Pk.cons 2 rfl ?_ | refine Pk.cons 3 rfl ?_ | refine Pk.cons 4 rfl ?_ | refine Pk.cons 5 rfl ?_ | refine Pk.cons 6 rfl ?_ | refine Pk.cons 7 rfl ?_ | refine Pk.cons 8 rfl ?_ | refine Pk.cons 9 rfl ?_ | refine Pk.cons 10 rfl ?_ | refine Pk.cons 11 rfl ?_ | refine Pk.cons 12 rfl ?_ | refine Pk.cons 13 rfl ?_ | refine Pk.drop ?_))), ?_⟩
          clear S
          refine PlanT.q rfl (fun w S => Y.assign (v := .int .i64 _) rfl) ?_
          refine PlanT.nil (fun w S => ?_)
          replace S : Sat _ _ _ := S
          refine Then.nx ⟨?_, ?_⟩
          ·
           (repeat (first | exact Out.hav _ _ _ | exact Out.refl _ _ | refine Out.up rfl ?_ | refine Out.sub rfl ?_))
          ·
           exact ⟨_, rfl, rfl, S.pk (by repeat (first | exact Pk.nil _ | exact Pk.refl _ | refine Pk.cons 0 rfl ?_ | refine Pk.cons 1 rfl ?_ | refine Pk.cons 2 rfl ?_ | refine Pk.cons 3 rfl ?_ | refine Pk.cons 4 rfl ?_ | refine Pk.cons 5 rfl ?_ | refine Pk.cons 6 rfl ?_ | refine Pk.cons 7 rfl ?_ | refine Pk.cons 8 rfl ?_ | refine Pk.cons 9 rfl ?_ | refine Pk.cons 10 rfl ?_ | refine Pk.cons 11 rfl ?_ | refine Pk.cons 12 rfl ?_ | refine Pk.cons 13 rfl ?_ | refine Pk.drop ?_))⟩
        ·
         rintro gj409 v14 v15 w ⟨b14, rfl, rfl, S⟩
         refine W.seq ?_
         have hga := (S.rd (T := tEnd) (e := 30) (xs := l) 1 rfl).1 (by omega)
         refine W.draw (.q 0 (.q 1 (.q 2 (.q 3 (.q 4 (.q 5 (.q 6 (.q 7 (.q 8 (.q 9 .nil)))))))))) (fun w => Sat _ w _) rfl rfl (by kernel_rfl) rfl (by kernel_rfl) (by repeat (first | exact BodyQ.noFrame | refine Then.noFrame ?_ | refine InB.noFrame ?_)) S.drew ?_
         clear S
         refine Plan.q rfl (fun w S => Y.move (v := .int .i64 _) rfl) ?_
         refine Plan.q rfl (fun w S => Y.neq rfl rfl) ?_
         refine Plan.q rfl (fun w S => Y.move (v := .bool _) rfl) ?_
         refine Plan.splitB (fun h8 => ?_) (fun h8 => ?_)
         ·
          (try simp only [Q1, Q2, Q3, Q4, Q5, Q6, Q7, Q8, Q9, Qa] at h8)
          refine Plan.qF rfl rfl ?_
          refine Plan.qF rfl rfl ?_
          refine Plan.qF rfl rfl ?_
          refine Plan.qF rfl rfl ?_
          refine Plan.qF rfl rfl ?_
          refine Plan.qF rfl rfl ?_
          refine Plan.q rfl (fun w S => Y.pickT (u := .bool _) rfl rfl) ?_
          refine Plan.nil (fun w S => ?_)
          replace S : Sat _ _ _ := S
          refine Then.nx ?_
          first | refine W.condT rfl ?_ | refine W.condT (congrArg Value.bool (by assumption)) ?_
          refine W.seq ?_
          refine W.region rfl ?_
          refine WO.q (Y.assign (v := .bool _) rfl) ?_
          refine WO.nil ?_
          refine Then.nx ?_
          refine W.ret ?_
          refine InB.r ?_
          refine Then.r ?_
          refine Then.r ?_
          refine InB.r ?_
          refine Then.r ?_
          refine BodyQ.ret1 Try.results3 (ResV.tmp _ rfl) ?_
          first | exact ⟨rfl, S.ext⟩ | (exfalso; omega) | (exfalso; contradiction)
         ·
          (try simp only [Q1, Q2, Q3, Q4, Q5, Q6, Q7, Q8, Q9, Qa] at h8)
          first | refine Plan.qT rfl rfl (fun w S => Y.load rfl (loadSN sz_30 S 0 rfl rfl rfl)) ?_ | refine Plan.qT rfl rfl (fun w S => Y.load rfl (loadSN sz_30 S 1 rfl rfl rfl)) ?_ | refine Plan.qT rfl rfl (fun w S => Y.load rfl (loadSN sz_30 S 2 rfl rfl rfl)) ?_ | refine Plan.qT rfl rfl (fun w S => Y.load rfl (loadSN sz_30 S 3 rfl rfl rfl)) ?_ | refine Plan.qT rfl rfl (fun w S => Y.load rfl (loadSN sz_30 S 4 rfl rfl rfl)) ?_ | refine Plan.qT rfl rfl (fun w S => Y.load rfl (loadSN sz_30 S 5 rfl rfl rfl)) ?_ | refine Plan.qT rfl rfl (fun w S => Y.load rfl (loadSN sz_30 S 6 rfl rfl rfl)) ?_ | refine Plan.qT rfl rfl (fun w S => Y.load rfl (loadSN sz_30 S 7 rfl rfl rfl)) ?_
          refine Plan.qT rfl rfl (fun w S => Y.move (v := .slice _ _ _) rfl) ?_
          refine Plan.qT rfl rfl (fun w S => Y.move (v := .int .i64 _) rfl) ?_
          first | refine Plan.qT rfl rfl (fun w S => Y.ixN sl_33 rfl rfl (by (first | assumption | rfl)) (by (first | assumption | omega))) ?_ | refine Plan.qT rfl rfl (fun w S => Y.ix sl_33 rfl rfl (by (first | assumption | rfl)) (by (first | assumption | omega)) (by (first | assumption | omega))) ?_
          first | refine Plan.qT rfl rfl (fun w S => Y.load rfl (loadRdN sz_30 (S.rd 0 rfl) (by assumption))) ?_ | refine Plan.qT rfl rfl (fun w S => Y.load rfl (loadRdN sz_30 (S.rd 1 rfl) (by assumption))) ?_ | refine Plan.qT rfl rfl (fun w S => Y.load rfl (loadRdN sz_30 (S.rd 2 rfl) (by assumption))) ?_ | refine Plan.qT rfl rfl (fun w S => Y.load rfl (loadRdN sz_30 (S.rd 3 rfl) (by assumption))) ?_ | refine Plan.qT rfl rfl (fun w S => Y.load rfl (loadRdN sz_30 (S.rd 4 rfl) (by assumption))) ?_ | refine Plan.qT rfl rfl (fun w S => Y.load rfl (loadRdN sz_30 (S.rd 5 rfl) (by assumption))) ?_
          first | refine Plan.qT rfl rfl (fun w S => Y.neqA eqt_30 rfl rfl) ?_ | refine Plan.qT rfl rfl (fun w S => Y.neqA (x := u) (y := u) eqt_30 rfl rfl) ?_ | refine Plan.qT rfl rfl (fun w S => Y.neqA (x := other) (y := u) eqt_30 rfl rfl) ?_
          refine Plan.q rfl (fun w S => Y.pickF (u := .bool _) rfl rfl) ?_
          refine Plan.nil (fun w S => ?_)
          replace S : Sat _ _ _ := S
          refine Then.nx ?_
          refine W.cond rfl (fun h9 => ?_) (fun h9 => ?_) -- cond 5
          ·
           have rh9 := h9
           (try simp only [Q1, Q2, Q3, Q4, Q5, Q6, Q7, Q8, Q9, Qa] at h9)
           refine W.seq ?_
           refine W.region rfl ?_
           refine WO.q (Y.assign (v := .bool _) rfl) ?_
           refine WO.nil ?_
           refine Then.nx ?_
           refine W.ret ?_
           refine InB.r ?_
           refine Then.r ?_
           refine Then.r ?_
           refine InB.r ?_
           refine Then.r ?_
           refine BodyQ.ret1 Try.results3 (ResV.tmp _ rfl) ?_
           first | exact ⟨rfl, S.ext⟩ | (exfalso; omega) | (exfalso; contradiction)
          ·
           have rh9 := h9
           (try simp only [Q1, Q2, Q3, Q4, Q5, Q6, Q7, Q8, Q9, Qa] at h9)
           refine W.skip ?_
           refine InB.nx ?_
           refine Then.nx ?_
           refine W.region rfl ?_
           refine WO.q (Y.move (v := .int .i64 _) rfl) ?_
           first | refine WO.q (Y.addI rfl rfl (by omega)) ?_ | refine WO.q (Y.add rfl rfl) ?_
           refine WO.q (Y.assign (v := .int .i64 _) rfl) ?_
           refine WO.nil ?_
           refine Then.nx ⟨?_, ?_, ?_⟩
           ·
            (repeat (first | exact Out.hav _ _ _ | exact Out.refl _ _ | refine Out.up rfl ?_ | refine Out.sub rfl ?_))
           ·
            exact ⟨i + 1, rfl, by omega, S.pk (by repeat (first | exact Pk.nil _ | exact Pk.refl _ | refine Pk.cons 0 rfl ?_ | refine Pk.cons 1 rfl ?_ | refine Pk.cons 2 rfl ?_ | refine Pk.cons 3 rfl ?_ | refine Pk.cons 4 rfl ?_ | refine Pk.cons 5 rfl ?_ | refine Pk.cons 6 rfl ?_ | refine Pk.cons 7 rfl ?_ | refine Pk.cons 8 rfl ?_ | refine Pk.cons 9 rfl ?_ | refine Pk.cons 10 rfl ?_ | refine Pk.cons 11 rfl ?_ | refine Pk.cons 12 rfl ?_ | refine Pk.cons 13 rfl ?_ | refine Pk.drop ?_))⟩
           ·
            (show l.length - (i + 1) < l.length - i; omega)
       ·
        have rh7 := h7
        (try simp only [Q1, Q2, Q3, Q4, Q5, Q6, Q7, Q8, Q9, Qa] at h7)
        refine W.exit ?_
        refine Then.x ?_
        refine Then.x ?_
        refine InB.e ?_
        refine Then.nx ?_
        refine W.seq ?_
        refine W.seq ?_
        have hcp := (S.ownLen 0 rfl).1
        have hga := (S.rd (T := tEnd) (e := 30) (xs := l) 0 rfl).1
        refine W.draw (.q 0 (.q 1 (.q 2 (.q 3 (.q 4 (.q 5 (.q 6 (.q 7 (.q 8 (.q 9 (.q 10 (.q 11 (.q 12 (.q 13 (.q 14 (.q 15 (.q 16 (.q 17 (.q 18 (.q 19 (.q 20 (.q 21 (.q 22 (.q 23 (.q 24 (.q 25 .nil)))))))))))))))))))))))))) (fun w => Sat _ w _) rfl rfl (by kernel_rfl) rfl (by kernel_rfl) (by repeat (first | exact BodyQ.noFrame | refine Then.noFrame ?_ | refine InB.noFrame ?_)) S.drew ?_
        clear S
        refine Plan.q rfl (fun w S => Y.move (v := .int .i64 _) rfl) ?_
        refine Plan.q rfl (fun w S => Y.lss rfl rfl) ?_
        refine Plan.q rfl (fun w S => Y.move (v := .bool _) rfl) ?_
        refine Plan.splitB (fun h10 => ?_) (fun h10 => ?_)
        ·
         (try simp only [Q1, Q2, Q3, Q4, Q5, Q6, Q7, Q8, Q9, Qa] at h10)
         refine Plan.qF rfl rfl ?_
         refine Plan.qF rfl rfl ?_
         refine Plan.qF rfl rfl ?_
         refine Plan.qF rfl rfl ?_
         refine Plan.q rfl (fun w S => Y.pickT (u := .bool _) rfl rfl) ?_
         refine Plan.q rfl (fun w S => Y.move (v := .bool _) rfl) ?_
         refine Plan.qF rfl rfl ?_
         refine Plan.qF rfl rfl ?_
         refine Plan.qF rfl rfl ?_
         refine Plan.qF rfl rfl ?_
         refine Plan.qF rfl rfl ?_
         refine Plan.qF rfl rfl ?_
         refine Plan.q rfl (fun w S => Y.pickT (u := .bool _) rfl rfl) ?_
         refine Plan.q rfl (fun w S => Y.move (v := .bool _) rfl) ?_
         refine Plan.qF rfl rfl ?_
         refine Plan.qF rfl rfl ?_
         refine Plan.qF rfl rfl ?_
         refine Plan.q rfl (fun w S => Y.pickT (u := .bool _) rfl rfl) ?_
         refine Plan.q rfl (fun w S => Y.move (v := .bool _) rfl) ?_
         refine Plan.qF rfl rfl ?_
         refine Plan.qF rfl rfl ?_
         refine Plan.qF rfl rfl ?_
         refine Plan.q rfl (fun w S => Y.pickT (u := .bool _) rfl rfl) ?_
         refine Plan.nil (fun w S => ?_)
         replace S : Sat _ _ _ := S
         refine Then.nx ?_
         first | refine W.condT rfl ?_ | refine W.condT (congrArg Value.bool (by assumption)) ?_
         refine W.seq ?_
         refine W.region rfl ?_
         refine WO.e (O.call cf_6 rfl (livesG_spec _) ?_)
         rintro _ w ⟨rfl, E⟩
         replace S := S.keep E
         refine ⟨_, rfl, ?_⟩
         refine WO.q (Y.assign (v := .bool _) rfl) ?_
         refine WO.nil ?_
         refine Then.nx ?_
         refine W.ret ?_
         refine Then.r ?_
         refine BodyQ.ret1 Try.results3 (ResV.tmp _ rfl) ?_
         first | exact ⟨rfl, S.ext⟩ | (exfalso; omega) | (exfalso; contradiction)
        ·
         (try simp only [Q1, Q2, Q3, Q4, Q5, Q6, Q7, Q8, Q9, Qa] at h10)
         refine Plan.qT rfl rfl (fun w S => Y.move (v := .int .i64 _) rfl) ?_
         refine Plan.qT rfl rfl (fun w S => Y.move (v := .slice _ _ _) rfl) ?_
         refine Plan.qT rfl rfl (fun w S => Y.len (t' := 0) Try.underlying33 rfl) ?_
         refine Plan.qT rfl rfl (fun w S => Y.geq rfl rfl) ?_
         refine Plan.q rfl (fun w S => Y.pickF (u := .bool _) rfl rfl) ?_
         refine Plan.q rfl (fun w S => Y.move (v := .bool _) rfl) ?_
         refine Plan.splitB (fun h11 => ?_) (fun h11 => ?_)
         ·
          (try simp only [Q1, Q2, Q3, Q4, Q5, Q6, Q7, Q8, Q9, Qa] at h11)
          refine Plan.qF rfl rfl ?_
          refine Plan.qF rfl rfl ?_
          refine Plan.qF rfl rfl ?_
          refine Plan.qF rfl rfl ?_
          refine Plan.qF rfl rfl ?_
          refine Plan.qF rfl rfl ?_
          refine Plan.q rfl (fun w S => Y.pickT (u := .bool _) rfl rfl) ?_
          refine Plan.q rfl (fun w S => Y.move (v := .bool _) rfl) ?_
          refine Plan.qF rfl rfl ?_
          refine Plan.qF rfl rfl ?_
          refine Plan.qF rfl rfl ?_
          refine Plan.q rfl (fun w S => Y.pickT (u := .bool _) rfl rfl) ?_
          refine Plan.q rfl (fun w S => Y.move (v := .bool _) rfl) ?_
          refine Plan.qF rfl rfl ?_
          refine Plan.qF rfl rfl ?_
          refine Plan.qF rfl rfl ?_
          refine Plan.q rfl (fun w S => Y.pickT (u := .bool _) rfl rfl) ?_
          refine Plan.nil (fun w S => ?_)
          replace S : Sat _ _ _ := S
          refine Then.nx ?_
          first | refine W.condT rfl ?_ | refine W.condT (congrArg Value.bool (by assumption)) ?_
          refine W.seq ?_
          refine W.region rfl ?_
          refine WO.e (O.call cf_6 rfl (livesG_spec _) ?_)
          rintro _ w ⟨rfl, E⟩
          replace S := S.keep E
          refine ⟨_, rfl, ?_⟩
          refine WO.q (Y.assign (v := .bool _) rfl) ?_
          refine WO.nil ?_
          refine Then.nx ?_
          refine W.ret ?_
          refine Then.r ?_
          refine BodyQ.ret1 Try.results3 (ResV.tmp _ rfl) ?_
          first | exact ⟨rfl, S.ext⟩ | (exfalso; omega) | (exfalso; contradiction)
         ·
          (try simp only [Q1, Q2, Q3, Q4, Q5, Q6, Q7, Q8, Q9, Qa] at h11)
          obtain ⟨k, rfl⟩ := Int.eq_ofNat_of_zero_le (show 0 ≤ n by omega)
          obtain ⟨u, hu⟩ := at_ex (xs := l) (k := k) (by omega)
          have hga2 := hga (by omega)
          first | refine Plan.qT rfl rfl (fun w S => Y.load rfl (loadSN sz_30 S 0 rfl rfl rfl)) ?_ | refine Plan.qT rfl rfl (fun w S => Y.load rfl (loadSN sz_30 S 1 rfl rfl rfl)) ?_ | refine Plan.qT rfl rfl (fun w S => Y.load rfl (loadSN sz_30 S 2 rfl rfl rfl)) ?_ | refine Plan.qT rfl rfl (fun w S => Y.load rfl (loadSN sz_30 S 3 rfl rfl rfl)) ?_ | refine Plan.qT rfl rfl (fun w S => Y.load rfl (loadSN sz_30 S 4 rfl rfl rfl)) ?_ | refine Plan.qT rfl rfl (fun w S => Y.load rfl (loadSN sz_30 S 5 rfl rfl rfl)) ?_ | refine Plan.qT rfl rfl (fun w S => Y.load rfl (loadSN sz_30 S 6 rfl rfl rfl)) ?_ | refine Plan.qT rfl rfl (fun w S => Y.load rfl (loadSN sz_30 S 7 rfl rfl rfl)) ?_
          refine Plan.qT rfl rfl (fun w S => Y.move (v := .slice _ _ _) rfl) ?_
          refine Plan.qT rfl rfl (fun w S => Y.move (v := .int .i64 _) rfl) ?_
          first | refine Plan.qT rfl rfl (fun w S => Y.ixN sl_33 rfl rfl (by (first | assumption | rfl)) (by (first | assumption | omega))) ?_ | refine Plan.qT rfl rfl (fun w S => Y.ix sl_33 rfl rfl (by (first | assumption | rfl)) (by (first | assumption | omega)) (by (first | assumption | omega))) ?_
          first | refine Plan.qT rfl rfl (fun w S => Y.load rfl (loadRdN sz_30 (S.rd 0 rfl) (by assumption))) ?_ | refine Plan.qT rfl rfl (fun w S => Y.load rfl (loadRdN sz_30 (S.rd 1 rfl) (by assumption))) ?_ | refine Plan.qT rfl rfl (fun w S => Y.load rfl (loadRdN sz_30 (S.rd 2 rfl) (by assumption))) ?_ | refine Plan.qT rfl rfl (fun w S => Y.load rfl (loadRdN sz_30 (S.rd 3 rfl) (by assumption))) ?_ | refine Plan.qT rfl rfl (fun w S => Y.load rfl (loadRdN sz_30 (S.rd 4 rfl) (by assumption))) ?_ | refine Plan.qT rfl rfl (fun w S => Y.load rfl (loadRdN sz_30 (S.rd 5 rfl) (by assumption))) ?_
          first | refine Plan.qT rfl rfl (fun w S => Y.eqlA eqt_30 rfl rfl) ?_ | refine Plan.qT rfl rfl (fun w S => Y.eqlA (x := u) (y := u) eqt_30 rfl rfl) ?_ | refine Plan.qT rfl rfl (fun w S => Y.eqlA (x := other) (y := u) eqt_30 rfl rfl) ?_
          refine Plan.q rfl (fun w S => Y.pickF (u := .bool _) rfl rfl) ?_
          refine Plan.q rfl (fun w S => Y.move (v := .bool _) rfl) ?_
          refine Plan.splitB (fun h12 => ?_) (fun h12 => ?_)
          ·
           (try simp only [Q1, Q2, Q3, Q4, Q5, Q6, Q7, Q8, Q9, Qa] at h12)
           refine Plan.qF rfl rfl ?_
           refine Plan.qF rfl rfl ?_
           refine Plan.qF rfl rfl ?_
           refine Plan.q rfl (fun w S => Y.pickT (u := .bool _) rfl rfl) ?_
           refine Plan.q rfl (fun w S => Y.move (v := .bool _) rfl) ?_
           refine Plan.qF rfl rfl ?_
           refine Plan.qF rfl rfl ?_
           refine Plan.qF rfl rfl ?_
           refine Plan.q rfl (fun w S => Y.pickT (u := .bool _) rfl rfl) ?_
           refine Plan.nil (fun w S => ?_)
           replace S : Sat _ _ _ := S
           refine Then.nx ?_
           first | refine W.condT rfl ?_ | refine W.condT (congrArg Value.bool (by assumption)) ?_
           refine W.seq ?_
           refine W.region rfl ?_
           refine WO.e (O.call cf_6 rfl (livesG_spec _) ?_)
           rintro _ w ⟨rfl, E⟩
           replace S := S.keep E
           refine ⟨_, rfl, ?_⟩
           refine WO.q (Y.assign (v := .bool _) rfl) ?_
           refine WO.nil ?_
           refine Then.nx ?_
           refine W.ret ?_
           refine Then.r ?_
           refine BodyQ.ret1 Try.results3 (ResV.tmp _ rfl) ?_
           first | exact ⟨rfl, S.ext⟩ | (exfalso; omega) | (exfalso; contradiction)
          ·
           (try simp only [Q1, Q2, Q3, Q4, Q5, Q6, Q7, Q8, Q9, Qa] at h12)
           refine Plan.qT rfl rfl (fun w S => Y.fieldB fo_30_0 rfl) ?_
           first | refine Plan.qT rfl rfl (fun w S => Y.load rfl (loadS1 sz_28 S 0 rfl rfl)) ?_ | refine Plan.qT rfl rfl (fun w S => Y.load rfl (loadS1 sz_28 S 1 rfl rfl)) ?_ | refine Plan.qT rfl rfl (fun w S => Y.load rfl (loadS1 sz_28 S 2 rfl rfl)) ?_ | refine Plan.qT rfl rfl (fun w S => Y.load rfl (loadS1 sz_28 S 3 rfl rfl)) ?_ | refine Plan.qT rfl rfl (fun w S => Y.load rfl (loadS1 sz_28 S 4 rfl rfl)) ?_ | refine Plan.qT rfl rfl (fun w S => Y.load rfl (loadS1 sz_28 S 5 rfl rfl)) ?_ | refine Plan.qT rfl rfl (fun w S => Y.load rfl (loadS1 sz_28 S 6 rfl rfl)) ?_ | refine Plan.qT rfl rfl (fun w S => Y.load rfl (loadS1 sz_28 S 7 rfl rfl)) ?_
           refine Plan.qT rfl rfl (fun w S => Y.lss rfl rfl) ?_
           refine Plan.q rfl (fun w S => Y.pickF (u := .bool _) rfl rfl) ?_
           refine Plan.q rfl (fun w S => Y.move (v := .bool _) rfl) ?_
           refine Plan.splitB (fun h13 => ?_) (fun h13 => ?_)
           ·
            (try simp only [Q1, Q2, Q3, Q4, Q5, Q6, Q7, Q8, Q9, Qa] at h13)
            refine Plan.qF rfl rfl ?_
            refine Plan.qF rfl rfl ?_
            refine Plan.qF rfl rfl ?_
            refine Plan.q rfl (fun w S => Y.pickT (u := .bool _) rfl rfl) ?_
            refine Plan.nil (fun w S => ?_)
            replace S : Sat _ _ _ := S
            refine Then.nx ?_
            first | refine W.condT rfl ?_ | refine W.condT (congrArg Value.bool (by assumption)) ?_
            refine W.seq ?_
            refine W.region rfl ?_
            refine WO.e (O.call cf_6 rfl (livesG_spec _) ?_)
            rintro _ w ⟨rfl, E⟩
            replace S := S.keep E
            refine ⟨_, rfl, ?_⟩
            refine WO.q (Y.assign (v := .bool _) rfl) ?_
            refine WO.nil ?_
            refine Then.nx ?_
            refine W.ret ?_
            refine Then.r ?_
            refine BodyQ.ret1 Try.results3 (ResV.tmp _ rfl) ?_
            first | exact ⟨rfl, S.ext⟩ | (exfalso; omega) | (exfalso; contradiction)
           ·
            (try simp only [Q1, Q2, Q3, Q4, Q5, Q6, Q7, Q8, Q9, Qa] at h13)
            refine Plan.qT rfl rfl (fun w S => Y.fieldB fo_30_0 rfl) ?_
            first | refine Plan.qT rfl rfl (fun w S => Y.load rfl (loadS1 sz_28 S 0 rfl rfl)) ?_ | refine Plan.qT rfl rfl (fun w S => Y.load rfl (loadS1 sz_28 S 1 rfl rfl)) ?_ | refine Plan.qT rfl rfl (fun w S => Y.load rfl (loadS1 sz_28 S 2 rfl rfl)) ?_ | refine Plan.qT rfl rfl (fun w S => Y.load rfl (loadS1 sz_28 S 3 rfl rfl)) ?_ | refine Plan.qT rfl rfl (fun w S => Y.load rfl (loadS1 sz_28 S 4 rfl rfl)) ?_ | refine Plan.qT rfl rfl (fun w S => Y.load rfl (loadS1 sz_28 S 5 rfl rfl)) ?_ | refine Plan.qT rfl rfl (fun w S => Y.load rfl (loadS1 sz_28 S 6 rfl rfl)) ?_ | refine Plan.qT rfl rfl (fun w S => Y.load rfl (loadS1 sz_28 S 7 rfl rfl)) ?_
            refine Plan.qT rfl rfl (fun w S => Y.gtr rfl rfl) ?_
            refine Plan.q rfl (fun w S => Y.pickF (u := .bool _) rfl rfl) ?_
            refine Plan.nil (fun w S => ?_)
            replace S : Sat _ _ _ := S
            refine Then.nx ?_
            refine W.cond rfl (fun h14 => ?_) (fun h14 => ?_) -- cond 6
            ·
             have rh14 := h14
             (try simp only [Q1, Q2, Q3, Q4, Q5, Q6, Q7, Q8, Q9, Qa] at h14)
             refine W.seq ?_
             refine W.region rfl ?_
             refine WO.e (O.call cf_6 rfl (livesG_spec _) ?_)
             rintro _ w ⟨rfl, E⟩
             replace S := S.keep E
             refine ⟨_, rfl, ?_⟩
             refine WO.q (Y.assign (v := .bool _) rfl) ?_
             refine WO.nil ?_
             refine Then.nx ?_
             refine W.ret ?_
             refine Then.r ?_
             refine BodyQ.ret1 Try.results3 (ResV.tmp _ rfl) ?_
             first | exact ⟨rfl, S.ext⟩ | (exfalso; omega) | (exfalso; contradiction)
            ·
             have rh14 := h14
             (try simp only [Q1, Q2, Q3, Q4, Q5, Q6, Q7, Q8, Q9, Qa] at h14)
             refine W.skip ?_
             refine Then.nx ?_
             refine W.seq ?_
             refine W.region rfl ?_
             refine WO.q (Y.move (v := .slice _ _ _) rfl) ?_
             refine WO.e (O.call cf_10 rfl (CopyEnds_spec _ a24 c24 l (S.rd 0 rfl) (by omega)) ?_)
             rintro _ w ⟨a112, c112, rfl, S112⟩
             replace S := S.trans S112
             have hc112 := (S.ownLen 0 rfl).1
             refine ⟨_, rfl, ?_⟩
             refine WO.q (Y.assign (v := .slice _ _ _) rfl) ?_
             refine WO.nil ?_
             refine Then.nx ?_
             refine W.seq ?_
             have hga3 := (S.rd (T := tEnd) (e := 30) (xs := l) 0 rfl).1 (by omega)
             refine W.region rfl ?_
             refine WO.q (Y.move (v := .slice _ _ _) rfl) ?_
             refine WO.q (Y.move (v := .int .i64 _) rfl) ?_
             first | refine WO.q (Y.load rfl (loadSN sz_30 S 0 rfl rfl rfl)) ?_ | refine WO.q (Y.load rfl (loadSN sz_30 S 1 rfl rfl rfl)) ?_ | refine WO.q (Y.load rfl (loadSN sz_30 S 2 rfl rfl rfl)) ?_ | refine WO.q (Y.load rfl (loadSN sz_30 S 3 rfl rfl rfl)) ?_ | refine WO.q (Y.load rfl (loadSN sz_30 S 4 rfl rfl rfl)) ?_ | refine WO.q (Y.load rfl (loadSN sz_30 S 5 rfl rfl rfl)) ?_ | refine WO.q (Y.load rfl (loadSN sz_30 S 6 rfl rfl rfl)) ?_ | refine WO.q (Y.load rfl (loadSN sz_30 S 7 rfl rfl rfl)) ?_
             first | refine WO.q (Y.ixN sl_33 rfl rfl (by (first | assumption | rfl)) (by (first | assumption | omega))) ?_ | refine WO.q (Y.ix sl_33 rfl rfl (by (first | assumption | rfl)) (by (first | assumption | omega)) (by (first | assumption | omega))) ?_
             refine WO.e0 (O.storeEl 0 other S rfl rfl (by omega) rfl sz_30 rfl (fun w S => ?_))
             refine WO.nil ?_
             refine Then.nx ?_
             refine W.seq ?_
             replace S : Sat w0 w [Own tEnd 30 a112 c112 (l.set k other), Cel b7 (tEnd.enc other) 30, Cel b5 (tMaker.enc m) 27, Cel b4 (fL v f) 25] := S.pk (by repeat (first | exact Pk.nil _ | exact Pk.refl _ | refine Pk.cons 0 rfl ?_ | refine Pk.cons 1 rfl ?_ | refine Pk.cons 2 rfl ?_ | refine Pk.cons 3 rfl ?_ | refine Pk.cons 4 rfl ?_ | refine Pk.cons 5 rfl ?_ | refine Pk.cons 6 rfl ?_ | refine Pk.cons 7 rfl ?_ | refine Pk.cons 8 rfl ?_ | refine Pk.cons 9 rfl ?_ | refine Pk.cons 10 rfl ?_ | refine Pk.cons 11 rfl ?_ | refine Pk.cons 12 rfl ?_ | refine Pk.cons 13 rfl ?_ | refine Pk.drop ?_))
             refine W.draw (.q 0 (.q 2 (.q 3 (.e 1 (.e 4 (.q 5 (.q 6 (.q 7 (.q 8 (.q 9 .nil)))))))))) (fun w => Sat _ w _) rfl rfl (by kernel_rfl) rfl (by kernel_rfl) (by repeat (first | exact BodyQ.noFrame | refine Then.noFrame ?_ | refine InB.noFrame ?_)) S.drew ?_
             clear S
             first | refine Plan.q rfl (fun w S => Y.load rfl (loadSN sz_25 S 0 rfl rfl rfl)) ?_ | refine Plan.q rfl (fun w S => Y.load rfl (loadSN sz_25 S 1 rfl rfl rfl)) ?_ | refine Plan.q rfl (fun w S => Y.load rfl (loadSN sz_25 S 2 rfl rfl rfl)) ?_ | refine Plan.q rfl (fun w S => Y.load rfl (loadSN sz_25 S 3 rfl rfl rfl)) ?_ | refine Plan.q rfl (fun w S => Y.load rfl (loadSN sz_25 S 4 rfl rfl rfl)) ?_ | refine Plan.q rfl (fun w S => Y.load rfl (loadSN sz_25 S 5 rfl rfl rfl)) ?_ | refine Plan.q rfl (fun w S => Y.load rfl (loadSN sz_25 S 6 rfl rfl rfl)) ?_ | refine Plan.q rfl (fun w S => Y.load rfl (loadSN sz_25 S 7 rfl rfl rfl)) ?_
             first | refine Plan.q rfl (fun w S => Y.load rfl (loadSN sz_27 S 0 rfl rfl rfl)) ?_ | refine Plan.q rfl (fun w S => Y.load rfl (loadSN sz_27 S 1 rfl rfl rfl)) ?_ | refine Plan.q rfl (fun w S => Y.load rfl (loadSN sz_27 S 2 rfl rfl rfl)) ?_ | refine Plan.q rfl (fun w S => Y.load rfl (loadSN sz_27 S 3 rfl rfl rfl)) ?_ | refine Plan.q rfl (fun w S => Y.load rfl (loadSN sz_27 S 4 rfl rfl rfl)) ?_ | refine Plan.q rfl (fun w S => Y.load rfl (loadSN sz_27 S 5 rfl rfl rfl)) ?_ | refine Plan.q rfl (fun w S => Y.load rfl (loadSN sz_27 S 6 rfl rfl rfl)) ?_ | refine Plan.q rfl (fun w S => Y.load rfl (loadSN sz_27 S 7 rfl rfl rfl)) ?_
             refine Plan.q rfl (fun w S => Y.move (v := .slice _ _ _) rfl) ?_
             refine Plan.e1 rfl (fun w S => O.call cf_8 rfl (CopyFlow_spec _ v f (hR.ext S.ext)) ?_)
             rintro _ w ⟨v119, M119, rfl, S119, H119⟩
             replace S := S.trans S119
             refine ⟨_, rfl, ?_⟩
             refine ⟨(fun w => Sat _ w _), S, (.inr (fun w S => S.pk (by repeat (first | exact Pk.nil _ | exact Pk.refl _ | refine Pk.cons 0 rfl ?_ | refine Pk.cons 1 rfl ?_ | refine Pk.cons 2 rfl ?_ | refine Pk.cons 3 rfl ?_ | refine Pk.cons 4 rfl ?_ | refine Pk.cons 5 rfl ?_ | refine Pk.cons 6 rfl ?_ | refine Pk.cons 7 rfl ?_ | refine Pk.cons 8 rfl ?_ | refine Pk.cons 9 rfl ?_ | refine Pk.cons 10 rfl ?_ | refine Pk.cons 11 rfl ?_ | refine Pk.cons 12 rfl ?_ | refine Pk.cons 13 rfl ?_ | refine Pk.drop ?_)))), ?_⟩
             clear S
             refine Plan.e1 rfl (fun w S => O.call cf_9 rfl (Fits2_spec _ v119 f (S.hasFlow 0 rfl H119 hR.small) m a112 c112 l.length (l.set k other) (S.rd 1 rfl) List.length_set.symm (by (rw [List.length_set]; exact hc112)) (by (rw [List.length_set]; omega))) ?_)
             rintro _ w ⟨rfl, E⟩
             rw [ho.apart1 hu (by assumption) (by omega) (by omega), ho.apart2 hu (by assumption) (by omega) (by omega)]
             replace S := S.keep E
             refine ⟨_, rfl, ?_⟩
             refine ⟨(fun w => Sat _ w _), S, (.inr (fun w S => S.pk (by repeat (first | exact Pk.nil _ | exact Pk.refl _ | refine Pk.cons 0 rfl ?_ | refine Pk.cons 1 rfl ?_ | refine Pk.cons 2 rfl ?_ | refine Pk.cons 3 rfl ?_ | refine Pk.cons 4 rfl ?_ | refine Pk.cons 5 rfl ?_ | refine Pk.cons 6 rfl ?_ | refine Pk.cons 7 rfl ?_ | refine Pk.cons 8 rfl ?_ | refine Pk.cons 9 rfl ?_ | refine Pk.cons 10 rfl ?_ | refine Pk.cons 11 rfl ?_ | refine Pk.cons 12 rfl ?_ | refine Pk.cons 13 rfl ?_ | refine Pk.drop ?_)))), ?_⟩
             clear S
             refine Plan.q rfl (fun w S => Y.move (v := .tuple _) rfl) ?_
             refine Plan.q rfl (fun w S => Y.extract (v := .int .i64 _) rfl rfl) ?_
             refine Plan.q rfl (fun w S => Y.extract (v := .int .i64 _) rfl rfl) ?_
             refine Plan.q rfl (fun w S => Y.assign (v := .int .i64 _) rfl) ?_
             refine Plan.q rfl (fun w S => Y.assign (v := .int .i64 _) rfl) ?_
             refine Plan.nil (fun w S => ?_)
             replace S : Sat _ _ _ := S
             refine Then.nx ?_
             refine W.seq ?_
             refine W.region rfl ?_
             refine WO.q (Y.move (v := .int .i64 _) rfl) ?_
             refine WO.q (Y.eql rfl rfl) ?_
             refine WO.q (Y.move (v := .bool _) rfl) ?_
             refine WO.splitB (fun h15 => ?_) (fun h15 => ?_)
             ·
              (try simp only [Q1, Q2, Q3, Q4, Q5, Q6, Q7, Q8, Q9, Qa] at h15)
              refine WO.qT rfl (Y.move (v := .int .i64 _) rfl) ?_
              refine WO.qT rfl (Y.move (v := .int .i64 _) rfl) ?_
              refine WO.qT rfl (Y.eql rfl rfl) ?_
              refine WO.q (Y.pickT (u := .bool _) rfl rfl) ?_
              refine WO.q (Y.move (v := .bool _) rfl) ?_
              refine WO.splitB (fun h16 => ?_) (fun h16 => ?_)
              ·
               (try simp only [Q1, Q2, Q3, Q4, Q5, Q6, Q7, Q8, Q9, Qa] at h16)
               refine WO.eT rfl (O.call cf_6 rfl (livesG_spec _) ?_)
               rintro _ w ⟨rfl, E⟩
               replace S := S.keep E
               refine ⟨_, rfl, ?_⟩
               refine WO.q (Y.pickT (u := .bool _) rfl rfl) ?_
               refine WO.q (Y.assign (v := .bool _) rfl) ?_
               refine WO.nil ?_
               refine Then.nx ?_
               refine W.ret ?_
               refine BodyQ.ret1 Try.results3 (ResV.tmp _ rfl) ?_
               first | exact ⟨rfl, S.ext⟩ | (exfalso; omega) | (exfalso; contradiction)
              ·
               (try simp only [Q1, Q2, Q3, Q4, Q5, Q6, Q7, Q8, Q9, Qa] at h16)
               refine WO.qF rfl ?_
               refine WO.q (Y.pickF (u := .bool _) rfl rfl) ?_
               refine WO.q (Y.assign (v := .bool _) rfl) ?_
               refine WO.nil ?_
               refine Then.nx ?_
               refine W.ret ?_
               refine BodyQ.ret1 Try.results3 (ResV.tmp _ rfl) ?_
               first | exact ⟨rfl, S.ext⟩ | (exfalso; omega) | (exfalso; contradiction)
             ·
              (try simp only [Q1, Q2, Q3, Q4, Q5, Q6, Q7, Q8, Q9, Qa] at h15)
              refine WO.qF rfl ?_
              refine WO.qF rfl ?_
              refine WO.qF rfl ?_
              refine WO.q (Y.pickF (u := .bool _) rfl rfl) ?_
              refine WO.q (Y.move (v := .bool _) rfl) ?_
              refine WO.qF rfl ?_
              refine WO.q (Y.pickF (u := .bool _) rfl rfl) ?_
              refine WO.q (Y.assign (v := .bool _) rfl) ?_
              refine WO.nil ?_
              refine Then.nx ?_
              refine W.ret ?_
              refine BodyQ.ret1 Try.results3 (ResV.tmp _ rfl) ?_
              first | exact ⟨rfl, S.ext⟩ | (exfalso; omega) | (exfalso; contradiction)
end Go.Proofs
