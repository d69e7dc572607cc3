/-
  Walks of runeS, GraphAhead.
-/
import Derived.Test.YtlnimgpfopaicaaGe
import Derived.Test.YtlnimgpfopaicaaGm
import Derived.Test.YtlnimgpfopaicaaSx
import Derived.Test.YtlnimgpfopaicaaFa
import Derived.Test.YtlnimgpfopaicaaFb
import Derived.Test.YtlnimgpfopaicaaYa
set_option linter.unusedVariables false
set_option linter.unusedSimpArgs false
set_option maxRecDepth 100000
set_option maxHeartbeats 1000000
namespace Go.Proofs
open Go Go.TL Go.RowKit
theorem runeS (w : World) : ∀ k : Nat, k < 26 → (convert 21 9 (.int .i32 ((97 + k : Nat) : Int))).run Try.prog w = .ok (.string ⟨[nm1 k].toArray⟩) w
  | 0, _ => by kernel_rfl
  | 1, _ => by kernel_rfl
  | 2, _ => by kernel_rfl
  | 3, _ => by kernel_rfl
  | 4, _ => by kernel_rfl
  | 5, _ => by kernel_rfl
  | 6, _ => by kernel_rfl
  | 7, _ => by kernel_rfl
  | 8, _ => by kernel_rfl
  | 9, _ => by kernel_rfl
  | 10, _ => by kernel_rfl
  | 11, _ => by kernel_rfl
  | 12, _ => by kernel_rfl
  | 13, _ => by kernel_rfl
  | 14, _ => by kernel_rfl
  | 15, _ => by kernel_rfl
  | 16, _ => by kernel_rfl
  | 17, _ => by kernel_rfl
  | 18, _ => by kernel_rfl
  | 19, _ => by kernel_rfl
  | 20, _ => by kernel_rfl
  | 21, _ => by kernel_rfl
  | 22, _ => by kernel_rfl
  | 23, _ => by kernel_rfl
  | 24, _ => by kernel_rfl
  | 25, _ => by kernel_rfl
  | k + 26, h => absurd h (by omega)
theorem runeX (w : World) (k : Nat) (x : Int) (hx : x = ((97 + k : Nat) : Int)) (hk : k < 26) : (convert 21 9 (.int .i32 x)).run Try.prog w = .ok (.string ⟨[nm1 k].toArray⟩) w := by rw [hx]; exact runeS w k hk
theorem GraphAhead_spec (w0 : World) (v : FIn) (f : GFlow) (raws : List RLet) (R1 : Rd tRLet w0 v.la raws) (hraw : RawOk w0 raws f.lets) (Ro : Rd (tI .i64) w0 v.oa f.outs) (hlc : f.lets.length ≤ v.lc) (hoc : f.outs.length ≤ v.oc) (hlm : f.lets.length ≤ 140737488355328) (hom : f.outs.length ≤ 140737488355328) (m : GMaker) (n : Int) :
    Calls Try.prog 4 [.agg (fL v f).toArray, .agg (tMaker.enc m).toArray, .int .i64 n].toArray w0 (fun r w => r = .returned (.bool true) ∧ Ext w0 w) := by
 have S := Sat.refl w0
 obtain ⟨l, e, hp1, hp2, hpe, hpo⟩ := plain_cases3 f m
 obtain ⟨lv, eg, hq1, hq2, hqe, hqo⟩ := levelsM_cases f
 refine calls_of_W (args := [.agg (fL v f).toArray, .agg (tMaker.enc m).toArray, .int .i64 n]) 204 Try.func4 rfl Try.ntmps4 rfl ?_
 refine W.seq ?_
 refine W.region rfl ?_
 refine WO.e (O.box rfl rfl S (fun b3 w S => ?_))
 refine WO.e (O.box rfl rfl S (fun b4 w S => ?_))
 refine WO.q (Y.assign (v := .bool _) rfl) ?_
 refine WO.nil ?_
 refine Then.nx ?_
 refine W.seq ?_
 refine W.seq ?_
 refine W.region rfl ?_
 first | refine WO.q (Y.load rfl (loadSN sz_25 S 0 rfl rfl rfl)) ?_ | refine WO.q (Y.load rfl (loadSN sz_25 S 1 rfl rfl rfl)) ?_ | refine WO.q (Y.load rfl (loadSN sz_25 S 2 rfl rfl rfl)) ?_ | refine WO.q (Y.load rfl (loadSN sz_25 S 3 rfl rfl rfl)) ?_ | refine WO.q (Y.load rfl (loadSN sz_25 S 4 rfl rfl rfl)) ?_ | refine WO.q (Y.load rfl (loadSN sz_25 S 5 rfl rfl rfl)) ?_ | refine WO.q (Y.load rfl (loadSN sz_25 S 6 rfl rfl rfl)) ?_ | refine WO.q (Y.load rfl (loadSN sz_25 S 7 rfl rfl rfl)) ?_
 refine WO.e (O.call cf_5 rfl (wideG_spec _ v f raws (R1.ext S.ext) (hraw.ext S.ext) hlm hom) ?_)
 rintro _ w ⟨wb, rfl, hwb, E⟩
 replace S := S.keep E
 refine ⟨_, rfl, ?_⟩
 refine WO.nil ?_
 refine Then.nx ?_
 refine W.cond rfl (fun h1 => ?_) (fun h1 => ?_) -- cond 0
 ·
  have rh1 := h1
  (try simp only [Q1, Q2, Q3, Q4, Q5, Q6, Q7, Q8, Q9, Qa] at h1)
  refine W.seq ?_
  refine W.region rfl ?_
  refine WO.e (O.call cf_6 rfl (livesG_spec _) ?_)
  rintro _ w ⟨rfl, E⟩
  replace S := S.keep E
  refine ⟨_, rfl, ?_⟩
  refine WO.q (Y.assign (v := .bool _) rfl) ?_
  refine WO.nil ?_
  refine Then.nx ?_
  refine W.ret ?_
  refine Then.r ?_
  refine BodyQ.ret1 Try.results4 (ResV.tmp _ rfl) ?_
  first | exact ⟨rfl, S.ext⟩ | (exfalso; omega) | (exfalso; contradiction)
 ·
  have rh1 := h1
  (try simp only [Q1, Q2, Q3, Q4, Q5, Q6, Q7, Q8, Q9, Qa] at h1)
  refine W.skip ?_
  refine Then.nx ?_
  refine W.seq ?_
  obtain ⟨hw1, hw2, hw3⟩ := hwb (by assumption)
  have hR : RdFlow w0 v f := ⟨⟨raws, R1, hraw⟩, Ro, hlc, hoc, by omega, hw2, fun i x hx => by (have := hw3 i x hx; omega)⟩
  refine W.draw (.q 0 (.q 2 (.e 1 (.e 3 (.q 4 (.q 5 (.q 6 (.q 7 (.q 8 .nil))))))))) (fun w => Sat _ w _) rfl rfl (by kernel_rfl) rfl (by kernel_rfl) (by repeat (first | exact BodyQ.noFrame | refine Then.noFrame ?_ | refine InB.noFrame ?_)) S.drew ?_
  clear S
  first | refine Plan.q rfl (fun w S => Y.load rfl (loadSN sz_25 S 0 rfl rfl rfl)) ?_ | refine Plan.q rfl (fun w S => Y.load rfl (loadSN sz_25 S 1 rfl rfl rfl)) ?_ | refine Plan.q rfl (fun w S => Y.load rfl (loadSN sz_25 S 2 rfl rfl rfl)) ?_ | refine Plan.q rfl (fun w S => Y.load rfl (loadSN sz_25 S 3 rfl rfl rfl)) ?_ | refine Plan.q rfl (fun w S => Y.load rfl (loadSN sz_25 S 4 rfl rfl rfl)) ?_ | refine Plan.q rfl (fun w S => Y.load rfl (loadSN sz_25 S 5 rfl rfl rfl)) ?_ | refine Plan.q rfl (fun w S => Y.load rfl (loadSN sz_25 S 6 rfl rfl rfl)) ?_ | refine Plan.q rfl (fun w S => Y.load rfl (loadSN sz_25 S 7 rfl rfl rfl)) ?_
  first | refine Plan.q rfl (fun w S => Y.load rfl (loadSN sz_27 S 0 rfl rfl rfl)) ?_ | refine Plan.q rfl (fun w S => Y.load rfl (loadSN sz_27 S 1 rfl rfl rfl)) ?_ | refine Plan.q rfl (fun w S => Y.load rfl (loadSN sz_27 S 2 rfl rfl rfl)) ?_ | refine Plan.q rfl (fun w S => Y.load rfl (loadSN sz_27 S 3 rfl rfl rfl)) ?_ | refine Plan.q rfl (fun w S => Y.load rfl (loadSN sz_27 S 4 rfl rfl rfl)) ?_ | refine Plan.q rfl (fun w S => Y.load rfl (loadSN sz_27 S 5 rfl rfl rfl)) ?_ | refine Plan.q rfl (fun w S => Y.load rfl (loadSN sz_27 S 6 rfl rfl rfl)) ?_ | refine Plan.q rfl (fun w S => Y.load rfl (loadSN sz_27 S 7 rfl rfl rfl)) ?_
  refine Plan.e1 rfl (fun w S => O.call cf_8 rfl (CopyFlow_spec _ v f (hR.ext S.ext)) ?_)
  rintro _ w ⟨v25, M25, rfl, S25, H25⟩
  replace S := S.trans S25
  refine ⟨_, rfl, ?_⟩
  refine ⟨(fun w => Sat _ w _), S, (.inr (fun w S => S.pk (by repeat (first | exact Pk.nil _ | exact Pk.refl _ | refine Pk.cons 0 rfl ?_ | refine Pk.cons 1 rfl ?_ | refine Pk.cons 2 rfl ?_ | refine Pk.cons 3 rfl ?_ | refine Pk.cons 4 rfl ?_ | refine Pk.cons 5 rfl ?_ | refine Pk.cons 6 rfl ?_ | refine Pk.cons 7 rfl ?_ | refine Pk.cons 8 rfl ?_ | refine Pk.cons 9 rfl ?_ | refine Pk.cons 10 rfl ?_ | refine Pk.cons 11 rfl ?_ | refine Pk.cons 12 rfl ?_ | refine Pk.cons 13 rfl ?_ | refine Pk.drop ?_)))), ?_⟩
  clear S
  refine Plan.e1 rfl (fun w S => O.call cf_7 rfl (Plain_spec _ _ [] v25 f m (S.hasFlow 0 rfl H25 hR.small) (Sat.refl _)) ?_)
  rintro _ w ⟨a27, c27, rfl, S27⟩
  rw [hp1] at S27
  rw [hp1, hp2]
  replace S := S.trans S27
  refine ⟨_, rfl, ?_⟩
  refine ⟨(fun w => Sat _ w _), S, (.inr (fun w S => S.pk (by repeat (first | exact Pk.nil _ | exact Pk.refl _ | refine Pk.cons 0 rfl ?_ | refine Pk.cons 1 rfl ?_ | refine Pk.cons 2 rfl ?_ | refine Pk.cons 3 rfl ?_ | refine Pk.cons 4 rfl ?_ | refine Pk.cons 5 rfl ?_ | refine Pk.cons 6 rfl ?_ | refine Pk.cons 7 rfl ?_ | refine Pk.cons 8 rfl ?_ | refine Pk.cons 9 rfl ?_ | refine Pk.cons 10 rfl ?_ | refine Pk.cons 11 rfl ?_ | refine Pk.cons 12 rfl ?_ | refine Pk.cons 13 rfl ?_ | refine Pk.drop ?_)))), ?_⟩
  clear S
  refine Plan.q rfl (fun w S => Y.move (v := .tuple _) rfl) ?_
  refine Plan.q rfl (fun w S => Y.extract (v := .slice _ _ _) rfl rfl) ?_
  refine Plan.q rfl (fun w S => Y.extract (v := .int .i64 _) rfl rfl) ?_
  refine Plan.q rfl (fun w S => Y.assign (v := .slice _ _ _) rfl) ?_
  refine Plan.q rfl (fun w S => Y.assign (v := .int .i64 _) rfl) ?_
  refine Plan.nil (fun w S => ?_)
  replace S : Sat _ _ _ := S
  refine Then.nx ?_
  refine W.seq ?_
  refine W.region rfl ?_
  first | refine WO.q (Y.load rfl (loadSN sz_25 S 0 rfl rfl rfl)) ?_ | refine WO.q (Y.load rfl (loadSN sz_25 S 1 rfl rfl rfl)) ?_ | refine WO.q (Y.load rfl (loadSN sz_25 S 2 rfl rfl rfl)) ?_ | refine WO.q (Y.load rfl (loadSN sz_25 S 3 rfl rfl rfl)) ?_ | refine WO.q (Y.load rfl (loadSN sz_25 S 4 rfl rfl rfl)) ?_ | refine WO.q (Y.load rfl (loadSN sz_25 S 5 rfl rfl rfl)) ?_ | refine WO.q (Y.load rfl (loadSN sz_25 S 6 rfl rfl rfl)) ?_ | refine WO.q (Y.load rfl (loadSN sz_25 S 7 rfl rfl rfl)) ?_
  refine WO.e (O.call cf_8 rfl (CopyFlow_spec _ v f (hR.ext S.ext)) ?_)
  rintro _ w ⟨v32, M32, rfl, S32, H32⟩
  replace S := S.trans S32
  refine ⟨_, rfl, ?_⟩
  refine WO.e (O.call cf_12 rfl (Levels_spec _ v32 f (S.hasFlow 0 rfl H32 hR.small)) ?_)
  rintro _ w ⟨a33, c33, rfl, S33⟩
  rw [hq1] at S33
  rw [hq1, hq2]
  replace S := S.trans S33
  refine ⟨_, rfl, ?_⟩
  refine WO.q (Y.move (v := .tuple _) rfl) ?_
  refine WO.q (Y.extract (v := .slice _ _ _) rfl rfl) ?_
  refine WO.q (Y.extract (v := .int .i64 _) rfl rfl) ?_
  refine WO.q (Y.assign (v := .slice _ _ _) rfl) ?_
  refine WO.q (Y.assign (v := .int .i64 _) rfl) ?_
  refine WO.nil ?_
  refine Then.nx ?_
  refine W.seq ?_
  refine W.seq ?_
  refine W.region rfl ?_
  refine WO.q (Y.move (v := .int .i64 _) rfl) ?_
  refine WO.q (Y.neq rfl rfl) ?_
  refine WO.nil ?_
  refine Then.nx ?_
  refine W.cond rfl (fun h2 => ?_) (fun h2 => ?_) -- cond 1
  ·
   have rh2 := h2
   (try simp only [Q1, Q2, Q3, Q4, Q5, Q6, Q7, Q8, Q9, Qa] at h2)
   refine W.seq ?_
   have h9 := (hqe (by assumption)).2 m
   rw [hp2] at h9
   refine W.region rfl ?_
   refine WO.q (Y.move (v := .int .i64 _) rfl) ?_
   refine WO.q (Y.move (v := .int .i64 _) rfl) ?_
   refine WO.q (Y.eql rfl rfl) ?_
   refine WO.q (Y.move (v := .bool _) rfl) ?_
   refine WO.splitB (fun h3 => ?_) (fun h3 => ?_)
   ·
    (try simp only [Q1, Q2, Q3, Q4, Q5, Q6, Q7, Q8, Q9, Qa] at h3)
    refine WO.eT rfl (O.call cf_6 rfl (livesG_spec _) ?_)
    rintro _ w ⟨rfl, E⟩
    replace S := S.keep E
    refine ⟨_, rfl, ?_⟩
    refine WO.q (Y.pickT (u := .bool _) rfl rfl) ?_
    refine WO.q (Y.assign (v := .bool _) rfl) ?_
    refine WO.nil ?_
    refine Then.nx ?_
    refine W.ret ?_
    refine Then.r ?_
    refine BodyQ.ret1 Try.results4 (ResV.tmp _ rfl) ?_
    first | exact ⟨rfl, S.ext⟩ | (exfalso; omega) | (exfalso; contradiction)
   ·
    (try simp only [Q1, Q2, Q3, Q4, Q5, Q6, Q7, Q8, Q9, Qa] at h3)
    refine WO.qF rfl ?_
    refine WO.q (Y.pickF (u := .bool _) rfl rfl) ?_
    refine WO.q (Y.assign (v := .bool _) rfl) ?_
    refine WO.nil ?_
    refine Then.nx ?_
    refine W.ret ?_
    refine Then.r ?_
    refine BodyQ.ret1 Try.results4 (ResV.tmp _ rfl) ?_
    first | exact ⟨rfl, S.ext⟩ | (exfalso; omega) | (exfalso; contradiction)
  ·
   have rh2 := h2
   (try simp only [Q1, Q2, Q3, Q4, Q5, Q6, Q7, Q8, Q9, Qa] at h2)
   refine W.skip ?_
   refine Then.nx ?_
   refine W.seq ?_
   refine W.seq ?_
   obtain ⟨hck, hlq⟩ := hqo (by omega)
   have hll : lv.length = f.lets.length := by rw [hlq, levL_len]
   have hlv : ∀ i, i < f.lets.length → lv[i]? = some (levM f.lets i) := fun i hi => by (rw [hlq]; exact levL_at _ hi)
   refine W.region rfl ?_
   refine WO.q (Y.move (v := .slice _ _ _) rfl) ?_
   refine WO.q (Y.len (t' := 0) Try.underlying23 rfl) ?_
   refine WO.q (Y.fieldB fo_25_0 rfl) ?_
   first | refine WO.q (Y.load rfl (loadS1 sz_22 S 0 rfl rfl)) ?_ | refine WO.q (Y.load rfl (loadS1 sz_22 S 1 rfl rfl)) ?_ | refine WO.q (Y.load rfl (loadS1 sz_22 S 2 rfl rfl)) ?_ | refine WO.q (Y.load rfl (loadS1 sz_22 S 3 rfl rfl)) ?_ | refine WO.q (Y.load rfl (loadS1 sz_22 S 4 rfl rfl)) ?_ | refine WO.q (Y.load rfl (loadS1 sz_22 S 5 rfl rfl)) ?_ | refine WO.q (Y.load rfl (loadS1 sz_22 S 6 rfl rfl)) ?_ | refine WO.q (Y.load rfl (loadS1 sz_22 S 7 rfl rfl)) ?_
   refine WO.q (Y.len (t' := 0) Try.underlying22 rfl) ?_
   refine WO.q (Y.neq rfl rfl) ?_
   refine WO.nil ?_
   refine Then.nx ?_
   refine W.cond rfl (fun h4 => ?_) (fun h4 => ?_) -- cond 2
   ·
    have rh4 := h4
    (try simp only [Q1, Q2, Q3, Q4, Q5, Q6, Q7, Q8, Q9, Qa] at h4)
    exfalso; omega
   ·
    have rh4 := h4
    (try simp only [Q1, Q2, Q3, Q4, Q5, Q6, Q7, Q8, Q9, Qa] at h4)
    refine W.skip ?_
    refine Then.nx ?_
    refine W.seq ?_
    refine W.seq ?_
    refine W.region rfl ?_
    refine WO.q (Y.assign (v := .int .i64 _) rfl) ?_
    refine WO.nil ?_
    refine Then.nx ?_
    refine W.block ?_
    -- loop 0 carries 11:i
    refine W.loop1 [6, 11, 12, 13, 14, 15, 50, 51, 52, 53, 54, 55, 56, 57, 58, 59, 60, 61, 62, 63, 64, 65, 66, 67, 68, 69, 70, 71, 72, 73, 74, 75, 76, 77, 78, 79, 80, 81, 82, 83, 84, 85, 86, 87, 88, 89, 90, 91, 92, 93, 94, 95, 96, 97, 98, 99, 100, 101, 102, 103, 104, 105, 106, 107, 108, 109, 110, 111, 112, 113, 114, 115, 116, 117, 118, 119, 120, 121, 122, 123, 124, 125, 126, 127, 128, 129, 130, 131, 132, 133, 134, 135] 11 (fun v11 w => ∃ i : Nat, v11 = .int .i64 (i : Int) ∧ i ≤ f.lets.length ∧ Sat w0 w [Own (tI .i64) 3 a33 c33 lv, Own tEnd 30 a27 c27 l, Cel b4 (tMaker.enc m) 27, Cel b3 (fL v f) 25]) (fun v11 w => f.lets.length - (intOf v11).toNat) ?_ ?_
    ·
     exact ⟨0, rfl, Nat.zero_le _, S.pk (by repeat (first | exact Pk.nil _ | exact Pk.refl _ | refine Pk.cons 0 rfl ?_ | refine Pk.cons 1 rfl ?_ | refine Pk.cons 2 rfl ?_ | refine Pk.cons 3 rfl ?_ | refine Pk.cons 4 rfl ?_ | refine Pk.cons 5 rfl ?_ | refine Pk.cons 6 rfl ?_ | refine Pk.cons 7 rfl ?_ | refine Pk.cons 8 rfl ?_ | refine Pk.cons 9 rfl ?_ | refine Pk.cons 10 rfl ?_ | refine Pk.cons 11 rfl ?_ | refine Pk.cons 12 rfl ?_ | refine Pk.cons 13 rfl ?_ | refine Pk.drop ?_))⟩
    ·
     rintro g0 v11 w ⟨i, rfl, hi, S⟩
     refine W.seq ?_
     refine W.seq ?_
     refine W.region rfl ?_
     refine WO.q (Y.move (v := .int .i64 _) rfl) ?_
     refine WO.q (Y.fieldB fo_25_0 rfl) ?_
     first | refine WO.q (Y.load rfl (loadS1 sz_22 S 0 rfl rfl)) ?_ | refine WO.q (Y.load rfl (loadS1 sz_22 S 1 rfl rfl)) ?_ | refine WO.q (Y.load rfl (loadS1 sz_22 S 2 rfl rfl)) ?_ | refine WO.q (Y.load rfl (loadS1 sz_22 S 3 rfl rfl)) ?_ | refine WO.q (Y.load rfl (loadS1 sz_22 S 4 rfl rfl)) ?_ | refine WO.q (Y.load rfl (loadS1 sz_22 S 5 rfl rfl)) ?_ | refine WO.q (Y.load rfl (loadS1 sz_22 S 6 rfl rfl)) ?_ | refine WO.q (Y.load rfl (loadS1 sz_22 S 7 rfl rfl)) ?_
     refine WO.q (Y.len (t' := 0) Try.underlying22 rfl) ?_
     refine WO.q (Y.lss rfl rfl) ?_
     refine WO.nil ?_
     refine Then.nx ?_
     refine W.cond rfl (fun h5 => ?_) (fun h5 => ?_) -- cond 3
     ·
      have rh5 := h5
      (try simp only [Q1, Q2, Q3, Q4, Q5, Q6, Q7, Q8, Q9, Qa] at h5)
      refine W.skip ?_
      refine Then.nx ?_
      refine W.seq ?_
      refine W.block ?_
      refine W.seq ?_
      obtain ⟨x, hx⟩ := at_ex (xs := f.lets) (k := i) (by omega)
      have hlvi := hlv i (by omega)
      have hga := (S.rd (T := tI .i64) (e := 3) (xs := lv) 0 rfl).1 (by omega)
      have hlb := levM_bd f.lets i (by omega)
      have hnl := needL_len x i
      refine W.region rfl ?_
      first | refine WO.q (Y.load rfl (loadSN sz_25 S 0 rfl rfl rfl)) ?_ | refine WO.q (Y.load rfl (loadSN sz_25 S 1 rfl rfl rfl)) ?_ | refine WO.q (Y.load rfl (loadSN sz_25 S 2 rfl rfl rfl)) ?_ | refine WO.q (Y.load rfl (loadSN sz_25 S 3 rfl rfl rfl)) ?_ | refine WO.q (Y.load rfl (loadSN sz_25 S 4 rfl rfl rfl)) ?_ | refine WO.q (Y.load rfl (loadSN sz_25 S 5 rfl rfl rfl)) ?_ | refine WO.q (Y.load rfl (loadSN sz_25 S 6 rfl rfl rfl)) ?_ | refine WO.q (Y.load rfl (loadSN sz_25 S 7 rfl rfl rfl)) ?_
      refine WO.e (O.call cf_8 rfl (CopyFlow_spec _ v f (hR.ext S.ext)) ?_)
      rintro _ w ⟨v58, M58, rfl, S58, H58⟩
      replace S := S.trans S58
      refine ⟨_, rfl, ?_⟩
      refine WO.q (Y.move (v := .int .i64 _) rfl) ?_
      refine WO.e (O.call cf_13 rfl (Needs_spec _ (i : Int) v58 f (S.hasFlow 0 rfl H58 hR.small)) ?_)
      rintro _ w ⟨a60, c60, rfl, S60⟩
      rw [needsM_in hck hx] at S60 ⊢
      replace S := S.trans S60
      refine ⟨_, rfl, ?_⟩
      refine WO.q (Y.assign (v := .slice _ _ _) rfl) ?_
      refine WO.nil ?_
      refine Then.nx ?_
      refine W.cut1 [13, 61, 62, 63, 64, 65, 66, 67, 68, 69, 70] 13 (fun v13 w => v13 = .bool (belowB (lvF f) (levM f.lets i) (needL x i) 0) ∧ Sat w0 w [Own (tI .i64) 3 a60 c60 (needL x i), Own (tI .i64) 3 a33 c33 lv, Own tEnd 30 a27 c27 l, Cel b4 (tMaker.enc m) 27, Cel b3 (fL v f) 25]) ?_ ?_
      ·
       refine W.region rfl ?_
       refine WO.q (Y.move (v := .slice _ _ _) rfl) ?_
       refine WO.q (Y.move (v := .int .i64 _) rfl) ?_
       first | refine WO.q (Y.ixN sl_23 rfl rfl (by (first | assumption | rfl)) (by (first | assumption | omega))) ?_ | refine WO.q (Y.ix sl_23 rfl rfl (by (first | assumption | rfl)) (by (first | assumption | omega)) (by (first | assumption | omega))) ?_
       first | refine WO.q (Y.load rfl (loadRd1 sz_3 (S.rd 0 rfl) (by assumption) rfl)) ?_ | refine WO.q (Y.load rfl (loadRd1 sz_3 (S.rd 1 rfl) (by assumption) rfl)) ?_ | refine WO.q (Y.load rfl (loadRd1 sz_3 (S.rd 2 rfl) (by assumption) rfl)) ?_ | refine WO.q (Y.load rfl (loadRd1 sz_3 (S.rd 3 rfl) (by assumption) rfl)) ?_ | refine WO.q (Y.load rfl (loadRd1 sz_3 (S.rd 4 rfl) (by assumption) rfl)) ?_
       refine WO.q (Y.eql rfl rfl) ?_
       refine WO.q (Y.move (v := .bool _) rfl) ?_
       refine WO.splitB (fun h6 => ?_) (fun h6 => ?_)
       ·
        (try simp only [Q1, Q2, Q3, Q4, Q5, Q6, Q7, Q8, Q9, Qa] at h6)
        refine WO.qT rfl (Y.move (v := .slice _ _ _) rfl) ?_
        refine WO.qT rfl (Y.len (t' := 0) Try.underlying23 rfl) ?_
        refine WO.qT rfl (Y.eql rfl rfl) ?_
        refine WO.q (Y.pickT (u := .bool _) rfl rfl) ?_
        refine WO.q (Y.assign (v := .bool _) rfl) ?_
        refine WO.nil ?_
        refine Then.nx ⟨?_, ?_⟩
        ·
         (repeat (first | exact Out.hav _ _ _ | exact Out.refl _ _ | refine Out.up rfl ?_ | refine Out.sub rfl ?_))
        ·
         first | exact ⟨by (show Value.bool _ = Value.bool _; congr 1; rw [belowB_zero, Bool.eq_iff_iff]; simp only [Bool.and_eq_true, decide_eq_true_eq]; omega), S.pk (by repeat (first | exact Pk.nil _ | exact Pk.refl _ | refine Pk.cons 0 rfl ?_ | refine Pk.cons 1 rfl ?_ | refine Pk.cons 2 rfl ?_ | refine Pk.cons 3 rfl ?_ | refine Pk.cons 4 rfl ?_ | refine Pk.cons 5 rfl ?_ | refine Pk.cons 6 rfl ?_ | refine Pk.cons 7 rfl ?_ | refine Pk.cons 8 rfl ?_ | refine Pk.cons 9 rfl ?_ | refine Pk.cons 10 rfl ?_ | refine Pk.cons 11 rfl ?_ | refine Pk.cons 12 rfl ?_ | refine Pk.cons 13 rfl ?_ | refine Pk.drop ?_))⟩ | exact ⟨by (show Value.bool false = Value.bool _; congr 1; symm; rw [belowB_zero, Bool.and_eq_false_iff]; left; exact decide_eq_false (by assumption)), S.pk (by repeat (first | exact Pk.nil _ | exact Pk.refl _ | refine Pk.cons 0 rfl ?_ | refine Pk.cons 1 rfl ?_ | refine Pk.cons 2 rfl ?_ | refine Pk.cons 3 rfl ?_ | refine Pk.cons 4 rfl ?_ | refine Pk.cons 5 rfl ?_ | refine Pk.cons 6 rfl ?_ | refine Pk.cons 7 rfl ?_ | refine Pk.cons 8 rfl ?_ | refine Pk.cons 9 rfl ?_ | refine Pk.cons 10 rfl ?_ | refine Pk.cons 11 rfl ?_ | refine Pk.cons 12 rfl ?_ | refine Pk.cons 13 rfl ?_ | refine Pk.drop ?_))⟩
       ·
        (try simp only [Q1, Q2, Q3, Q4, Q5, Q6, Q7, Q8, Q9, Qa] at h6)
        refine WO.qF rfl ?_
        refine WO.qF rfl ?_
        refine WO.qF rfl ?_
        refine WO.q (Y.pickF (u := .bool _) rfl rfl) ?_
        refine WO.q (Y.assign (v := .bool _) rfl) ?_
        refine WO.nil ?_
        refine Then.nx ⟨?_, ?_⟩
        ·
         (repeat (first | exact Out.hav _ _ _ | exact Out.refl _ _ | refine Out.up rfl ?_ | refine Out.sub rfl ?_))
        ·
         first | exact ⟨by (show Value.bool _ = Value.bool _; congr 1; rw [belowB_zero, Bool.eq_iff_iff]; simp only [Bool.and_eq_true, decide_eq_true_eq]; omega), S.pk (by repeat (first | exact Pk.nil _ | exact Pk.refl _ | refine Pk.cons 0 rfl ?_ | refine Pk.cons 1 rfl ?_ | refine Pk.cons 2 rfl ?_ | refine Pk.cons 3 rfl ?_ | refine Pk.cons 4 rfl ?_ | refine Pk.cons 5 rfl ?_ | refine Pk.cons 6 rfl ?_ | refine Pk.cons 7 rfl ?_ | refine Pk.cons 8 rfl ?_ | refine Pk.cons 9 rfl ?_ | refine Pk.cons 10 rfl ?_ | refine Pk.cons 11 rfl ?_ | refine Pk.cons 12 rfl ?_ | refine Pk.cons 13 rfl ?_ | refine Pk.drop ?_))⟩ | exact ⟨by (show Value.bool false = Value.bool _; congr 1; symm; rw [belowB_zero, Bool.and_eq_false_iff]; left; exact decide_eq_false (by assumption)), S.pk (by repeat (first | exact Pk.nil _ | exact Pk.refl _ | refine Pk.cons 0 rfl ?_ | refine Pk.cons 1 rfl ?_ | refine Pk.cons 2 rfl ?_ | refine Pk.cons 3 rfl ?_ | refine Pk.cons 4 rfl ?_ | refine Pk.cons 5 rfl ?_ | refine Pk.cons 6 rfl ?_ | refine Pk.cons 7 rfl ?_ | refine Pk.cons 8 rfl ?_ | refine Pk.cons 9 rfl ?_ | refine Pk.cons 10 rfl ?_ | refine Pk.cons 11 rfl ?_ | refine Pk.cons 12 rfl ?_ | refine Pk.cons 13 rfl ?_ | refine Pk.drop ?_))⟩
      ·
       rintro gj255 v13 w ⟨rfl, S⟩
       refine W.seq ?_
       refine W.seq ?_
       refine W.region rfl ?_
       refine WO.q (Y.assign (v := .int .i64 _) rfl) ?_
       refine WO.nil ?_
       refine Then.nx ?_
       refine W.block ?_
       -- loop 1 carries 13:below, 14:k
       refine W.loop2 [6, 13, 14, 15, 71, 72, 73, 74, 75, 76, 77, 78, 79, 80, 81, 82, 83, 84, 85, 86, 87, 88, 89, 90, 91, 92, 93, 94, 95, 96, 97, 98, 99, 100, 101, 102, 103, 104, 105, 106, 107, 108, 109, 110, 111, 112, 113, 114, 115, 116, 117, 118, 119, 120, 121, 122, 123, 124, 125, 126, 127, 128, 129, 130, 131, 132, 133] 13 14 (fun v13 v14 w => ∃ k : Nat, v14 = .int .i64 (k : Int) ∧ v13 = .bool (belowB (lvF f) (levM f.lets i) (needL x i) k) ∧ k ≤ (needL x i).length ∧ Sat w0 w [Own (tI .i64) 3 a60 c60 (needL x i), Own (tI .i64) 3 a33 c33 lv, Own tEnd 30 a27 c27 l, Cel b4 (tMaker.enc m) 27, Cel b3 (fL v f) 25]) (fun v13 v14 w => (needL x i).length - (intOf v14).toNat) ?_ ?_
       ·
        exact ⟨0, rfl, rfl, Nat.zero_le _, S⟩
       ·
        rintro g1 v13 v14 w ⟨k, rfl, rfl, hk, S⟩
        refine W.seq ?_
        refine W.seq ?_
        refine W.region rfl ?_
        refine WO.q (Y.move (v := .int .i64 _) rfl) ?_
        refine WO.q (Y.move (v := .slice _ _ _) rfl) ?_
        refine WO.q (Y.len (t' := 0) Try.underlying23 rfl) ?_
        refine WO.q (Y.lss rfl rfl) ?_
        refine WO.nil ?_
        refine Then.nx ?_
        refine W.cond rfl (fun h7 => ?_) (fun h7 => ?_) -- cond 4
        ·
         have rh7 := h7
         (try simp only [Q1, Q2, Q3, Q4, Q5, Q6, Q7, Q8, Q9, Qa] at h7)
         refine W.skip ?_
         refine Then.nx ?_
         refine W.seq ?_
         refine W.block ?_
         refine W.seq ?_
         obtain ⟨q0, hq0⟩ := at_ex (xs := needL x i) (k := k) (by omega)
         have hqm := List.mem_of_getElem? hq0
         have hqb := needL_bd hqm
         have hlow := need_low hx hqm
         have huh := users_has hx hqm
         obtain ⟨q, rfl⟩ := Int.eq_ofNat_of_zero_le hqb.1
         replace hlow : levM f.lets q < levM f.lets i := hlow
         have hlvq := hlv q (by omega)
         have hgn := (S.rd (T := tI .i64) (e := 3) (xs := needL x i) 0 rfl).1 (by omega)
         have hul := usersTo_len f.lets (q : Int) f.lets.length
         have hlbq := levM_bd f.lets q (by omega)
         refine W.region rfl ?_
         refine WO.q (Y.move (v := .slice _ _ _) rfl) ?_
         refine WO.q (Y.move (v := .int .i64 _) rfl) ?_
         first | refine WO.q (Y.ixN sl_23 rfl rfl (by (first | assumption | rfl)) (by (first | assumption | omega))) ?_ | refine WO.q (Y.ix sl_23 rfl rfl (by (first | assumption | rfl)) (by (first | assumption | omega)) (by (first | assumption | omega))) ?_
         first | refine WO.q (Y.load rfl (loadRd1 sz_3 (S.rd 0 rfl) (by assumption) rfl)) ?_ | refine WO.q (Y.load rfl (loadRd1 sz_3 (S.rd 1 rfl) (by assumption) rfl)) ?_ | refine WO.q (Y.load rfl (loadRd1 sz_3 (S.rd 2 rfl) (by assumption) rfl)) ?_ | refine WO.q (Y.load rfl (loadRd1 sz_3 (S.rd 3 rfl) (by assumption) rfl)) ?_ | refine WO.q (Y.load rfl (loadRd1 sz_3 (S.rd 4 rfl) (by assumption) rfl)) ?_
         refine WO.q (Y.assign (v := .int .i64 _) rfl) ?_
         refine WO.nil ?_
         refine Then.nx ?_
         refine W.seq ?_
         refine W.seq ?_
         refine W.draw (.q 0 (.q 1 (.q 2 (.q 3 (.q 4 (.q 5 (.q 6 (.q 7 (.q 8 (.q 9 (.q 10 (.q 11 (.q 12 (.q 13 (.q 14 (.q 15 (.q 16 (.q 17 (.q 18 (.q 19 (.q 20 (.q 21 (.q 22 (.q 23 (.q 24 (.q 25 (.q 26 (.q 27 (.q 28 (.q 29 (.q 30 (.q 31 (.q 32 (.q 34 (.q 36 (.e 33 (.e 35 (.e 37 (.q 38 (.q 39 .nil)))))))))))))))))))))))))))))))))))))))) (fun w => Sat _ w _) rfl rfl (by kernel_rfl) rfl (by kernel_rfl) (by repeat (first | exact BodyQ.noFrame | refine Then.noFrame ?_ | refine InB.noFrame ?_)) S.drew ?_
         clear S
         refine Plan.q rfl (fun w S => Y.move (v := .int .i64 _) rfl) ?_
         refine Plan.q rfl (fun w S => Y.lss rfl rfl) ?_
         refine Plan.q rfl (fun w S => Y.move (v := .bool _) rfl) ?_
         refine Plan.splitB (fun h8 => ?_) (fun h8 => ?_)
         ·
          (try simp only [Q1, Q2, Q3, Q4, Q5, Q6, Q7, Q8, Q9, Qa] at h8)
          refine Plan.qF rfl rfl ?_
          refine Plan.qF rfl rfl ?_
          refine Plan.qF rfl rfl ?_
          refine Plan.q rfl (fun w S => Y.pickT (u := .bool _) rfl rfl) ?_
          refine Plan.q rfl (fun w S => Y.move (v := .bool _) rfl) ?_
          refine Plan.qF rfl rfl ?_
          refine Plan.qF rfl rfl ?_
          refine Plan.qF rfl rfl ?_
          refine Plan.qF rfl rfl ?_
          refine Plan.qF rfl rfl ?_
          refine Plan.qF rfl rfl ?_
          refine Plan.qF rfl rfl ?_
          refine Plan.qF rfl rfl ?_
          refine Plan.qF rfl rfl ?_
          refine Plan.qF rfl rfl ?_
          refine Plan.qF rfl rfl ?_
          refine Plan.q rfl (fun w S => Y.pickT (u := .bool _) rfl rfl) ?_
          refine Plan.q rfl (fun w S => Y.move (v := .bool _) rfl) ?_
          refine Plan.qF rfl rfl ?_
          refine Plan.qF rfl rfl ?_
          refine Plan.qF rfl rfl ?_
          refine Plan.qF rfl rfl ?_
          refine Plan.qF rfl rfl ?_
          refine Plan.qF rfl rfl ?_
          refine Plan.qF rfl rfl ?_
          refine Plan.qF rfl rfl ?_
          refine Plan.qF rfl rfl ?_
          refine Plan.q rfl (fun w S => Y.pickT (u := .bool _) rfl rfl) ?_
          refine Plan.q rfl (fun w S => Y.move (v := .bool _) rfl) ?_
          refine Plan.qF rfl rfl ?_
          refine Plan.qF rfl rfl ?_
          refine Plan.qF rfl rfl ?_
          refine Plan.eF rfl rfl ?_
          refine Plan.eF rfl rfl ?_
          refine Plan.eF rfl rfl ?_
          refine Plan.qF rfl rfl ?_
          refine Plan.q rfl (fun w S => Y.pickT (u := .bool _) rfl rfl) ?_
          refine Plan.nil (fun w S => ?_)
          replace S : Sat _ _ _ := S
          refine Then.nx ?_
          first | refine W.condT rfl ?_ | refine W.condT (congrArg Value.bool (by assumption)) ?_
          refine W.seq ?_
          refine W.region rfl ?_
          refine WO.q (Y.assign (v := .bool _) rfl) ?_
          refine WO.nil ?_
          refine Then.nx ?_
          refine W.ret ?_
          refine Then.r ?_
          refine InB.r ?_
          refine Then.r ?_
          refine Then.r ?_
          refine InB.r ?_
          refine Then.r ?_
          refine InB.r ?_
          refine Then.r ?_
          refine Then.r ?_
          refine InB.r ?_
          refine Then.r ?_
          refine BodyQ.ret1 Try.results4 (ResV.tmp _ rfl) ?_
          first | exact ⟨rfl, S.ext⟩ | (exfalso; omega) | (exfalso; contradiction)
         ·
          (try simp only [Q1, Q2, Q3, Q4, Q5, Q6, Q7, Q8, Q9, Qa] at h8)
          refine Plan.qT rfl rfl (fun w S => Y.move (v := .int .i64 _) rfl) ?_
          refine Plan.qT rfl rfl (fun w S => Y.move (v := .int .i64 _) rfl) ?_
          refine Plan.qT rfl rfl (fun w S => Y.geq rfl rfl) ?_
          refine Plan.q rfl (fun w S => Y.pickF (u := .bool _) rfl rfl) ?_
          refine Plan.q rfl (fun w S => Y.move (v := .bool _) rfl) ?_
          refine Plan.splitB (fun h9 => ?_) (fun h9 => ?_)
          ·
           (try simp only [Q1, Q2, Q3, Q4, Q5, Q6, Q7, Q8, Q9, Qa] at h9)
           refine Plan.qF rfl rfl ?_
           refine Plan.qF rfl rfl ?_
           refine Plan.qF rfl rfl ?_
           refine Plan.qF rfl rfl ?_
           refine Plan.qF rfl rfl ?_
           refine Plan.qF rfl rfl ?_
           refine Plan.qF rfl rfl ?_
           refine Plan.qF rfl rfl ?_
           refine Plan.qF rfl rfl ?_
           refine Plan.qF rfl rfl ?_
           refine Plan.qF rfl rfl ?_
           refine Plan.q rfl (fun w S => Y.pickT (u := .bool _) rfl rfl) ?_
           refine Plan.q rfl (fun w S => Y.move (v := .bool _) rfl) ?_
           refine Plan.qF rfl rfl ?_
           refine Plan.qF rfl rfl ?_
           refine Plan.qF rfl rfl ?_
           refine Plan.qF rfl rfl ?_
           refine Plan.qF rfl rfl ?_
           refine Plan.qF rfl rfl ?_
           refine Plan.qF rfl rfl ?_
           refine Plan.qF rfl rfl ?_
           refine Plan.qF rfl rfl ?_
           refine Plan.q rfl (fun w S => Y.pickT (u := .bool _) rfl rfl) ?_
           refine Plan.q rfl (fun w S => Y.move (v := .bool _) rfl) ?_
           refine Plan.qF rfl rfl ?_
           refine Plan.qF rfl rfl ?_
           refine Plan.qF rfl rfl ?_
           refine Plan.eF rfl rfl ?_
           refine Plan.eF rfl rfl ?_
           refine Plan.eF rfl rfl ?_
           refine Plan.qF rfl rfl ?_
           refine Plan.q rfl (fun w S => Y.pickT (u := .bool _) rfl rfl) ?_
           refine Plan.nil (fun w S => ?_)
           replace S : Sat _ _ _ := S
           refine Then.nx ?_
           first | refine W.condT rfl ?_ | refine W.condT (congrArg Value.bool (by assumption)) ?_
           refine W.seq ?_
           refine W.region rfl ?_
           refine WO.q (Y.assign (v := .bool _) rfl) ?_
           refine WO.nil ?_
           refine Then.nx ?_
           refine W.ret ?_
           refine Then.r ?_
           refine InB.r ?_
           refine Then.r ?_
           refine Then.r ?_
           refine InB.r ?_
           refine Then.r ?_
           refine InB.r ?_
           refine Then.r ?_
           refine Then.r ?_
           refine InB.r ?_
           refine Then.r ?_
           refine BodyQ.ret1 Try.results4 (ResV.tmp _ rfl) ?_
           first | exact ⟨rfl, S.ext⟩ | (exfalso; omega) | (exfalso; contradiction)
          ·
           (try simp only [Q1, Q2, Q3, Q4, Q5, Q6, Q7, Q8, Q9, Qa] at h9)
           refine Plan.qT rfl rfl (fun w S => Y.move (v := .int .i64 _) rfl) ?_
           refine Plan.qT rfl rfl (fun w S => Y.gtr rfl rfl) ?_
           refine Plan.qT rfl rfl (fun w S => Y.move (v := .bool _) rfl) ?_
           refine Plan.splitB (fun h10 => ?_) (fun h10 => ?_)
           ·
            (try simp only [Q1, Q2, Q3, Q4, Q5, Q6, Q7, Q8, Q9, Qa] at h10)
            refine Plan.qT rfl rfl (fun w S => Y.move (v := .int .i64 _) rfl) ?_
            refine Plan.qT rfl rfl (fun w S => Y.move (v := .slice _ _ _) rfl) ?_
            refine Plan.qT rfl rfl (fun w S => Y.move (v := .int .i64 _) rfl) ?_
            obtain ⟨p, hp⟩ := at_ex (xs := needL x i) (k := k - 1) (by omega)
            have hrise := need_rise hp (by (rw [show k - 1 + 1 = k by omega]; exact hq0))
            refine Plan.qT rfl rfl (fun w S => Y.subN (x := k) (y := 1) rfl rfl (by omega) (by omega)) ?_
            first | refine Plan.qT rfl rfl (fun w S => Y.ixN sl_23 rfl rfl (by (first | assumption | rfl)) (by (first | assumption | omega))) ?_ | refine Plan.qT rfl rfl (fun w S => Y.ix sl_23 rfl rfl (by (first | assumption | rfl)) (by (first | assumption | omega)) (by (first | assumption | omega))) ?_
            first | refine Plan.qT rfl rfl (fun w S => Y.load rfl (loadRd1 sz_3 (S.rd 0 rfl) (by assumption) rfl)) ?_ | refine Plan.qT rfl rfl (fun w S => Y.load rfl (loadRd1 sz_3 (S.rd 1 rfl) (by assumption) rfl)) ?_ | refine Plan.qT rfl rfl (fun w S => Y.load rfl (loadRd1 sz_3 (S.rd 2 rfl) (by assumption) rfl)) ?_ | refine Plan.qT rfl rfl (fun w S => Y.load rfl (loadRd1 sz_3 (S.rd 3 rfl) (by assumption) rfl)) ?_ | refine Plan.qT rfl rfl (fun w S => Y.load rfl (loadRd1 sz_3 (S.rd 4 rfl) (by assumption) rfl)) ?_
            refine Plan.qT rfl rfl (fun w S => Y.leq rfl rfl) ?_
            refine Plan.qT rfl rfl (fun w S => Y.pickT (u := .bool _) rfl rfl) ?_
            refine Plan.q rfl (fun w S => Y.pickF (u := .bool _) rfl rfl) ?_
            refine Plan.q rfl (fun w S => Y.move (v := .bool _) rfl) ?_
            refine Plan.splitB (fun h11 => ?_) (fun h11 => ?_)
            ·
             (try simp only [Q1, Q2, Q3, Q4, Q5, Q6, Q7, Q8, Q9, Qa] at h11)
             refine Plan.qF rfl rfl ?_
             refine Plan.qF rfl rfl ?_
             refine Plan.qF rfl rfl ?_
             refine Plan.qF rfl rfl ?_
             refine Plan.qF rfl rfl ?_
             refine Plan.qF rfl rfl ?_
             refine Plan.qF rfl rfl ?_
             refine Plan.qF rfl rfl ?_
             refine Plan.qF rfl rfl ?_
             refine Plan.q rfl (fun w S => Y.pickT (u := .bool _) rfl rfl) ?_
             refine Plan.q rfl (fun w S => Y.move (v := .bool _) rfl) ?_
             refine Plan.qF rfl rfl ?_
             refine Plan.qF rfl rfl ?_
             refine Plan.qF rfl rfl ?_
             refine Plan.eF rfl rfl ?_
             refine Plan.eF rfl rfl ?_
             refine Plan.eF rfl rfl ?_
             refine Plan.qF rfl rfl ?_
             refine Plan.q rfl (fun w S => Y.pickT (u := .bool _) rfl rfl) ?_
             refine Plan.nil (fun w S => ?_)
             replace S : Sat _ _ _ := S
             refine Then.nx ?_
             first | refine W.condT rfl ?_ | refine W.condT (congrArg Value.bool (by assumption)) ?_
             refine W.seq ?_
             refine W.region rfl ?_
             refine WO.q (Y.assign (v := .bool _) rfl) ?_
             refine WO.nil ?_
             refine Then.nx ?_
             refine W.ret ?_
             refine Then.r ?_
             refine InB.r ?_
             refine Then.r ?_
             refine Then.r ?_
             refine InB.r ?_
             refine Then.r ?_
             refine InB.r ?_
             refine Then.r ?_
             refine Then.r ?_
             refine InB.r ?_
             refine Then.r ?_
             refine BodyQ.ret1 Try.results4 (ResV.tmp _ rfl) ?_
             first | exact ⟨rfl, S.ext⟩ | (exfalso; omega) | (exfalso; contradiction)
            ·
             (try simp only [Q1, Q2, Q3, Q4, Q5, Q6, Q7, Q8, Q9, Qa] at h11)
             refine Plan.qT rfl rfl (fun w S => Y.move (v := .slice _ _ _) rfl) ?_
             refine Plan.qT rfl rfl (fun w S => Y.move (v := .int .i64 _) rfl) ?_
             first | refine Plan.qT rfl rfl (fun w S => Y.ixN sl_23 rfl rfl (by (first | assumption | rfl)) (by (first | assumption | omega))) ?_ | refine Plan.qT rfl rfl (fun w S => Y.ix sl_23 rfl rfl (by (first | assumption | rfl)) (by (first | assumption | omega)) (by (first | assumption | omega))) ?_
             first | refine Plan.qT rfl rfl (fun w S => Y.load rfl (loadRd1 sz_3 (S.rd 0 rfl) (by assumption) rfl)) ?_ | refine Plan.qT rfl rfl (fun w S => Y.load rfl (loadRd1 sz_3 (S.rd 1 rfl) (by assumption) rfl)) ?_ | refine Plan.qT rfl rfl (fun w S => Y.load rfl (loadRd1 sz_3 (S.rd 2 rfl) (by assumption) rfl)) ?_ | refine Plan.qT rfl rfl (fun w S => Y.load rfl (loadRd1 sz_3 (S.rd 3 rfl) (by assumption) rfl)) ?_ | refine Plan.qT rfl rfl (fun w S => Y.load rfl (loadRd1 sz_3 (S.rd 4 rfl) (by assumption) rfl)) ?_
             refine Plan.qT rfl rfl (fun w S => Y.move (v := .slice _ _ _) rfl) ?_
             refine Plan.qT rfl rfl (fun w S => Y.move (v := .int .i64 _) rfl) ?_
             first | refine Plan.qT rfl rfl (fun w S => Y.ixN sl_23 rfl rfl (by (first | assumption | rfl)) (by (first | assumption | omega))) ?_ | refine Plan.qT rfl rfl (fun w S => Y.ix sl_23 rfl rfl (by (first | assumption | rfl)) (by (first | assumption | omega)) (by (first | assumption | omega))) ?_
             first | refine Plan.qT rfl rfl (fun w S => Y.load rfl (loadRd1 sz_3 (S.rd 0 rfl) (by assumption) rfl)) ?_ | refine Plan.qT rfl rfl (fun w S => Y.load rfl (loadRd1 sz_3 (S.rd 1 rfl) (by assumption) rfl)) ?_ | refine Plan.qT rfl rfl (fun w S => Y.load rfl (loadRd1 sz_3 (S.rd 2 rfl) (by assumption) rfl)) ?_ | refine Plan.qT rfl rfl (fun w S => Y.load rfl (loadRd1 sz_3 (S.rd 3 rfl) (by assumption) rfl)) ?_ | refine Plan.qT rfl rfl (fun w S => Y.load rfl (loadRd1 sz_3 (S.rd 4 rfl) (by assumption) rfl)) ?_
             refine Plan.qT rfl rfl (fun w S => Y.geq rfl rfl) ?_
             refine Plan.q rfl (fun w S => Y.pickF (u := .bool _) rfl rfl) ?_
             refine Plan.q rfl (fun w S => Y.move (v := .bool _) rfl) ?_
             refine Plan.splitB (fun h12 => ?_) (fun h12 => ?_)
             ·
              (try simp only [Q1, Q2, Q3, Q4, Q5, Q6, Q7, Q8, Q9, Qa] at h12)
              refine Plan.qF rfl rfl ?_
              refine Plan.qF rfl rfl ?_
              refine Plan.qF rfl rfl ?_
              refine Plan.eF rfl rfl ?_
              refine Plan.eF rfl rfl ?_
              refine Plan.eF rfl rfl ?_
              refine Plan.qF rfl rfl ?_
              refine Plan.q rfl (fun w S => Y.pickT (u := .bool _) rfl rfl) ?_
              refine Plan.nil (fun w S => ?_)
              replace S : Sat _ _ _ := S
              refine Then.nx ?_
              first | refine W.condT rfl ?_ | refine W.condT (congrArg Value.bool (by assumption)) ?_
              refine W.seq ?_
              refine W.region rfl ?_
              refine WO.q (Y.assign (v := .bool _) rfl) ?_
              refine WO.nil ?_
              refine Then.nx ?_
              refine W.ret ?_
              refine Then.r ?_
              refine InB.r ?_
              refine Then.r ?_
              refine Then.r ?_
              refine InB.r ?_
              refine Then.r ?_
              refine InB.r ?_
              refine Then.r ?_
              refine Then.r ?_
              refine InB.r ?_
              refine Then.r ?_
              refine BodyQ.ret1 Try.results4 (ResV.tmp _ rfl) ?_
              first | exact ⟨rfl, S.ext⟩ | (exfalso; omega) | (exfalso; contradiction)
             ·
              (try simp only [Q1, Q2, Q3, Q4, Q5, Q6, Q7, Q8, Q9, Qa] at h12)
              first | refine Plan.qT rfl rfl (fun w S => Y.load rfl (loadSN sz_25 S 0 rfl rfl rfl)) ?_ | refine Plan.qT rfl rfl (fun w S => Y.load rfl (loadSN sz_25 S 1 rfl rfl rfl)) ?_ | refine Plan.qT rfl rfl (fun w S => Y.load rfl (loadSN sz_25 S 2 rfl rfl rfl)) ?_ | refine Plan.qT rfl rfl (fun w S => Y.load rfl (loadSN sz_25 S 3 rfl rfl rfl)) ?_ | refine Plan.qT rfl rfl (fun w S => Y.load rfl (loadSN sz_25 S 4 rfl rfl rfl)) ?_ | refine Plan.qT rfl rfl (fun w S => Y.load rfl (loadSN sz_25 S 5 rfl rfl rfl)) ?_ | refine Plan.qT rfl rfl (fun w S => Y.load rfl (loadSN sz_25 S 6 rfl rfl rfl)) ?_ | refine Plan.qT rfl rfl (fun w S => Y.load rfl (loadSN sz_25 S 7 rfl rfl rfl)) ?_
              refine Plan.qT rfl rfl (fun w S => Y.move (v := .int .i64 _) rfl) ?_
              refine Plan.qT rfl rfl (fun w S => Y.move (v := .int .i64 _) rfl) ?_
              refine Plan.eT rfl rfl (fun w S => O.call cf_8 rfl (CopyFlow_spec _ v f (hR.ext S.ext)) ?_)
              rintro _ w ⟨v114, M114, rfl, S114, H114⟩
              replace S := S.trans S114
              refine ⟨_, rfl, ?_⟩
              refine ⟨(fun w => Sat _ w _), S, (.inr (fun w S => S.pk (by repeat (first | exact Pk.nil _ | exact Pk.refl _ | refine Pk.cons 0 rfl ?_ | refine Pk.cons 1 rfl ?_ | refine Pk.cons 2 rfl ?_ | refine Pk.cons 3 rfl ?_ | refine Pk.cons 4 rfl ?_ | refine Pk.cons 5 rfl ?_ | refine Pk.cons 6 rfl ?_ | refine Pk.cons 7 rfl ?_ | refine Pk.cons 8 rfl ?_ | refine Pk.cons 9 rfl ?_ | refine Pk.cons 10 rfl ?_ | refine Pk.cons 11 rfl ?_ | refine Pk.cons 12 rfl ?_ | refine Pk.cons 13 rfl ?_ | refine Pk.drop ?_)))), ?_⟩
              clear S
              refine Plan.eT rfl rfl (fun w S => O.call cf_15 rfl (Users_spec _ (q : Int) v114 f (S.hasFlow 0 rfl H114 hR.small)) ?_)
              rintro _ w ⟨a116, c116, rfl, S116⟩
              rw [usersM_in hck (by omega) (by omega)] at S116 ⊢
              replace S := S.trans S116
              refine ⟨_, rfl, ?_⟩
              refine ⟨(fun w => Sat _ w _), S, (.inr (fun w S => S.pk (by repeat (first | exact Pk.nil _ | exact Pk.refl _ | refine Pk.cons 0 rfl ?_ | refine Pk.cons 1 rfl ?_ | refine Pk.cons 2 rfl ?_ | refine Pk.cons 3 rfl ?_ | refine Pk.cons 4 rfl ?_ | refine Pk.cons 5 rfl ?_ | refine Pk.cons 6 rfl ?_ | refine Pk.cons 7 rfl ?_ | refine Pk.cons 8 rfl ?_ | refine Pk.cons 9 rfl ?_ | refine Pk.cons 10 rfl ?_ | refine Pk.cons 11 rfl ?_ | refine Pk.cons 12 rfl ?_ | refine Pk.cons 13 rfl ?_ | refine Pk.drop ?_)))), ?_⟩
              clear S
              refine Plan.eT rfl rfl (fun w S => O.call cf_14 rfl (has_spec _ a116 c116 (usersTo f.lets (q : Int) f.lets.length) (i : Int) (S.rd 0 rfl) (by omega)) ?_)
              rintro _ w ⟨rfl, E⟩
              rw [huh]
              replace S := S.keep E
              refine ⟨_, rfl, ?_⟩
              refine ⟨(fun w => Sat _ w _), S, (.inr (fun w S => S.pk (by repeat (first | exact Pk.nil _ | exact Pk.refl _ | refine Pk.cons 0 rfl ?_ | refine Pk.cons 1 rfl ?_ | refine Pk.cons 2 rfl ?_ | refine Pk.cons 3 rfl ?_ | refine Pk.cons 4 rfl ?_ | refine Pk.cons 5 rfl ?_ | refine Pk.cons 6 rfl ?_ | refine Pk.cons 7 rfl ?_ | refine Pk.cons 8 rfl ?_ | refine Pk.cons 9 rfl ?_ | refine Pk.cons 10 rfl ?_ | refine Pk.cons 11 rfl ?_ | refine Pk.cons 12 rfl ?_ | refine Pk.cons 13 rfl ?_ | refine Pk.drop ?_)))), ?_⟩
              clear S
              refine Plan.qT rfl rfl (fun w S => Y.not rfl) ?_
              refine Plan.q rfl (fun w S => Y.pickF (u := .bool _) rfl rfl) ?_
              refine Plan.nil (fun w S => ?_)
              replace S : Sat _ _ _ := S
              refine Then.nx ?_
              refine W.cond rfl (fun h13 => ?_) (fun h13 => ?_) -- cond 5
              ·
               have rh13 := h13
               (try simp only [Q1, Q2, Q3, Q4, Q5, Q6, Q7, Q8, Q9, Qa] at h13)
               refine W.seq ?_
               refine W.region rfl ?_
               refine WO.q (Y.assign (v := .bool _) rfl) ?_
               refine WO.nil ?_
               refine Then.nx ?_
               refine W.ret ?_
               refine Then.r ?_
               refine InB.r ?_
               refine Then.r ?_
               refine Then.r ?_
               refine InB.r ?_
               refine Then.r ?_
               refine InB.r ?_
               refine Then.r ?_
               refine Then.r ?_
               refine InB.r ?_
               refine Then.r ?_
               refine BodyQ.ret1 Try.results4 (ResV.tmp _ rfl) ?_
               first | exact ⟨rfl, S.ext⟩ | (exfalso; omega) | (exfalso; contradiction)
              ·
               have rh13 := h13
               (try simp only [Q1, Q2, Q3, Q4, Q5, Q6, Q7, Q8, Q9, Qa] at h13)
               refine W.skip ?_
               refine Then.nx ?_
               refine W.draw (.q 0 (.q 1 (.q 2 (.q 3 (.q 4 (.q 5 (.q 6 (.q 7 (.q 8 (.q 9 (.q 10 (.q 11 (.q 12 (.q 13 .nil)))))))))))))) (fun w => Sat _ w _) rfl rfl (by kernel_rfl) rfl (by kernel_rfl) (by repeat (first | exact BodyQ.noFrame | refine Then.noFrame ?_ | refine InB.noFrame ?_)) S.drew ?_
               clear S
               refine Plan.q rfl (fun w S => Y.move (v := .bool _) rfl) ?_
               refine Plan.q rfl (fun w S => Y.move (v := .bool _) rfl) ?_
               refine Plan.splitB (fun h14 => ?_) (fun h14 => ?_)
               ·
                (try simp only [Q1, Q2, Q3, Q4, Q5, Q6, Q7, Q8, Q9, Qa] at h14)
                refine Plan.qF rfl rfl ?_
                refine Plan.qF rfl rfl ?_
                refine Plan.qF rfl rfl ?_
                refine Plan.qF rfl rfl ?_
                refine Plan.qF rfl rfl ?_
                refine Plan.qF rfl rfl ?_
                refine Plan.qF rfl rfl ?_
                refine Plan.qF rfl rfl ?_
                refine Plan.qF rfl rfl ?_
                refine Plan.qF rfl rfl ?_
                refine Plan.q rfl (fun w S => Y.pickT (u := .bool _) rfl rfl) ?_
                refine Plan.q rfl (fun w S => Y.assign (v := .bool _) rfl) ?_
                refine Plan.nil (fun w S => ?_)
                replace S : Sat _ _ _ := S
                refine InB.nx ?_
                refine Then.nx ?_
                refine W.region rfl ?_
                refine WO.q (Y.move (v := .int .i64 _) rfl) ?_
                first | refine WO.q (Y.addI rfl rfl (by omega)) ?_ | refine WO.q (Y.add rfl rfl) ?_
                refine WO.q (Y.assign (v := .int .i64 _) rfl) ?_
                refine WO.nil ?_
                refine Then.nx ⟨?_, ?_, ?_⟩
                ·
                 (repeat (first | exact Out.hav _ _ _ | exact Out.refl _ _ | refine Out.up rfl ?_ | refine Out.sub rfl ?_))
                ·
                 first | exact ⟨k + 1, rfl, by (rw [belowB_succ hq0, (show belowB (lvF f) (levM f.lets i) (needL x i) k = true by assumption), Bool.true_or]; rfl), by omega, S.pk (by repeat (first | exact Pk.nil _ | exact Pk.refl _ | refine Pk.cons 0 rfl ?_ | refine Pk.cons 1 rfl ?_ | refine Pk.cons 2 rfl ?_ | refine Pk.cons 3 rfl ?_ | refine Pk.cons 4 rfl ?_ | refine Pk.cons 5 rfl ?_ | refine Pk.cons 6 rfl ?_ | refine Pk.cons 7 rfl ?_ | refine Pk.cons 8 rfl ?_ | refine Pk.cons 9 rfl ?_ | refine Pk.cons 10 rfl ?_ | refine Pk.cons 11 rfl ?_ | refine Pk.cons 12 rfl ?_ | refine Pk.cons 13 rfl ?_ | refine Pk.drop ?_))⟩ | exact ⟨k + 1, rfl, by (rw [belowB_succ hq0, (show belowB (lvF f) (levM f.lets i) (needL x i) k = false by assumption), Bool.false_or]; rfl), by omega, S.pk (by repeat (first | exact Pk.nil _ | exact Pk.refl _ | refine Pk.cons 0 rfl ?_ | refine Pk.cons 1 rfl ?_ | refine Pk.cons 2 rfl ?_ | refine Pk.cons 3 rfl ?_ | refine Pk.cons 4 rfl ?_ | refine Pk.cons 5 rfl ?_ | refine Pk.cons 6 rfl ?_ | refine Pk.cons 7 rfl ?_ | refine Pk.cons 8 rfl ?_ | refine Pk.cons 9 rfl ?_ | refine Pk.cons 10 rfl ?_ | refine Pk.cons 11 rfl ?_ | refine Pk.cons 12 rfl ?_ | refine Pk.cons 13 rfl ?_ | refine Pk.drop ?_))⟩
                ·
                 (show (needL x i).length - (k + 1) < (needL x i).length - k; omega)
               ·
                (try simp only [Q1, Q2, Q3, Q4, Q5, Q6, Q7, Q8, Q9, Qa] at h14)
                refine Plan.qT rfl rfl (fun w S => Y.move (v := .slice _ _ _) rfl) ?_
                refine Plan.qT rfl rfl (fun w S => Y.move (v := .int .i64 _) rfl) ?_
                first | refine Plan.qT rfl rfl (fun w S => Y.ixN sl_23 rfl rfl (by (first | assumption | rfl)) (by (first | assumption | omega))) ?_ | refine Plan.qT rfl rfl (fun w S => Y.ix sl_23 rfl rfl (by (first | assumption | rfl)) (by (first | assumption | omega)) (by (first | assumption | omega))) ?_
                first | refine Plan.qT rfl rfl (fun w S => Y.load rfl (loadRd1 sz_3 (S.rd 0 rfl) (by assumption) rfl)) ?_ | refine Plan.qT rfl rfl (fun w S => Y.load rfl (loadRd1 sz_3 (S.rd 1 rfl) (by assumption) rfl)) ?_ | refine Plan.qT rfl rfl (fun w S => Y.load rfl (loadRd1 sz_3 (S.rd 2 rfl) (by assumption) rfl)) ?_ | refine Plan.qT rfl rfl (fun w S => Y.load rfl (loadRd1 sz_3 (S.rd 3 rfl) (by assumption) rfl)) ?_ | refine Plan.qT rfl rfl (fun w S => Y.load rfl (loadRd1 sz_3 (S.rd 4 rfl) (by assumption) rfl)) ?_
                refine Plan.qT rfl rfl (fun w S => Y.move (v := .slice _ _ _) rfl) ?_
                refine Plan.qT rfl rfl (fun w S => Y.move (v := .int .i64 _) rfl) ?_
                first | refine Plan.qT rfl rfl (fun w S => Y.ixN sl_23 rfl rfl (by (first | assumption | rfl)) (by (first | assumption | omega))) ?_ | refine Plan.qT rfl rfl (fun w S => Y.ix sl_23 rfl rfl (by (first | assumption | rfl)) (by (first | assumption | omega)) (by (first | assumption | omega))) ?_
                first | refine Plan.qT rfl rfl (fun w S => Y.load rfl (loadRd1 sz_3 (S.rd 0 rfl) (by assumption) rfl)) ?_ | refine Plan.qT rfl rfl (fun w S => Y.load rfl (loadRd1 sz_3 (S.rd 1 rfl) (by assumption) rfl)) ?_ | refine Plan.qT rfl rfl (fun w S => Y.load rfl (loadRd1 sz_3 (S.rd 2 rfl) (by assumption) rfl)) ?_ | refine Plan.qT rfl rfl (fun w S => Y.load rfl (loadRd1 sz_3 (S.rd 3 rfl) (by assumption) rfl)) ?_ | refine Plan.qT rfl rfl (fun w S => Y.load rfl (loadRd1 sz_3 (S.rd 4 rfl) (by assumption) rfl)) ?_
                first | refine Plan.qT rfl rfl (fun w S => Y.subI rfl rfl (by omega)) ?_ | refine Plan.qT rfl rfl (fun w S => Y.sub rfl rfl) ?_
                refine Plan.qT rfl rfl (fun w S => Y.eql rfl rfl) ?_
                refine Plan.q rfl (fun w S => Y.pickF (u := .bool _) rfl rfl) ?_
                refine Plan.q rfl (fun w S => Y.assign (v := .bool _) rfl) ?_
                refine Plan.nil (fun w S => ?_)
                replace S : Sat _ _ _ := S
                refine InB.nx ?_
                refine Then.nx ?_
                refine W.region rfl ?_
                refine WO.q (Y.move (v := .int .i64 _) rfl) ?_
                first | refine WO.q (Y.addI rfl rfl (by omega)) ?_ | refine WO.q (Y.add rfl rfl) ?_
                refine WO.q (Y.assign (v := .int .i64 _) rfl) ?_
                refine WO.nil ?_
                refine Then.nx ⟨?_, ?_, ?_⟩
                ·
                 (repeat (first | exact Out.hav _ _ _ | exact Out.refl _ _ | refine Out.up rfl ?_ | refine Out.sub rfl ?_))
                ·
                 first | exact ⟨k + 1, rfl, by (rw [belowB_succ hq0, (show belowB (lvF f) (levM f.lets i) (needL x i) k = true by assumption), Bool.true_or]; rfl), by omega, S.pk (by repeat (first | exact Pk.nil _ | exact Pk.refl _ | refine Pk.cons 0 rfl ?_ | refine Pk.cons 1 rfl ?_ | refine Pk.cons 2 rfl ?_ | refine Pk.cons 3 rfl ?_ | refine Pk.cons 4 rfl ?_ | refine Pk.cons 5 rfl ?_ | refine Pk.cons 6 rfl ?_ | refine Pk.cons 7 rfl ?_ | refine Pk.cons 8 rfl ?_ | refine Pk.cons 9 rfl ?_ | refine Pk.cons 10 rfl ?_ | refine Pk.cons 11 rfl ?_ | refine Pk.cons 12 rfl ?_ | refine Pk.cons 13 rfl ?_ | refine Pk.drop ?_))⟩ | exact ⟨k + 1, rfl, by (rw [belowB_succ hq0, (show belowB (lvF f) (levM f.lets i) (needL x i) k = false by assumption), Bool.false_or]; rfl), by omega, S.pk (by repeat (first | exact Pk.nil _ | exact Pk.refl _ | refine Pk.cons 0 rfl ?_ | refine Pk.cons 1 rfl ?_ | refine Pk.cons 2 rfl ?_ | refine Pk.cons 3 rfl ?_ | refine Pk.cons 4 rfl ?_ | refine Pk.cons 5 rfl ?_ | refine Pk.cons 6 rfl ?_ | refine Pk.cons 7 rfl ?_ | refine Pk.cons 8 rfl ?_ | refine Pk.cons 9 rfl ?_ | refine Pk.cons 10 rfl ?_ | refine Pk.cons 11 rfl ?_ | refine Pk.cons 12 rfl ?_ | refine Pk.cons 13 rfl ?_ | refine Pk.drop ?_))⟩
                ·
                 (show (needL x i).length - (k + 1) < (needL x i).length - k; omega)
           ·
            (try simp only [Q1, Q2, Q3, Q4, Q5, Q6, Q7, Q8, Q9, Qa] at h10)
            refine Plan.qF rfl rfl ?_
            refine Plan.qF rfl rfl ?_
            refine Plan.qF rfl rfl ?_
            refine Plan.qF rfl rfl ?_
            refine Plan.qF rfl rfl ?_
            refine Plan.qF rfl rfl ?_
            refine Plan.qF rfl rfl ?_
            refine Plan.qT rfl rfl (fun w S => Y.pickF (u := .bool _) rfl rfl) ?_
            refine Plan.q rfl (fun w S => Y.pickF (u := .bool _) rfl rfl) ?_
            refine Plan.q rfl (fun w S => Y.move (v := .bool _) rfl) ?_
            refine Plan.qT rfl rfl (fun w S => Y.move (v := .slice _ _ _) rfl) ?_
            refine Plan.qT rfl rfl (fun w S => Y.move (v := .int .i64 _) rfl) ?_
            first | refine Plan.qT rfl rfl (fun w S => Y.ixN sl_23 rfl rfl (by (first | assumption | rfl)) (by (first | assumption | omega))) ?_ | refine Plan.qT rfl rfl (fun w S => Y.ix sl_23 rfl rfl (by (first | assumption | rfl)) (by (first | assumption | omega)) (by (first | assumption | omega))) ?_
            first | refine Plan.qT rfl rfl (fun w S => Y.load rfl (loadRd1 sz_3 (S.rd 0 rfl) (by assumption) rfl)) ?_ | refine Plan.qT rfl rfl (fun w S => Y.load rfl (loadRd1 sz_3 (S.rd 1 rfl) (by assumption) rfl)) ?_ | refine Plan.qT rfl rfl (fun w S => Y.load rfl (loadRd1 sz_3 (S.rd 2 rfl) (by assumption) rfl)) ?_ | refine Plan.qT rfl rfl (fun w S => Y.load rfl (loadRd1 sz_3 (S.rd 3 rfl) (by assumption) rfl)) ?_ | refine Plan.qT rfl rfl (fun w S => Y.load rfl (loadRd1 sz_3 (S.rd 4 rfl) (by assumption) rfl)) ?_
            refine Plan.qT rfl rfl (fun w S => Y.move (v := .slice _ _ _) rfl) ?_
            refine Plan.qT rfl rfl (fun w S => Y.move (v := .int .i64 _) rfl) ?_
            first | refine Plan.qT rfl rfl (fun w S => Y.ixN sl_23 rfl rfl (by (first | assumption | rfl)) (by (first | assumption | omega))) ?_ | refine Plan.qT rfl rfl (fun w S => Y.ix sl_23 rfl rfl (by (first | assumption | rfl)) (by (first | assumption | omega)) (by (first | assumption | omega))) ?_
            first | refine Plan.qT rfl rfl (fun w S => Y.load rfl (loadRd1 sz_3 (S.rd 0 rfl) (by assumption) rfl)) ?_ | refine Plan.qT rfl rfl (fun w S => Y.load rfl (loadRd1 sz_3 (S.rd 1 rfl) (by assumption) rfl)) ?_ | refine Plan.qT rfl rfl (fun w S => Y.load rfl (loadRd1 sz_3 (S.rd 2 rfl) (by assumption) rfl)) ?_ | refine Plan.qT rfl rfl (fun w S => Y.load rfl (loadRd1 sz_3 (S.rd 3 rfl) (by assumption) rfl)) ?_ | refine Plan.qT rfl rfl (fun w S => Y.load rfl (loadRd1 sz_3 (S.rd 4 rfl) (by assumption) rfl)) ?_
            refine Plan.qT rfl rfl (fun w S => Y.geq rfl rfl) ?_
            refine Plan.q rfl (fun w S => Y.pickF (u := .bool _) rfl rfl) ?_
            refine Plan.q rfl (fun w S => Y.move (v := .bool _) rfl) ?_
            refine Plan.splitB (fun h15 => ?_) (fun h15 => ?_)
            ·
             (try simp only [Q1, Q2, Q3, Q4, Q5, Q6, Q7, Q8, Q9, Qa] at h15)
             refine Plan.qF rfl rfl ?_
             refine Plan.qF rfl rfl ?_
             refine Plan.qF rfl rfl ?_
             refine Plan.eF rfl rfl ?_
             refine Plan.eF rfl rfl ?_
             refine Plan.eF rfl rfl ?_
             refine Plan.qF rfl rfl ?_
             refine Plan.q rfl (fun w S => Y.pickT (u := .bool _) rfl rfl) ?_
             refine Plan.nil (fun w S => ?_)
             replace S : Sat _ _ _ := S
             refine Then.nx ?_
             first | refine W.condT rfl ?_ | refine W.condT (congrArg Value.bool (by assumption)) ?_
             refine W.seq ?_
             refine W.region rfl ?_
             refine WO.q (Y.assign (v := .bool _) rfl) ?_
             refine WO.nil ?_
             refine Then.nx ?_
             refine W.ret ?_
             refine Then.r ?_
             refine InB.r ?_
             refine Then.r ?_
             refine Then.r ?_
             refine InB.r ?_
             refine Then.r ?_
             refine InB.r ?_
             refine Then.r ?_
             refine Then.r ?_
             refine InB.r ?_
             refine Then.r ?_
             refine BodyQ.ret1 Try.results4 (ResV.tmp _ rfl) ?_
             first | exact ⟨rfl, S.ext⟩ | (exfalso; omega) | (exfalso; contradiction)
            ·
             (try simp only [Q1, Q2, Q3, Q4, Q5, Q6, Q7, Q8, Q9, Qa] at h15)
             first | refine Plan.qT rfl rfl (fun w S => Y.load rfl (loadSN sz_25 S 0 rfl rfl rfl)) ?_ | refine Plan.qT rfl rfl (fun w S => Y.load rfl (loadSN sz_25 S 1 rfl rfl rfl)) ?_ | refine Plan.qT rfl rfl (fun w S => Y.load rfl (loadSN sz_25 S 2 rfl rfl rfl)) ?_ | refine Plan.qT rfl rfl (fun w S => Y.load rfl (loadSN sz_25 S 3 rfl rfl rfl)) ?_ | refine Plan.qT rfl rfl (fun w S => Y.load rfl (loadSN sz_25 S 4 rfl rfl rfl)) ?_ | refine Plan.qT rfl rfl (fun w S => Y.load rfl (loadSN sz_25 S 5 rfl rfl rfl)) ?_ | refine Plan.qT rfl rfl (fun w S => Y.load rfl (loadSN sz_25 S 6 rfl rfl rfl)) ?_ | refine Plan.qT rfl rfl (fun w S => Y.load rfl (loadSN sz_25 S 7 rfl rfl rfl)) ?_
             refine Plan.qT rfl rfl (fun w S => Y.move (v := .int .i64 _) rfl) ?_
             refine Plan.qT rfl rfl (fun w S => Y.move (v := .int .i64 _) rfl) ?_
             refine Plan.eT rfl rfl (fun w S => O.call cf_8 rfl (CopyFlow_spec _ v f (hR.ext S.ext)) ?_)
             rintro _ w ⟨v114, M114, rfl, S114, H114⟩
             replace S := S.trans S114
             refine ⟨_, rfl, ?_⟩
             refine ⟨(fun w => Sat _ w _), S, (.inr (fun w S => S.pk (by repeat (first | exact Pk.nil _ | exact Pk.refl _ | refine Pk.cons 0 rfl ?_ | refine Pk.cons 1 rfl ?_ | refine Pk.cons 2 rfl ?_ | refine Pk.cons 3 rfl ?_ | refine Pk.cons 4 rfl ?_ | refine Pk.cons 5 rfl ?_ | refine Pk.cons 6 rfl ?_ | refine Pk.cons 7 rfl ?_ | refine Pk.cons 8 rfl ?_ | refine Pk.cons 9 rfl ?_ | refine Pk.cons 10 rfl ?_ | refine Pk.cons 11 rfl ?_ | refine Pk.cons 12 rfl ?_ | refine Pk.cons 13 rfl ?_ | refine Pk.drop ?_)))), ?_⟩
             clear S
             refine Plan.eT rfl rfl (fun w S => O.call cf_15 rfl (Users_spec _ (q : Int) v114 f (S.hasFlow 0 rfl H114 hR.small)) ?_)
             rintro _ w ⟨a116, c116, rfl, S116⟩
             rw [usersM_in hck (by omega) (by omega)] at S116 ⊢
             replace S := S.trans S116
             refine ⟨_, rfl, ?_⟩
             refine ⟨(fun w => Sat _ w _), S, (.inr (fun w S => S.pk (by repeat (first | exact Pk.nil _ | exact Pk.refl _ | refine Pk.cons 0 rfl ?_ | refine Pk.cons 1 rfl ?_ | refine Pk.cons 2 rfl ?_ | refine Pk.cons 3 rfl ?_ | refine Pk.cons 4 rfl ?_ | refine Pk.cons 5 rfl ?_ | refine Pk.cons 6 rfl ?_ | refine Pk.cons 7 rfl ?_ | refine Pk.cons 8 rfl ?_ | refine Pk.cons 9 rfl ?_ | refine Pk.cons 10 rfl ?_ | refine Pk.cons 11 rfl ?_ | refine Pk.cons 12 rfl ?_ | refine Pk.cons 13 rfl ?_ | refine Pk.drop ?_)))), ?_⟩
             clear S
             refine Plan.eT rfl rfl (fun w S => O.call cf_14 rfl (has_spec _ a116 c116 (usersTo f.lets (q : Int) f.lets.length) (i : Int) (S.rd 0 rfl) (by omega)) ?_)
             rintro _ w ⟨rfl, E⟩
             rw [huh]
             replace S := S.keep E
             refine ⟨_, rfl, ?_⟩
             refine ⟨(fun w => Sat _ w _), S, (.inr (fun w S => S.pk (by repeat (first | exact Pk.nil _ | exact Pk.refl _ | refine Pk.cons 0 rfl ?_ | refine Pk.cons 1 rfl ?_ | refine Pk.cons 2 rfl ?_ | refine Pk.cons 3 rfl ?_ | refine Pk.cons 4 rfl ?_ | refine Pk.cons 5 rfl ?_ | refine Pk.cons 6 rfl ?_ | refine Pk.cons 7 rfl ?_ | refine Pk.cons 8 rfl ?_ | refine Pk.cons 9 rfl ?_ | refine Pk.cons 10 rfl ?_ | refine Pk.cons 11 rfl ?_ | refine Pk.cons 12 rfl ?_ | refine Pk.cons 13 rfl ?_ | refine Pk.drop ?_)))), ?_⟩
             clear S
             refine Plan.qT rfl rfl (fun w S => Y.not rfl) ?_
             refine Plan.q rfl (fun w S => Y.pickF (u := .bool _) rfl rfl) ?_
             refine Plan.nil (fun w S => ?_)
             replace S : Sat _ _ _ := S
             refine Then.nx ?_
             refine W.cond rfl (fun h16 => ?_) (fun h16 => ?_) -- cond 6
             ·
              have rh16 := h16
              (try simp only [Q1, Q2, Q3, Q4, Q5, Q6, Q7, Q8, Q9, Qa] at h16)
              refine W.seq ?_
              refine W.region rfl ?_
              refine WO.q (Y.assign (v := .bool _) rfl) ?_
              refine WO.nil ?_
              refine Then.nx ?_
              refine W.ret ?_
              refine Then.r ?_
              refine InB.r ?_
              refine Then.r ?_
              refine Then.r ?_
              refine InB.r ?_
              refine Then.r ?_
              refine InB.r ?_
              refine Then.r ?_
              refine Then.r ?_
              refine InB.r ?_
              refine Then.r ?_
              refine BodyQ.ret1 Try.results4 (ResV.tmp _ rfl) ?_
              first | exact ⟨rfl, S.ext⟩ | (exfalso; omega) | (exfalso; contradiction)
             ·
              have rh16 := h16
              (try simp only [Q1, Q2, Q3, Q4, Q5, Q6, Q7, Q8, Q9, Qa] at h16)
              refine W.skip ?_
              refine Then.nx ?_
              refine W.draw (.q 0 (.q 1 (.q 2 (.q 3 (.q 4 (.q 5 (.q 6 (.q 7 (.q 8 (.q 9 (.q 10 (.q 11 (.q 12 (.q 13 .nil)))))))))))))) (fun w => Sat _ w _) rfl rfl (by kernel_rfl) rfl (by kernel_rfl) (by repeat (first | exact BodyQ.noFrame | refine Then.noFrame ?_ | refine InB.noFrame ?_)) S.drew ?_
              clear S
              refine Plan.q rfl (fun w S => Y.move (v := .bool _) rfl) ?_
              refine Plan.q rfl (fun w S => Y.move (v := .bool _) rfl) ?_
              refine Plan.splitB (fun h17 => ?_) (fun h17 => ?_)
              ·
               (try simp only [Q1, Q2, Q3, Q4, Q5, Q6, Q7, Q8, Q9, Qa] at h17)
               refine Plan.qF rfl rfl ?_
               refine Plan.qF rfl rfl ?_
               refine Plan.qF rfl rfl ?_
               refine Plan.qF rfl rfl ?_
               refine Plan.qF rfl rfl ?_
               refine Plan.qF rfl rfl ?_
               refine Plan.qF rfl rfl ?_
               refine Plan.qF rfl rfl ?_
               refine Plan.qF rfl rfl ?_
               refine Plan.qF rfl rfl ?_
               refine Plan.q rfl (fun w S => Y.pickT (u := .bool _) rfl rfl) ?_
               refine Plan.q rfl (fun w S => Y.assign (v := .bool _) rfl) ?_
               refine Plan.nil (fun w S => ?_)
               replace S : Sat _ _ _ := S
               refine InB.nx ?_
               refine Then.nx ?_
               refine W.region rfl ?_
               refine WO.q (Y.move (v := .int .i64 _) rfl) ?_
               first | refine WO.q (Y.addI rfl rfl (by omega)) ?_ | refine WO.q (Y.add rfl rfl) ?_
               refine WO.q (Y.assign (v := .int .i64 _) rfl) ?_
               refine WO.nil ?_
               refine Then.nx ⟨?_, ?_, ?_⟩
               ·
                (repeat (first | exact Out.hav _ _ _ | exact Out.refl _ _ | refine Out.up rfl ?_ | refine Out.sub rfl ?_))
               ·
                first | exact ⟨k + 1, rfl, by (rw [belowB_succ hq0, (show belowB (lvF f) (levM f.lets i) (needL x i) k = true by assumption), Bool.true_or]; rfl), by omega, S.pk (by repeat (first | exact Pk.nil _ | exact Pk.refl _ | refine Pk.cons 0 rfl ?_ | refine Pk.cons 1 rfl ?_ | refine Pk.cons 2 rfl ?_ | refine Pk.cons 3 rfl ?_ | refine Pk.cons 4 rfl ?_ | refine Pk.cons 5 rfl ?_ | refine Pk.cons 6 rfl ?_ | refine Pk.cons 7 rfl ?_ | refine Pk.cons 8 rfl ?_ | refine Pk.cons 9 rfl ?_ | refine Pk.cons 10 rfl ?_ | refine Pk.cons 11 rfl ?_ | refine Pk.cons 12 rfl ?_ | refine Pk.cons 13 rfl ?_ | refine Pk.drop ?_))⟩ | exact ⟨k + 1, rfl, by (rw [belowB_succ hq0, (show belowB (lvF f) (levM f.lets i) (needL x i) k = false by assumption), Bool.false_or]; rfl), by omega, S.pk (by repeat (first | exact Pk.nil _ | exact Pk.refl _ | refine Pk.cons 0 rfl ?_ | refine Pk.cons 1 rfl ?_ | refine Pk.cons 2 rfl ?_ | refine Pk.cons 3 rfl ?_ | refine Pk.cons 4 rfl ?_ | refine Pk.cons 5 rfl ?_ | refine Pk.cons 6 rfl ?_ | refine Pk.cons 7 rfl ?_ | refine Pk.cons 8 rfl ?_ | refine Pk.cons 9 rfl ?_ | refine Pk.cons 10 rfl ?_ | refine Pk.cons 11 rfl ?_ | refine Pk.cons 12 rfl ?_ | refine Pk.cons 13 rfl ?_ | refine Pk.drop ?_))⟩
               ·
                (show (needL x i).length - (k + 1) < (needL x i).length - k; omega)
              ·
               (try simp only [Q1, Q2, Q3, Q4, Q5, Q6, Q7, Q8, Q9, Qa] at h17)
               refine Plan.qT rfl rfl (fun w S => Y.move (v := .slice _ _ _) rfl) ?_
               refine Plan.qT rfl rfl (fun w S => Y.move (v := .int .i64 _) rfl) ?_
               first | refine Plan.qT rfl rfl (fun w S => Y.ixN sl_23 rfl rfl (by (first | assumption | rfl)) (by (first | assumption | omega))) ?_ | refine Plan.qT rfl rfl (fun w S => Y.ix sl_23 rfl rfl (by (first | assumption | rfl)) (by (first | assumption | omega)) (by (first | assumption | omega))) ?_
               first | refine Plan.qT rfl rfl (fun w S => Y.load rfl (loadRd1 sz_3 (S.rd 0 rfl) (by assumption) rfl)) ?_ | refine Plan.qT rfl rfl (fun w S => Y.load rfl (loadRd1 sz_3 (S.rd 1 rfl) (by assumption) rfl)) ?_ | refine Plan.qT rfl rfl (fun w S => Y.load rfl (loadRd1 sz_3 (S.rd 2 rfl) (by assumption) rfl)) ?_ | refine Plan.qT rfl rfl (fun w S => Y.load rfl (loadRd1 sz_3 (S.rd 3 rfl) (by assumption) rfl)) ?_ | refine Plan.qT rfl rfl (fun w S => Y.load rfl (loadRd1 sz_3 (S.rd 4 rfl) (by assumption) rfl)) ?_
               refine Plan.qT rfl rfl (fun w S => Y.move (v := .slice _ _ _) rfl) ?_
               refine Plan.qT rfl rfl (fun w S => Y.move (v := .int .i64 _) rfl) ?_
               first | refine Plan.qT rfl rfl (fun w S => Y.ixN sl_23 rfl rfl (by (first | assumption | rfl)) (by (first | assumption | omega))) ?_ | refine Plan.qT rfl rfl (fun w S => Y.ix sl_23 rfl rfl (by (first | assumption | rfl)) (by (first | assumption | omega)) (by (first | assumption | omega))) ?_
               first | refine Plan.qT rfl rfl (fun w S => Y.load rfl (loadRd1 sz_3 (S.rd 0 rfl) (by assumption) rfl)) ?_ | refine Plan.qT rfl rfl (fun w S => Y.load rfl (loadRd1 sz_3 (S.rd 1 rfl) (by assumption) rfl)) ?_ | refine Plan.qT rfl rfl (fun w S => Y.load rfl (loadRd1 sz_3 (S.rd 2 rfl) (by assumption) rfl)) ?_ | refine Plan.qT rfl rfl (fun w S => Y.load rfl (loadRd1 sz_3 (S.rd 3 rfl) (by assumption) rfl)) ?_ | refine Plan.qT rfl rfl (fun w S => Y.load rfl (loadRd1 sz_3 (S.rd 4 rfl) (by assumption) rfl)) ?_
               first | refine Plan.qT rfl rfl (fun w S => Y.subI rfl rfl (by omega)) ?_ | refine Plan.qT rfl rfl (fun w S => Y.sub rfl rfl) ?_
               refine Plan.qT rfl rfl (fun w S => Y.eql rfl rfl) ?_
               refine Plan.q rfl (fun w S => Y.pickF (u := .bool _) rfl rfl) ?_
               refine Plan.q rfl (fun w S => Y.assign (v := .bool _) rfl) ?_
               refine Plan.nil (fun w S => ?_)
               replace S : Sat _ _ _ := S
               refine InB.nx ?_
               refine Then.nx ?_
               refine W.region rfl ?_
               refine WO.q (Y.move (v := .int .i64 _) rfl) ?_
               first | refine WO.q (Y.addI rfl rfl (by omega)) ?_ | refine WO.q (Y.add rfl rfl) ?_
               refine WO.q (Y.assign (v := .int .i64 _) rfl) ?_
               refine WO.nil ?_
               refine Then.nx ⟨?_, ?_, ?_⟩
               ·
                (repeat (first | exact Out.hav _ _ _ | exact Out.refl _ _ | refine Out.up rfl ?_ | refine Out.sub rfl ?_))
               ·
                first | exact ⟨k + 1, rfl, by (rw [belowB_succ hq0, (show belowB (lvF f) (levM f.lets i) (needL x i) k = true by assumption), Bool.true_or]; rfl), by omega, S.pk (by repeat (first | exact Pk.nil _ | exact Pk.refl _ | refine Pk.cons 0 rfl ?_ | refine Pk.cons 1 rfl ?_ | refine Pk.cons 2 rfl ?_ | refine Pk.cons 3 rfl ?_ | refine Pk.cons 4 rfl ?_ | refine Pk.cons 5 rfl ?_ | refine Pk.cons 6 rfl ?_ | refine Pk.cons 7 rfl ?_ | refine Pk.cons 8 rfl ?_ | refine Pk.cons 9 rfl ?_ | refine Pk.cons 10 rfl ?_ | refine Pk.cons 11 rfl ?_ | refine Pk.cons 12 rfl ?_ | refine Pk.cons 13 rfl ?_ | refine Pk.drop ?_))⟩ | exact ⟨k + 1, rfl, by (rw [belowB_succ hq0, (show belowB (lvF f) (levM f.lets i) (needL x i) k = false by assumption), Bool.false_or]; rfl), by omega, S.pk (by repeat (first | exact Pk.nil _ | exact Pk.refl _ | refine Pk.cons 0 rfl ?_ | refine Pk.cons 1 rfl ?_ | refine Pk.cons 2 rfl ?_ | refine Pk.cons 3 rfl ?_ | refine Pk.cons 4 rfl ?_ | refine Pk.cons 5 rfl ?_ | refine Pk.cons 6 rfl ?_ | refine Pk.cons 7 rfl ?_ | refine Pk.cons 8 rfl ?_ | refine Pk.cons 9 rfl ?_ | refine Pk.cons 10 rfl ?_ | refine Pk.cons 11 rfl ?_ | refine Pk.cons 12 rfl ?_ | refine Pk.cons 13 rfl ?_ | refine Pk.drop ?_))⟩
               ·
                (show (needL x i).length - (k + 1) < (needL x i).length - k; omega)
        ·
         have rh7 := h7
         (try simp only [Q1, Q2, Q3, Q4, Q5, Q6, Q7, Q8, Q9, Qa] at h7)
         refine W.exit ?_
         refine Then.x ?_
         refine Then.x ?_
         refine InB.e ?_
         refine Then.nx ?_
         refine W.seq ?_
         have hbe := below_end hx
         obtain rfl : k = (needL x i).length := by omega
         refine W.region rfl ?_
         refine WO.q (Y.move (v := .bool _) rfl) ?_
         refine WO.q (Y.not rfl) ?_
         refine WO.nil ?_
         refine Then.nx ?_
         refine W.cond rfl (fun h18 => ?_) (fun h18 => ?_) -- cond 7
         ·
          have rh18 := h18
          (try simp only [Q1, Q2, Q3, Q4, Q5, Q6, Q7, Q8, Q9, Qa] at h18)
          rw [hbe] at h18; cases h18
         ·
          have rh18 := h18
          (try simp only [Q1, Q2, Q3, Q4, Q5, Q6, Q7, Q8, Q9, Qa] at h18)
          refine W.skip ?_
          refine InB.nx ?_
          refine Then.nx ?_
          refine W.region rfl ?_
          refine WO.q (Y.move (v := .int .i64 _) rfl) ?_
          first | refine WO.q (Y.addI rfl rfl (by omega)) ?_ | refine WO.q (Y.add rfl rfl) ?_
          refine WO.q (Y.assign (v := .int .i64 _) rfl) ?_
          refine WO.nil ?_
          refine Then.nx ⟨?_, ?_, ?_⟩
          ·
           (repeat (first | exact Out.hav _ _ _ | exact Out.refl _ _ | refine Out.up rfl ?_ | refine Out.sub rfl ?_))
          ·
           exact ⟨i + 1, rfl, by omega, S.pk (by repeat (first | exact Pk.nil _ | exact Pk.refl _ | refine Pk.cons 0 rfl ?_ | refine Pk.cons 1 rfl ?_ | refine Pk.cons 2 rfl ?_ | refine Pk.cons 3 rfl ?_ | refine Pk.cons 4 rfl ?_ | refine Pk.cons 5 rfl ?_ | refine Pk.cons 6 rfl ?_ | refine Pk.cons 7 rfl ?_ | refine Pk.cons 8 rfl ?_ | refine Pk.cons 9 rfl ?_ | refine Pk.cons 10 rfl ?_ | refine Pk.cons 11 rfl ?_ | refine Pk.cons 12 rfl ?_ | refine Pk.cons 13 rfl ?_ | refine Pk.drop ?_))⟩
          ·
           (show f.lets.length - (i + 1) < f.lets.length - i; omega)
     ·
      have rh5 := h5
      (try simp only [Q1, Q2, Q3, Q4, Q5, Q6, Q7, Q8, Q9, Qa] at h5)
      refine W.exit ?_
      refine Then.x ?_
      refine Then.x ?_
      refine InB.e ?_
      refine Then.nx ?_
      refine W.seq ?_
      refine W.seq ?_
      refine W.region rfl ?_
      refine WO.q (Y.move (v := .int .i64 _) rfl) ?_
      refine WO.q (Y.neq rfl rfl) ?_
      refine WO.q (Y.move (v := .bool _) rfl) ?_
      refine WO.splitB (fun h19 => ?_) (fun h19 => ?_)
      ·
       (try simp only [Q1, Q2, Q3, Q4, Q5, Q6, Q7, Q8, Q9, Qa] at h19)
       refine WO.qF rfl ?_
       refine WO.qF rfl ?_
       refine WO.q (Y.pickT (u := .bool _) rfl rfl) ?_
       refine WO.q (Y.move (v := .bool _) rfl) ?_
       refine WO.qF rfl ?_
       refine WO.qF rfl ?_
       refine WO.qF rfl ?_
       refine WO.qF rfl ?_
       refine WO.qF rfl ?_
       refine WO.q (Y.pickT (u := .bool _) rfl rfl) ?_
       refine WO.nil ?_
       refine Then.nx ?_
       first | refine W.condT rfl ?_ | refine W.condT (congrArg Value.bool (by assumption)) ?_
       refine W.seq ?_
       refine W.region rfl ?_
       refine WO.e (O.call cf_6 rfl (livesG_spec _) ?_)
       rintro _ w ⟨rfl, E⟩
       replace S := S.keep E
       refine ⟨_, rfl, ?_⟩
       refine WO.q (Y.assign (v := .bool _) rfl) ?_
       refine WO.nil ?_
       refine Then.nx ?_
       refine W.ret ?_
       refine Then.r ?_
       refine BodyQ.ret1 Try.results4 (ResV.tmp _ rfl) ?_
       first | exact ⟨rfl, S.ext⟩ | (exfalso; omega) | (exfalso; contradiction)
      ·
       (try simp only [Q1, Q2, Q3, Q4, Q5, Q6, Q7, Q8, Q9, Qa] at h19)
       refine WO.qT rfl (Y.move (v := .int .i64 _) rfl) ?_
       refine WO.qT rfl (Y.lss rfl rfl) ?_
       refine WO.q (Y.pickF (u := .bool _) rfl rfl) ?_
       refine WO.q (Y.move (v := .bool _) rfl) ?_
       refine WO.splitB (fun h20 => ?_) (fun h20 => ?_)
       ·
        (try simp only [Q1, Q2, Q3, Q4, Q5, Q6, Q7, Q8, Q9, Qa] at h20)
        refine WO.qF rfl ?_
        refine WO.qF rfl ?_
        refine WO.qF rfl ?_
        refine WO.qF rfl ?_
        refine WO.qF rfl ?_
        refine WO.q (Y.pickT (u := .bool _) rfl rfl) ?_
        refine WO.nil ?_
        refine Then.nx ?_
        first | refine W.condT rfl ?_ | refine W.condT (congrArg Value.bool (by assumption)) ?_
        refine W.seq ?_
        refine W.region rfl ?_
        refine WO.e (O.call cf_6 rfl (livesG_spec _) ?_)
        rintro _ w ⟨rfl, E⟩
        replace S := S.keep E
        refine ⟨_, rfl, ?_⟩
        refine WO.q (Y.assign (v := .bool _) rfl) ?_
        refine WO.nil ?_
        refine Then.nx ?_
        refine W.ret ?_
        refine Then.r ?_
        refine BodyQ.ret1 Try.results4 (ResV.tmp _ rfl) ?_
        first | exact ⟨rfl, S.ext⟩ | (exfalso; omega) | (exfalso; contradiction)
       ·
        (try simp only [Q1, Q2, Q3, Q4, Q5, Q6, Q7, Q8, Q9, Qa] at h20)
        refine WO.qT rfl (Y.move (v := .int .i64 _) rfl) ?_
        refine WO.qT rfl (Y.fieldB fo_25_0 rfl) ?_
        first | refine WO.qT rfl (Y.load rfl (loadS1 sz_22 S 0 rfl rfl)) ?_ | refine WO.qT rfl (Y.load rfl (loadS1 sz_22 S 1 rfl rfl)) ?_ | refine WO.qT rfl (Y.load rfl (loadS1 sz_22 S 2 rfl rfl)) ?_ | refine WO.qT rfl (Y.load rfl (loadS1 sz_22 S 3 rfl rfl)) ?_ | refine WO.qT rfl (Y.load rfl (loadS1 sz_22 S 4 rfl rfl)) ?_ | refine WO.qT rfl (Y.load rfl (loadS1 sz_22 S 5 rfl rfl)) ?_ | refine WO.qT rfl (Y.load rfl (loadS1 sz_22 S 6 rfl rfl)) ?_ | refine WO.qT rfl (Y.load rfl (loadS1 sz_22 S 7 rfl rfl)) ?_
        refine WO.qT rfl (Y.len (t' := 0) Try.underlying22 rfl) ?_
        refine WO.qT rfl (Y.gtr rfl rfl) ?_
        refine WO.q (Y.pickF (u := .bool _) rfl rfl) ?_
        refine WO.nil ?_
        refine Then.nx ?_
        refine W.cond rfl (fun h21 => ?_) (fun h21 => ?_) -- cond 8
        ·
         have rh21 := h21
         (try simp only [Q1, Q2, Q3, Q4, Q5, Q6, Q7, Q8, Q9, Qa] at h21)
         refine W.seq ?_
         refine W.region rfl ?_
         refine WO.e (O.call cf_6 rfl (livesG_spec _) ?_)
         rintro _ w ⟨rfl, E⟩
         replace S := S.keep E
         refine ⟨_, rfl, ?_⟩
         refine WO.q (Y.assign (v := .bool _) rfl) ?_
         refine WO.nil ?_
         refine Then.nx ?_
         refine W.ret ?_
         refine Then.r ?_
         refine BodyQ.ret1 Try.results4 (ResV.tmp _ rfl) ?_
         first | exact ⟨rfl, S.ext⟩ | (exfalso; omega) | (exfalso; contradiction)
        ·
         have rh21 := h21
         (try simp only [Q1, Q2, Q3, Q4, Q5, Q6, Q7, Q8, Q9, Qa] at h21)
         refine W.skip ?_
         refine Then.nx ?_
         refine W.seq ?_
         have ho := hpo (by omega)
         have hol := ho.len
         obtain ⟨k, rfl⟩ := Int.eq_ofNat_of_zero_le (show 0 ≤ n by omega)
         have htk : (f.lets.take k).length = k := by (rw [List.length_take]; omega)
         have htk2 : (l.take k).length = k := by (rw [List.length_take]; omega)
         refine W.region rfl ?_
         refine WO.q (Y.fieldB fo_25_0 rfl) ?_
         first | refine WO.q (Y.load rfl (loadS1 sz_22 S 0 rfl rfl)) ?_ | refine WO.q (Y.load rfl (loadS1 sz_22 S 1 rfl rfl)) ?_ | refine WO.q (Y.load rfl (loadS1 sz_22 S 2 rfl rfl)) ?_ | refine WO.q (Y.load rfl (loadS1 sz_22 S 3 rfl rfl)) ?_ | refine WO.q (Y.load rfl (loadS1 sz_22 S 4 rfl rfl)) ?_ | refine WO.q (Y.load rfl (loadS1 sz_22 S 5 rfl rfl)) ?_ | refine WO.q (Y.load rfl (loadS1 sz_22 S 6 rfl rfl)) ?_ | refine WO.q (Y.load rfl (loadS1 sz_22 S 7 rfl rfl)) ?_
         refine WO.q (Y.move (v := .int .i64 _) rfl) ?_
         refine WO.q (Y.sliceH (h := (f.lets.take k).length) sl_22 rfl (by (rw [htk]; rfl)) (by omega)) ?_
         refine WO.e (O.call cf_16 rfl (CopyLets_spec _ (f.lets.take k) (raws.take k) v.la v.lc ((R1.ext S.ext).take k) ((hraw.ext S.ext).take k) (by omega) (fun i x hx => by (rw [List.getElem?_take] at hx; split at hx; (have := hw3 i x hx; omega); cases hx))) ?_)
         rintro _ w ⟨a154, c154, rw154, M154, rfl, hk154, hr154, S154⟩
         replace S := S.trans S154
         refine ⟨_, rfl, ?_⟩
         refine WO.q (Y.build rfl (bld_25_0)) ?_
         refine WO.e (O.alloc z_25 S (fun b16 w S => ?_))
         first | refine WO.e0 (O.store (v := .agg _) 0 S rfl rfl rfl sz_25 rfl rfl rfl rfl (fun w S => ?_)) | refine WO.e0 (O.store (v := .agg _) 1 S rfl rfl rfl sz_25 rfl rfl rfl rfl (fun w S => ?_)) | refine WO.e0 (O.store (v := .agg _) 2 S rfl rfl rfl sz_25 rfl rfl rfl rfl (fun w S => ?_)) | refine WO.e0 (O.store (v := .agg _) 3 S rfl rfl rfl sz_25 rfl rfl rfl rfl (fun w S => ?_)) | refine WO.e0 (O.store (v := .agg _) 4 S rfl rfl rfl sz_25 rfl rfl rfl rfl (fun w S => ?_)) | refine WO.e0 (O.store (v := .agg _) 5 S rfl rfl rfl sz_25 rfl rfl rfl rfl (fun w S => ?_)) | refine WO.e0 (O.store (v := .agg _) 6 S rfl rfl rfl sz_25 rfl rfl rfl rfl (fun w S => ?_)) | refine WO.e0 (O.store (v := .agg _) 7 S rfl rfl rfl sz_25 rfl rfl rfl rfl (fun w S => ?_))
         refine WO.nil ?_
         refine Then.nx ?_
         refine W.seq ?_
         refine W.seq ?_
         refine W.region rfl ?_
         refine WO.q (Y.assign (v := .int .i64 _) rfl) ?_
         refine WO.nil ?_
         refine Then.nx ?_
         refine W.block ?_
         -- loop 2 carries 17:i
         refine W.loop1 [17, 156, 157, 158, 159, 160, 161, 162, 163, 164, 165, 166, 167, 168, 169, 170, 171, 172, 173, 174, 175, 176, 177, 178, 179, 180, 181, 182, 183, 184, 185] 17 (fun v17 w => ∃ (i : Nat) (ra2 : List RLet), v17 = .int .i64 (i : Int) ∧ i ≤ k ∧ RawIn M154 ra2 (ren (f.lets.take k) i) ∧ Sat w0 w [Cel b16 [.slice a154 (f.lets.take k).length c154, .slice none 0 0] 25, Own tRLet 51 a154 c154 ra2, M154, Own tEnd 30 a27 c27 l, Cel b4 (tMaker.enc m) 27, Cel b3 (fL v f) 25]) (fun v17 w => k - (intOf v17).toNat) ?_ ?_
         ·
          exact ⟨0, rw154, rfl, Nat.zero_le _, by (rw [ren_zero]; exact hr154), S.pk (by repeat (first | exact Pk.nil _ | exact Pk.refl _ | refine Pk.cons 0 rfl ?_ | refine Pk.cons 1 rfl ?_ | refine Pk.cons 2 rfl ?_ | refine Pk.cons 3 rfl ?_ | refine Pk.cons 4 rfl ?_ | refine Pk.cons 5 rfl ?_ | refine Pk.cons 6 rfl ?_ | refine Pk.cons 7 rfl ?_ | refine Pk.cons 8 rfl ?_ | refine Pk.cons 9 rfl ?_ | refine Pk.cons 10 rfl ?_ | refine Pk.cons 11 rfl ?_ | refine Pk.cons 12 rfl ?_ | refine Pk.cons 13 rfl ?_ | refine Pk.drop ?_))⟩
         ·
          rintro g2 v17 w ⟨i, ra2, rfl, hi, hrw, S⟩
          refine W.seq ?_
          refine W.seq ?_
          refine W.region rfl ?_
          refine WO.q (Y.move (v := .int .i64 _) rfl) ?_
          refine WO.q (Y.move (v := .int .i64 _) rfl) ?_
          refine WO.q (Y.lss rfl rfl) ?_
          refine WO.nil ?_
          refine Then.nx ?_
          refine W.cond rfl (fun h22 => ?_) (fun h22 => ?_) -- cond 9
          ·
           have rh22 := h22
           (try simp only [Q1, Q2, Q3, Q4, Q5, Q6, Q7, Q8, Q9, Qa] at h22)
           refine W.skip ?_
           refine Then.nx ?_
           refine W.seq ?_
           refine W.block ?_
           have hrl := hrw.1
           have hrl2 := ren_len (f.lets.take k) i
           have hgr := (S.rd (T := tRLet) (e := 51) (xs := ra2) 1 rfl).1 (by omega)
           obtain ⟨rr, hrr⟩ := at_ex (xs := ra2) (k := i) (by omega)
           obtain ⟨y, hy⟩ := at_ex (xs := ren (f.lets.take k) i) (k := i) (by omega)
           refine W.region rfl ?_
           refine WO.q (Y.fieldB fo_25_0 rfl) ?_
           first | refine WO.q (Y.load rfl (loadS1 sz_22 S 0 rfl rfl)) ?_ | refine WO.q (Y.load rfl (loadS1 sz_22 S 1 rfl rfl)) ?_ | refine WO.q (Y.load rfl (loadS1 sz_22 S 2 rfl rfl)) ?_ | refine WO.q (Y.load rfl (loadS1 sz_22 S 3 rfl rfl)) ?_ | refine WO.q (Y.load rfl (loadS1 sz_22 S 4 rfl rfl)) ?_ | refine WO.q (Y.load rfl (loadS1 sz_22 S 5 rfl rfl)) ?_ | refine WO.q (Y.load rfl (loadS1 sz_22 S 6 rfl rfl)) ?_ | refine WO.q (Y.load rfl (loadS1 sz_22 S 7 rfl rfl)) ?_
           refine WO.q (Y.move (v := .int .i64 _) rfl) ?_
           refine WO.q (Y.move (v := .int .i64 _) rfl) ?_
           refine WO.q (Y.remN (x := i) (y := 9) rfl rfl (by omega)) ?_
           first | refine WO.q (Y.addI rfl rfl (by omega)) ?_ | refine WO.q (Y.add rfl rfl) ?_
           obtain ⟨z1, hz1⟩ : ∃ z : Int, z = (113 : Int) + ((i % 9 : Nat) : Int) := ⟨_, rfl⟩
           refine WO.q (Y.convI32z z1 ⟨_, Try.underlying3⟩ Try.underlying21 rfl hz1 (by omega)) ?_
           obtain ⟨s1, hs1⟩ : ∃ s : List UInt8, s = [nm1 (16 + i % 9)] := ⟨_, rfl⟩
           have hsl1 : s1.length = 1 := by rw [hs1]; rfl
           refine WO.q (Y.convR (v := .string ⟨s1.toArray⟩) rfl (by rw [hs1]; exact runeX _ (16 + i % 9) z1 (by omega) (by omega))) ?_
           refine WO.q (Y.addS (a := s1) (b := [95]) rfl rfl (by simp [hsl1])) ?_
           refine WO.q (Y.move (v := .int .i64 _) rfl) ?_
           refine WO.q (Y.quoN (x := i) (y := 9) rfl rfl (by omega) (by omega)) ?_
           refine WO.q (Y.remN (x := i / 9) (y := 26) rfl rfl (by omega)) ?_
           first | refine WO.q (Y.addI rfl rfl (by omega)) ?_ | refine WO.q (Y.add rfl rfl) ?_
           obtain ⟨z2, hz2⟩ : ∃ z : Int, z = (97 : Int) + ((i / 9 % 26 : Nat) : Int) := ⟨_, rfl⟩
           refine WO.q (Y.convI32z z2 ⟨_, Try.underlying3⟩ Try.underlying21 rfl hz2 (by omega)) ?_
           obtain ⟨s2, hs2⟩ : ∃ s : List UInt8, s = [nm1 (i / 9 % 26)] := ⟨_, rfl⟩
           have hsl2 : s2.length = 1 := by rw [hs2]; rfl
           refine WO.q (Y.convR (v := .string ⟨s2.toArray⟩) rfl (by rw [hs2]; exact runeX _ (i / 9 % 26) z2 (by omega) (by omega))) ?_
           refine WO.q (Y.addS (a := s1 ++ [95]) (b := s2) rfl rfl (by simp [hsl1, hsl2])) ?_
           refine WO.q (Y.move (v := .int .i64 _) rfl) ?_
           refine WO.q (Y.quoN (x := i) (y := 234) rfl rfl (by omega) (by omega)) ?_
           refine WO.q (Y.remN (x := i / 234) (y := 26) rfl rfl (by omega)) ?_
           first | refine WO.q (Y.addI rfl rfl (by omega)) ?_ | refine WO.q (Y.add rfl rfl) ?_
           obtain ⟨z3, hz3⟩ : ∃ z : Int, z = (97 : Int) + ((i / 234 % 26 : Nat) : Int) := ⟨_, rfl⟩
           refine WO.q (Y.convI32z z3 ⟨_, Try.underlying3⟩ Try.underlying21 rfl hz3 (by omega)) ?_
           obtain ⟨s3, hs3⟩ : ∃ s : List UInt8, s = [nm1 (i / 234 % 26)] := ⟨_, rfl⟩
           have hsl3 : s3.length = 1 := by rw [hs3]; rfl
           refine WO.q (Y.convR (v := .string ⟨s3.toArray⟩) rfl (by rw [hs3]; exact runeX _ (i / 234 % 26) z3 (by omega) (by omega))) ?_
           refine WO.q (Y.addS (a := s1 ++ [95] ++ s2) (b := s3) rfl rfl (by simp [hsl1, hsl2, hsl3])) ?_
           first | refine WO.q (Y.ixN sl_22 rfl rfl (by (first | assumption | rfl)) (by (first | assumption | omega))) ?_ | refine WO.q (Y.ix sl_22 rfl rfl (by (first | assumption | rfl)) (by (first | assumption | omega)) (by (first | assumption | omega))) ?_
           refine WO.q (Y.fieldE fo_51_0 rfl) ?_
           refine WO.e0 (O.storeFld (v := .string (nameG i)) 1 ⟨nameG i, rr.hdr, rr.at_⟩ S rfl rfl hrr (by decide) (by (show Value.string ⟨(s1 ++ [95] ++ s2 ++ s3).toArray⟩ = _; rw [hs1, hs2, hs3]; rfl)) sz_9 rfl rfl rfl (fun w S => ?_))
           refine WO.nil ?_
           refine InB.nx ?_
           refine Then.nx ?_
           refine W.region rfl ?_
           refine WO.q (Y.move (v := .int .i64 _) rfl) ?_
           first | refine WO.q (Y.addI rfl rfl (by omega)) ?_ | refine WO.q (Y.add rfl rfl) ?_
           refine WO.q (Y.assign (v := .int .i64 _) rfl) ?_
           refine WO.nil ?_
           refine Then.nx ⟨?_, ?_, ?_⟩
           ·
            (repeat (first | exact Out.hav _ _ _ | exact Out.refl _ _ | refine Out.up rfl ?_ | refine Out.sub rfl ?_))
           ·
            exact ⟨i + 1, _, rfl, by omega, (by (rw [← ren_succ hy]; exact hrw.rename hrr hy (nameG i))), S.pk (by repeat (first | exact Pk.nil _ | exact Pk.refl _ | refine Pk.cons 0 rfl ?_ | refine Pk.cons 1 rfl ?_ | refine Pk.cons 2 rfl ?_ | refine Pk.cons 3 rfl ?_ | refine Pk.cons 4 rfl ?_ | refine Pk.cons 5 rfl ?_ | refine Pk.cons 6 rfl ?_ | refine Pk.cons 7 rfl ?_ | refine Pk.cons 8 rfl ?_ | refine Pk.cons 9 rfl ?_ | refine Pk.cons 10 rfl ?_ | refine Pk.cons 11 rfl ?_ | refine Pk.cons 12 rfl ?_ | refine Pk.cons 13 rfl ?_ | refine Pk.drop ?_))⟩
           ·
            (show k - (i + 1) < k - i; omega)
          ·
           have rh22 := h22
           (try simp only [Q1, Q2, Q3, Q4, Q5, Q6, Q7, Q8, Q9, Qa] at h22)
           refine W.exit ?_
           refine Then.x ?_
           refine Then.x ?_
           refine InB.e ?_
           refine Then.nx ?_
           refine W.seq ?_
           obtain rfl : i = k := by omega
           have hcr := (S.ownLen 1 rfl).1
           have e9 : (f.lets.take i).length = (renF f i).lets.length := (ren_len _ _).symm
           rw [e9] at S
           refine W.region rfl ?_
           first | refine WO.q (Y.load rfl (loadSN sz_25 S 0 rfl rfl rfl)) ?_ | refine WO.q (Y.load rfl (loadSN sz_25 S 1 rfl rfl rfl)) ?_ | refine WO.q (Y.load rfl (loadSN sz_25 S 2 rfl rfl rfl)) ?_ | refine WO.q (Y.load rfl (loadSN sz_25 S 3 rfl rfl rfl)) ?_ | refine WO.q (Y.load rfl (loadSN sz_25 S 4 rfl rfl rfl)) ?_ | refine WO.q (Y.load rfl (loadSN sz_25 S 5 rfl rfl rfl)) ?_ | refine WO.q (Y.load rfl (loadSN sz_25 S 6 rfl rfl rfl)) ?_ | refine WO.q (Y.load rfl (loadSN sz_25 S 7 rfl rfl rfl)) ?_
           first | refine WO.q (Y.load rfl (loadSN sz_27 S 0 rfl rfl rfl)) ?_ | refine WO.q (Y.load rfl (loadSN sz_27 S 1 rfl rfl rfl)) ?_ | refine WO.q (Y.load rfl (loadSN sz_27 S 2 rfl rfl rfl)) ?_ | refine WO.q (Y.load rfl (loadSN sz_27 S 3 rfl rfl rfl)) ?_ | refine WO.q (Y.load rfl (loadSN sz_27 S 4 rfl rfl rfl)) ?_ | refine WO.q (Y.load rfl (loadSN sz_27 S 5 rfl rfl rfl)) ?_ | refine WO.q (Y.load rfl (loadSN sz_27 S 6 rfl rfl rfl)) ?_ | refine WO.q (Y.load rfl (loadSN sz_27 S 7 rfl rfl rfl)) ?_
           refine WO.e (O.call cf_7 rfl (Plain_spec _ _ [] ⟨a154, c154, none, 0⟩ (renF f i) m (rdRen (S.rd 1 rfl) (S.rawOk 2 rfl hrw) hcr hR.small) (Sat.refl _)) ?_)
           rintro _ w ⟨a189, c189, rfl, S189⟩
           rw [renF_plain1 ho (by omega) (by omega)] at S189
           rw [renF_plain1 ho (by omega) (by omega), renF_plain2 ho (by omega) (by omega)]
           replace S := S.trans S189
           refine ⟨_, rfl, ?_⟩
           refine WO.q (Y.move (v := .tuple _) rfl) ?_
           refine WO.q (Y.extract (v := .slice _ _ _) rfl rfl) ?_
           refine WO.q (Y.extract (v := .int .i64 _) rfl rfl) ?_
           refine WO.q (Y.assign (v := .slice _ _ _) rfl) ?_
           refine WO.q (Y.assign (v := .int .i64 _) rfl) ?_
           refine WO.nil ?_
           refine Then.nx ?_
           refine W.seq ?_
           have hca := (S.ownLen 0 rfl).1
           have hcl := (S.ownLen (T := tEnd) (e := 30) (xs := l) 4 rfl).1
           refine W.region rfl ?_
           refine WO.q (Y.move (v := .int .i64 _) rfl) ?_
           refine WO.q (Y.eql rfl rfl) ?_
           refine WO.q (Y.move (v := .bool _) rfl) ?_
           refine WO.splitB (fun h23 => ?_) (fun h23 => ?_)
           ·
            (try simp only [Q1, Q2, Q3, Q4, Q5, Q6, Q7, Q8, Q9, Qa] at h23)
            refine WO.qT rfl (Y.move (v := .slice _ _ _) rfl) ?_
            refine WO.qT rfl (Y.move (v := .slice _ _ _) rfl) ?_
            refine WO.qT rfl (Y.move (v := .int .i64 _) rfl) ?_
            refine WO.qT rfl (Y.sliceH (h := (l.take i).length) sl_33 rfl (by (rw [htk2]; rfl)) (by omega)) ?_
            refine WO.eT rfl (O.call cf_17 rfl (EqEnds_spec _ a189 a27 c189 c27 (l.take i) (l.take i) (S.rd 0 rfl) ((S.rd (xs := l) 4 rfl).take i) (by omega)) ?_)
            rintro _ w ⟨rfl, E⟩
            replace S := S.keep E
            refine ⟨_, rfl, ?_⟩
            refine WO.q (Y.pickT (u := .bool _) rfl rfl) ?_
            refine WO.q (Y.move (v := .bool _) rfl) ?_
            refine WO.splitB (fun h24 => ?_) (fun h24 => ?_)
            ·
             (try simp only [Q1, Q2, Q3, Q4, Q5, Q6, Q7, Q8, Q9, Qa] at h24)
             refine WO.eT rfl (O.call cf_6 rfl (livesG_spec _) ?_)
             rintro _ w ⟨rfl, E⟩
             replace S := S.keep E
             refine ⟨_, rfl, ?_⟩
             refine WO.q (Y.pickT (u := .bool _) rfl rfl) ?_
             refine WO.q (Y.assign (v := .bool _) rfl) ?_
             refine WO.nil ?_
             refine Then.nx ?_
             refine W.ret ?_
             refine BodyQ.ret1 Try.results4 (ResV.tmp _ rfl) ?_
             first | exact ⟨rfl, S.ext⟩ | (exfalso; omega) | (exfalso; contradiction)
            ·
             (try simp only [Q1, Q2, Q3, Q4, Q5, Q6, Q7, Q8, Q9, Qa] at h24)
             refine WO.qF rfl ?_
             refine WO.q (Y.pickF (u := .bool _) rfl rfl) ?_
             refine WO.q (Y.assign (v := .bool _) rfl) ?_
             refine WO.nil ?_
             refine Then.nx ?_
             refine W.ret ?_
             refine BodyQ.ret1 Try.results4 (ResV.tmp _ rfl) ?_
             first | exact ⟨rfl, S.ext⟩ | (exfalso; omega) | (exfalso; contradiction)
           ·
            (try simp only [Q1, Q2, Q3, Q4, Q5, Q6, Q7, Q8, Q9, Qa] at h23)
            refine WO.qF rfl ?_
            refine WO.qF rfl ?_
            refine WO.qF rfl ?_
            refine WO.qF rfl ?_
            refine WO.qF rfl ?_
            refine WO.q (Y.pickF (u := .bool _) rfl rfl) ?_
            refine WO.q (Y.move (v := .bool _) rfl) ?_
            refine WO.qF rfl ?_
            refine WO.q (Y.pickF (u := .bool _) rfl rfl) ?_
            refine WO.q (Y.assign (v := .bool _) rfl) ?_
            refine WO.nil ?_
            refine Then.nx ?_
            refine W.ret ?_
            refine BodyQ.ret1 Try.results4 (ResV.tmp _ rfl) ?_
            first | exact ⟨rfl, S.ext⟩ | (exfalso; omega) | (exfalso; contradiction)
end Go.Proofs
