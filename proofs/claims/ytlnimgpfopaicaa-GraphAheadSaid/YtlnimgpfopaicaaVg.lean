/-
  Walks of SizeFlow, wideG, CopyLet, CopyLets, CopyFlow.
-/
import Derived.Test.YtlnimgpfopaicaaGh
import Derived.Test.YtlnimgpfopaicaaFa
import Derived.Test.YtlnimgpfopaicaaFb
import Derived.Test.YtlnimgpfopaicaaVf
set_option linter.unusedVariables false
set_option linter.unusedSimpArgs false
set_option maxRecDepth 100000
set_option maxHeartbeats 1000000
namespace Go.Proofs
open Go Go.TL Go.RowKit
theorem SizeFlow_spec (w0 : World) (v : FIn) (f : GFlow) (raws : List RLet) (R1 : Rd tRLet w0 v.la raws) (hraw : RawOk w0 raws f.lets) (hlm : f.lets.length ≤ 140737488355328) (hom : f.outs.length ≤ 140737488355328) :
    Calls Try.prog 19 [.agg (fL v f).toArray].toArray w0 (fun r w => ∃ z : Int, r = .returned (.int .i64 z) ∧ (2147483647 < f.lets.length + f.outs.length → 2147483647 < z) ∧ Ext w0 w) := by
 have S := Sat.refl w0
 have hrl := hraw.1
 refine calls_of_W (args := [.agg (fL v f).toArray]) 41 Try.func19 rfl Try.ntmps19 rfl ?_
 refine W.seq ?_
 refine W.region rfl ?_
 refine WO.e (O.box rfl rfl S (fun b1 w S => ?_))
 refine WO.q (Y.assign (v := .int .i64 _) rfl) ?_
 refine WO.nil ?_
 refine Then.nx ?_
 refine W.seq ?_
 refine W.region rfl ?_
 refine WO.q (Y.fieldB fo_25_0 rfl) ?_
 first | refine WO.q (Y.load rfl (loadS1 sz_22 S 0 rfl rfl)) ?_ | refine WO.q (Y.load rfl (loadS1 sz_22 S 1 rfl rfl)) ?_
 refine WO.q (Y.len (t' := 0) Try.underlying22 rfl) ?_
 refine WO.q (Y.fieldB fo_25_1 rfl) ?_
 first | refine WO.q (Y.load rfl (loadS1 sz_23 S 0 rfl rfl)) ?_ | refine WO.q (Y.load rfl (loadS1 sz_23 S 1 rfl rfl)) ?_
 refine WO.q (Y.len (t' := 0) Try.underlying23 rfl) ?_
 first | refine WO.q (Y.addI rfl rfl (by omega)) ?_ | refine WO.q (Y.add rfl rfl) ?_
 refine WO.q (Y.assign (v := .int .i64 _) rfl) ?_
 refine WO.nil ?_
 refine Then.nx ?_
 refine W.seq ?_
 refine W.seq ?_
 refine W.region rfl ?_
 refine WO.q (Y.assign (v := .int .i64 _) rfl) ?_
 refine WO.nil ?_
 refine Then.nx ?_
 refine W.block ?_
 -- loop 0 carries 3:n, 4:i
 refine W.loop2 [3, 4, 12, 13, 14, 15, 16, 17, 18, 19, 20, 21, 22, 23, 24, 25, 26, 27, 28, 29, 30, 31, 32, 33, 34, 35, 36, 37, 38, 39] 3 4 (fun v3 v4 w => ∃ (i : Nat) (z : Int), v4 = .int .i64 (i : Int) ∧ v3 = .int .i64 z ∧ i ≤ f.lets.length ∧ (2147483647 < f.lets.length + f.outs.length → z = (f.lets.length : Int) + (f.outs.length : Int)) ∧ Sat w0 w [Cel b1 (fL v f) 25]) (fun v3 v4 w => f.lets.length - (intOf v4).toNat) ?_ ?_
 ·
  exact ⟨0, _, rfl, rfl, Nat.zero_le _, fun _ => rfl, S⟩
 ·
  rintro g0 v3 v4 w ⟨i, z, rfl, rfl, hi, hz, S⟩
  refine W.seq ?_
  refine W.seq ?_
  refine W.region rfl ?_
  refine WO.q (Y.move (v := .int .i64 _) rfl) ?_
  refine WO.q (Y.fieldB fo_25_0 rfl) ?_
  first | refine WO.q (Y.load rfl (loadS1 sz_22 S 0 rfl rfl)) ?_ | refine WO.q (Y.load rfl (loadS1 sz_22 S 1 rfl rfl)) ?_
  refine WO.q (Y.len (t' := 0) Try.underlying22 rfl) ?_
  refine WO.q (Y.lss rfl rfl) ?_
  refine WO.q (Y.move (v := .bool _) rfl) ?_
  refine WO.splitB (fun h1 => ?_) (fun h1 => ?_)
  ·
   (try simp only [Q1, Q2, Q3, Q4, Q5, Q6, Q7, Q8, Q9, Qa] at h1)
   refine WO.qT rfl (Y.move (v := .int .i64 _) rfl) ?_
   refine WO.qT rfl (Y.leq rfl rfl) ?_
   refine WO.q (Y.pickT (u := .bool _) rfl rfl) ?_
   refine WO.nil ?_
   refine Then.nx ?_
   refine W.cond rfl (fun h2 => ?_) (fun h2 => ?_) -- cond 0
   ·
    have rh2 := h2
    (try simp only [Q1, Q2, Q3, Q4, Q5, Q6, Q7, Q8, Q9, Qa] at h2)
    refine W.skip ?_
    refine Then.nx ?_
    refine W.seq ?_
    refine W.block ?_
    have ha := R1.1 (by omega)
    obtain ⟨x, hx⟩ := at_ex (xs := f.lets) (k := i) (by omega)
    obtain ⟨ra, rc, hr, hrc, hrt⟩ := hraw.get hx
    refine W.draw (.q 0 (.q 1 (.q 2 (.q 3 (.q 4 (.q 5 (.q 6 (.q 7 (.q 8 (.q 9 (.q 10 (.q 11 (.q 12 (.q 13 (.q 14 (.q 15 (.q 16 (.q 17 .nil)))))))))))))))))) (fun w => Sat _ w _) rfl rfl (by kernel_rfl) rfl (by kernel_rfl) (by repeat (first | exact BodyQ.noFrame | refine Then.noFrame ?_ | refine InB.noFrame ?_)) S.drew ?_
    clear S
    refine Plan.q rfl (fun w S => Y.move (v := .int .i64 _) rfl) ?_
    refine Plan.q rfl (fun w S => Y.fieldB fo_25_0 rfl) ?_
    first | refine Plan.q rfl (fun w S => Y.load rfl (loadS1 sz_22 S 0 rfl rfl)) ?_ | refine Plan.q rfl (fun w S => Y.load rfl (loadS1 sz_22 S 1 rfl rfl)) ?_
    refine Plan.q rfl (fun w S => Y.move (v := .int .i64 _) rfl) ?_
    first | refine Plan.q rfl (fun w S => Y.ixN sl_22 rfl rfl (by (first | assumption | rfl)) (by (first | assumption | omega))) ?_ | refine Plan.q rfl (fun w S => Y.ix sl_22 rfl rfl (by (first | assumption | rfl)) (by (first | assumption | omega)) (by (first | assumption | omega))) ?_
    refine Plan.q rfl (fun w S => Y.fieldE fo_51_0 rfl) ?_
    refine Plan.q rfl (fun w S => Y.load rfl (loadRdF sz_9 (R1.ext S.ext) (by assumption) rfl)) ?_
    refine Plan.q rfl (fun w S => Y.lenS Try.underlying9 rfl) ?_
    refine Plan.q rfl (fun w S => Y.add rfl rfl) ?_
    refine Plan.q rfl (fun w S => Y.fieldB fo_25_0 rfl) ?_
    first | refine Plan.q rfl (fun w S => Y.load rfl (loadS1 sz_22 S 0 rfl rfl)) ?_ | refine Plan.q rfl (fun w S => Y.load rfl (loadS1 sz_22 S 1 rfl rfl)) ?_
    refine Plan.q rfl (fun w S => Y.move (v := .int .i64 _) rfl) ?_
    first | refine Plan.q rfl (fun w S => Y.ixN sl_22 rfl rfl (by (first | assumption | rfl)) (by (first | assumption | omega))) ?_ | refine Plan.q rfl (fun w S => Y.ix sl_22 rfl rfl (by (first | assumption | rfl)) (by (first | assumption | omega)) (by (first | assumption | omega))) ?_
    refine Plan.q rfl (fun w S => Y.fieldE fo_51_1 rfl) ?_
    refine Plan.q rfl (fun w S => Y.load rfl (loadRdF sz_49 (R1.ext S.ext) (by assumption) rfl)) ?_
    refine Plan.q rfl (fun w S => Y.len (t' := 0) Try.underlying49 rfl) ?_
    refine Plan.q rfl (fun w S => Y.add rfl rfl) ?_
    refine Plan.q rfl (fun w S => Y.assign (v := .int .i64 _) rfl) ?_
    refine Plan.nil (fun w S => ?_)
    replace S : Sat _ _ _ := S
    refine InB.nx ?_
    refine Then.nx ?_
    refine W.region rfl ?_
    refine WO.q (Y.move (v := .int .i64 _) rfl) ?_
    first | refine WO.q (Y.addI rfl rfl (by omega)) ?_ | refine WO.q (Y.add rfl rfl) ?_
    refine WO.q (Y.assign (v := .int .i64 _) rfl) ?_
    refine WO.nil ?_
    refine Then.nx ⟨?_, ?_, ?_⟩
    ·
     (repeat (first | exact Out.hav _ _ _ | exact Out.refl _ _ | refine Out.up rfl ?_ | refine Out.sub rfl ?_))
    ·
     exact ⟨i + 1, _, rfl, rfl, by omega, fun hh => absurd (hz hh) (by omega), S⟩
    ·
     (show f.lets.length - (i + 1) < f.lets.length - i; omega)
   ·
    have rh2 := h2
    (try simp only [Q1, Q2, Q3, Q4, Q5, Q6, Q7, Q8, Q9, Qa] at h2)
    refine W.exit ?_
    refine Then.x ?_
    refine Then.x ?_
    refine InB.e ?_
    refine Then.nx ?_
    refine W.seq ?_
    refine W.region rfl ?_
    refine WO.q (Y.move (v := .int .i64 _) rfl) ?_
    refine WO.q (Y.assign (v := .int .i64 _) rfl) ?_
    refine WO.nil ?_
    refine Then.nx ?_
    refine W.ret ?_
    refine BodyQ.ret1 Try.results19 (ResV.tmp _ rfl) ?_
    exact ⟨z, rfl, fun hh => by (have := hz hh; omega), S.ext⟩
  ·
   (try simp only [Q1, Q2, Q3, Q4, Q5, Q6, Q7, Q8, Q9, Qa] at h1)
   refine WO.qF rfl ?_
   refine WO.qF rfl ?_
   refine WO.q (Y.pickF (u := .bool _) rfl rfl) ?_
   refine WO.nil ?_
   refine Then.nx ?_
   first | refine W.condF rfl ?_ | refine W.condF (congrArg Value.bool (by assumption)) ?_
   refine W.exit ?_
   refine Then.x ?_
   refine Then.x ?_
   refine InB.e ?_
   refine Then.nx ?_
   refine W.seq ?_
   refine W.region rfl ?_
   refine WO.q (Y.move (v := .int .i64 _) rfl) ?_
   refine WO.q (Y.assign (v := .int .i64 _) rfl) ?_
   refine WO.nil ?_
   refine Then.nx ?_
   refine W.ret ?_
   refine BodyQ.ret1 Try.results19 (ResV.tmp _ rfl) ?_
   exact ⟨z, rfl, fun hh => by (have := hz hh; omega), S.ext⟩
theorem wideG_spec (w0 : World) (v : FIn) (f : GFlow) (raws : List RLet) (R1 : Rd tRLet w0 v.la raws) (hraw : RawOk w0 raws f.lets) (hlm : f.lets.length ≤ 140737488355328) (hom : f.outs.length ≤ 140737488355328) :
    Calls Try.prog 5 [.agg (fL v f).toArray].toArray w0 (fun r w => ∃ b : Bool, r = .returned (.bool b) ∧ (b = false → f.lets.length ≤ 256 ∧ f.outs.length ≤ 2147483647 ∧ ∀ (i : Nat) x, f.lets[i]? = some x → x.tree.length ≤ 1024) ∧ Ext w0 w) := by
 have S := Sat.refl w0
 have hrl := hraw.1
 have hlm2 := hlm
 have hom2 := hom
 refine calls_of_W (args := [.agg (fL v f).toArray]) 28 Try.func5 rfl Try.ntmps5 rfl ?_
 refine W.seq ?_
 refine W.region rfl ?_
 refine WO.e (O.box rfl rfl S (fun b1 w S => ?_))
 refine WO.q (Y.assign (v := .bool _) rfl) ?_
 refine WO.nil ?_
 refine Then.nx ?_
 refine W.seq ?_
 refine W.seq ?_
 refine W.region rfl ?_
 first | refine WO.q (Y.load rfl (loadSN sz_25 S 0 rfl rfl rfl)) ?_ | refine WO.q (Y.load rfl (loadSN sz_25 S 1 rfl rfl rfl)) ?_
 refine WO.e (O.call cf_19 rfl (SizeFlow_spec _ v f raws (R1.ext S.ext) (hraw.ext S.ext) hlm2 hom2) ?_)
 rintro _ w ⟨z, rfl, hz, E⟩
 replace S := S.keep E
 refine ⟨_, rfl, ?_⟩
 refine WO.e (O.call cf_18 rfl (Long_spec _ z) ?_)
 rintro _ w ⟨rfl, E⟩
 replace S := S.keep E
 refine ⟨_, rfl, ?_⟩
 refine WO.q (Y.move (v := .bool _) rfl) ?_
 refine WO.splitB (fun h1 => ?_) (fun h1 => ?_)
 ·
  (try simp only [Q1, Q2, Q3, Q4, Q5, Q6, Q7, Q8, Q9, Qa] at h1)
  refine WO.qF rfl ?_
  refine WO.qF rfl ?_
  refine WO.qF rfl ?_
  refine WO.qF rfl ?_
  refine WO.q (Y.pickT (u := .bool _) rfl rfl) ?_
  refine WO.nil ?_
  refine Then.nx ?_
  first | refine W.condT rfl ?_ | refine W.condT (congrArg Value.bool (by assumption)) ?_
  refine W.seq ?_
  refine W.region rfl ?_
  refine WO.q (Y.assign (v := .bool _) rfl) ?_
  refine WO.nil ?_
  refine Then.nx ?_
  refine W.ret ?_
  refine Then.r ?_
  refine BodyQ.ret1 Try.results5 (ResV.tmp _ rfl) ?_
  first | exact ⟨true, rfl, (fun hh => by cases hh), S.ext⟩ | exact ⟨false, rfl, fun _ => ⟨by omega, by (by_cases hh : 2147483647 < f.lets.length + f.outs.length; exact absurd (hz hh) (by omega); omega), fun j x hx => hall j x (by (have := at_lt hx; omega)) hx⟩, S.ext⟩
 ·
  (try simp only [Q1, Q2, Q3, Q4, Q5, Q6, Q7, Q8, Q9, Qa] at h1)
  refine WO.qT rfl (Y.fieldB fo_25_0 rfl) ?_
  first | refine WO.qT rfl (Y.load rfl (loadS1 sz_22 S 0 rfl rfl)) ?_ | refine WO.qT rfl (Y.load rfl (loadS1 sz_22 S 1 rfl rfl)) ?_
  refine WO.qT rfl (Y.len (t' := 0) Try.underlying22 rfl) ?_
  refine WO.qT rfl (Y.gtr rfl rfl) ?_
  refine WO.q (Y.pickF (u := .bool _) rfl rfl) ?_
  refine WO.nil ?_
  refine Then.nx ?_
  refine W.cond rfl (fun h2 => ?_) (fun h2 => ?_) -- cond 0
  ·
   have rh2 := h2
   (try simp only [Q1, Q2, Q3, Q4, Q5, Q6, Q7, Q8, Q9, Qa] at h2)
   refine W.seq ?_
   refine W.region rfl ?_
   refine WO.q (Y.assign (v := .bool _) rfl) ?_
   refine WO.nil ?_
   refine Then.nx ?_
   refine W.ret ?_
   refine Then.r ?_
   refine BodyQ.ret1 Try.results5 (ResV.tmp _ rfl) ?_
   first | exact ⟨true, rfl, (fun hh => by cases hh), S.ext⟩ | exact ⟨false, rfl, fun _ => ⟨by omega, by (by_cases hh : 2147483647 < f.lets.length + f.outs.length; exact absurd (hz hh) (by omega); omega), fun j x hx => hall j x (by (have := at_lt hx; omega)) hx⟩, S.ext⟩
  ·
   have rh2 := h2
   (try simp only [Q1, Q2, Q3, Q4, Q5, Q6, Q7, Q8, Q9, Qa] at h2)
   refine W.skip ?_
   refine Then.nx ?_
   refine W.seq ?_
   refine W.seq ?_
   refine W.region rfl ?_
   refine WO.q (Y.assign (v := .int .i64 _) rfl) ?_
   refine WO.nil ?_
   refine Then.nx ?_
   refine W.block ?_
   -- loop 0 carries 3:i
   refine W.loop1 [2, 3, 13, 14, 15, 16, 17, 18, 19, 20, 21, 22, 23, 24, 25, 26, 27] 3 (fun v3 w => ∃ i : Nat, v3 = .int .i64 (i : Int) ∧ i ≤ f.lets.length ∧ (∀ (j : Nat) x, j < i → f.lets[j]? = some x → x.tree.length ≤ 1024) ∧ Sat w0 w [Cel b1 (fL v f) 25]) (fun v3 w => f.lets.length - (intOf v3).toNat) ?_ ?_
   ·
    exact ⟨0, rfl, Nat.zero_le _, fun j x hj _ => absurd hj (by omega), S⟩
   ·
    rintro g0 v3 w ⟨i, rfl, hi, hall, S⟩
    refine W.seq ?_
    refine W.seq ?_
    refine W.region rfl ?_
    refine WO.q (Y.move (v := .int .i64 _) rfl) ?_
    refine WO.q (Y.fieldB fo_25_0 rfl) ?_
    first | refine WO.q (Y.load rfl (loadS1 sz_22 S 0 rfl rfl)) ?_ | refine WO.q (Y.load rfl (loadS1 sz_22 S 1 rfl rfl)) ?_
    refine WO.q (Y.len (t' := 0) Try.underlying22 rfl) ?_
    refine WO.q (Y.lss rfl rfl) ?_
    refine WO.nil ?_
    refine Then.nx ?_
    refine W.cond rfl (fun h3 => ?_) (fun h3 => ?_) -- cond 1
    ·
     have rh3 := h3
     (try simp only [Q1, Q2, Q3, Q4, Q5, Q6, Q7, Q8, Q9, Qa] at h3)
     refine W.skip ?_
     refine Then.nx ?_
     refine W.seq ?_
     refine W.block ?_
     refine W.seq ?_
     have ha := R1.1 (by omega)
     obtain ⟨x, hx⟩ := at_ex (xs := f.lets) (k := i) (by omega)
     obtain ⟨ra, rc, hr, hrc, hrt⟩ := hraw.get hx
     refine W.region rfl ?_
     refine WO.q (Y.fieldB fo_25_0 rfl) ?_
     first | refine WO.q (Y.load rfl (loadS1 sz_22 S 0 rfl rfl)) ?_ | refine WO.q (Y.load rfl (loadS1 sz_22 S 1 rfl rfl)) ?_
     refine WO.q (Y.move (v := .int .i64 _) rfl) ?_
     first | refine WO.q (Y.ixN sl_22 rfl rfl (by (first | assumption | rfl)) (by (first | assumption | omega))) ?_ | refine WO.q (Y.ix sl_22 rfl rfl (by (first | assumption | rfl)) (by (first | assumption | omega)) (by (first | assumption | omega))) ?_
     refine WO.q (Y.fieldE fo_51_1 rfl) ?_
     refine WO.q (Y.load rfl (loadRdF sz_49 (R1.ext S.ext) (by assumption) rfl)) ?_
     refine WO.q (Y.len (t' := 0) Try.underlying49 rfl) ?_
     refine WO.q (Y.gtr rfl rfl) ?_
     refine WO.nil ?_
     refine Then.nx ?_
     refine W.cond rfl (fun h4 => ?_) (fun h4 => ?_) -- cond 2
     ·
      have rh4 := h4
      (try simp only [Q1, Q2, Q3, Q4, Q5, Q6, Q7, Q8, Q9, Qa] at h4)
      refine W.seq ?_
      refine W.region rfl ?_
      refine WO.q (Y.assign (v := .bool _) rfl) ?_
      refine WO.nil ?_
      refine Then.nx ?_
      refine W.ret ?_
      refine InB.r ?_
      refine Then.r ?_
      refine Then.r ?_
      refine InB.r ?_
      refine Then.r ?_
      refine BodyQ.ret1 Try.results5 (ResV.tmp _ rfl) ?_
      first | exact ⟨true, rfl, (fun hh => by cases hh), S.ext⟩ | exact ⟨false, rfl, fun _ => ⟨by omega, by (by_cases hh : 2147483647 < f.lets.length + f.outs.length; exact absurd (hz hh) (by omega); omega), fun j x hx => hall j x (by (have := at_lt hx; omega)) hx⟩, S.ext⟩
     ·
      have rh4 := h4
      (try simp only [Q1, Q2, Q3, Q4, Q5, Q6, Q7, Q8, Q9, Qa] at h4)
      refine W.skip ?_
      refine InB.nx ?_
      refine Then.nx ?_
      refine W.region rfl ?_
      refine WO.q (Y.move (v := .int .i64 _) rfl) ?_
      first | refine WO.q (Y.addI rfl rfl (by omega)) ?_ | refine WO.q (Y.add rfl rfl) ?_
      refine WO.q (Y.assign (v := .int .i64 _) rfl) ?_
      refine WO.nil ?_
      refine Then.nx ⟨?_, ?_, ?_⟩
      ·
       (repeat (first | exact Out.hav _ _ _ | exact Out.refl _ _ | refine Out.up rfl ?_ | refine Out.sub rfl ?_))
      ·
       exact ⟨i + 1, rfl, by omega, fun j x2 hj hx2 => by (by_cases hji : j < i; exact hall j x2 hji hx2; (have e : j = i := by omega); subst e; rw [hx] at hx2; obtain rfl := Option.some.inj hx2; omega), S⟩
      ·
       (show f.lets.length - (i + 1) < f.lets.length - i; omega)
    ·
     have rh3 := h3
     (try simp only [Q1, Q2, Q3, Q4, Q5, Q6, Q7, Q8, Q9, Qa] at h3)
     refine W.exit ?_
     refine Then.x ?_
     refine Then.x ?_
     refine InB.e ?_
     refine Then.nx ?_
     refine W.seq ?_
     refine W.region rfl ?_
     refine WO.q (Y.assign (v := .bool _) rfl) ?_
     refine WO.nil ?_
     refine Then.nx ?_
     refine W.ret ?_
     refine BodyQ.ret1 Try.results5 (ResV.tmp _ rfl) ?_
     first | exact ⟨true, rfl, (fun hh => by cases hh), S.ext⟩ | exact ⟨false, rfl, fun _ => ⟨by omega, by (by_cases hh : 2147483647 < f.lets.length + f.outs.length; exact absurd (hz hh) (by omega); omega), fun j x hx => hall j x (by (have := at_lt hx; omega)) hx⟩, S.ext⟩
theorem CopyLet_spec (w0 : World) (x : GLet) (a : Option Addr) (c : Nat) (R1 : Rd tNode w0 a x.tree) (hx : x.tree.length ≤ 1048576) :
    Calls Try.prog 30 [.agg (tRLet.enc ⟨x.name, (a, x.tree.length, c), x.at_⟩).toArray].toArray w0 (fun r w => ∃ b k, r = .returned (.agg (tRLet.enc ⟨x.name, (b, x.tree.length, k), x.at_⟩).toArray) ∧ x.tree.length ≤ k ∧ Sat w0 w [Own tNode 75 b k x.tree]) := by
 have S := Sat.refl w0
 refine calls_of_W (args := [.agg (tRLet.enc ⟨x.name, (a, x.tree.length, c), x.at_⟩).toArray]) 8 Try.func30 rfl Try.ntmps30 rfl ?_
 refine W.seq ?_
 refine W.region rfl ?_
 refine WO.e (O.box rfl rfl S (fun b1 w S => ?_))
 refine WO.e (O.alloc z_51 S (fun b2 w S => ?_))
 refine WO.nil ?_
 refine Then.nx ?_
 refine W.seq ?_
 refine W.region rfl ?_
 refine WO.q (Y.fieldB fo_51_1 rfl) ?_
 first | refine WO.q (Y.load rfl (loadS1 sz_49 S 0 rfl rfl)) ?_ | refine WO.q (Y.load rfl (loadS1 sz_49 S 1 rfl rfl)) ?_ | refine WO.q (Y.load rfl (loadS1 sz_49 S 2 rfl rfl)) ?_ | refine WO.q (Y.load rfl (loadS1 sz_49 S 3 rfl rfl)) ?_
 refine WO.e (O.call cf_43 rfl (CopyFlowNodes_spec _ a c x.tree (R1.ext S.ext) (by omega)) ?_)
 rintro _ w ⟨a5, c5, rfl, S5⟩
 replace S := S.trans S5
 refine ⟨_, rfl, ?_⟩
 refine WO.q (Y.fieldB fo_51_1 rfl) ?_
 first | refine WO.e0 (O.store (v := .slice _ _ _) 0 S rfl rfl rfl sz_49 rfl rfl rfl rfl (fun w S => ?_)) | refine WO.e0 (O.store (v := .slice _ _ _) 1 S rfl rfl rfl sz_49 rfl rfl rfl rfl (fun w S => ?_)) | refine WO.e0 (O.store (v := .slice _ _ _) 2 S rfl rfl rfl sz_49 rfl rfl rfl rfl (fun w S => ?_)) | refine WO.e0 (O.store (v := .slice _ _ _) 3 S rfl rfl rfl sz_49 rfl rfl rfl rfl (fun w S => ?_))
 refine WO.nil ?_
 refine Then.nx ?_
 refine W.seq ?_
 refine W.region rfl ?_
 first | refine WO.q (Y.load rfl (loadSN sz_51 S 0 rfl rfl rfl)) ?_ | refine WO.q (Y.load rfl (loadSN sz_51 S 1 rfl rfl rfl)) ?_ | refine WO.q (Y.load rfl (loadSN sz_51 S 2 rfl rfl rfl)) ?_ | refine WO.q (Y.load rfl (loadSN sz_51 S 3 rfl rfl rfl)) ?_
 first | refine WO.e0 (O.store (v := .agg _) 0 S rfl rfl rfl sz_51 rfl rfl rfl rfl (fun w S => ?_)) | refine WO.e0 (O.store (v := .agg _) 1 S rfl rfl rfl sz_51 rfl rfl rfl rfl (fun w S => ?_)) | refine WO.e0 (O.store (v := .agg _) 2 S rfl rfl rfl sz_51 rfl rfl rfl rfl (fun w S => ?_)) | refine WO.e0 (O.store (v := .agg _) 3 S rfl rfl rfl sz_51 rfl rfl rfl rfl (fun w S => ?_))
 refine WO.nil ?_
 refine Then.nx ?_
 refine W.ret ?_
 refine BodyQ.ret1 Try.results30 (by first | exact (ResV.cell _ rfl (loadSN sz_51 S 0 rfl rfl rfl)) | exact (ResV.cell _ rfl (loadSN sz_51 S 1 rfl rfl rfl)) | exact (ResV.cell _ rfl (loadSN sz_51 S 2 rfl rfl rfl)) | exact (ResV.cell _ rfl (loadSN sz_51 S 3 rfl rfl rfl)) | exact (ResV.cell _ rfl (loadSN sz_51 S 4 rfl rfl rfl)) | exact (ResV.cell _ rfl (loadSN sz_51 S 5 rfl rfl rfl)) | exact (ResV.cell _ rfl (loadSN sz_51 S 6 rfl rfl rfl)) | exact (ResV.cell _ rfl (loadSN sz_51 S 7 rfl rfl rfl))) ?_
 first | (have hk := (S.ownLen 0 rfl).1; exact ⟨a5, c5, rfl, hk, S.pk (by repeat (first | exact Pk.nil _ | exact Pk.refl _ | refine Pk.cons 0 rfl ?_ | refine Pk.cons 1 rfl ?_ | refine Pk.cons 2 rfl ?_ | refine Pk.cons 3 rfl ?_ | refine Pk.cons 4 rfl ?_ | refine Pk.cons 5 rfl ?_ | refine Pk.cons 6 rfl ?_ | refine Pk.cons 7 rfl ?_ | refine Pk.cons 8 rfl ?_ | refine Pk.cons 9 rfl ?_ | refine Pk.cons 10 rfl ?_ | refine Pk.cons 11 rfl ?_ | refine Pk.cons 12 rfl ?_ | refine Pk.cons 13 rfl ?_ | refine Pk.drop ?_))⟩) | (have hk := (S.ownLen 1 rfl).1; exact ⟨a5, c5, rfl, hk, S.pk (by repeat (first | exact Pk.nil _ | exact Pk.refl _ | refine Pk.cons 0 rfl ?_ | refine Pk.cons 1 rfl ?_ | refine Pk.cons 2 rfl ?_ | refine Pk.cons 3 rfl ?_ | refine Pk.cons 4 rfl ?_ | refine Pk.cons 5 rfl ?_ | refine Pk.cons 6 rfl ?_ | refine Pk.cons 7 rfl ?_ | refine Pk.cons 8 rfl ?_ | refine Pk.cons 9 rfl ?_ | refine Pk.cons 10 rfl ?_ | refine Pk.cons 11 rfl ?_ | refine Pk.cons 12 rfl ?_ | refine Pk.cons 13 rfl ?_ | refine Pk.drop ?_))⟩) | (have hk := (S.ownLen 2 rfl).1; exact ⟨a5, c5, rfl, hk, S.pk (by repeat (first | exact Pk.nil _ | exact Pk.refl _ | refine Pk.cons 0 rfl ?_ | refine Pk.cons 1 rfl ?_ | refine Pk.cons 2 rfl ?_ | refine Pk.cons 3 rfl ?_ | refine Pk.cons 4 rfl ?_ | refine Pk.cons 5 rfl ?_ | refine Pk.cons 6 rfl ?_ | refine Pk.cons 7 rfl ?_ | refine Pk.cons 8 rfl ?_ | refine Pk.cons 9 rfl ?_ | refine Pk.cons 10 rfl ?_ | refine Pk.cons 11 rfl ?_ | refine Pk.cons 12 rfl ?_ | refine Pk.cons 13 rfl ?_ | refine Pk.drop ?_))⟩)
theorem CopyLets_spec (w0 : World) (ls : List GLet) (raws : List RLet) (a : Option Addr) (c : Nat) (R1 : Rd tRLet w0 a raws) (hraw : RawOk w0 raws ls) (hln : ls.length ≤ 1048576) (htn : ∀ (i : Nat) x, ls[i]? = some x → x.tree.length ≤ 1048576) :
    Calls Try.prog 16 [.slice a ls.length c].toArray w0 (fun r w => ∃ b k raws' M, r = .returned (.slice b ls.length k) ∧ raws'.length ≤ k ∧ RawIn M raws' ls ∧ Sat w0 w [Own tRLet 51 b k raws', M]) := by
 have S := Sat.refl w0
 have hrl := hraw.1
 refine calls_of_W (args := [.slice a ls.length c]) 20 Try.func16 rfl Try.ntmps16 rfl ?_
 refine W.seq ?_
 refine W.region rfl ?_
 refine WO.q (Y.assign (v := .slice _ _ _) rfl) ?_
 refine WO.nil ?_
 refine Then.nx ?_
 refine W.seq ?_
 refine W.region rfl ?_
 refine WO.q (Y.assign (v := .slice _ _ _) rfl) ?_
 refine WO.nil ?_
 refine Then.nx ?_
 refine W.seq ?_
 refine W.seq ?_
 refine W.region rfl ?_
 refine WO.q (Y.assign (v := .int .i64 _) rfl) ?_
 refine WO.nil ?_
 refine Then.nx ?_
 refine W.block ?_
 -- loop 0 carries 3:c, 4:i
 refine W.loop2 [3, 4, 5, 6, 7, 8, 9, 10, 11, 12, 13, 14, 15, 16, 17, 18] 3 4 (fun v3 v4 w => ∃ (i : Nat) (la : Option Addr) (lc : Nat) (ra2 : List RLet) (M : HA), v4 = .int .i64 (i : Int) ∧ v3 = .slice la ra2.length lc ∧ i ≤ ls.length ∧ RawIn M ra2 (ls.take i) ∧ Sat w0 w [Own tRLet 51 la lc ra2, M]) (fun v3 v4 w => ls.length - (intOf v4).toNat) ?_ ?_
 ·
  exact ⟨0, none, 0, [], Bun [], rfl, rfl, Nat.zero_le _, RawIn.nil _, (Sat.bun (M := []) S).nilOwn tRLet 51⟩
 ·
  rintro g0 v3 v4 w ⟨i, la, lc, ra2, M, rfl, rfl, hi, hrw, S⟩
  refine W.seq ?_
  refine W.seq ?_
  refine W.region rfl ?_
  refine WO.q (Y.move (v := .int .i64 _) rfl) ?_
  refine WO.q (Y.move (v := .slice _ _ _) rfl) ?_
  refine WO.q (Y.len (t' := 0) Try.underlying22 rfl) ?_
  refine WO.q (Y.lss rfl rfl) ?_
  refine WO.nil ?_
  refine Then.nx ?_
  refine W.cond rfl (fun h1 => ?_) (fun h1 => ?_) -- cond 0
  ·
   have rh1 := h1
   (try simp only [Q1, Q2, Q3, Q4, Q5, Q6, Q7, Q8, Q9, Qa] at h1)
   refine W.skip ?_
   refine Then.nx ?_
   refine W.seq ?_
   refine W.block ?_
   have ha := R1.1 (by omega)
   obtain ⟨x, hx⟩ := at_ex (xs := ls) (k := i) (by omega)
   obtain ⟨ta, tc, hr, hrc, hrt⟩ := hraw.get hx
   have hr1 := hrw.1
   have hr2 : (ls.take i).length = i := by (rw [List.length_take]; omega)
   refine W.region rfl ?_
   refine WO.q (Y.move (v := .slice _ _ _) rfl) ?_
   refine WO.q (Y.move (v := .slice _ _ _) rfl) ?_
   refine WO.q (Y.move (v := .int .i64 _) rfl) ?_
   first | refine WO.q (Y.ixN sl_22 rfl rfl (by (first | assumption | rfl)) (by (first | assumption | omega))) ?_ | refine WO.q (Y.ix sl_22 rfl rfl (by (first | assumption | rfl)) (by (first | assumption | omega)) (by (first | assumption | omega))) ?_
   refine WO.q (Y.load rfl (loadRdN sz_51 (R1.ext S.ext) (by assumption))) ?_
   refine WO.e (O.call cf_30 rfl (CopyLet_spec _ x ta tc (hrt.ext S.ext) (htn i x hx)) ?_)
   rintro _ w ⟨a16, c16, rfl, hk16, S16⟩
   replace S := S.trans S16
   refine ⟨_, rfl, ?_⟩
   first | refine WO.e (O.buildSlice rfl (buildOne sl_22 (by decide) rfl rfl) S (fun b17 w S => ?_)) | refine WO.e (O.buildSlice rfl (buildOne sl_22 (by decide) rfl (by simp)) S (fun b17 w S => ?_)) | refine WO.e (O.buildSlice rfl (bs_22_1_0) S (fun b17 w S => ?_))
   refine WO.e (O.append (T := tRLet) (ys := [⟨x.name, (a16, x.tree.length, c16), x.at_⟩]) 2 sl_22 S rfl rfl (by omega) rfl (S.rd1 (T := tRLet) (x := ⟨x.name, (a16, x.tree.length, c16), x.at_⟩) 0 rfl) rfl (by (simp only [List.length_singleton]; omega)) (by (simp only [List.length_singleton, maxLen]; omega)) (fun a18 c18 w S hn18 => ?_))
   refine WO.q (Y.assign (v := .slice _ _ _) rfl) ?_
   refine WO.nil ?_
   refine InB.nx ?_
   refine Then.nx ?_
   refine W.region rfl ?_
   refine WO.q (Y.move (v := .int .i64 _) rfl) ?_
   first | refine WO.q (Y.addI rfl rfl (by omega)) ?_ | refine WO.q (Y.add rfl rfl) ?_
   refine WO.q (Y.assign (v := .int .i64 _) rfl) ?_
   refine WO.nil ?_
   refine Then.nx ⟨?_, ?_, ?_⟩
   ·
    (repeat (first | exact Out.hav _ _ _ | exact Out.refl _ _ | refine Out.up rfl ?_ | refine Out.sub rfl ?_))
   ·
    exact ⟨i + 1, a18, c18, ra2 ++ [⟨x.name, (a16, x.tree.length, c16), x.at_⟩], Bun [Own tNode 75 a16 c16 x.tree, M], rfl, rfl, by omega, by (rw [take_succ_at hx]; exact hrw.snoc hk16), S.tl.bun2⟩
   ·
    (show ls.length - (i + 1) < ls.length - i; omega)
  ·
   have rh1 := h1
   (try simp only [Q1, Q2, Q3, Q4, Q5, Q6, Q7, Q8, Q9, Qa] at h1)
   refine W.exit ?_
   refine Then.x ?_
   refine Then.x ?_
   refine InB.e ?_
   refine Then.nx ?_
   refine W.seq ?_
   refine W.region rfl ?_
   refine WO.q (Y.move (v := .slice _ _ _) rfl) ?_
   refine WO.q (Y.assign (v := .slice _ _ _) rfl) ?_
   refine WO.nil ?_
   refine Then.nx ?_
   refine W.ret ?_
   refine BodyQ.ret1 Try.results16 (ResV.tmp _ rfl) ?_
   (have ei : i = ls.length := by omega); subst ei; rw [List.take_length] at hrw; (have e2 := hrw.1); exact ⟨la, lc, ra2, M, by (show Ending.returned (.slice la ra2.length lc) = _; rw [e2]), (S.ownLen 0 rfl).1, hrw, S⟩
theorem CopyFlow_spec (w0 : World) (v : FIn) (f : GFlow) (R : RdFlow w0 v f) :
    Calls Try.prog 8 [.agg (fL v f).toArray].toArray w0 (fun r w => ∃ v' M, r = .returned (.agg (fL v' f).toArray) ∧ Sat w0 w [M] ∧ HasFlow M v' f) := by
 have S := Sat.refl w0
 have hR := R
 obtain ⟨⟨raws, R1, hraw⟩, Ro, hlc, hoc, hln, hon, htn⟩ := R
 refine calls_of_W (args := [.agg (fL v f).toArray]) 10 Try.func8 rfl Try.ntmps8 rfl ?_
 refine W.seq ?_
 refine W.region rfl ?_
 refine WO.e (O.box rfl rfl S (fun b1 w S => ?_))
 refine WO.e (O.alloc z_25 S (fun b2 w S => ?_))
 refine WO.nil ?_
 refine Then.nx ?_
 refine W.seq ?_
 refine W.draw (.q 0 (.q 1 (.q 3 (.q 4 (.e 2 (.e 5 (.q 6 (.e 7 .nil)))))))) (fun w => Sat _ w _) rfl rfl (by kernel_rfl) rfl (by kernel_rfl) (by repeat (first | exact BodyQ.noFrame | refine Then.noFrame ?_ | refine InB.noFrame ?_)) S.drew ?_
 clear S
 refine Plan.q rfl (fun w S => Y.fieldB fo_25_0 rfl) ?_
 first | refine Plan.q rfl (fun w S => Y.load rfl (loadS1 sz_22 S 0 rfl rfl)) ?_ | refine Plan.q rfl (fun w S => Y.load rfl (loadS1 sz_22 S 1 rfl rfl)) ?_ | refine Plan.q rfl (fun w S => Y.load rfl (loadS1 sz_22 S 2 rfl rfl)) ?_ | refine Plan.q rfl (fun w S => Y.load rfl (loadS1 sz_22 S 3 rfl rfl)) ?_ | refine Plan.q rfl (fun w S => Y.load rfl (loadS1 sz_22 S 4 rfl rfl)) ?_
 refine Plan.q rfl (fun w S => Y.fieldB fo_25_1 rfl) ?_
 first | refine Plan.q rfl (fun w S => Y.load rfl (loadS1 sz_23 S 0 rfl rfl)) ?_ | refine Plan.q rfl (fun w S => Y.load rfl (loadS1 sz_23 S 1 rfl rfl)) ?_ | refine Plan.q rfl (fun w S => Y.load rfl (loadS1 sz_23 S 2 rfl rfl)) ?_ | refine Plan.q rfl (fun w S => Y.load rfl (loadS1 sz_23 S 3 rfl rfl)) ?_ | refine Plan.q rfl (fun w S => Y.load rfl (loadS1 sz_23 S 4 rfl rfl)) ?_
 refine Plan.e1 rfl (fun w S => O.call cf_16 rfl (CopyLets_spec _ f.lets raws v.la v.lc (R1.ext S.ext) (hraw.ext S.ext) hln htn) ?_)
 rintro _ w ⟨a5, c5, rw5, M5, rfl, hk5, hw5, S5⟩
 replace S := S.trans S5
 refine ⟨_, rfl, ?_⟩
 refine ⟨(fun w => Sat _ w _), S, (.inr (fun w S => S.pk (by repeat (first | exact Pk.nil _ | exact Pk.refl _ | refine Pk.cons 0 rfl ?_ | refine Pk.cons 1 rfl ?_ | refine Pk.cons 2 rfl ?_ | refine Pk.cons 3 rfl ?_ | refine Pk.cons 4 rfl ?_ | refine Pk.cons 5 rfl ?_ | refine Pk.cons 6 rfl ?_ | refine Pk.cons 7 rfl ?_ | refine Pk.cons 8 rfl ?_ | refine Pk.cons 9 rfl ?_ | refine Pk.cons 10 rfl ?_ | refine Pk.cons 11 rfl ?_ | refine Pk.cons 12 rfl ?_ | refine Pk.cons 13 rfl ?_ | refine Pk.drop ?_)))), ?_⟩
 clear S
 refine Plan.e1 rfl (fun w S => O.call cf_24 rfl (CopyInts_spec _ v.oa v.oc f.outs (Ro.ext S.ext) (by omega)) ?_)
 rintro _ w ⟨a8, c8, rfl, S8⟩
 replace S := S.trans S8
 refine ⟨_, rfl, ?_⟩
 refine ⟨(fun w => Sat _ w _), S, (.inr (fun w S => S.pk (by repeat (first | exact Pk.nil _ | exact Pk.refl _ | refine Pk.cons 0 rfl ?_ | refine Pk.cons 1 rfl ?_ | refine Pk.cons 2 rfl ?_ | refine Pk.cons 3 rfl ?_ | refine Pk.cons 4 rfl ?_ | refine Pk.cons 5 rfl ?_ | refine Pk.cons 6 rfl ?_ | refine Pk.cons 7 rfl ?_ | refine Pk.cons 8 rfl ?_ | refine Pk.cons 9 rfl ?_ | refine Pk.cons 10 rfl ?_ | refine Pk.cons 11 rfl ?_ | refine Pk.cons 12 rfl ?_ | refine Pk.cons 13 rfl ?_ | refine Pk.drop ?_)))), ?_⟩
 clear S
 refine Plan.q rfl (fun w S => Y.build rfl (bld_25_0_1)) ?_
 first | refine Plan.e0 rfl (fun w S => O.store (v := .agg _) 0 S rfl rfl rfl sz_25 rfl rfl rfl rfl (fun w S => ?_)) | refine Plan.e0 rfl (fun w S => O.store (v := .agg _) 1 S rfl rfl rfl sz_25 rfl rfl rfl rfl (fun w S => ?_)) | refine Plan.e0 rfl (fun w S => O.store (v := .agg _) 2 S rfl rfl rfl sz_25 rfl rfl rfl rfl (fun w S => ?_)) | refine Plan.e0 rfl (fun w S => O.store (v := .agg _) 3 S rfl rfl rfl sz_25 rfl rfl rfl rfl (fun w S => ?_)) | refine Plan.e0 rfl (fun w S => O.store (v := .agg _) 4 S rfl rfl rfl sz_25 rfl rfl rfl rfl (fun w S => ?_))
 refine ⟨(fun w => Sat _ w _), S, (.inl (by kernel_rfl)), ?_⟩
 clear S
 refine Plan.nil (fun w S => ?_)
 replace S : Sat _ _ _ := S
 refine Then.nx ?_
 refine W.ret ?_
 refine BodyQ.ret1 Try.results8 (by first | exact (ResV.cell _ rfl (loadSN sz_25 S 0 rfl rfl rfl)) | exact (ResV.cell _ rfl (loadSN sz_25 S 1 rfl rfl rfl)) | exact (ResV.cell _ rfl (loadSN sz_25 S 2 rfl rfl rfl)) | exact (ResV.cell _ rfl (loadSN sz_25 S 3 rfl rfl rfl)) | exact (ResV.cell _ rfl (loadSN sz_25 S 4 rfl rfl rfl)) | exact (ResV.cell _ rfl (loadSN sz_25 S 5 rfl rfl rfl)) | exact (ResV.cell _ rfl (loadSN sz_25 S 6 rfl rfl rfl)) | exact (ResV.cell _ rfl (loadSN sz_25 S 7 rfl rfl rfl))) ?_
 (have S9 : Sat w0 w [Own (tI .i64) 3 a8 c8 f.outs, Own tRLet 51 a5 c5 rw5, M5] := S.pk (by repeat (first | exact Pk.nil _ | exact Pk.refl _ | refine Pk.cons 0 rfl ?_ | refine Pk.cons 1 rfl ?_ | refine Pk.cons 2 rfl ?_ | refine Pk.cons 3 rfl ?_ | refine Pk.cons 4 rfl ?_ | refine Pk.cons 5 rfl ?_ | refine Pk.cons 6 rfl ?_ | refine Pk.cons 7 rfl ?_ | refine Pk.cons 8 rfl ?_ | refine Pk.cons 9 rfl ?_ | refine Pk.cons 10 rfl ?_ | refine Pk.cons 11 rfl ?_ | refine Pk.cons 12 rfl ?_ | refine Pk.cons 13 rfl ?_ | refine Pk.drop ?_))); (have ho := (S9.ownLen 0 rfl).1); exact ⟨⟨a5, c5, a8, c8⟩, _, rfl, Sat.bun (M := [Own (tI .i64) 3 a8 c8 f.outs, Own tRLet 51 a5 c5 rw5, M5]) (S9.pk (by repeat (first | exact Pk.nil _ | exact Pk.refl _ | refine Pk.cons 0 rfl ?_ | refine Pk.cons 1 rfl ?_ | refine Pk.cons 2 rfl ?_ | refine Pk.cons 3 rfl ?_ | refine Pk.cons 4 rfl ?_ | refine Pk.cons 5 rfl ?_ | refine Pk.cons 6 rfl ?_ | refine Pk.cons 7 rfl ?_ | refine Pk.cons 8 rfl ?_ | refine Pk.cons 9 rfl ?_ | refine Pk.cons 10 rfl ?_ | refine Pk.cons 11 rfl ?_ | refine Pk.cons 12 rfl ?_ | refine Pk.cons 13 rfl ?_ | refine Pk.drop ?_))), HasFlow.mk3 hw5 hk5 ho⟩
end Go.Proofs
