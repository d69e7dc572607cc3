/-
  Walks of EqEnds, CopyEnds, CopyInts, CopyFlowNodes, Long.
-/
import Derived.Test.YtlnimgpfopaicaaGc
import Derived.Test.YtlnimgpfopaicaaFa
import Derived.Test.YtlnimgpfopaicaaFb
set_option linter.unusedVariables false
set_option linter.unusedSimpArgs false
set_option maxRecDepth 100000
set_option maxHeartbeats 1000000
namespace Go.Proofs
open Go Go.TL Go.RowKit
theorem EqEnds_spec (w0 : World) (a b : Option Addr) (ca cb : Nat) (xs ys : List GEnd) (R1 : Rd tEnd w0 a xs) (R2 : Rd tEnd w0 b ys) (hx : xs.length ≤ 9223372036854775807) :
    Calls Try.prog 17 [.slice a xs.length ca, .slice b ys.length cb].toArray w0 (fun e w => e = .returned (.bool (decide (xs = ys))) ∧ Ext w0 w) := by
 have S := Sat.refl w0
 refine calls_of_W (args := [.slice a xs.length ca, .slice b ys.length cb]) 26 Try.func17 rfl Try.ntmps17 rfl ?_
 refine W.seq ?_
 refine W.region rfl ?_
 refine WO.q (Y.assign (v := .bool _) rfl) ?_
 refine WO.nil ?_
 refine Then.nx ?_
 refine W.seq ?_
 refine W.seq ?_
 refine W.region rfl ?_
 refine WO.q (Y.move (v := .slice _ _ _) rfl) ?_
 refine WO.q (Y.len (t' := 0) Try.underlying33 rfl) ?_
 refine WO.q (Y.move (v := .slice _ _ _) rfl) ?_
 refine WO.q (Y.len (t' := 0) Try.underlying33 rfl) ?_
 refine WO.q (Y.neq rfl rfl) ?_
 refine WO.nil ?_
 refine Then.nx ?_
 refine W.cond rfl (fun h1 => ?_) (fun h1 => ?_) -- cond 0
 ·
  have rh1 := h1
  (try simp only [Q1, Q2, Q3, Q4, Q5, Q6, Q7, Q8, Q9, Qa] at h1)
  refine W.seq ?_
  refine W.region rfl ?_
  refine WO.q (Y.assign (v := .bool _) rfl) ?_
  refine WO.nil ?_
  refine Then.nx ?_
  refine W.ret ?_
  refine Then.r ?_
  refine BodyQ.ret1 Try.results17 (ResV.tmp _ rfl) ?_
  exact ⟨retB (decide_eq_false (fun e => h1 (by rw [e]))).symm, S.ext⟩
 ·
  have rh1 := h1
  (try simp only [Q1, Q2, Q3, Q4, Q5, Q6, Q7, Q8, Q9, Qa] at h1)
  refine W.skip ?_
  refine Then.nx ?_
  refine W.seq ?_
  refine W.seq ?_
  refine W.region rfl ?_
  refine WO.q (Y.assign (v := .int .i64 _) rfl) ?_
  refine WO.nil ?_
  refine Then.nx ?_
  refine W.block ?_
  -- loop 0 carries 5:i
  refine W.loop1 [4, 5, 11, 12, 13, 14, 15, 16, 17, 18, 19, 20, 21, 22, 23, 24, 25] 5 (fun v5 w => ∃ k : Nat, v5 = .int .i64 (k : Int) ∧ k ≤ xs.length ∧ (∀ j, j < k → xs[j]? = ys[j]?) ∧ Sat w0 w []) (fun v5 w => xs.length - (intOf v5).toNat) ?_ ?_
  ·
   exact ⟨0, rfl, by simp, fun j h => by omega, S⟩
  ·
   rintro g0 v5 w ⟨k, rfl, hk, hj, S⟩
   refine W.seq ?_
   refine W.seq ?_
   refine W.region rfl ?_
   refine WO.q (Y.move (v := .int .i64 _) rfl) ?_
   refine WO.q (Y.move (v := .slice _ _ _) rfl) ?_
   refine WO.q (Y.len (t' := 0) Try.underlying33 rfl) ?_
   refine WO.q (Y.lss rfl rfl) ?_
   refine WO.nil ?_
   refine Then.nx ?_
   refine W.cond rfl (fun h2 => ?_) (fun h2 => ?_) -- cond 1
   ·
    have rh2 := h2
    (try simp only [Q1, Q2, Q3, Q4, Q5, Q6, Q7, Q8, Q9, Qa] at h2)
    have ha := R1.1 (by omega)
    have hb := R2.1 (by omega)
    obtain ⟨x, hx1⟩ := at_ex (xs := xs) (k := k) (by omega)
    obtain ⟨y, hy1⟩ := at_ex (xs := ys) (k := k) (by omega)
    refine W.skip ?_
    refine Then.nx ?_
    refine W.seq ?_
    refine W.block ?_
    refine W.seq ?_
    refine W.draw (.q 0 (.q 1 (.q 2 (.q 3 (.q 4 (.q 5 (.q 6 (.q 7 (.q 8 .nil))))))))) (fun w => Sat _ w _) rfl rfl (by kernel_rfl) rfl (by kernel_rfl) (by repeat (first | exact BodyQ.noFrame | refine Then.noFrame ?_ | refine InB.noFrame ?_)) S.drew ?_
    clear S
    refine Plan.q rfl (fun w S => Y.move (v := .slice _ _ _) rfl) ?_
    refine Plan.q rfl (fun w S => Y.move (v := .int .i64 _) rfl) ?_
    first | refine Plan.q rfl (fun w S => Y.ixN sl_33 rfl rfl (by (first | assumption | rfl)) (by (first | assumption | omega))) ?_ | refine Plan.q rfl (fun w S => Y.ix sl_33 rfl rfl (by (first | assumption | rfl)) (by (first | assumption | omega)) (by (first | assumption | omega))) ?_
    first | refine Plan.q rfl (fun w S => Y.load rfl (loadRdN sz_30 (R1.ext S.ext) (by assumption))) ?_ | refine Plan.q rfl (fun w S => Y.load rfl (loadRdN sz_30 (R2.ext S.ext) (by assumption))) ?_
    refine Plan.q rfl (fun w S => Y.move (v := .slice _ _ _) rfl) ?_
    refine Plan.q rfl (fun w S => Y.move (v := .int .i64 _) rfl) ?_
    first | refine Plan.q rfl (fun w S => Y.ixN sl_33 rfl rfl (by (first | assumption | rfl)) (by (first | assumption | omega))) ?_ | refine Plan.q rfl (fun w S => Y.ix sl_33 rfl rfl (by (first | assumption | rfl)) (by (first | assumption | omega)) (by (first | assumption | omega))) ?_
    first | refine Plan.q rfl (fun w S => Y.load rfl (loadRdN sz_30 (R1.ext S.ext) (by assumption))) ?_ | refine Plan.q rfl (fun w S => Y.load rfl (loadRdN sz_30 (R2.ext S.ext) (by assumption))) ?_
    refine Plan.q rfl (fun w S => Y.neqA eqt_30 rfl rfl) ?_
    refine Plan.nil (fun w S => ?_)
    replace S : Sat _ _ _ := S
    refine Then.nx ?_
    refine W.cond rfl (fun h3 => ?_) (fun h3 => ?_) -- cond 2
    ·
     have rh3 := h3
     (try simp only [Q1, Q2, Q3, Q4, Q5, Q6, Q7, Q8, Q9, Qa] at h3)
     refine W.seq ?_
     refine W.region rfl ?_
     refine WO.q (Y.assign (v := .bool _) rfl) ?_
     refine WO.nil ?_
     refine Then.nx ?_
     refine W.ret ?_
     refine InB.r ?_
     refine Then.r ?_
     refine Then.r ?_
     refine InB.r ?_
     refine Then.r ?_
     refine BodyQ.ret1 Try.results17 (ResV.tmp _ rfl) ?_
     exact ⟨retB (decide_eq_false (fun e => h3 (by rw [e, hy1] at hx1; exact (Option.some.inj hx1).symm))).symm, S.ext⟩
    ·
     have rh3 := h3
     (try simp only [Q1, Q2, Q3, Q4, Q5, Q6, Q7, Q8, Q9, Qa] at h3)
     have hn : xs[k]? = ys[k]? := by rw [hx1, hy1, h3]
     refine W.skip ?_
     refine InB.nx ?_
     refine Then.nx ?_
     refine W.region rfl ?_
     refine WO.q (Y.move (v := .int .i64 _) rfl) ?_
     first | refine WO.q (Y.addI rfl rfl (by omega)) ?_ | refine WO.q (Y.add rfl rfl) ?_
     refine WO.q (Y.assign (v := .int .i64 _) rfl) ?_
     refine WO.nil ?_
     refine Then.nx ⟨?_, ?_, ?_⟩
     ·
      (repeat (first | exact Out.hav _ _ _ | exact Out.refl _ _ | refine Out.up rfl ?_ | refine Out.sub rfl ?_))
     ·
      exact ⟨k + 1, rfl, by omega, fun j h => by rcases Nat.lt_succ_iff_lt_or_eq.1 h with h | rfl; exact hj j h; exact hn, S⟩
     ·
      (show xs.length - (k + 1) < xs.length - k; omega)
   ·
    have rh2 := h2
    (try simp only [Q1, Q2, Q3, Q4, Q5, Q6, Q7, Q8, Q9, Qa] at h2)
    refine W.exit ?_
    refine Then.x ?_
    refine Then.x ?_
    refine InB.e ?_
    refine Then.nx ?_
    refine W.seq ?_
    refine W.region rfl ?_
    refine WO.q (Y.assign (v := .bool _) rfl) ?_
    refine WO.nil ?_
    refine Then.nx ?_
    refine W.ret ?_
    refine BodyQ.ret1 Try.results17 (ResV.tmp _ rfl) ?_
    exact ⟨retB (decide_eq_true (List.ext_getElem? (fun j => by by_cases h : j < xs.length; exact hj j (by omega); rw [List.getElem?_eq_none (by omega), List.getElem?_eq_none (by omega)]))).symm, S.ext⟩
theorem CopyEnds_spec (w0 : World) (a : Option Addr) (ca : Nat) (xs : List GEnd) (R1 : Rd tEnd w0 a xs) (hx : xs.length * 16 ≤ 140737488355328) :
    Calls Try.prog 10 [.slice a xs.length ca].toArray w0 (fun e w => ∃ a' c', e = .returned (.slice a' xs.length c') ∧ Sat w0 w [Own tEnd 30 a' c' xs]) := by
 have hxl : xs.length ≤ maxLen := by (simp only [maxLen]; omega)
 have S := (Sat.refl w0).nilOwn tEnd 30
 refine calls_of_W (args := [.slice a xs.length ca]) 7 Try.func10 rfl Try.ntmps10 rfl ?_
 refine W.seq ?_
 refine W.region rfl ?_
 refine WO.q (Y.assign (v := .slice _ _ _) rfl) ?_
 refine WO.nil ?_
 refine Then.nx ?_
 refine W.seq ?_
 refine W.region rfl ?_
 refine WO.q (Y.assign (v := .slice _ _ _) rfl) ?_
 refine WO.nil ?_
 refine Then.nx ?_
 refine W.seq ?_
 refine W.region rfl ?_
 refine WO.q (Y.move (v := .slice _ _ _) rfl) ?_
 refine WO.q (Y.move (v := .slice _ _ _) rfl) ?_
 first | refine WO.e (O.append 0 sl_33 S rfl rfl (by (first | rfl | simp)) rfl (S.rd1 0 rfl) (by (first | rfl | simp)) (by (first | (simp only [List.length_nil]; omega) | (simp only [List.length_nil, Nat.zero_add]; exact hxl))) (by (first | (simp only [List.length_nil]; omega) | (simp only [List.length_nil, Nat.zero_add]; exact hxl))) (fun a6 c6 w S hn6 => ?_)) | refine WO.e (O.append 0 sl_33 S rfl rfl (by (first | rfl | simp)) rfl (S.rd1 1 rfl) (by (first | rfl | simp)) (by (first | (simp only [List.length_nil]; omega) | (simp only [List.length_nil, Nat.zero_add]; exact hxl))) (by (first | (simp only [List.length_nil]; omega) | (simp only [List.length_nil, Nat.zero_add]; exact hxl))) (fun a6 c6 w S hn6 => ?_)) | refine WO.e (O.append 0 sl_33 S rfl rfl (by (first | rfl | simp)) rfl (S.rd1 2 rfl) (by (first | rfl | simp)) (by (first | (simp only [List.length_nil]; omega) | (simp only [List.length_nil, Nat.zero_add]; exact hxl))) (by (first | (simp only [List.length_nil]; omega) | (simp only [List.length_nil, Nat.zero_add]; exact hxl))) (fun a6 c6 w S hn6 => ?_)) | refine WO.e (O.append 0 sl_33 S rfl rfl (by (first | rfl | simp)) rfl (R1.ext S.ext) (by (first | rfl | simp)) (by (first | (simp only [List.length_nil]; omega) | (simp only [List.length_nil, Nat.zero_add]; exact hxl))) (by (first | (simp only [List.length_nil]; omega) | (simp only [List.length_nil, Nat.zero_add]; exact hxl))) (fun a6 c6 w S hn6 => ?_))
 refine WO.q (Y.assign (v := .slice _ _ _) rfl) ?_
 refine WO.nil ?_
 refine Then.nx ?_
 refine W.ret ?_
 refine BodyQ.ret1 Try.results10 (ResV.tmp _ rfl) ?_
 exact ⟨_, _, by simp only [List.nil_append]; rfl, S⟩
theorem CopyInts_spec (w0 : World) (a : Option Addr) (ca : Nat) (xs : List Int) (R1 : Rd (tI .i64) w0 a xs) (hx : xs.length * 8 ≤ 140737488355328) :
    Calls Try.prog 24 [.slice a xs.length ca].toArray w0 (fun e w => ∃ a' c', e = .returned (.slice a' xs.length c') ∧ Sat w0 w [Own (tI .i64) 3 a' c' xs]) := by
 have hxl : xs.length ≤ maxLen := by (simp only [maxLen]; omega)
 have S := (Sat.refl w0).nilOwn (tI .i64) 3
 refine calls_of_W (args := [.slice a xs.length ca]) 7 Try.func24 rfl Try.ntmps24 rfl ?_
 refine W.seq ?_
 refine W.region rfl ?_
 refine WO.q (Y.assign (v := .slice _ _ _) rfl) ?_
 refine WO.nil ?_
 refine Then.nx ?_
 refine W.seq ?_
 refine W.region rfl ?_
 refine WO.q (Y.assign (v := .slice _ _ _) rfl) ?_
 refine WO.nil ?_
 refine Then.nx ?_
 refine W.seq ?_
 refine W.region rfl ?_
 refine WO.q (Y.move (v := .slice _ _ _) rfl) ?_
 refine WO.q (Y.move (v := .slice _ _ _) rfl) ?_
 first | refine WO.e (O.append 0 sl_23 S rfl rfl (by (first | rfl | simp)) rfl (S.rd1 0 rfl) (by (first | rfl | simp)) (by (first | (simp only [List.length_nil]; omega) | (simp only [List.length_nil, Nat.zero_add]; exact hxl))) (by (first | (simp only [List.length_nil]; omega) | (simp only [List.length_nil, Nat.zero_add]; exact hxl))) (fun a6 c6 w S hn6 => ?_)) | refine WO.e (O.append 0 sl_23 S rfl rfl (by (first | rfl | simp)) rfl (S.rd1 1 rfl) (by (first | rfl | simp)) (by (first | (simp only [List.length_nil]; omega) | (simp only [List.length_nil, Nat.zero_add]; exact hxl))) (by (first | (simp only [List.length_nil]; omega) | (simp only [List.length_nil, Nat.zero_add]; exact hxl))) (fun a6 c6 w S hn6 => ?_)) | refine WO.e (O.append 0 sl_23 S rfl rfl (by (first | rfl | simp)) rfl (S.rd1 2 rfl) (by (first | rfl | simp)) (by (first | (simp only [List.length_nil]; omega) | (simp only [List.length_nil, Nat.zero_add]; exact hxl))) (by (first | (simp only [List.length_nil]; omega) | (simp only [List.length_nil, Nat.zero_add]; exact hxl))) (fun a6 c6 w S hn6 => ?_)) | refine WO.e (O.append 0 sl_23 S rfl rfl (by (first | rfl | simp)) rfl (R1.ext S.ext) (by (first | rfl | simp)) (by (first | (simp only [List.length_nil]; omega) | (simp only [List.length_nil, Nat.zero_add]; exact hxl))) (by (first | (simp only [List.length_nil]; omega) | (simp only [List.length_nil, Nat.zero_add]; exact hxl))) (fun a6 c6 w S hn6 => ?_))
 refine WO.q (Y.assign (v := .slice _ _ _) rfl) ?_
 refine WO.nil ?_
 refine Then.nx ?_
 refine W.ret ?_
 refine BodyQ.ret1 Try.results24 (ResV.tmp _ rfl) ?_
 exact ⟨_, _, by simp only [List.nil_append]; rfl, S⟩
theorem CopyFlowNodes_spec (w0 : World) (a : Option Addr) (ca : Nat) (xs : List GNode) (R1 : Rd tNode w0 a xs) (hx : xs.length * 32 ≤ 140737488355328) :
    Calls Try.prog 43 [.slice a xs.length ca].toArray w0 (fun e w => ∃ a' c', e = .returned (.slice a' xs.length c') ∧ Sat w0 w [Own tNode 75 a' c' xs]) := by
 have hxl : xs.length ≤ maxLen := by (simp only [maxLen]; omega)
 have S := (Sat.refl w0).nilOwn tNode 75
 refine calls_of_W (args := [.slice a xs.length ca]) 7 Try.func43 rfl Try.ntmps43 rfl ?_
 refine W.seq ?_
 refine W.region rfl ?_
 refine WO.q (Y.assign (v := .slice _ _ _) rfl) ?_
 refine WO.nil ?_
 refine Then.nx ?_
 refine W.seq ?_
 refine W.region rfl ?_
 refine WO.q (Y.assign (v := .slice _ _ _) rfl) ?_
 refine WO.nil ?_
 refine Then.nx ?_
 refine W.seq ?_
 refine W.region rfl ?_
 refine WO.q (Y.move (v := .slice _ _ _) rfl) ?_
 refine WO.q (Y.move (v := .slice _ _ _) rfl) ?_
 first | refine WO.e (O.append 0 sl_49 S rfl rfl (by (first | rfl | simp)) rfl (S.rd1 0 rfl) (by (first | rfl | simp)) (by (first | (simp only [List.length_nil]; omega) | (simp only [List.length_nil, Nat.zero_add]; exact hxl))) (by (first | (simp only [List.length_nil]; omega) | (simp only [List.length_nil, Nat.zero_add]; exact hxl))) (fun a6 c6 w S hn6 => ?_)) | refine WO.e (O.append 0 sl_49 S rfl rfl (by (first | rfl | simp)) rfl (S.rd1 1 rfl) (by (first | rfl | simp)) (by (first | (simp only [List.length_nil]; omega) | (simp only [List.length_nil, Nat.zero_add]; exact hxl))) (by (first | (simp only [List.length_nil]; omega) | (simp only [List.length_nil, Nat.zero_add]; exact hxl))) (fun a6 c6 w S hn6 => ?_)) | refine WO.e (O.append 0 sl_49 S rfl rfl (by (first | rfl | simp)) rfl (S.rd1 2 rfl) (by (first | rfl | simp)) (by (first | (simp only [List.length_nil]; omega) | (simp only [List.length_nil, Nat.zero_add]; exact hxl))) (by (first | (simp only [List.length_nil]; omega) | (simp only [List.length_nil, Nat.zero_add]; exact hxl))) (fun a6 c6 w S hn6 => ?_)) | refine WO.e (O.append 0 sl_49 S rfl rfl (by (first | rfl | simp)) rfl (R1.ext S.ext) (by (first | rfl | simp)) (by (first | (simp only [List.length_nil]; omega) | (simp only [List.length_nil, Nat.zero_add]; exact hxl))) (by (first | (simp only [List.length_nil]; omega) | (simp only [List.length_nil, Nat.zero_add]; exact hxl))) (fun a6 c6 w S hn6 => ?_))
 refine WO.q (Y.assign (v := .slice _ _ _) rfl) ?_
 refine WO.nil ?_
 refine Then.nx ?_
 refine W.ret ?_
 refine BodyQ.ret1 Try.results43 (ResV.tmp _ rfl) ?_
 exact ⟨_, _, by simp only [List.nil_append]; rfl, S⟩
theorem Long_spec (w0 : World) (n : Int) :
    Calls Try.prog 18 [.int .i64 n].toArray w0 (fun e w => e = .returned (.bool (decide (2147483647 < n))) ∧ Ext w0 w) := by
 have S := Sat.refl w0
 refine calls_of_W (args := [.int .i64 n]) 5 Try.func18 rfl Try.ntmps18 rfl ?_
 refine W.seq ?_
 refine W.region rfl ?_
 refine WO.q (Y.assign (v := .bool _) rfl) ?_
 refine WO.nil ?_
 refine Then.nx ?_
 refine W.seq ?_
 refine W.region rfl ?_
 refine WO.q (Y.move (v := .int .i64 _) rfl) ?_
 refine WO.q (Y.gtr rfl rfl) ?_
 refine WO.q (Y.assign (v := .bool _) rfl) ?_
 refine WO.nil ?_
 refine Then.nx ?_
 refine W.ret ?_
 refine BodyQ.ret1 Try.results18 (ResV.tmp _ rfl) ?_
 exact ⟨rfl, S.ext⟩
end Go.Proofs
