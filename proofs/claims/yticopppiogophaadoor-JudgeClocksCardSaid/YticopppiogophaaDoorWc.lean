/-
  Walks of clocks.
-/
import Derived.Test.YticopppiogophaaDoorTp
import Derived.Test.YticopppiogophaaDoorTo
import Derived.Test.YticopppiogophaaDoorSx
import Derived.Test.YticopppiogophaaDoorFa
import Derived.Test.YticopppiogophaaDoorFb
import Derived.Test.YticopppiogophaaDoorFc
import Derived.Test.YticopppiogophaaDoorWa
import Derived.Test.YticopppiogophaaDoorWb
set_option linter.unusedVariables false
set_option linter.unusedSimpArgs false
set_option maxRecDepth 100000
set_option maxHeartbeats 1000000
namespace Go.Proofs
open Go Go.TL Go.RowKit
theorem clocks_spec (w0 : World) (a : Option Addr) (c : Nat) (xs : List Access) (R1 : Rd tAccess w0 a xs) (hx : xs.length ≤ 4096) (hok : mayOk xs = true) :
    Calls Tryd.prog 64 [.slice a xs.length c].toArray w0 (fun e w => ∃ a1 c1, e = .returned (.slice a1 xs.length c1) ∧ Sat w0 w [Own tClock 109 a1 c1 (clks xs)]) := by
 have S := Sat.refl w0
 refine calls_of_W (args := [.slice a xs.length c]) 94 Tryd.func64 rfl Tryd.ntmps64 rfl ?_
 refine W.seq ?_
 refine W.region rfl ?_
 refine WO.q (Y.assign (v := .slice _ _ _) rfl) ?_
 refine WO.nil ?_
 refine Then.nx ?_
 refine W.seq ?_
 refine W.region rfl ?_
 refine WO.e (O.alloc (z := .agg (tClock.all (thsL (fun _ => clock0))).toArray) (zc := tClock.all (thsL (fun _ => clock0))) ⟨fun w => by kernel_rfl, rfl⟩ S (fun b3 w S => ?_))
 refine WO.nil ?_
 refine Then.nx ?_
 refine W.seq ?_
 refine W.region rfl ?_
 refine WO.e (O.makeMap (fun n : Int => Value.int .i64 n) (fun c : Clk => Value.agg (clkL 64 c).toArray) S (fun b10 w S => ?_))
 refine WO.q (Y.assign (v := .map _) rfl) ?_
 refine WO.nil ?_
 refine Then.nx ?_
 refine W.seq ?_
 refine W.region rfl ?_
 refine WO.q (Y.move (v := .slice _ _ _) rfl) ?_
 refine WO.q (Y.len (t' := 0) Tryd.underlying64 rfl) ?_
 refine WO.e (O.makeSlice (T := tClock) (l := 0) clock0 sl_105 ⟨_, _, rfl, rfl, rfl⟩ S rfl rfl (Nat.zero_le _) (by omega) (by (simp only [maxLen]; omega)) (fun b13 w S => ?_))
 refine WO.q (Y.assign (v := .slice _ _ _) rfl) ?_
 refine WO.nil ?_
 refine Then.nx ?_
 refine W.seq ?_
 refine W.seq ?_
 refine W.region rfl ?_
 refine WO.q (Y.move (v := .slice _ _ _) rfl) ?_
 refine WO.q (Y.len (t' := 0) Tryd.underlying64 rfl) ?_
 refine WO.q (Y.move (v := .int .i64 _) rfl) ?_
 refine WO.nil ?_
 refine Then.nx ?_
 refine W.block ?_
 -- loop 0 carries 5:out, 16
 refine W.loop2 [5, 7, 8, 9, 16, 17, 18, 19, 20, 21, 22, 23, 24, 25, 26, 27, 28, 29, 30, 31, 32, 33, 34, 35, 36, 37, 38, 39, 40, 41, 42, 43, 44, 45, 46, 47, 48, 49, 50, 51, 52, 53, 54, 55, 56, 57, 58, 59, 60, 61, 62, 63, 64, 65, 66, 67, 68, 69, 70, 71, 72, 73, 74, 75, 76, 77, 78, 79, 80, 81, 82, 83, 84, 85, 86, 87, 88, 89, 90, 91, 92] 5 16 (fun v5 v16 w => ∃ (k : Nat) (a1 : Option Addr) (c1 : Nat), v16 = .int .i64 (k : Int) ∧ k ≤ xs.length ∧ v5 = .slice a1 k c1 ∧ Sat w0 w [Cel b3 (tClock.all (thsL ((crun (xs.take k)).1.T))) 147, MapF b10 (fun n : Int => Value.int .i64 n) (fun c : Clk => Value.agg (clkL 64 c).toArray) ((crun (xs.take k)).1.m), Own tClock 109 a1 c1 (crun (xs.take k)).2]) (fun v5 v16 w => xs.length - (intOf v16).toNat) ?_ ?_
 ·
  exact ⟨0, _, _, rfl, by omega, rfl, S.pk (.cons 2 rfl (.cons 1 rfl (.cons 0 rfl (.nil _))))⟩
 ·
  rintro g0 v5 v16 w ⟨k, a1, c1, rfl, hk, rfl, S⟩
  refine W.seq ?_
  refine W.region rfl ?_
  refine WO.q (Y.lss rfl rfl) ?_
  refine WO.nil ?_
  refine Then.nx ?_
  refine W.seq ?_
  refine W.cond rfl (fun h1 => ?_) (fun h1 => ?_) -- cond 0
  ·
   have rh1 := h1
   (try simp only [Q1, Q2, Q3, Q4, Q5, Q6, Q7, Q8, Q9, Qa] at h1)
   have ha := R1.1 (by omega)
   obtain ⟨x, hx1⟩ := at_ex (xs := xs) (k := k) (by omega)
   have hx2 : k < xs.length := by omega
   have hox := (okA_iff x).1 (List.all_eq_true.1 hok x (List.mem_of_getElem? hx1))
   have ht : x.thread.toNat < 64 := by omega
   have hts := take_succ_at hx1
   have hbd := crun_bd (xs.take k)
   have hkl : (xs.take k).length = k := by (rw [List.length_take]; omega)
   rw [hkl] at hbd
   have hol : (crun (xs.take k)).2.length = k := by rw [crun_len, hkl]
   have hb1 := hbd.t1 (by omega) x x.thread.toNat x.thread.toNat
   refine W.skip ?_
   refine Then.nx ?_
   refine W.seq ?_
   refine W.block ?_
   refine W.seq ?_
   refine W.region rfl ?_
   first | refine WO.q (Y.ixN sl_64 rfl rfl (by (first | assumption | rfl)) (by (first | assumption | omega))) ?_ | refine WO.q (Y.ix sl_64 rfl rfl (by (first | assumption | rfl)) (by (first | assumption | omega)) (by (first | assumption | omega))) ?_
   refine WO.q (Y.load rfl (loadRdN sz_71 (R1.ext S.ext) (by assumption))) ?_
   refine WO.e (O.alloc z_71 S (fun b7 w S => ?_))
   first | refine WO.e0 (O.store (v := .agg _) 0 S rfl rfl rfl sz_71 rfl rfl rfl rfl (fun w S => ?_)) | refine WO.e0 (O.store (v := .agg _) 1 S rfl rfl rfl sz_71 rfl rfl rfl rfl (fun w S => ?_)) | refine WO.e0 (O.store (v := .agg _) 2 S rfl rfl rfl sz_71 rfl rfl rfl rfl (fun w S => ?_))
   refine WO.nil ?_
   refine Then.nx ?_
   refine W.seq ?_
   refine W.region rfl ?_
   refine WO.q (Y.fieldB fo_71_0 rfl) ?_
   first | refine WO.q (Y.load rfl (loadS1 sz_3 S 0 rfl rfl)) ?_ | refine WO.q (Y.load rfl (loadS1 sz_3 S 1 rfl rfl)) ?_ | refine WO.q (Y.load rfl (loadS1 sz_3 S 2 rfl rfl)) ?_
   refine WO.q (Y.ixA ar_147 rfl rfl (by (first | assumption | omega)) (by (first | assumption | omega))) ?_
   first | refine WO.q (Y.assign (v := .pointer (some _)) rfl) ?_ | refine WO.q (Y.assign (v := .pointer _) rfl) ?_
   refine WO.nil ?_
   refine Then.nx ?_
   refine W.cut1 [9, 23, 24, 25, 26, 27, 28, 29, 30, 31, 32, 33, 34, 35] 9 (fun v9 w => v9 = .bool (takesB x.op) ∧ Sat w0 w [Cel b7 (tAccess.enc x) 71, Cel b3 (tClock.all (thsL ((crun (xs.take k)).1.T))) 147, MapF b10 (fun n : Int => Value.int .i64 n) (fun c : Clk => Value.agg (clkL 64 c).toArray) ((crun (xs.take k)).1.m), Own tClock 109 a1 c1 (crun (xs.take k)).2]) ?_ ?_
   ·
    refine W.region rfl ?_
    refine WO.q (Y.fieldB fo_71_1 rfl) ?_
    first | refine WO.q (Y.load rfl (loadS1 sz_56 S 0 rfl rfl)) ?_ | refine WO.q (Y.load rfl (loadS1 sz_56 S 1 rfl rfl)) ?_ | refine WO.q (Y.load rfl (loadS1 sz_56 S 2 rfl rfl)) ?_
    refine WO.q (Y.neq rfl rfl) ?_
    refine WO.q (Y.move (v := .bool _) rfl) ?_
    refine WO.splitB (fun h2 => ?_) (fun h2 => ?_)
    ·
     (try simp only [Q1, Q2, Q3, Q4, Q5, Q6, Q7, Q8, Q9, Qa] at h2)
     refine WO.qT rfl (Y.fieldB fo_71_1 rfl) ?_
     first | refine WO.qT rfl (Y.load rfl (loadS1 sz_56 S 0 rfl rfl)) ?_ | refine WO.qT rfl (Y.load rfl (loadS1 sz_56 S 1 rfl rfl)) ?_ | refine WO.qT rfl (Y.load rfl (loadS1 sz_56 S 2 rfl rfl)) ?_
     refine WO.qT rfl (Y.neq rfl rfl) ?_
     refine WO.q (Y.pickT (u := .bool _) rfl rfl) ?_
     refine WO.q (Y.move (v := .bool _) rfl) ?_
     refine WO.splitB (fun h3 => ?_) (fun h3 => ?_)
     ·
      (try simp only [Q1, Q2, Q3, Q4, Q5, Q6, Q7, Q8, Q9, Qa] at h3)
      refine WO.qT rfl (Y.fieldB fo_71_1 rfl) ?_
      first | refine WO.qT rfl (Y.load rfl (loadS1 sz_56 S 0 rfl rfl)) ?_ | refine WO.qT rfl (Y.load rfl (loadS1 sz_56 S 1 rfl rfl)) ?_ | refine WO.qT rfl (Y.load rfl (loadS1 sz_56 S 2 rfl rfl)) ?_
      refine WO.qT rfl (Y.neq rfl rfl) ?_
      refine WO.q (Y.pickT (u := .bool _) rfl rfl) ?_
      refine WO.q (Y.assign (v := .bool _) rfl) ?_
      refine WO.nil ?_
      refine Then.nx ⟨?_, ?_⟩
      ·
       (repeat (first | exact Out.hav _ _ _ | exact Out.refl _ _ | refine Out.up rfl ?_ | refine Out.sub rfl ?_))
      ·
       exact ⟨by (show Value.bool _ = Value.bool _; congr 1; simp only [takesB]; first | (symm; rw [decide_eq_true_eq]; omega) | (symm; rw [decide_eq_false_iff_not]; omega) | (rw [Bool.eq_iff_iff]; simp only [decide_eq_true_eq, Bool.not_eq_true', decide_eq_false_iff_not]; omega)), S⟩
     ·
      (try simp only [Q1, Q2, Q3, Q4, Q5, Q6, Q7, Q8, Q9, Qa] at h3)
      refine WO.qF rfl ?_
      refine WO.qF rfl ?_
      refine WO.qF rfl ?_
      refine WO.q (Y.pickF (u := .bool _) rfl rfl) ?_
      refine WO.q (Y.assign (v := .bool _) rfl) ?_
      refine WO.nil ?_
      refine Then.nx ⟨?_, ?_⟩
      ·
       (repeat (first | exact Out.hav _ _ _ | exact Out.refl _ _ | refine Out.up rfl ?_ | refine Out.sub rfl ?_))
      ·
       exact ⟨by (show Value.bool _ = Value.bool _; congr 1; simp only [takesB]; first | (symm; rw [decide_eq_true_eq]; omega) | (symm; rw [decide_eq_false_iff_not]; omega) | (rw [Bool.eq_iff_iff]; simp only [decide_eq_true_eq, Bool.not_eq_true', decide_eq_false_iff_not]; omega)), S⟩
    ·
     (try simp only [Q1, Q2, Q3, Q4, Q5, Q6, Q7, Q8, Q9, Qa] at h2)
     refine WO.qF rfl ?_
     refine WO.qF rfl ?_
     refine WO.qF rfl ?_
     refine WO.q (Y.pickF (u := .bool _) rfl rfl) ?_
     refine WO.q (Y.move (v := .bool _) rfl) ?_
     refine WO.qF rfl ?_
     refine WO.qF rfl ?_
     refine WO.qF rfl ?_
     refine WO.q (Y.pickF (u := .bool _) rfl rfl) ?_
     refine WO.q (Y.assign (v := .bool _) rfl) ?_
     refine WO.nil ?_
     refine Then.nx ⟨?_, ?_⟩
     ·
      (repeat (first | exact Out.hav _ _ _ | exact Out.refl _ _ | refine Out.up rfl ?_ | refine Out.sub rfl ?_))
     ·
      exact ⟨by (show Value.bool _ = Value.bool _; congr 1; simp only [takesB]; first | (symm; rw [decide_eq_true_eq]; omega) | (symm; rw [decide_eq_false_iff_not]; omega) | (rw [Bool.eq_iff_iff]; simp only [decide_eq_true_eq, Bool.not_eq_true', decide_eq_false_iff_not]; omega)), S⟩
   ·
    rintro gj143 v9 w ⟨rfl, S⟩
    refine W.cut0 [36, 37, 38, 39, 40, 41, 42]  (fun w => Sat w0 w [Cel b7 (tAccess.enc x) 71, Cel b3 (tClock.all (thsL (cT1 (crun (xs.take k)).1 x))) 147, MapF b10 (fun n : Int => Value.int .i64 n) (fun c : Clk => Value.agg (clkL 64 c).toArray) ((crun (xs.take k)).1.m), Own tClock 109 a1 c1 (crun (xs.take k)).2]) ?_ ?_
    ·
     refine W.seq ?_
     refine W.region rfl ?_
     refine WO.q (Y.move (v := .bool _) rfl) ?_
     refine WO.nil ?_
     refine Then.nx ?_
     refine W.cond rfl (fun h4 => ?_) (fun h4 => ?_) -- cond 1
     ·
      have rh4 := h4
      (try simp only [Q1, Q2, Q3, Q4, Q5, Q6, Q7, Q8, Q9, Qa] at h4)
      refine W.region rfl ?_
      first | refine WO.q (Y.move (v := .pointer (some _)) rfl) ?_ | refine WO.q (Y.move (v := .pointer _) rfl) ?_
      refine WO.q (Y.move (v := .map _) rfl) ?_
      refine WO.q (Y.fieldB fo_71_2 rfl) ?_
      first | refine WO.q (Y.load rfl (loadS1 sz_3 S 0 rfl rfl)) ?_ | refine WO.q (Y.load rfl (loadS1 sz_3 S 1 rfl rfl)) ?_ | refine WO.q (Y.load rfl (loadS1 sz_3 S 2 rfl rfl)) ?_
      refine WO.q (Y.lookup (kv := (fun n : Int => Value.int .i64 n)) (vv := (fun c : Clk => Value.agg (clkL 64 c).toArray)) (z := clock0) x.cell Tryd.underlying148 (keyInt Tryd.underlying3) (fun w => by kernel_rfl) 2 S rfl rfl rfl) ?_
      refine WO.e (O.call cf_80 rfl (ctake_spec w0 _ b3 _ _ _ _ _ _ (S.pk (.cons 1 rfl (.refl _))) (ths_Win _ ht)) ?_)
      rintro _ w ⟨rfl, S⟩
      rw [ths_put _ _ ht] at S
      refine ⟨_, rfl, ?_⟩
      refine WO.nil ?_
      refine Then.nx ⟨?_, ?_⟩
      ·
       (repeat (first | exact Out.hav _ _ _ | exact Out.refl _ _ | refine Out.up rfl ?_ | refine Out.sub rfl ?_))
      ·
       first | (have e1 : cT1 (crun (xs.take k)).1 x = _ := if_pos (by assumption); rw [e1]; exact S.pk (by repeat (first | exact Pk.nil _ | exact Pk.refl _ | refine Pk.cons 0 rfl ?_ | refine Pk.cons 1 rfl ?_ | refine Pk.cons 2 rfl ?_ | refine Pk.cons 3 rfl ?_ | refine Pk.cons 4 rfl ?_ | refine Pk.cons 5 rfl ?_ | refine Pk.cons 6 rfl ?_ | refine Pk.cons 7 rfl ?_ | refine Pk.cons 8 rfl ?_ | refine Pk.cons 9 rfl ?_ | refine Pk.cons 10 rfl ?_ | refine Pk.cons 11 rfl ?_ | refine Pk.cons 12 rfl ?_ | refine Pk.cons 13 rfl ?_ | refine Pk.drop ?_))) | (have e1 : cT1 (crun (xs.take k)).1 x = _ := if_neg (by (intro hh; rw [show takesB x.op = false by assumption] at hh; cases hh)); rw [e1]; exact S.pk (by repeat (first | exact Pk.nil _ | exact Pk.refl _ | refine Pk.cons 0 rfl ?_ | refine Pk.cons 1 rfl ?_ | refine Pk.cons 2 rfl ?_ | refine Pk.cons 3 rfl ?_ | refine Pk.cons 4 rfl ?_ | refine Pk.cons 5 rfl ?_ | refine Pk.cons 6 rfl ?_ | refine Pk.cons 7 rfl ?_ | refine Pk.cons 8 rfl ?_ | refine Pk.cons 9 rfl ?_ | refine Pk.cons 10 rfl ?_ | refine Pk.cons 11 rfl ?_ | refine Pk.cons 12 rfl ?_ | refine Pk.cons 13 rfl ?_ | refine Pk.drop ?_)))
     ·
      have rh4 := h4
      (try simp only [Q1, Q2, Q3, Q4, Q5, Q6, Q7, Q8, Q9, Qa] at h4)
      refine W.skip ?_
      refine Then.nx ⟨?_, ?_⟩
      ·
       (repeat (first | exact Out.hav _ _ _ | exact Out.refl _ _ | refine Out.up rfl ?_ | refine Out.sub rfl ?_))
      ·
       first | (have e1 : cT1 (crun (xs.take k)).1 x = _ := if_pos (by assumption); rw [e1]; exact S.pk (by repeat (first | exact Pk.nil _ | exact Pk.refl _ | refine Pk.cons 0 rfl ?_ | refine Pk.cons 1 rfl ?_ | refine Pk.cons 2 rfl ?_ | refine Pk.cons 3 rfl ?_ | refine Pk.cons 4 rfl ?_ | refine Pk.cons 5 rfl ?_ | refine Pk.cons 6 rfl ?_ | refine Pk.cons 7 rfl ?_ | refine Pk.cons 8 rfl ?_ | refine Pk.cons 9 rfl ?_ | refine Pk.cons 10 rfl ?_ | refine Pk.cons 11 rfl ?_ | refine Pk.cons 12 rfl ?_ | refine Pk.cons 13 rfl ?_ | refine Pk.drop ?_))) | (have e1 : cT1 (crun (xs.take k)).1 x = _ := if_neg (by (intro hh; rw [show takesB x.op = false by assumption] at hh; cases hh)); rw [e1]; exact S.pk (by repeat (first | exact Pk.nil _ | exact Pk.refl _ | refine Pk.cons 0 rfl ?_ | refine Pk.cons 1 rfl ?_ | refine Pk.cons 2 rfl ?_ | refine Pk.cons 3 rfl ?_ | refine Pk.cons 4 rfl ?_ | refine Pk.cons 5 rfl ?_ | refine Pk.cons 6 rfl ?_ | refine Pk.cons 7 rfl ?_ | refine Pk.cons 8 rfl ?_ | refine Pk.cons 9 rfl ?_ | refine Pk.cons 10 rfl ?_ | refine Pk.cons 11 rfl ?_ | refine Pk.cons 12 rfl ?_ | refine Pk.cons 13 rfl ?_ | refine Pk.drop ?_)))
    ·
     rintro gj181 w S
     refine W.seq ?_
     refine W.draw (.q 0 (.q 1 (.q 2 (.q 3 (.q 4 (.q 5 (.q 6 (.q 7 (.q 8 (.e 9 .nil)))))))))) (fun w => Sat _ w _) rfl rfl (by kernel_rfl) rfl (by kernel_rfl) (by repeat (first | exact BodyQ.noFrame | refine Then.noFrame ?_ | refine InB.noFrame ?_)) S.drew ?_
     clear S
     first | refine Plan.q rfl (fun w S => Y.move (v := .pointer (some _)) rfl) ?_ | refine Plan.q rfl (fun w S => Y.move (v := .pointer _) rfl) ?_
     refine Plan.q rfl (fun w S => Y.fieldB fo_71_0 rfl) ?_
     first | refine Plan.q rfl (fun w S => Y.load rfl (loadS1 sz_3 S 0 rfl rfl)) ?_ | refine Plan.q rfl (fun w S => Y.load rfl (loadS1 sz_3 S 1 rfl rfl)) ?_ | refine Plan.q rfl (fun w S => Y.load rfl (loadS1 sz_3 S 2 rfl rfl)) ?_
     refine Plan.q rfl (fun w S => Y.nilP rfl) ?_
     refine Plan.q rfl (fun w S => Y.ixA ar_109 rfl rfl (by (first | assumption | omega)) (by (first | assumption | omega))) ?_
     refine Plan.q rfl (fun w S => Y.load rfl (loadS1 sz_3 S 1 rfl (ths_at _ ht ht))) ?_
     first | refine Plan.q rfl (fun w S => Y.addI rfl rfl (by omega)) ?_ | refine Plan.q rfl (fun w S => Y.add rfl rfl) ?_
     refine Plan.q rfl (fun w S => Y.nilP rfl) ?_
     refine Plan.q rfl (fun w S => Y.ixA ar_109 rfl rfl (by (first | assumption | omega)) (by (first | assumption | omega))) ?_
     refine Plan.e0 rfl (fun w S => O.store (v := .int _ _) 1 S rfl rfl rfl sz_3 rfl rfl rfl (by rw [ths_len, Nat.ble_eq]; omega) (fun w S => ?_))
     refine ⟨(fun w => Sat _ w _), S, (.inl (by kernel_rfl)), ?_⟩
     clear S
     refine Plan.nil (fun w S => ?_)
     replace S : Sat _ _ _ := S
     refine Then.nx ?_
     refine W.seq ?_
     rw [ths_bump _ ht] at S
     replace S : Sat w0 w [Cel b7 (tAccess.enc x) 71, Cel b3 (tClock.all (thsL (cT2 (crun (xs.take k)).1 x))) 147, MapF b10 (fun n : Int => Value.int .i64 n) (fun c : Clk => Value.agg (clkL 64 c).toArray) ((crun (xs.take k)).1.m), Own tClock 109 a1 c1 (crun (xs.take k)).2] := S
     refine W.region rfl ?_
     refine WO.q (Y.move (v := .slice _ _ _) rfl) ?_
     first | refine WO.q (Y.move (v := .pointer (some _)) rfl) ?_ | refine WO.q (Y.move (v := .pointer _) rfl) ?_
     refine WO.q (Y.nilP rfl) ?_
     first | refine WO.q (Y.load rfl (loadSN sz_109 S 0 rfl (ths_win _ ht) (clkL_len 64 _))) ?_ | refine WO.q (Y.load rfl (loadSN sz_109 S 1 rfl (ths_win _ ht) (clkL_len 64 _))) ?_ | refine WO.q (Y.load rfl (loadSN sz_109 S 2 rfl (ths_win _ ht) (clkL_len 64 _))) ?_ | refine WO.q (Y.load rfl (loadSN sz_109 S 3 rfl (ths_win _ ht) (clkL_len 64 _))) ?_
     refine WO.e (O.buildSlice rfl (buildOne sl_105 (by decide) rfl (clkL_len 64 _)) S (fun b56 w S => ?_))
     refine WO.e (O.append (ys := [_]) 4 sl_105 S rfl rfl hol.symm rfl (S.rd1 0 rfl) rfl (by (simp only [hol, List.length_singleton]; omega)) (by (simp only [hol, List.length_singleton, maxLen]; omega)) (fun a57 c57 w S hn57 => ?_))
     refine WO.q (Y.assign (v := .slice _ _ _) rfl) ?_
     refine WO.nil ?_
     refine Then.nx ?_
     refine W.seq ?_
     replace S : Sat w0 w [Cel b7 (tAccess.enc x) 71, Cel b3 (tClock.all (thsL (cT2 (crun (xs.take k)).1 x))) 147, MapF b10 (fun n : Int => Value.int .i64 n) (fun c : Clk => Value.agg (clkL 64 c).toArray) ((crun (xs.take k)).1.m), Own tClock 109 a57 c57 ((crun (xs.take k)).2 ++ [cOut (crun (xs.take k)).1 x])] := S.pk (.cons 1 rfl (.cons 1 rfl (.cons 1 rfl (.cons 1 rfl (.nil _)))))
     refine W.region rfl ?_
     refine WO.q (Y.fieldB fo_71_1 rfl) ?_
     first | refine WO.q (Y.load rfl (loadS1 sz_56 S 0 rfl rfl)) ?_ | refine WO.q (Y.load rfl (loadS1 sz_56 S 1 rfl rfl)) ?_ | refine WO.q (Y.load rfl (loadS1 sz_56 S 2 rfl rfl)) ?_
     refine WO.nil ?_
     refine Then.nx ?_
     refine W.block ?_
     refine W.seq ?_
     refine W.seq ?_
     refine W.region rfl ?_
     refine WO.q (Y.eql rfl rfl) ?_
     refine WO.q (Y.assign (v := .bool _) rfl) ?_
     refine WO.nil ?_
     refine Then.nx ?_
     refine W.cond rfl (fun h5 => ?_) (fun h5 => ?_) -- cond 2
     ·
      have rh5 := h5
      (try simp only [Q1, Q2, Q3, Q4, Q5, Q6, Q7, Q8, Q9, Qa] at h5)
      refine W.skip ?_
      refine Then.nx ?_
      first | refine W.condT rfl ?_ | refine W.condT (congrArg Value.bool (by assumption)) ?_
      refine W.draw (.q 0 (.q 1 (.q 2 (.q 3 (.q 4 (.q 5 (.e 6 .nil))))))) (fun w => Sat _ w _) rfl rfl (by kernel_rfl) rfl (by kernel_rfl) (by repeat (first | exact BodyQ.noFrame | refine Then.noFrame ?_ | refine InB.noFrame ?_)) S.drew ?_
      clear S
      refine Plan.q rfl (fun w S => Y.move (v := .map _) rfl) ?_
      refine Plan.q rfl (fun w S => Y.fieldB fo_71_2 rfl) ?_
      first | refine Plan.q rfl (fun w S => Y.load rfl (loadS1 sz_3 S 0 rfl rfl)) ?_ | refine Plan.q rfl (fun w S => Y.load rfl (loadS1 sz_3 S 1 rfl rfl)) ?_ | refine Plan.q rfl (fun w S => Y.load rfl (loadS1 sz_3 S 2 rfl rfl)) ?_
      first | refine Plan.q rfl (fun w S => Y.move (v := .pointer (some _)) rfl) ?_ | refine Plan.q rfl (fun w S => Y.move (v := .pointer _) rfl) ?_
      refine Plan.q rfl (fun w S => Y.nilP rfl) ?_
      first | refine Plan.q rfl (fun w S => Y.load rfl (loadSN sz_109 S 0 rfl (ths_win _ ht) (clkL_len 64 _))) ?_ | refine Plan.q rfl (fun w S => Y.load rfl (loadSN sz_109 S 1 rfl (ths_win _ ht) (clkL_len 64 _))) ?_ | refine Plan.q rfl (fun w S => Y.load rfl (loadSN sz_109 S 2 rfl (ths_win _ ht) (clkL_len 64 _))) ?_ | refine Plan.q rfl (fun w S => Y.load rfl (loadSN sz_109 S 3 rfl (ths_win _ ht) (clkL_len 64 _))) ?_
      refine Plan.e0 rfl (fun w S => O.mapUpdate x.cell (cOut (crun (xs.take k)).1 x) Tryd.underlying148 (keyInt Tryd.underlying3) 2 S rfl rfl rfl rfl (fun w S => ?_))
      refine ⟨(fun w => Sat _ w _), S, (.inl (by kernel_rfl)), ?_⟩
      clear S
      refine Plan.nil (fun w S => ?_)
      replace S : Sat _ _ _ := S
      refine InB.nx ?_
      refine InB.nx ?_
      refine Then.nx ?_
      refine W.region rfl ?_
      first | refine WO.q (Y.addI rfl rfl (by omega)) ?_ | refine WO.q (Y.add rfl rfl) ?_
      refine WO.q (Y.move (v := .int .i64 _) rfl) ?_
      refine WO.nil ?_
      refine Then.nx ⟨?_, ?_, ?_⟩
      ·
       (repeat (first | exact Out.hav _ _ _ | exact Out.refl _ _ | refine Out.up rfl ?_ | refine Out.sub rfl ?_))
      ·
       first | (have hm := cM1 (crun (xs.take k)).1 x (by omega); first | (have hT := cTa (crun (xs.take k)).1 x (by omega); (refine ⟨k + 1, a57, c57, rfl, by omega, by (show Value.slice _ _ _ = _; simp only [List.length_append, List.length_singleton, hol]), ?_⟩; rw [hts, crun_snoc]; show Sat w0 w [Cel b3 (tClock.all (thsL (cT3 (crun (xs.take k)).1 x))) _, MapF b10 _ _ (cM (crun (xs.take k)).1 x), Own _ _ _ _ _]; rw [hm, hT]; exact S.pk (by repeat (first | exact Pk.nil _ | exact Pk.refl _ | refine Pk.cons 0 rfl ?_ | refine Pk.cons 1 rfl ?_ | refine Pk.cons 2 rfl ?_ | refine Pk.cons 3 rfl ?_ | refine Pk.cons 4 rfl ?_ | refine Pk.cons 5 rfl ?_ | refine Pk.cons 6 rfl ?_ | refine Pk.cons 7 rfl ?_ | refine Pk.cons 8 rfl ?_ | refine Pk.cons 9 rfl ?_ | refine Pk.cons 10 rfl ?_ | refine Pk.cons 11 rfl ?_ | refine Pk.cons 12 rfl ?_ | refine Pk.cons 13 rfl ?_ | refine Pk.drop ?_)))) | (have hT := cTb (crun (xs.take k)).1 x (by omega); (refine ⟨k + 1, a57, c57, rfl, by omega, by (show Value.slice _ _ _ = _; simp only [List.length_append, List.length_singleton, hol]), ?_⟩; rw [hts, crun_snoc]; show Sat w0 w [Cel b3 (tClock.all (thsL (cT3 (crun (xs.take k)).1 x))) _, MapF b10 _ _ (cM (crun (xs.take k)).1 x), Own _ _ _ _ _]; rw [hm, hT]; exact S.pk (by repeat (first | exact Pk.nil _ | exact Pk.refl _ | refine Pk.cons 0 rfl ?_ | refine Pk.cons 1 rfl ?_ | refine Pk.cons 2 rfl ?_ | refine Pk.cons 3 rfl ?_ | refine Pk.cons 4 rfl ?_ | refine Pk.cons 5 rfl ?_ | refine Pk.cons 6 rfl ?_ | refine Pk.cons 7 rfl ?_ | refine Pk.cons 8 rfl ?_ | refine Pk.cons 9 rfl ?_ | refine Pk.cons 10 rfl ?_ | refine Pk.cons 11 rfl ?_ | refine Pk.cons 12 rfl ?_ | refine Pk.cons 13 rfl ?_ | refine Pk.drop ?_))))) | (have hm := cM2 (crun (xs.take k)).1 x (by omega) (by assumption); first | (have hT := cTa (crun (xs.take k)).1 x (by omega); (refine ⟨k + 1, a57, c57, rfl, by omega, by (show Value.slice _ _ _ = _; simp only [List.length_append, List.length_singleton, hol]), ?_⟩; rw [hts, crun_snoc]; show Sat w0 w [Cel b3 (tClock.all (thsL (cT3 (crun (xs.take k)).1 x))) _, MapF b10 _ _ (cM (crun (xs.take k)).1 x), Own _ _ _ _ _]; rw [hm, hT]; exact S.pk (by repeat (first | exact Pk.nil _ | exact Pk.refl _ | refine Pk.cons 0 rfl ?_ | refine Pk.cons 1 rfl ?_ | refine Pk.cons 2 rfl ?_ | refine Pk.cons 3 rfl ?_ | refine Pk.cons 4 rfl ?_ | refine Pk.cons 5 rfl ?_ | refine Pk.cons 6 rfl ?_ | refine Pk.cons 7 rfl ?_ | refine Pk.cons 8 rfl ?_ | refine Pk.cons 9 rfl ?_ | refine Pk.cons 10 rfl ?_ | refine Pk.cons 11 rfl ?_ | refine Pk.cons 12 rfl ?_ | refine Pk.cons 13 rfl ?_ | refine Pk.drop ?_)))) | (have hT := cTb (crun (xs.take k)).1 x (by omega); (refine ⟨k + 1, a57, c57, rfl, by omega, by (show Value.slice _ _ _ = _; simp only [List.length_append, List.length_singleton, hol]), ?_⟩; rw [hts, crun_snoc]; show Sat w0 w [Cel b3 (tClock.all (thsL (cT3 (crun (xs.take k)).1 x))) _, MapF b10 _ _ (cM (crun (xs.take k)).1 x), Own _ _ _ _ _]; rw [hm, hT]; exact S.pk (by repeat (first | exact Pk.nil _ | exact Pk.refl _ | refine Pk.cons 0 rfl ?_ | refine Pk.cons 1 rfl ?_ | refine Pk.cons 2 rfl ?_ | refine Pk.cons 3 rfl ?_ | refine Pk.cons 4 rfl ?_ | refine Pk.cons 5 rfl ?_ | refine Pk.cons 6 rfl ?_ | refine Pk.cons 7 rfl ?_ | refine Pk.cons 8 rfl ?_ | refine Pk.cons 9 rfl ?_ | refine Pk.cons 10 rfl ?_ | refine Pk.cons 11 rfl ?_ | refine Pk.cons 12 rfl ?_ | refine Pk.cons 13 rfl ?_ | refine Pk.drop ?_))))) | (have hm := cM3 (crun (xs.take k)).1 x (by omega) (by assumption); first | (have hT := cTa (crun (xs.take k)).1 x (by omega); (refine ⟨k + 1, a57, c57, rfl, by omega, by (show Value.slice _ _ _ = _; simp only [List.length_append, List.length_singleton, hol]), ?_⟩; rw [hts, crun_snoc]; show Sat w0 w [Cel b3 (tClock.all (thsL (cT3 (crun (xs.take k)).1 x))) _, MapF b10 _ _ (cM (crun (xs.take k)).1 x), Own _ _ _ _ _]; rw [hm, hT]; exact S.pk (by repeat (first | exact Pk.nil _ | exact Pk.refl _ | refine Pk.cons 0 rfl ?_ | refine Pk.cons 1 rfl ?_ | refine Pk.cons 2 rfl ?_ | refine Pk.cons 3 rfl ?_ | refine Pk.cons 4 rfl ?_ | refine Pk.cons 5 rfl ?_ | refine Pk.cons 6 rfl ?_ | refine Pk.cons 7 rfl ?_ | refine Pk.cons 8 rfl ?_ | refine Pk.cons 9 rfl ?_ | refine Pk.cons 10 rfl ?_ | refine Pk.cons 11 rfl ?_ | refine Pk.cons 12 rfl ?_ | refine Pk.cons 13 rfl ?_ | refine Pk.drop ?_)))) | (have hT := cTb (crun (xs.take k)).1 x (by omega); (refine ⟨k + 1, a57, c57, rfl, by omega, by (show Value.slice _ _ _ = _; simp only [List.length_append, List.length_singleton, hol]), ?_⟩; rw [hts, crun_snoc]; show Sat w0 w [Cel b3 (tClock.all (thsL (cT3 (crun (xs.take k)).1 x))) _, MapF b10 _ _ (cM (crun (xs.take k)).1 x), Own _ _ _ _ _]; rw [hm, hT]; exact S.pk (by repeat (first | exact Pk.nil _ | exact Pk.refl _ | refine Pk.cons 0 rfl ?_ | refine Pk.cons 1 rfl ?_ | refine Pk.cons 2 rfl ?_ | refine Pk.cons 3 rfl ?_ | refine Pk.cons 4 rfl ?_ | refine Pk.cons 5 rfl ?_ | refine Pk.cons 6 rfl ?_ | refine Pk.cons 7 rfl ?_ | refine Pk.cons 8 rfl ?_ | refine Pk.cons 9 rfl ?_ | refine Pk.cons 10 rfl ?_ | refine Pk.cons 11 rfl ?_ | refine Pk.cons 12 rfl ?_ | refine Pk.cons 13 rfl ?_ | refine Pk.drop ?_))))) | (have hm := cM4 (crun (xs.take k)).1 x (by omega) (by omega); first | (have hT := cTa (crun (xs.take k)).1 x (by omega); (refine ⟨k + 1, a57, c57, rfl, by omega, by (show Value.slice _ _ _ = _; simp only [List.length_append, List.length_singleton, hol]), ?_⟩; rw [hts, crun_snoc]; show Sat w0 w [Cel b3 (tClock.all (thsL (cT3 (crun (xs.take k)).1 x))) _, MapF b10 _ _ (cM (crun (xs.take k)).1 x), Own _ _ _ _ _]; rw [hm, hT]; exact S.pk (by repeat (first | exact Pk.nil _ | exact Pk.refl _ | refine Pk.cons 0 rfl ?_ | refine Pk.cons 1 rfl ?_ | refine Pk.cons 2 rfl ?_ | refine Pk.cons 3 rfl ?_ | refine Pk.cons 4 rfl ?_ | refine Pk.cons 5 rfl ?_ | refine Pk.cons 6 rfl ?_ | refine Pk.cons 7 rfl ?_ | refine Pk.cons 8 rfl ?_ | refine Pk.cons 9 rfl ?_ | refine Pk.cons 10 rfl ?_ | refine Pk.cons 11 rfl ?_ | refine Pk.cons 12 rfl ?_ | refine Pk.cons 13 rfl ?_ | refine Pk.drop ?_)))) | (have hT := cTb (crun (xs.take k)).1 x (by omega); (refine ⟨k + 1, a57, c57, rfl, by omega, by (show Value.slice _ _ _ = _; simp only [List.length_append, List.length_singleton, hol]), ?_⟩; rw [hts, crun_snoc]; show Sat w0 w [Cel b3 (tClock.all (thsL (cT3 (crun (xs.take k)).1 x))) _, MapF b10 _ _ (cM (crun (xs.take k)).1 x), Own _ _ _ _ _]; rw [hm, hT]; exact S.pk (by repeat (first | exact Pk.nil _ | exact Pk.refl _ | refine Pk.cons 0 rfl ?_ | refine Pk.cons 1 rfl ?_ | refine Pk.cons 2 rfl ?_ | refine Pk.cons 3 rfl ?_ | refine Pk.cons 4 rfl ?_ | refine Pk.cons 5 rfl ?_ | refine Pk.cons 6 rfl ?_ | refine Pk.cons 7 rfl ?_ | refine Pk.cons 8 rfl ?_ | refine Pk.cons 9 rfl ?_ | refine Pk.cons 10 rfl ?_ | refine Pk.cons 11 rfl ?_ | refine Pk.cons 12 rfl ?_ | refine Pk.cons 13 rfl ?_ | refine Pk.drop ?_)))))
      ·
       (show xs.length - (k + 1) < xs.length - k; omega)
     ·
      have rh5 := h5
      (try simp only [Q1, Q2, Q3, Q4, Q5, Q6, Q7, Q8, Q9, Qa] at h5)
      refine W.seq ?_
      refine W.region rfl ?_
      refine WO.q (Y.eql rfl rfl) ?_
      refine WO.q (Y.assign (v := .bool _) rfl) ?_
      refine WO.nil ?_
      refine Then.nx ?_
      refine W.cond rfl (fun h6 => ?_) (fun h6 => ?_) -- cond 3
      ·
       have rh6 := h6
       (try simp only [Q1, Q2, Q3, Q4, Q5, Q6, Q7, Q8, Q9, Qa] at h6)
       refine W.skip ?_
       refine Then.nx ?_
       first | refine W.condT rfl ?_ | refine W.condT (congrArg Value.bool (by assumption)) ?_
       refine W.draw (.q 0 (.q 1 (.q 2 (.q 3 (.q 4 (.q 5 (.e 6 .nil))))))) (fun w => Sat _ w _) rfl rfl (by kernel_rfl) rfl (by kernel_rfl) (by repeat (first | exact BodyQ.noFrame | refine Then.noFrame ?_ | refine InB.noFrame ?_)) S.drew ?_
       clear S
       refine Plan.q rfl (fun w S => Y.move (v := .map _) rfl) ?_
       refine Plan.q rfl (fun w S => Y.fieldB fo_71_2 rfl) ?_
       first | refine Plan.q rfl (fun w S => Y.load rfl (loadS1 sz_3 S 0 rfl rfl)) ?_ | refine Plan.q rfl (fun w S => Y.load rfl (loadS1 sz_3 S 1 rfl rfl)) ?_ | refine Plan.q rfl (fun w S => Y.load rfl (loadS1 sz_3 S 2 rfl rfl)) ?_
       first | refine Plan.q rfl (fun w S => Y.move (v := .pointer (some _)) rfl) ?_ | refine Plan.q rfl (fun w S => Y.move (v := .pointer _) rfl) ?_
       refine Plan.q rfl (fun w S => Y.nilP rfl) ?_
       first | refine Plan.q rfl (fun w S => Y.load rfl (loadSN sz_109 S 0 rfl (ths_win _ ht) (clkL_len 64 _))) ?_ | refine Plan.q rfl (fun w S => Y.load rfl (loadSN sz_109 S 1 rfl (ths_win _ ht) (clkL_len 64 _))) ?_ | refine Plan.q rfl (fun w S => Y.load rfl (loadSN sz_109 S 2 rfl (ths_win _ ht) (clkL_len 64 _))) ?_ | refine Plan.q rfl (fun w S => Y.load rfl (loadSN sz_109 S 3 rfl (ths_win _ ht) (clkL_len 64 _))) ?_
       refine Plan.e0 rfl (fun w S => O.mapUpdate x.cell (cOut (crun (xs.take k)).1 x) Tryd.underlying148 (keyInt Tryd.underlying3) 2 S rfl rfl rfl rfl (fun w S => ?_))
       refine ⟨(fun w => Sat _ w _), S, (.inl (by kernel_rfl)), ?_⟩
       clear S
       refine Plan.nil (fun w S => ?_)
       replace S : Sat _ _ _ := S
       refine InB.nx ?_
       refine InB.nx ?_
       refine Then.nx ?_
       refine W.region rfl ?_
       first | refine WO.q (Y.addI rfl rfl (by omega)) ?_ | refine WO.q (Y.add rfl rfl) ?_
       refine WO.q (Y.move (v := .int .i64 _) rfl) ?_
       refine WO.nil ?_
       refine Then.nx ⟨?_, ?_, ?_⟩
       ·
        (repeat (first | exact Out.hav _ _ _ | exact Out.refl _ _ | refine Out.up rfl ?_ | refine Out.sub rfl ?_))
       ·
        first | (have hm := cM1 (crun (xs.take k)).1 x (by omega); first | (have hT := cTa (crun (xs.take k)).1 x (by omega); (refine ⟨k + 1, a57, c57, rfl, by omega, by (show Value.slice _ _ _ = _; simp only [List.length_append, List.length_singleton, hol]), ?_⟩; rw [hts, crun_snoc]; show Sat w0 w [Cel b3 (tClock.all (thsL (cT3 (crun (xs.take k)).1 x))) _, MapF b10 _ _ (cM (crun (xs.take k)).1 x), Own _ _ _ _ _]; rw [hm, hT]; exact S.pk (by repeat (first | exact Pk.nil _ | exact Pk.refl _ | refine Pk.cons 0 rfl ?_ | refine Pk.cons 1 rfl ?_ | refine Pk.cons 2 rfl ?_ | refine Pk.cons 3 rfl ?_ | refine Pk.cons 4 rfl ?_ | refine Pk.cons 5 rfl ?_ | refine Pk.cons 6 rfl ?_ | refine Pk.cons 7 rfl ?_ | refine Pk.cons 8 rfl ?_ | refine Pk.cons 9 rfl ?_ | refine Pk.cons 10 rfl ?_ | refine Pk.cons 11 rfl ?_ | refine Pk.cons 12 rfl ?_ | refine Pk.cons 13 rfl ?_ | refine Pk.drop ?_)))) | (have hT := cTb (crun (xs.take k)).1 x (by omega); (refine ⟨k + 1, a57, c57, rfl, by omega, by (show Value.slice _ _ _ = _; simp only [List.length_append, List.length_singleton, hol]), ?_⟩; rw [hts, crun_snoc]; show Sat w0 w [Cel b3 (tClock.all (thsL (cT3 (crun (xs.take k)).1 x))) _, MapF b10 _ _ (cM (crun (xs.take k)).1 x), Own _ _ _ _ _]; rw [hm, hT]; exact S.pk (by repeat (first | exact Pk.nil _ | exact Pk.refl _ | refine Pk.cons 0 rfl ?_ | refine Pk.cons 1 rfl ?_ | refine Pk.cons 2 rfl ?_ | refine Pk.cons 3 rfl ?_ | refine Pk.cons 4 rfl ?_ | refine Pk.cons 5 rfl ?_ | refine Pk.cons 6 rfl ?_ | refine Pk.cons 7 rfl ?_ | refine Pk.cons 8 rfl ?_ | refine Pk.cons 9 rfl ?_ | refine Pk.cons 10 rfl ?_ | refine Pk.cons 11 rfl ?_ | refine Pk.cons 12 rfl ?_ | refine Pk.cons 13 rfl ?_ | refine Pk.drop ?_))))) | (have hm := cM2 (crun (xs.take k)).1 x (by omega) (by assumption); first | (have hT := cTa (crun (xs.take k)).1 x (by omega); (refine ⟨k + 1, a57, c57, rfl, by omega, by (show Value.slice _ _ _ = _; simp only [List.length_append, List.length_singleton, hol]), ?_⟩; rw [hts, crun_snoc]; show Sat w0 w [Cel b3 (tClock.all (thsL (cT3 (crun (xs.take k)).1 x))) _, MapF b10 _ _ (cM (crun (xs.take k)).1 x), Own _ _ _ _ _]; rw [hm, hT]; exact S.pk (by repeat (first | exact Pk.nil _ | exact Pk.refl _ | refine Pk.cons 0 rfl ?_ | refine Pk.cons 1 rfl ?_ | refine Pk.cons 2 rfl ?_ | refine Pk.cons 3 rfl ?_ | refine Pk.cons 4 rfl ?_ | refine Pk.cons 5 rfl ?_ | refine Pk.cons 6 rfl ?_ | refine Pk.cons 7 rfl ?_ | refine Pk.cons 8 rfl ?_ | refine Pk.cons 9 rfl ?_ | refine Pk.cons 10 rfl ?_ | refine Pk.cons 11 rfl ?_ | refine Pk.cons 12 rfl ?_ | refine Pk.cons 13 rfl ?_ | refine Pk.drop ?_)))) | (have hT := cTb (crun (xs.take k)).1 x (by omega); (refine ⟨k + 1, a57, c57, rfl, by omega, by (show Value.slice _ _ _ = _; simp only [List.length_append, List.length_singleton, hol]), ?_⟩; rw [hts, crun_snoc]; show Sat w0 w [Cel b3 (tClock.all (thsL (cT3 (crun (xs.take k)).1 x))) _, MapF b10 _ _ (cM (crun (xs.take k)).1 x), Own _ _ _ _ _]; rw [hm, hT]; exact S.pk (by repeat (first | exact Pk.nil _ | exact Pk.refl _ | refine Pk.cons 0 rfl ?_ | refine Pk.cons 1 rfl ?_ | refine Pk.cons 2 rfl ?_ | refine Pk.cons 3 rfl ?_ | refine Pk.cons 4 rfl ?_ | refine Pk.cons 5 rfl ?_ | refine Pk.cons 6 rfl ?_ | refine Pk.cons 7 rfl ?_ | refine Pk.cons 8 rfl ?_ | refine Pk.cons 9 rfl ?_ | refine Pk.cons 10 rfl ?_ | refine Pk.cons 11 rfl ?_ | refine Pk.cons 12 rfl ?_ | refine Pk.cons 13 rfl ?_ | refine Pk.drop ?_))))) | (have hm := cM3 (crun (xs.take k)).1 x (by omega) (by assumption); first | (have hT := cTa (crun (xs.take k)).1 x (by omega); (refine ⟨k + 1, a57, c57, rfl, by omega, by (show Value.slice _ _ _ = _; simp only [List.length_append, List.length_singleton, hol]), ?_⟩; rw [hts, crun_snoc]; show Sat w0 w [Cel b3 (tClock.all (thsL (cT3 (crun (xs.take k)).1 x))) _, MapF b10 _ _ (cM (crun (xs.take k)).1 x), Own _ _ _ _ _]; rw [hm, hT]; exact S.pk (by repeat (first | exact Pk.nil _ | exact Pk.refl _ | refine Pk.cons 0 rfl ?_ | refine Pk.cons 1 rfl ?_ | refine Pk.cons 2 rfl ?_ | refine Pk.cons 3 rfl ?_ | refine Pk.cons 4 rfl ?_ | refine Pk.cons 5 rfl ?_ | refine Pk.cons 6 rfl ?_ | refine Pk.cons 7 rfl ?_ | refine Pk.cons 8 rfl ?_ | refine Pk.cons 9 rfl ?_ | refine Pk.cons 10 rfl ?_ | refine Pk.cons 11 rfl ?_ | refine Pk.cons 12 rfl ?_ | refine Pk.cons 13 rfl ?_ | refine Pk.drop ?_)))) | (have hT := cTb (crun (xs.take k)).1 x (by omega); (refine ⟨k + 1, a57, c57, rfl, by omega, by (show Value.slice _ _ _ = _; simp only [List.length_append, List.length_singleton, hol]), ?_⟩; rw [hts, crun_snoc]; show Sat w0 w [Cel b3 (tClock.all (thsL (cT3 (crun (xs.take k)).1 x))) _, MapF b10 _ _ (cM (crun (xs.take k)).1 x), Own _ _ _ _ _]; rw [hm, hT]; exact S.pk (by repeat (first | exact Pk.nil _ | exact Pk.refl _ | refine Pk.cons 0 rfl ?_ | refine Pk.cons 1 rfl ?_ | refine Pk.cons 2 rfl ?_ | refine Pk.cons 3 rfl ?_ | refine Pk.cons 4 rfl ?_ | refine Pk.cons 5 rfl ?_ | refine Pk.cons 6 rfl ?_ | refine Pk.cons 7 rfl ?_ | refine Pk.cons 8 rfl ?_ | refine Pk.cons 9 rfl ?_ | refine Pk.cons 10 rfl ?_ | refine Pk.cons 11 rfl ?_ | refine Pk.cons 12 rfl ?_ | refine Pk.cons 13 rfl ?_ | refine Pk.drop ?_))))) | (have hm := cM4 (crun (xs.take k)).1 x (by omega) (by omega); first | (have hT := cTa (crun (xs.take k)).1 x (by omega); (refine ⟨k + 1, a57, c57, rfl, by omega, by (show Value.slice _ _ _ = _; simp only [List.length_append, List.length_singleton, hol]), ?_⟩; rw [hts, crun_snoc]; show Sat w0 w [Cel b3 (tClock.all (thsL (cT3 (crun (xs.take k)).1 x))) _, MapF b10 _ _ (cM (crun (xs.take k)).1 x), Own _ _ _ _ _]; rw [hm, hT]; exact S.pk (by repeat (first | exact Pk.nil _ | exact Pk.refl _ | refine Pk.cons 0 rfl ?_ | refine Pk.cons 1 rfl ?_ | refine Pk.cons 2 rfl ?_ | refine Pk.cons 3 rfl ?_ | refine Pk.cons 4 rfl ?_ | refine Pk.cons 5 rfl ?_ | refine Pk.cons 6 rfl ?_ | refine Pk.cons 7 rfl ?_ | refine Pk.cons 8 rfl ?_ | refine Pk.cons 9 rfl ?_ | refine Pk.cons 10 rfl ?_ | refine Pk.cons 11 rfl ?_ | refine Pk.cons 12 rfl ?_ | refine Pk.cons 13 rfl ?_ | refine Pk.drop ?_)))) | (have hT := cTb (crun (xs.take k)).1 x (by omega); (refine ⟨k + 1, a57, c57, rfl, by omega, by (show Value.slice _ _ _ = _; simp only [List.length_append, List.length_singleton, hol]), ?_⟩; rw [hts, crun_snoc]; show Sat w0 w [Cel b3 (tClock.all (thsL (cT3 (crun (xs.take k)).1 x))) _, MapF b10 _ _ (cM (crun (xs.take k)).1 x), Own _ _ _ _ _]; rw [hm, hT]; exact S.pk (by repeat (first | exact Pk.nil _ | exact Pk.refl _ | refine Pk.cons 0 rfl ?_ | refine Pk.cons 1 rfl ?_ | refine Pk.cons 2 rfl ?_ | refine Pk.cons 3 rfl ?_ | refine Pk.cons 4 rfl ?_ | refine Pk.cons 5 rfl ?_ | refine Pk.cons 6 rfl ?_ | refine Pk.cons 7 rfl ?_ | refine Pk.cons 8 rfl ?_ | refine Pk.cons 9 rfl ?_ | refine Pk.cons 10 rfl ?_ | refine Pk.cons 11 rfl ?_ | refine Pk.cons 12 rfl ?_ | refine Pk.cons 13 rfl ?_ | refine Pk.drop ?_)))))
       ·
        (show xs.length - (k + 1) < xs.length - k; omega)
      ·
       have rh6 := h6
       (try simp only [Q1, Q2, Q3, Q4, Q5, Q6, Q7, Q8, Q9, Qa] at h6)
       refine W.region rfl ?_
       refine WO.q (Y.eql rfl rfl) ?_
       refine WO.q (Y.assign (v := .bool _) rfl) ?_
       refine WO.nil ?_
       refine Then.nx ?_
       refine W.cond rfl (fun h7 => ?_) (fun h7 => ?_) -- cond 4
       ·
        have rh7 := h7
        (try simp only [Q1, Q2, Q3, Q4, Q5, Q6, Q7, Q8, Q9, Qa] at h7)
        refine W.draw (.q 0 (.q 1 (.q 2 (.q 3 (.q 4 (.q 5 (.e 6 .nil))))))) (fun w => Sat _ w _) rfl rfl (by kernel_rfl) rfl (by kernel_rfl) (by repeat (first | exact BodyQ.noFrame | refine Then.noFrame ?_ | refine InB.noFrame ?_)) S.drew ?_
        clear S
        refine Plan.q rfl (fun w S => Y.move (v := .map _) rfl) ?_
        refine Plan.q rfl (fun w S => Y.fieldB fo_71_2 rfl) ?_
        first | refine Plan.q rfl (fun w S => Y.load rfl (loadS1 sz_3 S 0 rfl rfl)) ?_ | refine Plan.q rfl (fun w S => Y.load rfl (loadS1 sz_3 S 1 rfl rfl)) ?_ | refine Plan.q rfl (fun w S => Y.load rfl (loadS1 sz_3 S 2 rfl rfl)) ?_
        first | refine Plan.q rfl (fun w S => Y.move (v := .pointer (some _)) rfl) ?_ | refine Plan.q rfl (fun w S => Y.move (v := .pointer _) rfl) ?_
        refine Plan.q rfl (fun w S => Y.nilP rfl) ?_
        first | refine Plan.q rfl (fun w S => Y.load rfl (loadSN sz_109 S 0 rfl (ths_win _ ht) (clkL_len 64 _))) ?_ | refine Plan.q rfl (fun w S => Y.load rfl (loadSN sz_109 S 1 rfl (ths_win _ ht) (clkL_len 64 _))) ?_ | refine Plan.q rfl (fun w S => Y.load rfl (loadSN sz_109 S 2 rfl (ths_win _ ht) (clkL_len 64 _))) ?_ | refine Plan.q rfl (fun w S => Y.load rfl (loadSN sz_109 S 3 rfl (ths_win _ ht) (clkL_len 64 _))) ?_
        refine Plan.e0 rfl (fun w S => O.mapUpdate x.cell (cOut (crun (xs.take k)).1 x) Tryd.underlying148 (keyInt Tryd.underlying3) 2 S rfl rfl rfl rfl (fun w S => ?_))
        refine ⟨(fun w => Sat _ w _), S, (.inl (by kernel_rfl)), ?_⟩
        clear S
        refine Plan.nil (fun w S => ?_)
        replace S : Sat _ _ _ := S
        refine InB.nx ?_
        refine InB.nx ?_
        refine Then.nx ?_
        refine W.region rfl ?_
        first | refine WO.q (Y.addI rfl rfl (by omega)) ?_ | refine WO.q (Y.add rfl rfl) ?_
        refine WO.q (Y.move (v := .int .i64 _) rfl) ?_
        refine WO.nil ?_
        refine Then.nx ⟨?_, ?_, ?_⟩
        ·
         (repeat (first | exact Out.hav _ _ _ | exact Out.refl _ _ | refine Out.up rfl ?_ | refine Out.sub rfl ?_))
        ·
         first | (have hm := cM1 (crun (xs.take k)).1 x (by omega); first | (have hT := cTa (crun (xs.take k)).1 x (by omega); (refine ⟨k + 1, a57, c57, rfl, by omega, by (show Value.slice _ _ _ = _; simp only [List.length_append, List.length_singleton, hol]), ?_⟩; rw [hts, crun_snoc]; show Sat w0 w [Cel b3 (tClock.all (thsL (cT3 (crun (xs.take k)).1 x))) _, MapF b10 _ _ (cM (crun (xs.take k)).1 x), Own _ _ _ _ _]; rw [hm, hT]; exact S.pk (by repeat (first | exact Pk.nil _ | exact Pk.refl _ | refine Pk.cons 0 rfl ?_ | refine Pk.cons 1 rfl ?_ | refine Pk.cons 2 rfl ?_ | refine Pk.cons 3 rfl ?_ | refine Pk.cons 4 rfl ?_ | refine Pk.cons 5 rfl ?_ | refine Pk.cons 6 rfl ?_ | refine Pk.cons 7 rfl ?_ | refine Pk.cons 8 rfl ?_ | refine Pk.cons 9 rfl ?_ | refine Pk.cons 10 rfl ?_ | refine Pk.cons 11 rfl ?_ | refine Pk.cons 12 rfl ?_ | refine Pk.cons 13 rfl ?_ | refine Pk.drop ?_)))) | (have hT := cTb (crun (xs.take k)).1 x (by omega); (refine ⟨k + 1, a57, c57, rfl, by omega, by (show Value.slice _ _ _ = _; simp only [List.length_append, List.length_singleton, hol]), ?_⟩; rw [hts, crun_snoc]; show Sat w0 w [Cel b3 (tClock.all (thsL (cT3 (crun (xs.take k)).1 x))) _, MapF b10 _ _ (cM (crun (xs.take k)).1 x), Own _ _ _ _ _]; rw [hm, hT]; exact S.pk (by repeat (first | exact Pk.nil _ | exact Pk.refl _ | refine Pk.cons 0 rfl ?_ | refine Pk.cons 1 rfl ?_ | refine Pk.cons 2 rfl ?_ | refine Pk.cons 3 rfl ?_ | refine Pk.cons 4 rfl ?_ | refine Pk.cons 5 rfl ?_ | refine Pk.cons 6 rfl ?_ | refine Pk.cons 7 rfl ?_ | refine Pk.cons 8 rfl ?_ | refine Pk.cons 9 rfl ?_ | refine Pk.cons 10 rfl ?_ | refine Pk.cons 11 rfl ?_ | refine Pk.cons 12 rfl ?_ | refine Pk.cons 13 rfl ?_ | refine Pk.drop ?_))))) | (have hm := cM2 (crun (xs.take k)).1 x (by omega) (by assumption); first | (have hT := cTa (crun (xs.take k)).1 x (by omega); (refine ⟨k + 1, a57, c57, rfl, by omega, by (show Value.slice _ _ _ = _; simp only [List.length_append, List.length_singleton, hol]), ?_⟩; rw [hts, crun_snoc]; show Sat w0 w [Cel b3 (tClock.all (thsL (cT3 (crun (xs.take k)).1 x))) _, MapF b10 _ _ (cM (crun (xs.take k)).1 x), Own _ _ _ _ _]; rw [hm, hT]; exact S.pk (by repeat (first | exact Pk.nil _ | exact Pk.refl _ | refine Pk.cons 0 rfl ?_ | refine Pk.cons 1 rfl ?_ | refine Pk.cons 2 rfl ?_ | refine Pk.cons 3 rfl ?_ | refine Pk.cons 4 rfl ?_ | refine Pk.cons 5 rfl ?_ | refine Pk.cons 6 rfl ?_ | refine Pk.cons 7 rfl ?_ | refine Pk.cons 8 rfl ?_ | refine Pk.cons 9 rfl ?_ | refine Pk.cons 10 rfl ?_ | refine Pk.cons 11 rfl ?_ | refine Pk.cons 12 rfl ?_ | refine Pk.cons 13 rfl ?_ | refine Pk.drop ?_)))) | (have hT := cTb (crun (xs.take k)).1 x (by omega); (refine ⟨k + 1, a57, c57, rfl, by omega, by (show Value.slice _ _ _ = _; simp only [List.length_append, List.length_singleton, hol]), ?_⟩; rw [hts, crun_snoc]; show Sat w0 w [Cel b3 (tClock.all (thsL (cT3 (crun (xs.take k)).1 x))) _, MapF b10 _ _ (cM (crun (xs.take k)).1 x), Own _ _ _ _ _]; rw [hm, hT]; exact S.pk (by repeat (first | exact Pk.nil _ | exact Pk.refl _ | refine Pk.cons 0 rfl ?_ | refine Pk.cons 1 rfl ?_ | refine Pk.cons 2 rfl ?_ | refine Pk.cons 3 rfl ?_ | refine Pk.cons 4 rfl ?_ | refine Pk.cons 5 rfl ?_ | refine Pk.cons 6 rfl ?_ | refine Pk.cons 7 rfl ?_ | refine Pk.cons 8 rfl ?_ | refine Pk.cons 9 rfl ?_ | refine Pk.cons 10 rfl ?_ | refine Pk.cons 11 rfl ?_ | refine Pk.cons 12 rfl ?_ | refine Pk.cons 13 rfl ?_ | refine Pk.drop ?_))))) | (have hm := cM3 (crun (xs.take k)).1 x (by omega) (by assumption); first | (have hT := cTa (crun (xs.take k)).1 x (by omega); (refine ⟨k + 1, a57, c57, rfl, by omega, by (show Value.slice _ _ _ = _; simp only [List.length_append, List.length_singleton, hol]), ?_⟩; rw [hts, crun_snoc]; show Sat w0 w [Cel b3 (tClock.all (thsL (cT3 (crun (xs.take k)).1 x))) _, MapF b10 _ _ (cM (crun (xs.take k)).1 x), Own _ _ _ _ _]; rw [hm, hT]; exact S.pk (by repeat (first | exact Pk.nil _ | exact Pk.refl _ | refine Pk.cons 0 rfl ?_ | refine Pk.cons 1 rfl ?_ | refine Pk.cons 2 rfl ?_ | refine Pk.cons 3 rfl ?_ | refine Pk.cons 4 rfl ?_ | refine Pk.cons 5 rfl ?_ | refine Pk.cons 6 rfl ?_ | refine Pk.cons 7 rfl ?_ | refine Pk.cons 8 rfl ?_ | refine Pk.cons 9 rfl ?_ | refine Pk.cons 10 rfl ?_ | refine Pk.cons 11 rfl ?_ | refine Pk.cons 12 rfl ?_ | refine Pk.cons 13 rfl ?_ | refine Pk.drop ?_)))) | (have hT := cTb (crun (xs.take k)).1 x (by omega); (refine ⟨k + 1, a57, c57, rfl, by omega, by (show Value.slice _ _ _ = _; simp only [List.length_append, List.length_singleton, hol]), ?_⟩; rw [hts, crun_snoc]; show Sat w0 w [Cel b3 (tClock.all (thsL (cT3 (crun (xs.take k)).1 x))) _, MapF b10 _ _ (cM (crun (xs.take k)).1 x), Own _ _ _ _ _]; rw [hm, hT]; exact S.pk (by repeat (first | exact Pk.nil _ | exact Pk.refl _ | refine Pk.cons 0 rfl ?_ | refine Pk.cons 1 rfl ?_ | refine Pk.cons 2 rfl ?_ | refine Pk.cons 3 rfl ?_ | refine Pk.cons 4 rfl ?_ | refine Pk.cons 5 rfl ?_ | refine Pk.cons 6 rfl ?_ | refine Pk.cons 7 rfl ?_ | refine Pk.cons 8 rfl ?_ | refine Pk.cons 9 rfl ?_ | refine Pk.cons 10 rfl ?_ | refine Pk.cons 11 rfl ?_ | refine Pk.cons 12 rfl ?_ | refine Pk.cons 13 rfl ?_ | refine Pk.drop ?_))))) | (have hm := cM4 (crun (xs.take k)).1 x (by omega) (by omega); first | (have hT := cTa (crun (xs.take k)).1 x (by omega); (refine ⟨k + 1, a57, c57, rfl, by omega, by (show Value.slice _ _ _ = _; simp only [List.length_append, List.length_singleton, hol]), ?_⟩; rw [hts, crun_snoc]; show Sat w0 w [Cel b3 (tClock.all (thsL (cT3 (crun (xs.take k)).1 x))) _, MapF b10 _ _ (cM (crun (xs.take k)).1 x), Own _ _ _ _ _]; rw [hm, hT]; exact S.pk (by repeat (first | exact Pk.nil _ | exact Pk.refl _ | refine Pk.cons 0 rfl ?_ | refine Pk.cons 1 rfl ?_ | refine Pk.cons 2 rfl ?_ | refine Pk.cons 3 rfl ?_ | refine Pk.cons 4 rfl ?_ | refine Pk.cons 5 rfl ?_ | refine Pk.cons 6 rfl ?_ | refine Pk.cons 7 rfl ?_ | refine Pk.cons 8 rfl ?_ | refine Pk.cons 9 rfl ?_ | refine Pk.cons 10 rfl ?_ | refine Pk.cons 11 rfl ?_ | refine Pk.cons 12 rfl ?_ | refine Pk.cons 13 rfl ?_ | refine Pk.drop ?_)))) | (have hT := cTb (crun (xs.take k)).1 x (by omega); (refine ⟨k + 1, a57, c57, rfl, by omega, by (show Value.slice _ _ _ = _; simp only [List.length_append, List.length_singleton, hol]), ?_⟩; rw [hts, crun_snoc]; show Sat w0 w [Cel b3 (tClock.all (thsL (cT3 (crun (xs.take k)).1 x))) _, MapF b10 _ _ (cM (crun (xs.take k)).1 x), Own _ _ _ _ _]; rw [hm, hT]; exact S.pk (by repeat (first | exact Pk.nil _ | exact Pk.refl _ | refine Pk.cons 0 rfl ?_ | refine Pk.cons 1 rfl ?_ | refine Pk.cons 2 rfl ?_ | refine Pk.cons 3 rfl ?_ | refine Pk.cons 4 rfl ?_ | refine Pk.cons 5 rfl ?_ | refine Pk.cons 6 rfl ?_ | refine Pk.cons 7 rfl ?_ | refine Pk.cons 8 rfl ?_ | refine Pk.cons 9 rfl ?_ | refine Pk.cons 10 rfl ?_ | refine Pk.cons 11 rfl ?_ | refine Pk.cons 12 rfl ?_ | refine Pk.cons 13 rfl ?_ | refine Pk.drop ?_)))))
        ·
         (show xs.length - (k + 1) < xs.length - k; omega)
       ·
        have rh7 := h7
        (try simp only [Q1, Q2, Q3, Q4, Q5, Q6, Q7, Q8, Q9, Qa] at h7)
        refine W.seq ?_
        refine W.region rfl ?_
        refine WO.q (Y.eql rfl rfl) ?_
        refine WO.q (Y.assign (v := .bool _) rfl) ?_
        refine WO.nil ?_
        refine Then.nx ?_
        refine W.cond rfl (fun h8 => ?_) (fun h8 => ?_) -- cond 5
        ·
         have rh8 := h8
         (try simp only [Q1, Q2, Q3, Q4, Q5, Q6, Q7, Q8, Q9, Qa] at h8)
         refine W.seq ?_
         refine W.region rfl ?_
         refine WO.q (Y.fieldB fo_71_7 rfl) ?_
         first | refine WO.q (Y.load rfl (loadS1 sz_4 S 0 rfl rfl)) ?_ | refine WO.q (Y.load rfl (loadS1 sz_4 S 1 rfl rfl)) ?_ | refine WO.q (Y.load rfl (loadS1 sz_4 S 2 rfl rfl)) ?_
         refine WO.nil ?_
         refine Then.nx ?_
         refine W.cond rfl (fun h9 => ?_) (fun h9 => ?_) -- cond 6
         ·
          have rh9 := h9
          (try simp only [Q1, Q2, Q3, Q4, Q5, Q6, Q7, Q8, Q9, Qa] at h9)
          refine W.draw (.q 0 (.q 1 (.q 2 (.q 3 (.q 4 (.q 5 (.e 6 .nil))))))) (fun w => Sat _ w _) rfl rfl (by kernel_rfl) rfl (by kernel_rfl) (by repeat (first | exact BodyQ.noFrame | refine Then.noFrame ?_ | refine InB.noFrame ?_)) S.drew ?_
          clear S
          refine Plan.q rfl (fun w S => Y.move (v := .map _) rfl) ?_
          refine Plan.q rfl (fun w S => Y.fieldB fo_71_2 rfl) ?_
          first | refine Plan.q rfl (fun w S => Y.load rfl (loadS1 sz_3 S 0 rfl rfl)) ?_ | refine Plan.q rfl (fun w S => Y.load rfl (loadS1 sz_3 S 1 rfl rfl)) ?_ | refine Plan.q rfl (fun w S => Y.load rfl (loadS1 sz_3 S 2 rfl rfl)) ?_
          first | refine Plan.q rfl (fun w S => Y.move (v := .pointer (some _)) rfl) ?_ | refine Plan.q rfl (fun w S => Y.move (v := .pointer _) rfl) ?_
          refine Plan.q rfl (fun w S => Y.nilP rfl) ?_
          first | refine Plan.q rfl (fun w S => Y.load rfl (loadSN sz_109 S 0 rfl (ths_win _ ht) (clkL_len 64 _))) ?_ | refine Plan.q rfl (fun w S => Y.load rfl (loadSN sz_109 S 1 rfl (ths_win _ ht) (clkL_len 64 _))) ?_ | refine Plan.q rfl (fun w S => Y.load rfl (loadSN sz_109 S 2 rfl (ths_win _ ht) (clkL_len 64 _))) ?_ | refine Plan.q rfl (fun w S => Y.load rfl (loadSN sz_109 S 3 rfl (ths_win _ ht) (clkL_len 64 _))) ?_
          refine Plan.e0 rfl (fun w S => O.mapUpdate x.cell (cOut (crun (xs.take k)).1 x) Tryd.underlying148 (keyInt Tryd.underlying3) 2 S rfl rfl rfl rfl (fun w S => ?_))
          refine ⟨(fun w => Sat _ w _), S, (.inl (by kernel_rfl)), ?_⟩
          clear S
          refine Plan.nil (fun w S => ?_)
          replace S : Sat _ _ _ := S
          refine InB.nx ?_
          refine InB.nx ?_
          refine Then.nx ?_
          refine W.region rfl ?_
          first | refine WO.q (Y.addI rfl rfl (by omega)) ?_ | refine WO.q (Y.add rfl rfl) ?_
          refine WO.q (Y.move (v := .int .i64 _) rfl) ?_
          refine WO.nil ?_
          refine Then.nx ⟨?_, ?_, ?_⟩
          ·
           (repeat (first | exact Out.hav _ _ _ | exact Out.refl _ _ | refine Out.up rfl ?_ | refine Out.sub rfl ?_))
          ·
           first | (have hm := cM1 (crun (xs.take k)).1 x (by omega); first | (have hT := cTa (crun (xs.take k)).1 x (by omega); (refine ⟨k + 1, a57, c57, rfl, by omega, by (show Value.slice _ _ _ = _; simp only [List.length_append, List.length_singleton, hol]), ?_⟩; rw [hts, crun_snoc]; show Sat w0 w [Cel b3 (tClock.all (thsL (cT3 (crun (xs.take k)).1 x))) _, MapF b10 _ _ (cM (crun (xs.take k)).1 x), Own _ _ _ _ _]; rw [hm, hT]; exact S.pk (by repeat (first | exact Pk.nil _ | exact Pk.refl _ | refine Pk.cons 0 rfl ?_ | refine Pk.cons 1 rfl ?_ | refine Pk.cons 2 rfl ?_ | refine Pk.cons 3 rfl ?_ | refine Pk.cons 4 rfl ?_ | refine Pk.cons 5 rfl ?_ | refine Pk.cons 6 rfl ?_ | refine Pk.cons 7 rfl ?_ | refine Pk.cons 8 rfl ?_ | refine Pk.cons 9 rfl ?_ | refine Pk.cons 10 rfl ?_ | refine Pk.cons 11 rfl ?_ | refine Pk.cons 12 rfl ?_ | refine Pk.cons 13 rfl ?_ | refine Pk.drop ?_)))) | (have hT := cTb (crun (xs.take k)).1 x (by omega); (refine ⟨k + 1, a57, c57, rfl, by omega, by (show Value.slice _ _ _ = _; simp only [List.length_append, List.length_singleton, hol]), ?_⟩; rw [hts, crun_snoc]; show Sat w0 w [Cel b3 (tClock.all (thsL (cT3 (crun (xs.take k)).1 x))) _, MapF b10 _ _ (cM (crun (xs.take k)).1 x), Own _ _ _ _ _]; rw [hm, hT]; exact S.pk (by repeat (first | exact Pk.nil _ | exact Pk.refl _ | refine Pk.cons 0 rfl ?_ | refine Pk.cons 1 rfl ?_ | refine Pk.cons 2 rfl ?_ | refine Pk.cons 3 rfl ?_ | refine Pk.cons 4 rfl ?_ | refine Pk.cons 5 rfl ?_ | refine Pk.cons 6 rfl ?_ | refine Pk.cons 7 rfl ?_ | refine Pk.cons 8 rfl ?_ | refine Pk.cons 9 rfl ?_ | refine Pk.cons 10 rfl ?_ | refine Pk.cons 11 rfl ?_ | refine Pk.cons 12 rfl ?_ | refine Pk.cons 13 rfl ?_ | refine Pk.drop ?_))))) | (have hm := cM2 (crun (xs.take k)).1 x (by omega) (by assumption); first | (have hT := cTa (crun (xs.take k)).1 x (by omega); (refine ⟨k + 1, a57, c57, rfl, by omega, by (show Value.slice _ _ _ = _; simp only [List.length_append, List.length_singleton, hol]), ?_⟩; rw [hts, crun_snoc]; show Sat w0 w [Cel b3 (tClock.all (thsL (cT3 (crun (xs.take k)).1 x))) _, MapF b10 _ _ (cM (crun (xs.take k)).1 x), Own _ _ _ _ _]; rw [hm, hT]; exact S.pk (by repeat (first | exact Pk.nil _ | exact Pk.refl _ | refine Pk.cons 0 rfl ?_ | refine Pk.cons 1 rfl ?_ | refine Pk.cons 2 rfl ?_ | refine Pk.cons 3 rfl ?_ | refine Pk.cons 4 rfl ?_ | refine Pk.cons 5 rfl ?_ | refine Pk.cons 6 rfl ?_ | refine Pk.cons 7 rfl ?_ | refine Pk.cons 8 rfl ?_ | refine Pk.cons 9 rfl ?_ | refine Pk.cons 10 rfl ?_ | refine Pk.cons 11 rfl ?_ | refine Pk.cons 12 rfl ?_ | refine Pk.cons 13 rfl ?_ | refine Pk.drop ?_)))) | (have hT := cTb (crun (xs.take k)).1 x (by omega); (refine ⟨k + 1, a57, c57, rfl, by omega, by (show Value.slice _ _ _ = _; simp only [List.length_append, List.length_singleton, hol]), ?_⟩; rw [hts, crun_snoc]; show Sat w0 w [Cel b3 (tClock.all (thsL (cT3 (crun (xs.take k)).1 x))) _, MapF b10 _ _ (cM (crun (xs.take k)).1 x), Own _ _ _ _ _]; rw [hm, hT]; exact S.pk (by repeat (first | exact Pk.nil _ | exact Pk.refl _ | refine Pk.cons 0 rfl ?_ | refine Pk.cons 1 rfl ?_ | refine Pk.cons 2 rfl ?_ | refine Pk.cons 3 rfl ?_ | refine Pk.cons 4 rfl ?_ | refine Pk.cons 5 rfl ?_ | refine Pk.cons 6 rfl ?_ | refine Pk.cons 7 rfl ?_ | refine Pk.cons 8 rfl ?_ | refine Pk.cons 9 rfl ?_ | refine Pk.cons 10 rfl ?_ | refine Pk.cons 11 rfl ?_ | refine Pk.cons 12 rfl ?_ | refine Pk.cons 13 rfl ?_ | refine Pk.drop ?_))))) | (have hm := cM3 (crun (xs.take k)).1 x (by omega) (by assumption); first | (have hT := cTa (crun (xs.take k)).1 x (by omega); (refine ⟨k + 1, a57, c57, rfl, by omega, by (show Value.slice _ _ _ = _; simp only [List.length_append, List.length_singleton, hol]), ?_⟩; rw [hts, crun_snoc]; show Sat w0 w [Cel b3 (tClock.all (thsL (cT3 (crun (xs.take k)).1 x))) _, MapF b10 _ _ (cM (crun (xs.take k)).1 x), Own _ _ _ _ _]; rw [hm, hT]; exact S.pk (by repeat (first | exact Pk.nil _ | exact Pk.refl _ | refine Pk.cons 0 rfl ?_ | refine Pk.cons 1 rfl ?_ | refine Pk.cons 2 rfl ?_ | refine Pk.cons 3 rfl ?_ | refine Pk.cons 4 rfl ?_ | refine Pk.cons 5 rfl ?_ | refine Pk.cons 6 rfl ?_ | refine Pk.cons 7 rfl ?_ | refine Pk.cons 8 rfl ?_ | refine Pk.cons 9 rfl ?_ | refine Pk.cons 10 rfl ?_ | refine Pk.cons 11 rfl ?_ | refine Pk.cons 12 rfl ?_ | refine Pk.cons 13 rfl ?_ | refine Pk.drop ?_)))) | (have hT := cTb (crun (xs.take k)).1 x (by omega); (refine ⟨k + 1, a57, c57, rfl, by omega, by (show Value.slice _ _ _ = _; simp only [List.length_append, List.length_singleton, hol]), ?_⟩; rw [hts, crun_snoc]; show Sat w0 w [Cel b3 (tClock.all (thsL (cT3 (crun (xs.take k)).1 x))) _, MapF b10 _ _ (cM (crun (xs.take k)).1 x), Own _ _ _ _ _]; rw [hm, hT]; exact S.pk (by repeat (first | exact Pk.nil _ | exact Pk.refl _ | refine Pk.cons 0 rfl ?_ | refine Pk.cons 1 rfl ?_ | refine Pk.cons 2 rfl ?_ | refine Pk.cons 3 rfl ?_ | refine Pk.cons 4 rfl ?_ | refine Pk.cons 5 rfl ?_ | refine Pk.cons 6 rfl ?_ | refine Pk.cons 7 rfl ?_ | refine Pk.cons 8 rfl ?_ | refine Pk.cons 9 rfl ?_ | refine Pk.cons 10 rfl ?_ | refine Pk.cons 11 rfl ?_ | refine Pk.cons 12 rfl ?_ | refine Pk.cons 13 rfl ?_ | refine Pk.drop ?_))))) | (have hm := cM4 (crun (xs.take k)).1 x (by omega) (by omega); first | (have hT := cTa (crun (xs.take k)).1 x (by omega); (refine ⟨k + 1, a57, c57, rfl, by omega, by (show Value.slice _ _ _ = _; simp only [List.length_append, List.length_singleton, hol]), ?_⟩; rw [hts, crun_snoc]; show Sat w0 w [Cel b3 (tClock.all (thsL (cT3 (crun (xs.take k)).1 x))) _, MapF b10 _ _ (cM (crun (xs.take k)).1 x), Own _ _ _ _ _]; rw [hm, hT]; exact S.pk (by repeat (first | exact Pk.nil _ | exact Pk.refl _ | refine Pk.cons 0 rfl ?_ | refine Pk.cons 1 rfl ?_ | refine Pk.cons 2 rfl ?_ | refine Pk.cons 3 rfl ?_ | refine Pk.cons 4 rfl ?_ | refine Pk.cons 5 rfl ?_ | refine Pk.cons 6 rfl ?_ | refine Pk.cons 7 rfl ?_ | refine Pk.cons 8 rfl ?_ | refine Pk.cons 9 rfl ?_ | refine Pk.cons 10 rfl ?_ | refine Pk.cons 11 rfl ?_ | refine Pk.cons 12 rfl ?_ | refine Pk.cons 13 rfl ?_ | refine Pk.drop ?_)))) | (have hT := cTb (crun (xs.take k)).1 x (by omega); (refine ⟨k + 1, a57, c57, rfl, by omega, by (show Value.slice _ _ _ = _; simp only [List.length_append, List.length_singleton, hol]), ?_⟩; rw [hts, crun_snoc]; show Sat w0 w [Cel b3 (tClock.all (thsL (cT3 (crun (xs.take k)).1 x))) _, MapF b10 _ _ (cM (crun (xs.take k)).1 x), Own _ _ _ _ _]; rw [hm, hT]; exact S.pk (by repeat (first | exact Pk.nil _ | exact Pk.refl _ | refine Pk.cons 0 rfl ?_ | refine Pk.cons 1 rfl ?_ | refine Pk.cons 2 rfl ?_ | refine Pk.cons 3 rfl ?_ | refine Pk.cons 4 rfl ?_ | refine Pk.cons 5 rfl ?_ | refine Pk.cons 6 rfl ?_ | refine Pk.cons 7 rfl ?_ | refine Pk.cons 8 rfl ?_ | refine Pk.cons 9 rfl ?_ | refine Pk.cons 10 rfl ?_ | refine Pk.cons 11 rfl ?_ | refine Pk.cons 12 rfl ?_ | refine Pk.cons 13 rfl ?_ | refine Pk.drop ?_)))))
          ·
           (show xs.length - (k + 1) < xs.length - k; omega)
         ·
          have rh9 := h9
          (try simp only [Q1, Q2, Q3, Q4, Q5, Q6, Q7, Q8, Q9, Qa] at h9)
          refine W.skip ?_
          refine InB.nx ?_
          refine InB.nx ?_
          refine Then.nx ?_
          refine W.region rfl ?_
          first | refine WO.q (Y.addI rfl rfl (by omega)) ?_ | refine WO.q (Y.add rfl rfl) ?_
          refine WO.q (Y.move (v := .int .i64 _) rfl) ?_
          refine WO.nil ?_
          refine Then.nx ⟨?_, ?_, ?_⟩
          ·
           (repeat (first | exact Out.hav _ _ _ | exact Out.refl _ _ | refine Out.up rfl ?_ | refine Out.sub rfl ?_))
          ·
           first | (have hm := cM1 (crun (xs.take k)).1 x (by omega); first | (have hT := cTa (crun (xs.take k)).1 x (by omega); (refine ⟨k + 1, a57, c57, rfl, by omega, by (show Value.slice _ _ _ = _; simp only [List.length_append, List.length_singleton, hol]), ?_⟩; rw [hts, crun_snoc]; show Sat w0 w [Cel b3 (tClock.all (thsL (cT3 (crun (xs.take k)).1 x))) _, MapF b10 _ _ (cM (crun (xs.take k)).1 x), Own _ _ _ _ _]; rw [hm, hT]; exact S.pk (by repeat (first | exact Pk.nil _ | exact Pk.refl _ | refine Pk.cons 0 rfl ?_ | refine Pk.cons 1 rfl ?_ | refine Pk.cons 2 rfl ?_ | refine Pk.cons 3 rfl ?_ | refine Pk.cons 4 rfl ?_ | refine Pk.cons 5 rfl ?_ | refine Pk.cons 6 rfl ?_ | refine Pk.cons 7 rfl ?_ | refine Pk.cons 8 rfl ?_ | refine Pk.cons 9 rfl ?_ | refine Pk.cons 10 rfl ?_ | refine Pk.cons 11 rfl ?_ | refine Pk.cons 12 rfl ?_ | refine Pk.cons 13 rfl ?_ | refine Pk.drop ?_)))) | (have hT := cTb (crun (xs.take k)).1 x (by omega); (refine ⟨k + 1, a57, c57, rfl, by omega, by (show Value.slice _ _ _ = _; simp only [List.length_append, List.length_singleton, hol]), ?_⟩; rw [hts, crun_snoc]; show Sat w0 w [Cel b3 (tClock.all (thsL (cT3 (crun (xs.take k)).1 x))) _, MapF b10 _ _ (cM (crun (xs.take k)).1 x), Own _ _ _ _ _]; rw [hm, hT]; exact S.pk (by repeat (first | exact Pk.nil _ | exact Pk.refl _ | refine Pk.cons 0 rfl ?_ | refine Pk.cons 1 rfl ?_ | refine Pk.cons 2 rfl ?_ | refine Pk.cons 3 rfl ?_ | refine Pk.cons 4 rfl ?_ | refine Pk.cons 5 rfl ?_ | refine Pk.cons 6 rfl ?_ | refine Pk.cons 7 rfl ?_ | refine Pk.cons 8 rfl ?_ | refine Pk.cons 9 rfl ?_ | refine Pk.cons 10 rfl ?_ | refine Pk.cons 11 rfl ?_ | refine Pk.cons 12 rfl ?_ | refine Pk.cons 13 rfl ?_ | refine Pk.drop ?_))))) | (have hm := cM2 (crun (xs.take k)).1 x (by omega) (by assumption); first | (have hT := cTa (crun (xs.take k)).1 x (by omega); (refine ⟨k + 1, a57, c57, rfl, by omega, by (show Value.slice _ _ _ = _; simp only [List.length_append, List.length_singleton, hol]), ?_⟩; rw [hts, crun_snoc]; show Sat w0 w [Cel b3 (tClock.all (thsL (cT3 (crun (xs.take k)).1 x))) _, MapF b10 _ _ (cM (crun (xs.take k)).1 x), Own _ _ _ _ _]; rw [hm, hT]; exact S.pk (by repeat (first | exact Pk.nil _ | exact Pk.refl _ | refine Pk.cons 0 rfl ?_ | refine Pk.cons 1 rfl ?_ | refine Pk.cons 2 rfl ?_ | refine Pk.cons 3 rfl ?_ | refine Pk.cons 4 rfl ?_ | refine Pk.cons 5 rfl ?_ | refine Pk.cons 6 rfl ?_ | refine Pk.cons 7 rfl ?_ | refine Pk.cons 8 rfl ?_ | refine Pk.cons 9 rfl ?_ | refine Pk.cons 10 rfl ?_ | refine Pk.cons 11 rfl ?_ | refine Pk.cons 12 rfl ?_ | refine Pk.cons 13 rfl ?_ | refine Pk.drop ?_)))) | (have hT := cTb (crun (xs.take k)).1 x (by omega); (refine ⟨k + 1, a57, c57, rfl, by omega, by (show Value.slice _ _ _ = _; simp only [List.length_append, List.length_singleton, hol]), ?_⟩; rw [hts, crun_snoc]; show Sat w0 w [Cel b3 (tClock.all (thsL (cT3 (crun (xs.take k)).1 x))) _, MapF b10 _ _ (cM (crun (xs.take k)).1 x), Own _ _ _ _ _]; rw [hm, hT]; exact S.pk (by repeat (first | exact Pk.nil _ | exact Pk.refl _ | refine Pk.cons 0 rfl ?_ | refine Pk.cons 1 rfl ?_ | refine Pk.cons 2 rfl ?_ | refine Pk.cons 3 rfl ?_ | refine Pk.cons 4 rfl ?_ | refine Pk.cons 5 rfl ?_ | refine Pk.cons 6 rfl ?_ | refine Pk.cons 7 rfl ?_ | refine Pk.cons 8 rfl ?_ | refine Pk.cons 9 rfl ?_ | refine Pk.cons 10 rfl ?_ | refine Pk.cons 11 rfl ?_ | refine Pk.cons 12 rfl ?_ | refine Pk.cons 13 rfl ?_ | refine Pk.drop ?_))))) | (have hm := cM3 (crun (xs.take k)).1 x (by omega) (by assumption); first | (have hT := cTa (crun (xs.take k)).1 x (by omega); (refine ⟨k + 1, a57, c57, rfl, by omega, by (show Value.slice _ _ _ = _; simp only [List.length_append, List.length_singleton, hol]), ?_⟩; rw [hts, crun_snoc]; show Sat w0 w [Cel b3 (tClock.all (thsL (cT3 (crun (xs.take k)).1 x))) _, MapF b10 _ _ (cM (crun (xs.take k)).1 x), Own _ _ _ _ _]; rw [hm, hT]; exact S.pk (by repeat (first | exact Pk.nil _ | exact Pk.refl _ | refine Pk.cons 0 rfl ?_ | refine Pk.cons 1 rfl ?_ | refine Pk.cons 2 rfl ?_ | refine Pk.cons 3 rfl ?_ | refine Pk.cons 4 rfl ?_ | refine Pk.cons 5 rfl ?_ | refine Pk.cons 6 rfl ?_ | refine Pk.cons 7 rfl ?_ | refine Pk.cons 8 rfl ?_ | refine Pk.cons 9 rfl ?_ | refine Pk.cons 10 rfl ?_ | refine Pk.cons 11 rfl ?_ | refine Pk.cons 12 rfl ?_ | refine Pk.cons 13 rfl ?_ | refine Pk.drop ?_)))) | (have hT := cTb (crun (xs.take k)).1 x (by omega); (refine ⟨k + 1, a57, c57, rfl, by omega, by (show Value.slice _ _ _ = _; simp only [List.length_append, List.length_singleton, hol]), ?_⟩; rw [hts, crun_snoc]; show Sat w0 w [Cel b3 (tClock.all (thsL (cT3 (crun (xs.take k)).1 x))) _, MapF b10 _ _ (cM (crun (xs.take k)).1 x), Own _ _ _ _ _]; rw [hm, hT]; exact S.pk (by repeat (first | exact Pk.nil _ | exact Pk.refl _ | refine Pk.cons 0 rfl ?_ | refine Pk.cons 1 rfl ?_ | refine Pk.cons 2 rfl ?_ | refine Pk.cons 3 rfl ?_ | refine Pk.cons 4 rfl ?_ | refine Pk.cons 5 rfl ?_ | refine Pk.cons 6 rfl ?_ | refine Pk.cons 7 rfl ?_ | refine Pk.cons 8 rfl ?_ | refine Pk.cons 9 rfl ?_ | refine Pk.cons 10 rfl ?_ | refine Pk.cons 11 rfl ?_ | refine Pk.cons 12 rfl ?_ | refine Pk.cons 13 rfl ?_ | refine Pk.drop ?_))))) | (have hm := cM4 (crun (xs.take k)).1 x (by omega) (by omega); first | (have hT := cTa (crun (xs.take k)).1 x (by omega); (refine ⟨k + 1, a57, c57, rfl, by omega, by (show Value.slice _ _ _ = _; simp only [List.length_append, List.length_singleton, hol]), ?_⟩; rw [hts, crun_snoc]; show Sat w0 w [Cel b3 (tClock.all (thsL (cT3 (crun (xs.take k)).1 x))) _, MapF b10 _ _ (cM (crun (xs.take k)).1 x), Own _ _ _ _ _]; rw [hm, hT]; exact S.pk (by repeat (first | exact Pk.nil _ | exact Pk.refl _ | refine Pk.cons 0 rfl ?_ | refine Pk.cons 1 rfl ?_ | refine Pk.cons 2 rfl ?_ | refine Pk.cons 3 rfl ?_ | refine Pk.cons 4 rfl ?_ | refine Pk.cons 5 rfl ?_ | refine Pk.cons 6 rfl ?_ | refine Pk.cons 7 rfl ?_ | refine Pk.cons 8 rfl ?_ | refine Pk.cons 9 rfl ?_ | refine Pk.cons 10 rfl ?_ | refine Pk.cons 11 rfl ?_ | refine Pk.cons 12 rfl ?_ | refine Pk.cons 13 rfl ?_ | refine Pk.drop ?_)))) | (have hT := cTb (crun (xs.take k)).1 x (by omega); (refine ⟨k + 1, a57, c57, rfl, by omega, by (show Value.slice _ _ _ = _; simp only [List.length_append, List.length_singleton, hol]), ?_⟩; rw [hts, crun_snoc]; show Sat w0 w [Cel b3 (tClock.all (thsL (cT3 (crun (xs.take k)).1 x))) _, MapF b10 _ _ (cM (crun (xs.take k)).1 x), Own _ _ _ _ _]; rw [hm, hT]; exact S.pk (by repeat (first | exact Pk.nil _ | exact Pk.refl _ | refine Pk.cons 0 rfl ?_ | refine Pk.cons 1 rfl ?_ | refine Pk.cons 2 rfl ?_ | refine Pk.cons 3 rfl ?_ | refine Pk.cons 4 rfl ?_ | refine Pk.cons 5 rfl ?_ | refine Pk.cons 6 rfl ?_ | refine Pk.cons 7 rfl ?_ | refine Pk.cons 8 rfl ?_ | refine Pk.cons 9 rfl ?_ | refine Pk.cons 10 rfl ?_ | refine Pk.cons 11 rfl ?_ | refine Pk.cons 12 rfl ?_ | refine Pk.cons 13 rfl ?_ | refine Pk.drop ?_)))))
          ·
           (show xs.length - (k + 1) < xs.length - k; omega)
        ·
         have rh8 := h8
         (try simp only [Q1, Q2, Q3, Q4, Q5, Q6, Q7, Q8, Q9, Qa] at h8)
         refine W.seq ?_
         refine W.region rfl ?_
         refine WO.q (Y.eql rfl rfl) ?_
         refine WO.q (Y.assign (v := .bool _) rfl) ?_
         refine WO.nil ?_
         refine Then.nx ?_
         refine W.cond rfl (fun h10 => ?_) (fun h10 => ?_) -- cond 7
         ·
          have rh10 := h10
          (try simp only [Q1, Q2, Q3, Q4, Q5, Q6, Q7, Q8, Q9, Qa] at h10)
          refine W.seq ?_
          refine W.region rfl ?_
          refine WO.q (Y.fieldB fo_71_6 rfl) ?_
          first | refine WO.q (Y.load rfl (loadS1 sz_2 S 0 rfl rfl)) ?_ | refine WO.q (Y.load rfl (loadS1 sz_2 S 1 rfl rfl)) ?_ | refine WO.q (Y.load rfl (loadS1 sz_2 S 2 rfl rfl)) ?_
          refine WO.q (Y.geq rfl rfl) ?_
          refine WO.nil ?_
          refine Then.nx ?_
          refine W.cond rfl (fun h11 => ?_) (fun h11 => ?_) -- cond 8
          ·
           have rh11 := h11
           (try simp only [Q1, Q2, Q3, Q4, Q5, Q6, Q7, Q8, Q9, Qa] at h11)
           have hn : x.now.toNat < 64 := by omega
           refine W.draw (.q 0 (.q 1 (.q 2 (.q 3 (.q 4 (.q 5 (.e 6 .nil))))))) (fun w => Sat _ w _) rfl rfl (by kernel_rfl) rfl (by kernel_rfl) (by repeat (first | exact BodyQ.noFrame | refine Then.noFrame ?_ | refine InB.noFrame ?_)) S.drew ?_
           clear S
           refine Plan.q rfl (fun w S => Y.fieldB fo_71_6 rfl) ?_
           first | refine Plan.q rfl (fun w S => Y.load rfl (loadS1 sz_2 S 0 rfl rfl)) ?_ | refine Plan.q rfl (fun w S => Y.load rfl (loadS1 sz_2 S 1 rfl rfl)) ?_ | refine Plan.q rfl (fun w S => Y.load rfl (loadS1 sz_2 S 2 rfl rfl)) ?_
           refine Plan.q rfl (fun w S => Y.ixA ar_147 rfl rfl (by (first | assumption | omega)) (by (first | assumption | omega))) ?_
           first | refine Plan.q rfl (fun w S => Y.move (v := .pointer (some _)) rfl) ?_ | refine Plan.q rfl (fun w S => Y.move (v := .pointer _) rfl) ?_
           refine Plan.q rfl (fun w S => Y.nilP rfl) ?_
           first | refine Plan.q rfl (fun w S => Y.load rfl (loadSN sz_109 S 0 rfl (ths_win _ ht) (clkL_len 64 _))) ?_ | refine Plan.q rfl (fun w S => Y.load rfl (loadSN sz_109 S 1 rfl (ths_win _ ht) (clkL_len 64 _))) ?_ | refine Plan.q rfl (fun w S => Y.load rfl (loadSN sz_109 S 2 rfl (ths_win _ ht) (clkL_len 64 _))) ?_ | refine Plan.q rfl (fun w S => Y.load rfl (loadSN sz_109 S 3 rfl (ths_win _ ht) (clkL_len 64 _))) ?_
           refine Plan.e1 rfl (fun w S => O.call cf_80 rfl (ctake_spec w0 _ b3 _ _ _ _ _ _ (S.pk (.cons 1 rfl (.refl _))) (ths_Win _ hn)) ?_)
           rintro _ w ⟨rfl, S⟩
           rw [ths_put _ _ hn] at S
           refine ⟨_, rfl, ?_⟩
           refine ⟨(fun w => Sat _ w _), S, (.inl (by kernel_rfl)), ?_⟩
           clear S
           refine Plan.nil (fun w S => ?_)
           replace S : Sat _ _ _ := S
           refine InB.nx ?_
           refine InB.nx ?_
           refine Then.nx ?_
           refine W.region rfl ?_
           first | refine WO.q (Y.addI rfl rfl (by omega)) ?_ | refine WO.q (Y.add rfl rfl) ?_
           refine WO.q (Y.move (v := .int .i64 _) rfl) ?_
           refine WO.nil ?_
           refine Then.nx ⟨?_, ?_, ?_⟩
           ·
            (repeat (first | exact Out.hav _ _ _ | exact Out.refl _ _ | refine Out.up rfl ?_ | refine Out.sub rfl ?_))
           ·
            first | (have hm := cM1 (crun (xs.take k)).1 x (by omega); first | (have hT := cTa (crun (xs.take k)).1 x (by omega); (refine ⟨k + 1, a57, c57, rfl, by omega, by (show Value.slice _ _ _ = _; simp only [List.length_append, List.length_singleton, hol]), ?_⟩; rw [hts, crun_snoc]; show Sat w0 w [Cel b3 (tClock.all (thsL (cT3 (crun (xs.take k)).1 x))) _, MapF b10 _ _ (cM (crun (xs.take k)).1 x), Own _ _ _ _ _]; rw [hm, hT]; exact S.pk (by repeat (first | exact Pk.nil _ | exact Pk.refl _ | refine Pk.cons 0 rfl ?_ | refine Pk.cons 1 rfl ?_ | refine Pk.cons 2 rfl ?_ | refine Pk.cons 3 rfl ?_ | refine Pk.cons 4 rfl ?_ | refine Pk.cons 5 rfl ?_ | refine Pk.cons 6 rfl ?_ | refine Pk.cons 7 rfl ?_ | refine Pk.cons 8 rfl ?_ | refine Pk.cons 9 rfl ?_ | refine Pk.cons 10 rfl ?_ | refine Pk.cons 11 rfl ?_ | refine Pk.cons 12 rfl ?_ | refine Pk.cons 13 rfl ?_ | refine Pk.drop ?_)))) | (have hT := cTb (crun (xs.take k)).1 x (by omega); (refine ⟨k + 1, a57, c57, rfl, by omega, by (show Value.slice _ _ _ = _; simp only [List.length_append, List.length_singleton, hol]), ?_⟩; rw [hts, crun_snoc]; show Sat w0 w [Cel b3 (tClock.all (thsL (cT3 (crun (xs.take k)).1 x))) _, MapF b10 _ _ (cM (crun (xs.take k)).1 x), Own _ _ _ _ _]; rw [hm, hT]; exact S.pk (by repeat (first | exact Pk.nil _ | exact Pk.refl _ | refine Pk.cons 0 rfl ?_ | refine Pk.cons 1 rfl ?_ | refine Pk.cons 2 rfl ?_ | refine Pk.cons 3 rfl ?_ | refine Pk.cons 4 rfl ?_ | refine Pk.cons 5 rfl ?_ | refine Pk.cons 6 rfl ?_ | refine Pk.cons 7 rfl ?_ | refine Pk.cons 8 rfl ?_ | refine Pk.cons 9 rfl ?_ | refine Pk.cons 10 rfl ?_ | refine Pk.cons 11 rfl ?_ | refine Pk.cons 12 rfl ?_ | refine Pk.cons 13 rfl ?_ | refine Pk.drop ?_))))) | (have hm := cM2 (crun (xs.take k)).1 x (by omega) (by assumption); first | (have hT := cTa (crun (xs.take k)).1 x (by omega); (refine ⟨k + 1, a57, c57, rfl, by omega, by (show Value.slice _ _ _ = _; simp only [List.length_append, List.length_singleton, hol]), ?_⟩; rw [hts, crun_snoc]; show Sat w0 w [Cel b3 (tClock.all (thsL (cT3 (crun (xs.take k)).1 x))) _, MapF b10 _ _ (cM (crun (xs.take k)).1 x), Own _ _ _ _ _]; rw [hm, hT]; exact S.pk (by repeat (first | exact Pk.nil _ | exact Pk.refl _ | refine Pk.cons 0 rfl ?_ | refine Pk.cons 1 rfl ?_ | refine Pk.cons 2 rfl ?_ | refine Pk.cons 3 rfl ?_ | refine Pk.cons 4 rfl ?_ | refine Pk.cons 5 rfl ?_ | refine Pk.cons 6 rfl ?_ | refine Pk.cons 7 rfl ?_ | refine Pk.cons 8 rfl ?_ | refine Pk.cons 9 rfl ?_ | refine Pk.cons 10 rfl ?_ | refine Pk.cons 11 rfl ?_ | refine Pk.cons 12 rfl ?_ | refine Pk.cons 13 rfl ?_ | refine Pk.drop ?_)))) | (have hT := cTb (crun (xs.take k)).1 x (by omega); (refine ⟨k + 1, a57, c57, rfl, by omega, by (show Value.slice _ _ _ = _; simp only [List.length_append, List.length_singleton, hol]), ?_⟩; rw [hts, crun_snoc]; show Sat w0 w [Cel b3 (tClock.all (thsL (cT3 (crun (xs.take k)).1 x))) _, MapF b10 _ _ (cM (crun (xs.take k)).1 x), Own _ _ _ _ _]; rw [hm, hT]; exact S.pk (by repeat (first | exact Pk.nil _ | exact Pk.refl _ | refine Pk.cons 0 rfl ?_ | refine Pk.cons 1 rfl ?_ | refine Pk.cons 2 rfl ?_ | refine Pk.cons 3 rfl ?_ | refine Pk.cons 4 rfl ?_ | refine Pk.cons 5 rfl ?_ | refine Pk.cons 6 rfl ?_ | refine Pk.cons 7 rfl ?_ | refine Pk.cons 8 rfl ?_ | refine Pk.cons 9 rfl ?_ | refine Pk.cons 10 rfl ?_ | refine Pk.cons 11 rfl ?_ | refine Pk.cons 12 rfl ?_ | refine Pk.cons 13 rfl ?_ | refine Pk.drop ?_))))) | (have hm := cM3 (crun (xs.take k)).1 x (by omega) (by assumption); first | (have hT := cTa (crun (xs.take k)).1 x (by omega); (refine ⟨k + 1, a57, c57, rfl, by omega, by (show Value.slice _ _ _ = _; simp only [List.length_append, List.length_singleton, hol]), ?_⟩; rw [hts, crun_snoc]; show Sat w0 w [Cel b3 (tClock.all (thsL (cT3 (crun (xs.take k)).1 x))) _, MapF b10 _ _ (cM (crun (xs.take k)).1 x), Own _ _ _ _ _]; rw [hm, hT]; exact S.pk (by repeat (first | exact Pk.nil _ | exact Pk.refl _ | refine Pk.cons 0 rfl ?_ | refine Pk.cons 1 rfl ?_ | refine Pk.cons 2 rfl ?_ | refine Pk.cons 3 rfl ?_ | refine Pk.cons 4 rfl ?_ | refine Pk.cons 5 rfl ?_ | refine Pk.cons 6 rfl ?_ | refine Pk.cons 7 rfl ?_ | refine Pk.cons 8 rfl ?_ | refine Pk.cons 9 rfl ?_ | refine Pk.cons 10 rfl ?_ | refine Pk.cons 11 rfl ?_ | refine Pk.cons 12 rfl ?_ | refine Pk.cons 13 rfl ?_ | refine Pk.drop ?_)))) | (have hT := cTb (crun (xs.take k)).1 x (by omega); (refine ⟨k + 1, a57, c57, rfl, by omega, by (show Value.slice _ _ _ = _; simp only [List.length_append, List.length_singleton, hol]), ?_⟩; rw [hts, crun_snoc]; show Sat w0 w [Cel b3 (tClock.all (thsL (cT3 (crun (xs.take k)).1 x))) _, MapF b10 _ _ (cM (crun (xs.take k)).1 x), Own _ _ _ _ _]; rw [hm, hT]; exact S.pk (by repeat (first | exact Pk.nil _ | exact Pk.refl _ | refine Pk.cons 0 rfl ?_ | refine Pk.cons 1 rfl ?_ | refine Pk.cons 2 rfl ?_ | refine Pk.cons 3 rfl ?_ | refine Pk.cons 4 rfl ?_ | refine Pk.cons 5 rfl ?_ | refine Pk.cons 6 rfl ?_ | refine Pk.cons 7 rfl ?_ | refine Pk.cons 8 rfl ?_ | refine Pk.cons 9 rfl ?_ | refine Pk.cons 10 rfl ?_ | refine Pk.cons 11 rfl ?_ | refine Pk.cons 12 rfl ?_ | refine Pk.cons 13 rfl ?_ | refine Pk.drop ?_))))) | (have hm := cM4 (crun (xs.take k)).1 x (by omega) (by omega); first | (have hT := cTa (crun (xs.take k)).1 x (by omega); (refine ⟨k + 1, a57, c57, rfl, by omega, by (show Value.slice _ _ _ = _; simp only [List.length_append, List.length_singleton, hol]), ?_⟩; rw [hts, crun_snoc]; show Sat w0 w [Cel b3 (tClock.all (thsL (cT3 (crun (xs.take k)).1 x))) _, MapF b10 _ _ (cM (crun (xs.take k)).1 x), Own _ _ _ _ _]; rw [hm, hT]; exact S.pk (by repeat (first | exact Pk.nil _ | exact Pk.refl _ | refine Pk.cons 0 rfl ?_ | refine Pk.cons 1 rfl ?_ | refine Pk.cons 2 rfl ?_ | refine Pk.cons 3 rfl ?_ | refine Pk.cons 4 rfl ?_ | refine Pk.cons 5 rfl ?_ | refine Pk.cons 6 rfl ?_ | refine Pk.cons 7 rfl ?_ | refine Pk.cons 8 rfl ?_ | refine Pk.cons 9 rfl ?_ | refine Pk.cons 10 rfl ?_ | refine Pk.cons 11 rfl ?_ | refine Pk.cons 12 rfl ?_ | refine Pk.cons 13 rfl ?_ | refine Pk.drop ?_)))) | (have hT := cTb (crun (xs.take k)).1 x (by omega); (refine ⟨k + 1, a57, c57, rfl, by omega, by (show Value.slice _ _ _ = _; simp only [List.length_append, List.length_singleton, hol]), ?_⟩; rw [hts, crun_snoc]; show Sat w0 w [Cel b3 (tClock.all (thsL (cT3 (crun (xs.take k)).1 x))) _, MapF b10 _ _ (cM (crun (xs.take k)).1 x), Own _ _ _ _ _]; rw [hm, hT]; exact S.pk (by repeat (first | exact Pk.nil _ | exact Pk.refl _ | refine Pk.cons 0 rfl ?_ | refine Pk.cons 1 rfl ?_ | refine Pk.cons 2 rfl ?_ | refine Pk.cons 3 rfl ?_ | refine Pk.cons 4 rfl ?_ | refine Pk.cons 5 rfl ?_ | refine Pk.cons 6 rfl ?_ | refine Pk.cons 7 rfl ?_ | refine Pk.cons 8 rfl ?_ | refine Pk.cons 9 rfl ?_ | refine Pk.cons 10 rfl ?_ | refine Pk.cons 11 rfl ?_ | refine Pk.cons 12 rfl ?_ | refine Pk.cons 13 rfl ?_ | refine Pk.drop ?_)))))
           ·
            (show xs.length - (k + 1) < xs.length - k; omega)
          ·
           have rh11 := h11
           (try simp only [Q1, Q2, Q3, Q4, Q5, Q6, Q7, Q8, Q9, Qa] at h11)
           refine W.skip ?_
           refine InB.nx ?_
           refine InB.nx ?_
           refine Then.nx ?_
           refine W.region rfl ?_
           first | refine WO.q (Y.addI rfl rfl (by omega)) ?_ | refine WO.q (Y.add rfl rfl) ?_
           refine WO.q (Y.move (v := .int .i64 _) rfl) ?_
           refine WO.nil ?_
           refine Then.nx ⟨?_, ?_, ?_⟩
           ·
            (repeat (first | exact Out.hav _ _ _ | exact Out.refl _ _ | refine Out.up rfl ?_ | refine Out.sub rfl ?_))
           ·
            first | (have hm := cM1 (crun (xs.take k)).1 x (by omega); first | (have hT := cTa (crun (xs.take k)).1 x (by omega); (refine ⟨k + 1, a57, c57, rfl, by omega, by (show Value.slice _ _ _ = _; simp only [List.length_append, List.length_singleton, hol]), ?_⟩; rw [hts, crun_snoc]; show Sat w0 w [Cel b3 (tClock.all (thsL (cT3 (crun (xs.take k)).1 x))) _, MapF b10 _ _ (cM (crun (xs.take k)).1 x), Own _ _ _ _ _]; rw [hm, hT]; exact S.pk (by repeat (first | exact Pk.nil _ | exact Pk.refl _ | refine Pk.cons 0 rfl ?_ | refine Pk.cons 1 rfl ?_ | refine Pk.cons 2 rfl ?_ | refine Pk.cons 3 rfl ?_ | refine Pk.cons 4 rfl ?_ | refine Pk.cons 5 rfl ?_ | refine Pk.cons 6 rfl ?_ | refine Pk.cons 7 rfl ?_ | refine Pk.cons 8 rfl ?_ | refine Pk.cons 9 rfl ?_ | refine Pk.cons 10 rfl ?_ | refine Pk.cons 11 rfl ?_ | refine Pk.cons 12 rfl ?_ | refine Pk.cons 13 rfl ?_ | refine Pk.drop ?_)))) | (have hT := cTb (crun (xs.take k)).1 x (by omega); (refine ⟨k + 1, a57, c57, rfl, by omega, by (show Value.slice _ _ _ = _; simp only [List.length_append, List.length_singleton, hol]), ?_⟩; rw [hts, crun_snoc]; show Sat w0 w [Cel b3 (tClock.all (thsL (cT3 (crun (xs.take k)).1 x))) _, MapF b10 _ _ (cM (crun (xs.take k)).1 x), Own _ _ _ _ _]; rw [hm, hT]; exact S.pk (by repeat (first | exact Pk.nil _ | exact Pk.refl _ | refine Pk.cons 0 rfl ?_ | refine Pk.cons 1 rfl ?_ | refine Pk.cons 2 rfl ?_ | refine Pk.cons 3 rfl ?_ | refine Pk.cons 4 rfl ?_ | refine Pk.cons 5 rfl ?_ | refine Pk.cons 6 rfl ?_ | refine Pk.cons 7 rfl ?_ | refine Pk.cons 8 rfl ?_ | refine Pk.cons 9 rfl ?_ | refine Pk.cons 10 rfl ?_ | refine Pk.cons 11 rfl ?_ | refine Pk.cons 12 rfl ?_ | refine Pk.cons 13 rfl ?_ | refine Pk.drop ?_))))) | (have hm := cM2 (crun (xs.take k)).1 x (by omega) (by assumption); first | (have hT := cTa (crun (xs.take k)).1 x (by omega); (refine ⟨k + 1, a57, c57, rfl, by omega, by (show Value.slice _ _ _ = _; simp only [List.length_append, List.length_singleton, hol]), ?_⟩; rw [hts, crun_snoc]; show Sat w0 w [Cel b3 (tClock.all (thsL (cT3 (crun (xs.take k)).1 x))) _, MapF b10 _ _ (cM (crun (xs.take k)).1 x), Own _ _ _ _ _]; rw [hm, hT]; exact S.pk (by repeat (first | exact Pk.nil _ | exact Pk.refl _ | refine Pk.cons 0 rfl ?_ | refine Pk.cons 1 rfl ?_ | refine Pk.cons 2 rfl ?_ | refine Pk.cons 3 rfl ?_ | refine Pk.cons 4 rfl ?_ | refine Pk.cons 5 rfl ?_ | refine Pk.cons 6 rfl ?_ | refine Pk.cons 7 rfl ?_ | refine Pk.cons 8 rfl ?_ | refine Pk.cons 9 rfl ?_ | refine Pk.cons 10 rfl ?_ | refine Pk.cons 11 rfl ?_ | refine Pk.cons 12 rfl ?_ | refine Pk.cons 13 rfl ?_ | refine Pk.drop ?_)))) | (have hT := cTb (crun (xs.take k)).1 x (by omega); (refine ⟨k + 1, a57, c57, rfl, by omega, by (show Value.slice _ _ _ = _; simp only [List.length_append, List.length_singleton, hol]), ?_⟩; rw [hts, crun_snoc]; show Sat w0 w [Cel b3 (tClock.all (thsL (cT3 (crun (xs.take k)).1 x))) _, MapF b10 _ _ (cM (crun (xs.take k)).1 x), Own _ _ _ _ _]; rw [hm, hT]; exact S.pk (by repeat (first | exact Pk.nil _ | exact Pk.refl _ | refine Pk.cons 0 rfl ?_ | refine Pk.cons 1 rfl ?_ | refine Pk.cons 2 rfl ?_ | refine Pk.cons 3 rfl ?_ | refine Pk.cons 4 rfl ?_ | refine Pk.cons 5 rfl ?_ | refine Pk.cons 6 rfl ?_ | refine Pk.cons 7 rfl ?_ | refine Pk.cons 8 rfl ?_ | refine Pk.cons 9 rfl ?_ | refine Pk.cons 10 rfl ?_ | refine Pk.cons 11 rfl ?_ | refine Pk.cons 12 rfl ?_ | refine Pk.cons 13 rfl ?_ | refine Pk.drop ?_))))) | (have hm := cM3 (crun (xs.take k)).1 x (by omega) (by assumption); first | (have hT := cTa (crun (xs.take k)).1 x (by omega); (refine ⟨k + 1, a57, c57, rfl, by omega, by (show Value.slice _ _ _ = _; simp only [List.length_append, List.length_singleton, hol]), ?_⟩; rw [hts, crun_snoc]; show Sat w0 w [Cel b3 (tClock.all (thsL (cT3 (crun (xs.take k)).1 x))) _, MapF b10 _ _ (cM (crun (xs.take k)).1 x), Own _ _ _ _ _]; rw [hm, hT]; exact S.pk (by repeat (first | exact Pk.nil _ | exact Pk.refl _ | refine Pk.cons 0 rfl ?_ | refine Pk.cons 1 rfl ?_ | refine Pk.cons 2 rfl ?_ | refine Pk.cons 3 rfl ?_ | refine Pk.cons 4 rfl ?_ | refine Pk.cons 5 rfl ?_ | refine Pk.cons 6 rfl ?_ | refine Pk.cons 7 rfl ?_ | refine Pk.cons 8 rfl ?_ | refine Pk.cons 9 rfl ?_ | refine Pk.cons 10 rfl ?_ | refine Pk.cons 11 rfl ?_ | refine Pk.cons 12 rfl ?_ | refine Pk.cons 13 rfl ?_ | refine Pk.drop ?_)))) | (have hT := cTb (crun (xs.take k)).1 x (by omega); (refine ⟨k + 1, a57, c57, rfl, by omega, by (show Value.slice _ _ _ = _; simp only [List.length_append, List.length_singleton, hol]), ?_⟩; rw [hts, crun_snoc]; show Sat w0 w [Cel b3 (tClock.all (thsL (cT3 (crun (xs.take k)).1 x))) _, MapF b10 _ _ (cM (crun (xs.take k)).1 x), Own _ _ _ _ _]; rw [hm, hT]; exact S.pk (by repeat (first | exact Pk.nil _ | exact Pk.refl _ | refine Pk.cons 0 rfl ?_ | refine Pk.cons 1 rfl ?_ | refine Pk.cons 2 rfl ?_ | refine Pk.cons 3 rfl ?_ | refine Pk.cons 4 rfl ?_ | refine Pk.cons 5 rfl ?_ | refine Pk.cons 6 rfl ?_ | refine Pk.cons 7 rfl ?_ | refine Pk.cons 8 rfl ?_ | refine Pk.cons 9 rfl ?_ | refine Pk.cons 10 rfl ?_ | refine Pk.cons 11 rfl ?_ | refine Pk.cons 12 rfl ?_ | refine Pk.cons 13 rfl ?_ | refine Pk.drop ?_))))) | (have hm := cM4 (crun (xs.take k)).1 x (by omega) (by omega); first | (have hT := cTa (crun (xs.take k)).1 x (by omega); (refine ⟨k + 1, a57, c57, rfl, by omega, by (show Value.slice _ _ _ = _; simp only [List.length_append, List.length_singleton, hol]), ?_⟩; rw [hts, crun_snoc]; show Sat w0 w [Cel b3 (tClock.all (thsL (cT3 (crun (xs.take k)).1 x))) _, MapF b10 _ _ (cM (crun (xs.take k)).1 x), Own _ _ _ _ _]; rw [hm, hT]; exact S.pk (by repeat (first | exact Pk.nil _ | exact Pk.refl _ | refine Pk.cons 0 rfl ?_ | refine Pk.cons 1 rfl ?_ | refine Pk.cons 2 rfl ?_ | refine Pk.cons 3 rfl ?_ | refine Pk.cons 4 rfl ?_ | refine Pk.cons 5 rfl ?_ | refine Pk.cons 6 rfl ?_ | refine Pk.cons 7 rfl ?_ | refine Pk.cons 8 rfl ?_ | refine Pk.cons 9 rfl ?_ | refine Pk.cons 10 rfl ?_ | refine Pk.cons 11 rfl ?_ | refine Pk.cons 12 rfl ?_ | refine Pk.cons 13 rfl ?_ | refine Pk.drop ?_)))) | (have hT := cTb (crun (xs.take k)).1 x (by omega); (refine ⟨k + 1, a57, c57, rfl, by omega, by (show Value.slice _ _ _ = _; simp only [List.length_append, List.length_singleton, hol]), ?_⟩; rw [hts, crun_snoc]; show Sat w0 w [Cel b3 (tClock.all (thsL (cT3 (crun (xs.take k)).1 x))) _, MapF b10 _ _ (cM (crun (xs.take k)).1 x), Own _ _ _ _ _]; rw [hm, hT]; exact S.pk (by repeat (first | exact Pk.nil _ | exact Pk.refl _ | refine Pk.cons 0 rfl ?_ | refine Pk.cons 1 rfl ?_ | refine Pk.cons 2 rfl ?_ | refine Pk.cons 3 rfl ?_ | refine Pk.cons 4 rfl ?_ | refine Pk.cons 5 rfl ?_ | refine Pk.cons 6 rfl ?_ | refine Pk.cons 7 rfl ?_ | refine Pk.cons 8 rfl ?_ | refine Pk.cons 9 rfl ?_ | refine Pk.cons 10 rfl ?_ | refine Pk.cons 11 rfl ?_ | refine Pk.cons 12 rfl ?_ | refine Pk.cons 13 rfl ?_ | refine Pk.drop ?_)))))
           ·
            (show xs.length - (k + 1) < xs.length - k; omega)
         ·
          have rh10 := h10
          (try simp only [Q1, Q2, Q3, Q4, Q5, Q6, Q7, Q8, Q9, Qa] at h10)
          refine W.skip ?_
          refine InB.nx ?_
          refine InB.nx ?_
          refine Then.nx ?_
          refine W.region rfl ?_
          first | refine WO.q (Y.addI rfl rfl (by omega)) ?_ | refine WO.q (Y.add rfl rfl) ?_
          refine WO.q (Y.move (v := .int .i64 _) rfl) ?_
          refine WO.nil ?_
          refine Then.nx ⟨?_, ?_, ?_⟩
          ·
           (repeat (first | exact Out.hav _ _ _ | exact Out.refl _ _ | refine Out.up rfl ?_ | refine Out.sub rfl ?_))
          ·
           first | (have hm := cM1 (crun (xs.take k)).1 x (by omega); first | (have hT := cTa (crun (xs.take k)).1 x (by omega); (refine ⟨k + 1, a57, c57, rfl, by omega, by (show Value.slice _ _ _ = _; simp only [List.length_append, List.length_singleton, hol]), ?_⟩; rw [hts, crun_snoc]; show Sat w0 w [Cel b3 (tClock.all (thsL (cT3 (crun (xs.take k)).1 x))) _, MapF b10 _ _ (cM (crun (xs.take k)).1 x), Own _ _ _ _ _]; rw [hm, hT]; exact S.pk (by repeat (first | exact Pk.nil _ | exact Pk.refl _ | refine Pk.cons 0 rfl ?_ | refine Pk.cons 1 rfl ?_ | refine Pk.cons 2 rfl ?_ | refine Pk.cons 3 rfl ?_ | refine Pk.cons 4 rfl ?_ | refine Pk.cons 5 rfl ?_ | refine Pk.cons 6 rfl ?_ | refine Pk.cons 7 rfl ?_ | refine Pk.cons 8 rfl ?_ | refine Pk.cons 9 rfl ?_ | refine Pk.cons 10 rfl ?_ | refine Pk.cons 11 rfl ?_ | refine Pk.cons 12 rfl ?_ | refine Pk.cons 13 rfl ?_ | refine Pk.drop ?_)))) | (have hT := cTb (crun (xs.take k)).1 x (by omega); (refine ⟨k + 1, a57, c57, rfl, by omega, by (show Value.slice _ _ _ = _; simp only [List.length_append, List.length_singleton, hol]), ?_⟩; rw [hts, crun_snoc]; show Sat w0 w [Cel b3 (tClock.all (thsL (cT3 (crun (xs.take k)).1 x))) _, MapF b10 _ _ (cM (crun (xs.take k)).1 x), Own _ _ _ _ _]; rw [hm, hT]; exact S.pk (by repeat (first | exact Pk.nil _ | exact Pk.refl _ | refine Pk.cons 0 rfl ?_ | refine Pk.cons 1 rfl ?_ | refine Pk.cons 2 rfl ?_ | refine Pk.cons 3 rfl ?_ | refine Pk.cons 4 rfl ?_ | refine Pk.cons 5 rfl ?_ | refine Pk.cons 6 rfl ?_ | refine Pk.cons 7 rfl ?_ | refine Pk.cons 8 rfl ?_ | refine Pk.cons 9 rfl ?_ | refine Pk.cons 10 rfl ?_ | refine Pk.cons 11 rfl ?_ | refine Pk.cons 12 rfl ?_ | refine Pk.cons 13 rfl ?_ | refine Pk.drop ?_))))) | (have hm := cM2 (crun (xs.take k)).1 x (by omega) (by assumption); first | (have hT := cTa (crun (xs.take k)).1 x (by omega); (refine ⟨k + 1, a57, c57, rfl, by omega, by (show Value.slice _ _ _ = _; simp only [List.length_append, List.length_singleton, hol]), ?_⟩; rw [hts, crun_snoc]; show Sat w0 w [Cel b3 (tClock.all (thsL (cT3 (crun (xs.take k)).1 x))) _, MapF b10 _ _ (cM (crun (xs.take k)).1 x), Own _ _ _ _ _]; rw [hm, hT]; exact S.pk (by repeat (first | exact Pk.nil _ | exact Pk.refl _ | refine Pk.cons 0 rfl ?_ | refine Pk.cons 1 rfl ?_ | refine Pk.cons 2 rfl ?_ | refine Pk.cons 3 rfl ?_ | refine Pk.cons 4 rfl ?_ | refine Pk.cons 5 rfl ?_ | refine Pk.cons 6 rfl ?_ | refine Pk.cons 7 rfl ?_ | refine Pk.cons 8 rfl ?_ | refine Pk.cons 9 rfl ?_ | refine Pk.cons 10 rfl ?_ | refine Pk.cons 11 rfl ?_ | refine Pk.cons 12 rfl ?_ | refine Pk.cons 13 rfl ?_ | refine Pk.drop ?_)))) | (have hT := cTb (crun (xs.take k)).1 x (by omega); (refine ⟨k + 1, a57, c57, rfl, by omega, by (show Value.slice _ _ _ = _; simp only [List.length_append, List.length_singleton, hol]), ?_⟩; rw [hts, crun_snoc]; show Sat w0 w [Cel b3 (tClock.all (thsL (cT3 (crun (xs.take k)).1 x))) _, MapF b10 _ _ (cM (crun (xs.take k)).1 x), Own _ _ _ _ _]; rw [hm, hT]; exact S.pk (by repeat (first | exact Pk.nil _ | exact Pk.refl _ | refine Pk.cons 0 rfl ?_ | refine Pk.cons 1 rfl ?_ | refine Pk.cons 2 rfl ?_ | refine Pk.cons 3 rfl ?_ | refine Pk.cons 4 rfl ?_ | refine Pk.cons 5 rfl ?_ | refine Pk.cons 6 rfl ?_ | refine Pk.cons 7 rfl ?_ | refine Pk.cons 8 rfl ?_ | refine Pk.cons 9 rfl ?_ | refine Pk.cons 10 rfl ?_ | refine Pk.cons 11 rfl ?_ | refine Pk.cons 12 rfl ?_ | refine Pk.cons 13 rfl ?_ | refine Pk.drop ?_))))) | (have hm := cM3 (crun (xs.take k)).1 x (by omega) (by assumption); first | (have hT := cTa (crun (xs.take k)).1 x (by omega); (refine ⟨k + 1, a57, c57, rfl, by omega, by (show Value.slice _ _ _ = _; simp only [List.length_append, List.length_singleton, hol]), ?_⟩; rw [hts, crun_snoc]; show Sat w0 w [Cel b3 (tClock.all (thsL (cT3 (crun (xs.take k)).1 x))) _, MapF b10 _ _ (cM (crun (xs.take k)).1 x), Own _ _ _ _ _]; rw [hm, hT]; exact S.pk (by repeat (first | exact Pk.nil _ | exact Pk.refl _ | refine Pk.cons 0 rfl ?_ | refine Pk.cons 1 rfl ?_ | refine Pk.cons 2 rfl ?_ | refine Pk.cons 3 rfl ?_ | refine Pk.cons 4 rfl ?_ | refine Pk.cons 5 rfl ?_ | refine Pk.cons 6 rfl ?_ | refine Pk.cons 7 rfl ?_ | refine Pk.cons 8 rfl ?_ | refine Pk.cons 9 rfl ?_ | refine Pk.cons 10 rfl ?_ | refine Pk.cons 11 rfl ?_ | refine Pk.cons 12 rfl ?_ | refine Pk.cons 13 rfl ?_ | refine Pk.drop ?_)))) | (have hT := cTb (crun (xs.take k)).1 x (by omega); (refine ⟨k + 1, a57, c57, rfl, by omega, by (show Value.slice _ _ _ = _; simp only [List.length_append, List.length_singleton, hol]), ?_⟩; rw [hts, crun_snoc]; show Sat w0 w [Cel b3 (tClock.all (thsL (cT3 (crun (xs.take k)).1 x))) _, MapF b10 _ _ (cM (crun (xs.take k)).1 x), Own _ _ _ _ _]; rw [hm, hT]; exact S.pk (by repeat (first | exact Pk.nil _ | exact Pk.refl _ | refine Pk.cons 0 rfl ?_ | refine Pk.cons 1 rfl ?_ | refine Pk.cons 2 rfl ?_ | refine Pk.cons 3 rfl ?_ | refine Pk.cons 4 rfl ?_ | refine Pk.cons 5 rfl ?_ | refine Pk.cons 6 rfl ?_ | refine Pk.cons 7 rfl ?_ | refine Pk.cons 8 rfl ?_ | refine Pk.cons 9 rfl ?_ | refine Pk.cons 10 rfl ?_ | refine Pk.cons 11 rfl ?_ | refine Pk.cons 12 rfl ?_ | refine Pk.cons 13 rfl ?_ | refine Pk.drop ?_))))) | (have hm := cM4 (crun (xs.take k)).1 x (by omega) (by omega); first | (have hT := cTa (crun (xs.take k)).1 x (by omega); (refine ⟨k + 1, a57, c57, rfl, by omega, by (show Value.slice _ _ _ = _; simp only [List.length_append, List.length_singleton, hol]), ?_⟩; rw [hts, crun_snoc]; show Sat w0 w [Cel b3 (tClock.all (thsL (cT3 (crun (xs.take k)).1 x))) _, MapF b10 _ _ (cM (crun (xs.take k)).1 x), Own _ _ _ _ _]; rw [hm, hT]; exact S.pk (by repeat (first | exact Pk.nil _ | exact Pk.refl _ | refine Pk.cons 0 rfl ?_ | refine Pk.cons 1 rfl ?_ | refine Pk.cons 2 rfl ?_ | refine Pk.cons 3 rfl ?_ | refine Pk.cons 4 rfl ?_ | refine Pk.cons 5 rfl ?_ | refine Pk.cons 6 rfl ?_ | refine Pk.cons 7 rfl ?_ | refine Pk.cons 8 rfl ?_ | refine Pk.cons 9 rfl ?_ | refine Pk.cons 10 rfl ?_ | refine Pk.cons 11 rfl ?_ | refine Pk.cons 12 rfl ?_ | refine Pk.cons 13 rfl ?_ | refine Pk.drop ?_)))) | (have hT := cTb (crun (xs.take k)).1 x (by omega); (refine ⟨k + 1, a57, c57, rfl, by omega, by (show Value.slice _ _ _ = _; simp only [List.length_append, List.length_singleton, hol]), ?_⟩; rw [hts, crun_snoc]; show Sat w0 w [Cel b3 (tClock.all (thsL (cT3 (crun (xs.take k)).1 x))) _, MapF b10 _ _ (cM (crun (xs.take k)).1 x), Own _ _ _ _ _]; rw [hm, hT]; exact S.pk (by repeat (first | exact Pk.nil _ | exact Pk.refl _ | refine Pk.cons 0 rfl ?_ | refine Pk.cons 1 rfl ?_ | refine Pk.cons 2 rfl ?_ | refine Pk.cons 3 rfl ?_ | refine Pk.cons 4 rfl ?_ | refine Pk.cons 5 rfl ?_ | refine Pk.cons 6 rfl ?_ | refine Pk.cons 7 rfl ?_ | refine Pk.cons 8 rfl ?_ | refine Pk.cons 9 rfl ?_ | refine Pk.cons 10 rfl ?_ | refine Pk.cons 11 rfl ?_ | refine Pk.cons 12 rfl ?_ | refine Pk.cons 13 rfl ?_ | refine Pk.drop ?_)))))
          ·
           (show xs.length - (k + 1) < xs.length - k; omega)
  ·
   have rh1 := h1
   (try simp only [Q1, Q2, Q3, Q4, Q5, Q6, Q7, Q8, Q9, Qa] at h1)
   refine W.exit ?_
   refine Then.x ?_
   refine Then.x ?_
   refine InB.e ?_
   refine Then.nx ?_
   refine W.seq ?_
   refine W.region rfl ?_
   refine WO.q (Y.move (v := .slice _ _ _) rfl) ?_
   refine WO.q (Y.assign (v := .slice _ _ _) rfl) ?_
   refine WO.nil ?_
   refine Then.nx ?_
   refine W.ret ?_
   refine BodyQ.ret1 Tryd.results64 (ResV.tmp _ rfl) ?_
   have e1 : k = xs.length := (by omega); subst e1; refine ⟨_, _, rfl, ?_⟩; rw [List.take_of_length_le (Nat.le_refl _)] at S; exact S.pk (by repeat (first | exact Pk.nil _ | exact Pk.refl _ | refine Pk.cons 0 rfl ?_ | refine Pk.cons 1 rfl ?_ | refine Pk.cons 2 rfl ?_ | refine Pk.cons 3 rfl ?_ | refine Pk.cons 4 rfl ?_ | refine Pk.cons 5 rfl ?_ | refine Pk.cons 6 rfl ?_ | refine Pk.cons 7 rfl ?_ | refine Pk.cons 8 rfl ?_ | refine Pk.cons 9 rfl ?_ | refine Pk.cons 10 rfl ?_ | refine Pk.cons 11 rfl ?_ | refine Pk.cons 12 rfl ?_ | refine Pk.cons 13 rfl ?_ | refine Pk.drop ?_))
end Go.Proofs
