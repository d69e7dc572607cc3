/-
  Walks of Races.
-/
import Derived.Test.YticopppiogophaaDoorTp
import Derived.Test.YticopppiogophaaDoorTo
import Derived.Test.YticopppiogophaaDoorSx
import Derived.Test.YticopppiogophaaDoorFa
import Derived.Test.YticopppiogophaaDoorFb
import Derived.Test.YticopppiogophaaDoorFc
import Derived.Test.YticopppiogophaaDoorWd
set_option linter.unusedVariables false
set_option linter.unusedSimpArgs false
set_option maxRecDepth 100000
set_option maxHeartbeats 1000000
namespace Go.Proofs
open Go Go.TL Go.RowKit
theorem Races_spec (w0 : World) (a : Option Addr) (c : Nat) (xs : List Access) (R1 : Rd tAccess w0 a xs) (hx : xs.length ≤ 4096) :
    Calls Tryd.prog 34 [.slice a xs.length c].toArray w0 (fun e w => ∃ a' c', e = .returned (.tuple #[.slice a' (racesR xs).length c', .int .i64 (mayE xs)]) ∧ Sat w0 w [Own tRace 87 a' c' (racesR xs)]) := by
 have S := Sat.refl w0
 refine calls_of_W (args := [.slice a xs.length c]) 99 Tryd.func34 rfl Tryd.ntmps34 rfl ?_
 refine W.seq ?_
 refine W.region rfl ?_
 refine WO.q (Y.assign (v := .slice _ _ _) rfl) ?_
 refine WO.q (Y.assign (v := .int .i64 _) rfl) ?_
 refine WO.nil ?_
 refine Then.nx ?_
 refine W.seq ?_
 refine W.seq ?_
 refine W.region rfl ?_
 refine WO.q (Y.move (v := .slice _ _ _) rfl) ?_
 refine WO.e (O.call cf_63 rfl (may_spec _ _ _ xs (R1.ext S.ext) (by omega)) ?_)
 rintro _ w ⟨rfl, E⟩
 replace S := S.keep E
 refine ⟨_, rfl, ?_⟩
 refine WO.q (Y.move (v := .tuple _) rfl) ?_
 refine WO.q (Y.extract (v := .int .i64 _) rfl rfl) ?_
 refine WO.q (Y.extract (v := .bool _) rfl rfl) ?_
 refine WO.q (Y.assign (v := .int .i64 _) rfl) ?_
 refine WO.q (Y.assign (v := .bool _) rfl) ?_
 refine WO.nil ?_
 refine Then.nx ?_
 refine W.seq ?_
 refine W.region rfl ?_
 refine WO.q (Y.move (v := .bool _) rfl) ?_
 refine WO.q (Y.not rfl) ?_
 refine WO.nil ?_
 refine Then.nx ?_
 refine W.cond rfl (fun h1 => ?_) (fun h1 => ?_) -- cond 0
 ·
  have rh1 := h1
  (try simp only [Q1, Q2, Q3, Q4, Q5, Q6, Q7, Q8, Q9, Qa] at h1)
  refine W.seq ?_
  refine W.region rfl ?_
  refine WO.q (Y.assign (v := .slice _ _ _) rfl) ?_
  refine WO.q (Y.assign (v := .int .i64 _) rfl) ?_
  refine WO.nil ?_
  refine Then.nx ?_
  refine W.ret ?_
  refine Then.r ?_
  refine BodyQ.ret2 Tryd.results34 (ResV.tmp _ rfl) (ResV.tmp _ rfl) ?_
  first | (obtain ⟨e1, e2⟩ := races_no (l := xs) (by assumption); rw [e1, e2]; exact ⟨none, 0, rfl, S.nilOwn tRace 87⟩) | (obtain ⟨e1, e2⟩ := races_yes (l := xs) (by assumption); rw [e1, e2]; have e : k = xs.length := (by omega); subst e; exact ⟨_, _, rfl, S.pk (by repeat (first | exact Pk.nil _ | exact Pk.refl _ | refine Pk.cons 0 rfl ?_ | refine Pk.cons 1 rfl ?_ | refine Pk.cons 2 rfl ?_ | refine Pk.cons 3 rfl ?_ | refine Pk.cons 4 rfl ?_ | refine Pk.cons 5 rfl ?_ | refine Pk.cons 6 rfl ?_ | refine Pk.cons 7 rfl ?_ | refine Pk.cons 8 rfl ?_ | refine Pk.cons 9 rfl ?_ | refine Pk.cons 10 rfl ?_ | refine Pk.cons 11 rfl ?_ | refine Pk.cons 12 rfl ?_ | refine Pk.cons 13 rfl ?_ | refine Pk.drop ?_))⟩)
 ·
  have rh1 := h1
  (try simp only [Q1, Q2, Q3, Q4, Q5, Q6, Q7, Q8, Q9, Qa] at h1)
  refine W.skip ?_
  refine Then.nx ?_
  refine W.seq ?_
  refine W.region rfl ?_
  refine WO.q (Y.move (v := .slice _ _ _) rfl) ?_
  refine WO.e (O.call cf_64 rfl (clocks_spec _ _ _ xs (R1.ext S.ext) (by omega) (by assumption)) ?_)
  rintro _ w ⟨a1, c1, rfl, S2⟩
  replace S := S.trans S2
  refine ⟨_, rfl, ?_⟩
  refine WO.q (Y.assign (v := .slice _ _ _) rfl) ?_
  refine WO.nil ?_
  refine Then.nx ?_
  refine W.seq ?_
  refine W.region rfl ?_
  refine WO.e (O.makeMap (fun n : Int => Value.int .i64 n) vSl S (fun b22 w S => ?_))
  replace S := S.slots0 tN 3
  refine WO.q (Y.assign (v := .map _) rfl) ?_
  refine WO.nil ?_
  refine Then.nx ?_
  refine W.seq ?_
  refine W.region rfl ?_
  refine WO.q (Y.assign (v := .slice _ _ _) rfl) ?_
  refine WO.nil ?_
  refine Then.nx ?_
  refine W.seq ?_
  refine W.seq ?_
  replace S := S.nilOwn tRace 87
  refine W.region rfl ?_
  refine WO.q (Y.move (v := .slice _ _ _) rfl) ?_
  refine WO.q (Y.len (t' := 0) Tryd.underlying64 rfl) ?_
  refine WO.q (Y.move (v := .int .i64 _) rfl) ?_
  refine WO.nil ?_
  refine Then.nx ?_
  refine W.block ?_
  -- loop 0 carries 8:out, 25
  refine W.loop2 [8, 9, 10, 12, 25, 26, 27, 28, 29, 30, 31, 32, 33, 34, 35, 36, 37, 38, 39, 40, 41, 42, 43, 44, 45, 46, 47, 48, 49, 50, 51, 52, 53, 54, 55, 56, 57, 58, 59, 60, 61, 62, 63, 64, 65, 66, 67, 68, 69, 70, 71, 72, 73, 74, 75, 76, 77, 78, 79, 80, 81, 82, 83, 84, 85, 86, 87, 88, 89, 90, 91, 92, 93, 94, 95, 96, 97] 8 25 (fun v8 v25 w => ∃ (k : Nat) (a2 : Option Addr) (c2 : Nat), v25 = .int .i64 (k : Int) ∧ k ≤ xs.length ∧ v8 = .slice a2 (rrun xs k).out.length c2 ∧ Sat w0 w [Own tRace 87 a2 c2 (rrun xs k).out, Slots b22 (fun n : Int => Value.int .i64 n) tN 3 (rrun xs k).g, Own tClock 109 a1 c1 (clks xs)]) (fun v8 v25 w => xs.length - (intOf v25).toNat) ?_ ?_
  ·
   exact ⟨0, _, _, rfl, by omega, rfl, S⟩
  ·
   rintro g0 v8 v25 w ⟨k, a2, c2, rfl, hk, rfl, S⟩
   refine W.seq ?_
   refine W.region rfl ?_
   refine WO.q (Y.lss rfl rfl) ?_
   refine WO.nil ?_
   refine Then.nx ?_
   refine W.seq ?_
   refine W.cond rfl (fun h2 => ?_) (fun h2 => ?_) -- cond 1
   ·
    have rh2 := h2
    (try simp only [Q1, Q2, Q3, Q4, Q5, Q6, Q7, Q8, Q9, Qa] at h2)
    have ha := R1.1 (by omega)
    obtain ⟨x, hx1⟩ := at_ex (xs := xs) (k := k) (by omega)
    have hx2 : k < xs.length := by omega
    have hmo : mayOk xs = true := by assumption
    have hck := clks_at hx2
    have ha2 := (S.rd 2 rfl).1 (by rw [clks_len]; omega)
    refine W.skip ?_
    refine Then.nx ?_
    refine W.seq ?_
    refine W.block ?_
    refine W.seq ?_
    refine W.region rfl ?_
    refine WO.q (Y.move (v := .int .i64 _) rfl) ?_
    first | refine WO.q (Y.ixN sl_64 rfl rfl (by (first | assumption | rfl)) (by (first | assumption | omega))) ?_ | refine WO.q (Y.ix sl_64 rfl rfl (by (first | assumption | rfl)) (by (first | assumption | omega)) (by (first | assumption | omega))) ?_
    first | refine WO.q (Y.load rfl (loadRdN sz_71 (R1.ext S.ext) (by assumption))) ?_ | refine WO.q (Y.load rfl (loadRdN sz_71 (S.rd 0 rfl) (by assumption))) ?_ | refine WO.q (Y.load rfl (loadRdN sz_71 (S.rd 1 rfl) (by assumption))) ?_ | refine WO.q (Y.load rfl (loadRdN sz_71 (S.rd 2 rfl) (by assumption))) ?_ | refine WO.q (Y.load rfl (loadRdN sz_71 (S.rd 3 rfl) (by assumption))) ?_ | refine WO.q (Y.load rfl (loadRdN sz_71 (S.rd 4 rfl) (by assumption))) ?_ | refine WO.q (Y.load rfl (loadRdN sz_71 (S.rd 5 rfl) (by assumption))) ?_
    refine WO.e (O.alloc z_71 S (fun b10 w S => ?_))
    refine WO.q (Y.assign (v := .int .i64 _) rfl) ?_
    first | refine WO.e0 (O.store (v := .agg _) 0 S rfl rfl rfl sz_71 rfl rfl rfl rfl (fun w S => ?_)) | refine WO.e0 (O.store (v := .agg _) 1 S rfl rfl rfl sz_71 rfl rfl rfl rfl (fun w S => ?_)) | refine WO.e0 (O.store (v := .agg _) 2 S rfl rfl rfl sz_71 rfl rfl rfl rfl (fun w S => ?_)) | refine WO.e0 (O.store (v := .agg _) 3 S rfl rfl rfl sz_71 rfl rfl rfl rfl (fun w S => ?_)) | refine WO.e0 (O.store (v := .agg _) 4 S rfl rfl rfl sz_71 rfl rfl rfl rfl (fun w S => ?_)) | refine WO.e0 (O.store (v := .agg _) 5 S rfl rfl rfl sz_71 rfl rfl rfl rfl (fun w S => ?_)) | refine WO.e0 (O.store (v := .agg _) 6 S rfl rfl rfl sz_71 rfl rfl rfl rfl (fun w S => ?_)) | refine WO.e0 (O.store (v := .agg _) 7 S rfl rfl rfl sz_71 rfl rfl rfl rfl (fun w S => ?_))
    refine WO.nil ?_
    refine Then.nx ?_
    refine W.seq ?_
    refine W.cut1 [30, 31, 32, 33, 34, 35, 36, 37, 38, 39, 40, 41, 42] 42 (fun v42 w => v42 = .bool (!touchB x) ∧ Sat w0 w [Cel b10 (tAccess.enc x) 71, Own tRace 87 a2 c2 (rrun xs k).out, Slots b22 (fun n : Int => Value.int .i64 n) tN 3 (rrun xs k).g, Own tClock 109 a1 c1 (clks xs)]) ?_ ?_
    ·
     refine W.region rfl ?_
     refine WO.q (Y.fieldB fo_71_1 rfl) ?_
     first | refine WO.q (Y.load rfl (loadS1 sz_56 S 0 rfl rfl)) ?_ | refine WO.q (Y.load rfl (loadS1 sz_56 S 1 rfl rfl)) ?_ | refine WO.q (Y.load rfl (loadS1 sz_56 S 2 rfl rfl)) ?_ | refine WO.q (Y.load rfl (loadS1 sz_56 S 3 rfl rfl)) ?_ | refine WO.q (Y.load rfl (loadS1 sz_56 S 4 rfl rfl)) ?_ | refine WO.q (Y.load rfl (loadS1 sz_56 S 5 rfl rfl)) ?_ | refine WO.q (Y.load rfl (loadS1 sz_56 S 6 rfl rfl)) ?_ | refine WO.q (Y.load rfl (loadS1 sz_56 S 7 rfl rfl)) ?_
     refine WO.q (Y.neq rfl rfl) ?_
     refine WO.q (Y.move (v := .bool _) rfl) ?_
     refine WO.splitB (fun h3 => ?_) (fun h3 => ?_)
     ·
      (try simp only [Q1, Q2, Q3, Q4, Q5, Q6, Q7, Q8, Q9, Qa] at h3)
      refine WO.qF rfl ?_
      refine WO.qF rfl ?_
      refine WO.qF rfl ?_
      refine WO.qF rfl ?_
      refine WO.qF rfl ?_
      refine WO.qF rfl ?_
      refine WO.qF rfl ?_
      refine WO.qF rfl ?_
      refine WO.q (Y.pickT (u := .bool _) rfl rfl) ?_
      refine WO.nil ?_
      refine Then.nx ⟨?_, ?_⟩
      ·
       (repeat (first | exact Out.hav _ _ _ | exact Out.refl _ _ | refine Out.up rfl ?_ | refine Out.sub rfl ?_))
      ·
       exact ⟨by (show Value.bool _ = Value.bool _; congr 1; have ht := touch_iff x; cases hq : touchB x <;> simp only [hq, Bool.not_true, Bool.not_false, iff_true, true_iff, Bool.false_eq_true, false_iff] at ht ⊢ <;> first | omega | (rw [Bool.eq_iff_iff]; simp only [Bool.not_eq_true', decide_eq_false_iff_not, decide_eq_true_eq, iff_true, Bool.false_eq_true, iff_false]; omega)), S⟩
     ·
      (try simp only [Q1, Q2, Q3, Q4, Q5, Q6, Q7, Q8, Q9, Qa] at h3)
      refine WO.qT rfl (Y.fieldB fo_71_4 rfl) ?_
      first | refine WO.qT rfl (Y.load rfl (loadS1 sz_2 S 0 rfl rfl)) ?_ | refine WO.qT rfl (Y.load rfl (loadS1 sz_2 S 1 rfl rfl)) ?_ | refine WO.qT rfl (Y.load rfl (loadS1 sz_2 S 2 rfl rfl)) ?_ | refine WO.qT rfl (Y.load rfl (loadS1 sz_2 S 3 rfl rfl)) ?_ | refine WO.qT rfl (Y.load rfl (loadS1 sz_2 S 4 rfl rfl)) ?_ | refine WO.qT rfl (Y.load rfl (loadS1 sz_2 S 5 rfl rfl)) ?_ | refine WO.qT rfl (Y.load rfl (loadS1 sz_2 S 6 rfl rfl)) ?_ | refine WO.qT rfl (Y.load rfl (loadS1 sz_2 S 7 rfl rfl)) ?_
      refine WO.qT rfl (Y.neq rfl rfl) ?_
      refine WO.qT rfl (Y.move (v := .bool _) rfl) ?_
      refine WO.splitB (fun h4 => ?_) (fun h4 => ?_)
      ·
       (try simp only [Q1, Q2, Q3, Q4, Q5, Q6, Q7, Q8, Q9, Qa] at h4)
       refine WO.qT rfl (Y.fieldB fo_71_4 rfl) ?_
       first | refine WO.qT rfl (Y.load rfl (loadS1 sz_2 S 0 rfl rfl)) ?_ | refine WO.qT rfl (Y.load rfl (loadS1 sz_2 S 1 rfl rfl)) ?_ | refine WO.qT rfl (Y.load rfl (loadS1 sz_2 S 2 rfl rfl)) ?_ | refine WO.qT rfl (Y.load rfl (loadS1 sz_2 S 3 rfl rfl)) ?_ | refine WO.qT rfl (Y.load rfl (loadS1 sz_2 S 4 rfl rfl)) ?_ | refine WO.qT rfl (Y.load rfl (loadS1 sz_2 S 5 rfl rfl)) ?_ | refine WO.qT rfl (Y.load rfl (loadS1 sz_2 S 6 rfl rfl)) ?_ | refine WO.qT rfl (Y.load rfl (loadS1 sz_2 S 7 rfl rfl)) ?_
       refine WO.qT rfl (Y.neq rfl rfl) ?_
       refine WO.qT rfl (Y.pickT (u := .bool _) rfl rfl) ?_
       refine WO.q (Y.pickF (u := .bool _) rfl rfl) ?_
       refine WO.nil ?_
       refine Then.nx ⟨?_, ?_⟩
       ·
        (repeat (first | exact Out.hav _ _ _ | exact Out.refl _ _ | refine Out.up rfl ?_ | refine Out.sub rfl ?_))
       ·
        exact ⟨by (show Value.bool _ = Value.bool _; congr 1; have ht := touch_iff x; cases hq : touchB x <;> simp only [hq, Bool.not_true, Bool.not_false, iff_true, true_iff, Bool.false_eq_true, false_iff] at ht ⊢ <;> first | omega | (rw [Bool.eq_iff_iff]; simp only [Bool.not_eq_true', decide_eq_false_iff_not, decide_eq_true_eq, iff_true, Bool.false_eq_true, iff_false]; omega)), S⟩
      ·
       (try simp only [Q1, Q2, Q3, Q4, Q5, Q6, Q7, Q8, Q9, Qa] at h4)
       refine WO.qF rfl ?_
       refine WO.qF rfl ?_
       refine WO.qF rfl ?_
       refine WO.qT rfl (Y.pickF (u := .bool _) rfl rfl) ?_
       refine WO.q (Y.pickF (u := .bool _) rfl rfl) ?_
       refine WO.nil ?_
       refine Then.nx ⟨?_, ?_⟩
       ·
        (repeat (first | exact Out.hav _ _ _ | exact Out.refl _ _ | refine Out.up rfl ?_ | refine Out.sub rfl ?_))
       ·
        exact ⟨by (show Value.bool _ = Value.bool _; congr 1; have ht := touch_iff x; cases hq : touchB x <;> simp only [hq, Bool.not_true, Bool.not_false, iff_true, true_iff, Bool.false_eq_true, false_iff] at ht ⊢ <;> first | omega | (rw [Bool.eq_iff_iff]; simp only [Bool.not_eq_true', decide_eq_false_iff_not, decide_eq_true_eq, iff_true, Bool.false_eq_true, iff_false]; omega)), S⟩
    ·
     rintro gj176 v42 w ⟨rfl, S⟩
     refine W.cond rfl (fun h5 => ?_) (fun h5 => ?_) -- cond 2
     ·
      have rh5 := h5
      (try simp only [Q1, Q2, Q3, Q4, Q5, Q6, Q7, Q8, Q9, Qa] at h5)
      refine W.exit ?_
      refine Then.x ?_
      refine InB.e ?_
      refine Then.nx ?_
      refine W.region rfl ?_
      first | refine WO.q (Y.addI rfl rfl (by omega)) ?_ | refine WO.q (Y.add rfl rfl) ?_
      refine WO.q (Y.move (v := .int .i64 _) rfl) ?_
      refine WO.nil ?_
      refine Then.nx ⟨?_, ?_, ?_⟩
      ·
       (repeat (first | exact Out.hav _ _ _ | exact Out.refl _ _ | refine Out.up rfl ?_ | refine Out.sub rfl ?_))
      ·
       first | (have hr := rrun_succ hx1; rw [rstep_no (by assumption)] at hr; exact ⟨k + 1, a2, c2, rfl, by omega, by (show Value.slice _ _ _ = _; rw [hr]), by (rw [hr]; exact S.pk (by repeat (first | exact Pk.nil _ | exact Pk.refl _ | refine Pk.cons 0 rfl ?_ | refine Pk.cons 1 rfl ?_ | refine Pk.cons 2 rfl ?_ | refine Pk.cons 3 rfl ?_ | refine Pk.cons 4 rfl ?_ | refine Pk.cons 5 rfl ?_ | refine Pk.cons 6 rfl ?_ | refine Pk.cons 7 rfl ?_ | refine Pk.cons 8 rfl ?_ | refine Pk.cons 9 rfl ?_ | refine Pk.cons 10 rfl ?_ | refine Pk.cons 11 rfl ?_ | refine Pk.cons 12 rfl ?_ | refine Pk.cons 13 rfl ?_ | refine Pk.drop ?_)))⟩) | (have hr := rrun_succ hx1; rw [rstep_yes (by assumption)] at hr; exact ⟨k + 1, a4, c4, rfl, by omega, by (show Value.slice _ _ _ = _; rw [hr]), by (rw [hr]; exact (close a96 c96 _ (S.pk (.cons 1 rfl (.cons 1 rfl (.cons 1 rfl (.cons 2 rfl (.cons 2 rfl (.nil _)))))))).pk (by repeat (first | exact Pk.nil _ | exact Pk.refl _ | refine Pk.cons 0 rfl ?_ | refine Pk.cons 1 rfl ?_ | refine Pk.cons 2 rfl ?_ | refine Pk.cons 3 rfl ?_ | refine Pk.cons 4 rfl ?_ | refine Pk.cons 5 rfl ?_ | refine Pk.cons 6 rfl ?_ | refine Pk.cons 7 rfl ?_ | refine Pk.cons 8 rfl ?_ | refine Pk.cons 9 rfl ?_ | refine Pk.cons 10 rfl ?_ | refine Pk.cons 11 rfl ?_ | refine Pk.cons 12 rfl ?_ | refine Pk.cons 13 rfl ?_ | refine Pk.drop ?_)))⟩)
      ·
       (show xs.length - (k + 1) < xs.length - k; omega)
     ·
      have rh5 := h5
      (try simp only [Q1, Q2, Q3, Q4, Q5, Q6, Q7, Q8, Q9, Qa] at h5)
      refine W.skip ?_
      refine Then.nx ?_
      obtain ⟨a3, c3, m, R, hm, S, close⟩ := (S.pk (.cons 2 rfl (.refl _))).slotsOpen x.arg
      have hrl := rrun_lt xs k (by omega)
      have hgl := hrl.2.1 x.arg
      have hol := hrl.2.2
      have ha3 := fun h => (S.rd 0 rfl).1 h
      refine W.cut1 [8, 12, 43, 44, 45, 46, 47, 48, 49, 50, 51, 52, 53, 54, 55, 56, 57, 58, 59, 60, 61, 62, 63, 64, 65, 66, 67, 68, 69, 70, 71, 72, 73, 74, 75, 76, 77, 78, 79, 80, 81, 82, 83, 84, 85, 86] 8 (fun v8 w => ∃ a4 c4, v8 = .slice a4 ((rrun xs k).out ++ rfound xs x k ((rrun xs k).g x.arg)).length c4 ∧ Sat w0 w [Own tN 3 a3 c3 ((rrun xs k).g x.arg), MapF b22 (fun n : Int => Value.int .i64 n) vSl m, R, Cel b10 (tAccess.enc x) 71, Own tRace 87 a4 c4 ((rrun xs k).out ++ rfound xs x k ((rrun xs k).g x.arg)), Own tClock 109 a1 c1 (clks xs)]) ?_ ?_
      ·
       refine W.seq ?_
       refine W.region rfl ?_
       refine WO.q (Y.move (v := .map _) rfl) ?_
       refine WO.q (Y.fieldB fo_71_3 rfl) ?_
       first | refine WO.q (Y.load rfl (loadS1 sz_2 S 0 rfl rfl)) ?_ | refine WO.q (Y.load rfl (loadS1 sz_2 S 1 rfl rfl)) ?_ | refine WO.q (Y.load rfl (loadS1 sz_2 S 2 rfl rfl)) ?_ | refine WO.q (Y.load rfl (loadS1 sz_2 S 3 rfl rfl)) ?_ | refine WO.q (Y.load rfl (loadS1 sz_2 S 4 rfl rfl)) ?_ | refine WO.q (Y.load rfl (loadS1 sz_2 S 5 rfl rfl)) ?_ | refine WO.q (Y.load rfl (loadS1 sz_2 S 6 rfl rfl)) ?_ | refine WO.q (Y.load rfl (loadS1 sz_2 S 7 rfl rfl)) ?_
       refine WO.q (Y.lookupSl x.arg Tryd.underlying112 (keyInt Tryd.underlying2) (fun w => by kernel_rfl) hm 1 S rfl rfl rfl) ?_
       refine WO.q (Y.len (t' := 0) Tryd.underlying27 rfl) ?_
       refine WO.q (Y.move (v := .int .i64 _) rfl) ?_
       refine WO.nil ?_
       refine Then.nx ?_
       refine W.block ?_
       -- loop 1 carries 8:out, 48
       refine W.loop2 [8, 12, 48, 49, 50, 51, 52, 53, 54, 55, 56, 57, 58, 59, 60, 61, 62, 63, 64, 65, 66, 67, 68, 69, 70, 71, 72, 73, 74, 75, 76, 77, 78, 79, 80, 81, 82, 83, 84, 85, 86] 8 48 (fun v8 v48 w => ∃ j : Nat, v48 = .int .i64 (j : Int) ∧ j ≤ ((rrun xs k).g x.arg).length ∧ v8 = .slice a2 (rrun xs k).out.length c2 ∧ (((rrun xs k).g x.arg).take j).find? (racy xs x k) = none ∧ Sat w0 w [Own tN 3 a3 c3 ((rrun xs k).g x.arg), MapF b22 (fun n : Int => Value.int .i64 n) vSl m, R, Cel b10 (tAccess.enc x) 71, Own tRace 87 a2 c2 (rrun xs k).out, Own tClock 109 a1 c1 (clks xs)]) (fun v8 v48 w => ((rrun xs k).g x.arg).length - (intOf v48).toNat) ?_ ?_
       ·
        exact ⟨0, rfl, by omega, rfl, rfl, S⟩
       ·
        rintro g1 v8 v48 w ⟨j, rfl, hj, rfl, hf, S⟩
        refine W.seq ?_
        refine W.region rfl ?_
        refine WO.q (Y.lss rfl rfl) ?_
        refine WO.nil ?_
        refine Then.nx ?_
        refine W.seq ?_
        refine W.cond rfl (fun h6 => ?_) (fun h6 => ?_) -- cond 3
        ·
         have rh6 := h6
         (try simp only [Q1, Q2, Q3, Q4, Q5, Q6, Q7, Q8, Q9, Qa] at h6)
         have ha4 := ha3 (by omega)
         obtain ⟨y0, hy0⟩ := at_ex (xs := ((rrun xs k).g x.arg)) (k := j) (by omega)
         have hyk := hrl.1 _ _ (List.mem_of_getElem? hy0)
         obtain ⟨y, hy1⟩ := at_ex (xs := xs) (k := y0) (by omega)
         have hoy := (okA_iff y).1 (List.all_eq_true.1 hmo y (List.mem_of_getElem? hy1))
         have hcy := clks_at (l := xs) (i := y0) (by omega)
         refine W.skip ?_
         refine Then.nx ?_
         refine W.seq ?_
         refine W.block ?_
         refine W.seq ?_
         refine W.region rfl ?_
         first | refine WO.q (Y.ixN sl_27 rfl rfl (by (first | assumption | rfl)) (by (first | assumption | omega))) ?_ | refine WO.q (Y.ix sl_27 rfl rfl (by (first | assumption | rfl)) (by (first | assumption | omega)) (by (first | assumption | omega))) ?_
         first | refine WO.q (Y.load rfl (loadRd1 sz_3 (R1.ext S.ext) (by assumption) rfl)) ?_ | refine WO.q (Y.load rfl (loadRd1 sz_3 (S.rd 0 rfl) (by assumption) rfl)) ?_ | refine WO.q (Y.load rfl (loadRd1 sz_3 (S.rd 1 rfl) (by assumption) rfl)) ?_ | refine WO.q (Y.load rfl (loadRd1 sz_3 (S.rd 2 rfl) (by assumption) rfl)) ?_ | refine WO.q (Y.load rfl (loadRd1 sz_3 (S.rd 3 rfl) (by assumption) rfl)) ?_ | refine WO.q (Y.load rfl (loadRd1 sz_3 (S.rd 4 rfl) (by assumption) rfl)) ?_ | refine WO.q (Y.load rfl (loadRd1 sz_3 (S.rd 5 rfl) (by assumption) rfl)) ?_
         refine WO.q (Y.assign (v := .int .i64 _) rfl) ?_
         refine WO.nil ?_
         refine Then.nx ?_
         refine W.seq ?_
         refine W.draw (.q 0 (.q 1 (.q 2 (.q 3 (.q 4 (.q 5 (.q 6 (.q 7 (.q 8 (.q 9 (.q 10 (.q 11 (.q 12 (.q 13 (.q 14 (.q 15 (.q 16 (.q 17 (.q 18 (.q 19 (.q 20 (.q 21 (.q 22 (.q 23 (.q 24 (.e 25 (.q 26 (.q 27 .nil)))))))))))))))))))))))))))) (fun w => Sat _ w _) rfl rfl (by kernel_rfl) rfl (by kernel_rfl) (by repeat (first | exact BodyQ.noFrame | refine Then.noFrame ?_ | refine InB.noFrame ?_)) S.drew ?_
         clear S
         refine Plan.q rfl (fun w S => Y.fieldB fo_71_4 rfl) ?_
         first | refine Plan.q rfl (fun w S => Y.load rfl (loadS1 sz_2 S 0 rfl rfl)) ?_ | refine Plan.q rfl (fun w S => Y.load rfl (loadS1 sz_2 S 1 rfl rfl)) ?_ | refine Plan.q rfl (fun w S => Y.load rfl (loadS1 sz_2 S 2 rfl rfl)) ?_ | refine Plan.q rfl (fun w S => Y.load rfl (loadS1 sz_2 S 3 rfl rfl)) ?_ | refine Plan.q rfl (fun w S => Y.load rfl (loadS1 sz_2 S 4 rfl rfl)) ?_ | refine Plan.q rfl (fun w S => Y.load rfl (loadS1 sz_2 S 5 rfl rfl)) ?_ | refine Plan.q rfl (fun w S => Y.load rfl (loadS1 sz_2 S 6 rfl rfl)) ?_ | refine Plan.q rfl (fun w S => Y.load rfl (loadS1 sz_2 S 7 rfl rfl)) ?_
         refine Plan.q rfl (fun w S => Y.eql rfl rfl) ?_
         refine Plan.q rfl (fun w S => Y.move (v := .bool _) rfl) ?_
         refine Plan.splitB (fun h7 => ?_) (fun h7 => ?_)
         ·
          (try simp only [Q1, Q2, Q3, Q4, Q5, Q6, Q7, Q8, Q9, Qa] at h7)
          refine Plan.qF rfl rfl ?_
          refine Plan.qF rfl rfl ?_
          refine Plan.qF rfl rfl ?_
          refine Plan.qF rfl rfl ?_
          refine Plan.qF rfl rfl ?_
          refine Plan.qF rfl rfl ?_
          refine Plan.q rfl (fun w S => Y.pickT (u := .bool _) rfl rfl) ?_
          refine Plan.q rfl (fun w S => Y.move (v := .bool _) rfl) ?_
          refine Plan.qT rfl rfl (fun w S => Y.move (v := .slice _ _ _) rfl) ?_
          refine Plan.qT rfl rfl (fun w S => Y.move (v := .int .i64 _) rfl) ?_
          first | refine Plan.qT rfl rfl (fun w S => Y.ixN sl_64 rfl rfl (by (first | assumption | rfl)) (by (first | assumption | omega))) ?_ | refine Plan.qT rfl rfl (fun w S => Y.ix sl_64 rfl rfl (by (first | assumption | rfl)) (by (first | assumption | omega)) (by (first | assumption | omega))) ?_
          refine Plan.qT rfl rfl (fun w S => Y.fieldE fo_71_0 rfl) ?_
          first | refine Plan.qT rfl rfl (fun w S => Y.load rfl (loadRdF sz_3 (R1.ext S.ext) (by assumption) rfl)) ?_ | refine Plan.qT rfl rfl (fun w S => Y.load rfl (loadRdF sz_3 (S.rd 0 rfl) (by assumption) rfl)) ?_ | refine Plan.qT rfl rfl (fun w S => Y.load rfl (loadRdF sz_3 (S.rd 1 rfl) (by assumption) rfl)) ?_ | refine Plan.qT rfl rfl (fun w S => Y.load rfl (loadRdF sz_3 (S.rd 2 rfl) (by assumption) rfl)) ?_ | refine Plan.qT rfl rfl (fun w S => Y.load rfl (loadRdF sz_3 (S.rd 3 rfl) (by assumption) rfl)) ?_ | refine Plan.qT rfl rfl (fun w S => Y.load rfl (loadRdF sz_3 (S.rd 4 rfl) (by assumption) rfl)) ?_ | refine Plan.qT rfl rfl (fun w S => Y.load rfl (loadRdF sz_3 (S.rd 5 rfl) (by assumption) rfl)) ?_
          refine Plan.qT rfl rfl (fun w S => Y.move (v := .slice _ _ _) rfl) ?_
          refine Plan.qT rfl rfl (fun w S => Y.move (v := .int .i64 _) rfl) ?_
          first | refine Plan.qT rfl rfl (fun w S => Y.ixN sl_105 rfl rfl (by (first | assumption | rfl)) (by (first | assumption | omega))) ?_ | refine Plan.qT rfl rfl (fun w S => Y.ix sl_105 rfl rfl (by (first | assumption | rfl)) (by (first | assumption | omega)) (by (first | assumption | omega))) ?_
          first | refine Plan.qT rfl rfl (fun w S => Y.load rfl (loadRdN sz_109 (R1.ext S.ext) (by assumption))) ?_ | refine Plan.qT rfl rfl (fun w S => Y.load rfl (loadRdN sz_109 (S.rd 0 rfl) (by assumption))) ?_ | refine Plan.qT rfl rfl (fun w S => Y.load rfl (loadRdN sz_109 (S.rd 1 rfl) (by assumption))) ?_ | refine Plan.qT rfl rfl (fun w S => Y.load rfl (loadRdN sz_109 (S.rd 2 rfl) (by assumption))) ?_ | refine Plan.qT rfl rfl (fun w S => Y.load rfl (loadRdN sz_109 (S.rd 3 rfl) (by assumption))) ?_ | refine Plan.qT rfl rfl (fun w S => Y.load rfl (loadRdN sz_109 (S.rd 4 rfl) (by assumption))) ?_ | refine Plan.qT rfl rfl (fun w S => Y.load rfl (loadRdN sz_109 (S.rd 5 rfl) (by assumption))) ?_
          refine Plan.qT rfl rfl (fun w S => Y.move (v := .slice _ _ _) rfl) ?_
          refine Plan.qT rfl rfl (fun w S => Y.move (v := .int .i64 _) rfl) ?_
          first | refine Plan.qT rfl rfl (fun w S => Y.ixN sl_105 rfl rfl (by (first | assumption | rfl)) (by (first | assumption | omega))) ?_ | refine Plan.qT rfl rfl (fun w S => Y.ix sl_105 rfl rfl (by (first | assumption | rfl)) (by (first | assumption | omega)) (by (first | assumption | omega))) ?_
          first | refine Plan.qT rfl rfl (fun w S => Y.load rfl (loadRdN sz_109 (R1.ext S.ext) (by assumption))) ?_ | refine Plan.qT rfl rfl (fun w S => Y.load rfl (loadRdN sz_109 (S.rd 0 rfl) (by assumption))) ?_ | refine Plan.qT rfl rfl (fun w S => Y.load rfl (loadRdN sz_109 (S.rd 1 rfl) (by assumption))) ?_ | refine Plan.qT rfl rfl (fun w S => Y.load rfl (loadRdN sz_109 (S.rd 2 rfl) (by assumption))) ?_ | refine Plan.qT rfl rfl (fun w S => Y.load rfl (loadRdN sz_109 (S.rd 3 rfl) (by assumption))) ?_ | refine Plan.qT rfl rfl (fun w S => Y.load rfl (loadRdN sz_109 (S.rd 4 rfl) (by assumption))) ?_ | refine Plan.qT rfl rfl (fun w S => Y.load rfl (loadRdN sz_109 (S.rd 5 rfl) (by assumption))) ?_
          refine Plan.eT rfl rfl (fun w S => O.call cf_65 rfl (ahead_spec _ _ _ _ (by omega) (by omega)) ?_)
          rintro _ w ⟨rfl, E⟩
          replace S := S.keep E
          refine ⟨_, rfl, ?_⟩
          refine ⟨(fun w => Sat _ w _), S, (.inr (fun w S => S.pk (by repeat (first | exact Pk.nil _ | exact Pk.refl _ | refine Pk.cons 0 rfl ?_ | refine Pk.cons 1 rfl ?_ | refine Pk.cons 2 rfl ?_ | refine Pk.cons 3 rfl ?_ | refine Pk.cons 4 rfl ?_ | refine Pk.cons 5 rfl ?_ | refine Pk.cons 6 rfl ?_ | refine Pk.cons 7 rfl ?_ | refine Pk.cons 8 rfl ?_ | refine Pk.cons 9 rfl ?_ | refine Pk.cons 10 rfl ?_ | refine Pk.cons 11 rfl ?_ | refine Pk.cons 12 rfl ?_ | refine Pk.cons 13 rfl ?_ | refine Pk.drop ?_)))), ?_⟩
          clear S
          refine Plan.qT rfl rfl (fun w S => Y.not rfl) ?_
          refine Plan.q rfl (fun w S => Y.pickT (u := .bool _) rfl rfl) ?_
          refine Plan.nil (fun w S => ?_)
          replace S : Sat _ _ _ := S
          refine Then.nx ?_
          refine W.cond rfl (fun h8 => ?_) (fun h8 => ?_) -- cond 4
          ·
           have rh8 := h8
           (try simp only [Q1, Q2, Q3, Q4, Q5, Q6, Q7, Q8, Q9, Qa] at h8)
           refine W.seq ?_
           refine W.region rfl ?_
           refine WO.q (Y.move (v := .slice _ _ _) rfl) ?_
           refine WO.q (Y.move (v := .int .i64 _) rfl) ?_
           refine WO.q (Y.move (v := .int .i64 _) rfl) ?_
           refine WO.q (Y.build rfl (bld_87_0_1)) ?_
           first | refine WO.e (O.buildSlice rfl (buildOne sl_79 (by decide) rfl rfl) S (fun b84 w S => ?_)) | refine WO.e (O.buildSlice rfl (buildOne sl_79 (by decide) rfl (by simp)) S (fun b84 w S => ?_)) | refine WO.e (O.buildSlice rfl (bs_79_1_0) S (fun b84 w S => ?_))
           refine WO.e (O.append (T := tRace) (ys := [(⟨(y0 : Int), (k : Int)⟩ : GRace)]) 5 sl_79 S rfl rfl rfl rfl (S.rd1 (T := tRace) (x := ⟨(y0 : Int), (k : Int)⟩) 0 rfl) rfl (by (simp only [List.length_singleton]; omega)) (by (simp only [List.length_singleton, maxLen]; omega)) (fun a85 c85 w S hn85 => ?_))
           refine WO.q (Y.assign (v := .slice _ _ _) rfl) ?_
           refine WO.nil ?_
           refine Then.nx ?_
           refine W.exit ?_
           refine InB.x rfl ?_
           refine Then.x ?_
           refine Then.x ?_
           refine InB.e ?_
           refine Then.nx ⟨?_, ?_⟩
           ·
            (repeat (first | exact Out.hav _ _ _ | exact Out.refl _ _ | refine Out.up rfl ?_ | refine Out.sub rfl ?_))
           ·
            first | (have e := rfound_none hf (by omega); exact ⟨a2, c2, by (show Value.slice _ _ _ = _; rw [e, List.append_nil]), by (rw [e, List.append_nil]; exact S)⟩) | (have e := rfound_hit hf hy0 (racy_y hy1 (by assumption) (by first | exact .inl (by assumption) | exact .inr (by assumption))); exact ⟨a85, c85, by (show Value.slice _ _ _ = _; rw [e]), by (rw [e]; exact S.pk (by repeat (first | exact Pk.nil _ | exact Pk.refl _ | refine Pk.cons 0 rfl ?_ | refine Pk.cons 1 rfl ?_ | refine Pk.cons 2 rfl ?_ | refine Pk.cons 3 rfl ?_ | refine Pk.cons 4 rfl ?_ | refine Pk.cons 5 rfl ?_ | refine Pk.cons 6 rfl ?_ | refine Pk.cons 7 rfl ?_ | refine Pk.cons 8 rfl ?_ | refine Pk.cons 9 rfl ?_ | refine Pk.cons 10 rfl ?_ | refine Pk.cons 11 rfl ?_ | refine Pk.cons 12 rfl ?_ | refine Pk.cons 13 rfl ?_ | refine Pk.drop ?_)))⟩)
          ·
           have rh8 := h8
           (try simp only [Q1, Q2, Q3, Q4, Q5, Q6, Q7, Q8, Q9, Qa] at h8)
           refine W.skip ?_
           refine InB.nx ?_
           refine Then.nx ?_
           refine W.region rfl ?_
           first | refine WO.q (Y.addI rfl rfl (by omega)) ?_ | refine WO.q (Y.add rfl rfl) ?_
           refine WO.q (Y.move (v := .int .i64 _) rfl) ?_
           refine WO.nil ?_
           refine Then.nx ⟨?_, ?_, ?_⟩
           ·
            (repeat (first | exact Out.hav _ _ _ | exact Out.refl _ _ | refine Out.up rfl ?_ | refine Out.sub rfl ?_))
           ·
            first | exact ⟨j + 1, rfl, by omega, rfl, find_step hf hy0 (racy_n1 hy1 (by assumption)), S⟩ | exact ⟨j + 1, rfl, by omega, rfl, find_step hf hy0 (racy_n2 hy1 (by assumption) (by assumption)), S⟩
           ·
            (show ((rrun xs k).g x.arg).length - (j + 1) < ((rrun xs k).g x.arg).length - j; omega)
         ·
          (try simp only [Q1, Q2, Q3, Q4, Q5, Q6, Q7, Q8, Q9, Qa] at h7)
          refine Plan.qT rfl rfl (fun w S => Y.move (v := .slice _ _ _) rfl) ?_
          refine Plan.qT rfl rfl (fun w S => Y.move (v := .int .i64 _) rfl) ?_
          first | refine Plan.qT rfl rfl (fun w S => Y.ixN sl_64 rfl rfl (by (first | assumption | rfl)) (by (first | assumption | omega))) ?_ | refine Plan.qT rfl rfl (fun w S => Y.ix sl_64 rfl rfl (by (first | assumption | rfl)) (by (first | assumption | omega)) (by (first | assumption | omega))) ?_
          refine Plan.qT rfl rfl (fun w S => Y.fieldE fo_71_4 rfl) ?_
          first | refine Plan.qT rfl rfl (fun w S => Y.load rfl (loadRdF sz_2 (R1.ext S.ext) (by assumption) rfl)) ?_ | refine Plan.qT rfl rfl (fun w S => Y.load rfl (loadRdF sz_2 (S.rd 0 rfl) (by assumption) rfl)) ?_ | refine Plan.qT rfl rfl (fun w S => Y.load rfl (loadRdF sz_2 (S.rd 1 rfl) (by assumption) rfl)) ?_ | refine Plan.qT rfl rfl (fun w S => Y.load rfl (loadRdF sz_2 (S.rd 2 rfl) (by assumption) rfl)) ?_ | refine Plan.qT rfl rfl (fun w S => Y.load rfl (loadRdF sz_2 (S.rd 3 rfl) (by assumption) rfl)) ?_ | refine Plan.qT rfl rfl (fun w S => Y.load rfl (loadRdF sz_2 (S.rd 4 rfl) (by assumption) rfl)) ?_ | refine Plan.qT rfl rfl (fun w S => Y.load rfl (loadRdF sz_2 (S.rd 5 rfl) (by assumption) rfl)) ?_
          refine Plan.qT rfl rfl (fun w S => Y.eql rfl rfl) ?_
          refine Plan.q rfl (fun w S => Y.pickF (u := .bool _) rfl rfl) ?_
          refine Plan.q rfl (fun w S => Y.move (v := .bool _) rfl) ?_
          refine Plan.splitB (fun h9 => ?_) (fun h9 => ?_)
          ·
           (try simp only [Q1, Q2, Q3, Q4, Q5, Q6, Q7, Q8, Q9, Qa] at h9)
           refine Plan.qT rfl rfl (fun w S => Y.move (v := .slice _ _ _) rfl) ?_
           refine Plan.qT rfl rfl (fun w S => Y.move (v := .int .i64 _) rfl) ?_
           first | refine Plan.qT rfl rfl (fun w S => Y.ixN sl_64 rfl rfl (by (first | assumption | rfl)) (by (first | assumption | omega))) ?_ | refine Plan.qT rfl rfl (fun w S => Y.ix sl_64 rfl rfl (by (first | assumption | rfl)) (by (first | assumption | omega)) (by (first | assumption | omega))) ?_
           refine Plan.qT rfl rfl (fun w S => Y.fieldE fo_71_0 rfl) ?_
           first | refine Plan.qT rfl rfl (fun w S => Y.load rfl (loadRdF sz_3 (R1.ext S.ext) (by assumption) rfl)) ?_ | refine Plan.qT rfl rfl (fun w S => Y.load rfl (loadRdF sz_3 (S.rd 0 rfl) (by assumption) rfl)) ?_ | refine Plan.qT rfl rfl (fun w S => Y.load rfl (loadRdF sz_3 (S.rd 1 rfl) (by assumption) rfl)) ?_ | refine Plan.qT rfl rfl (fun w S => Y.load rfl (loadRdF sz_3 (S.rd 2 rfl) (by assumption) rfl)) ?_ | refine Plan.qT rfl rfl (fun w S => Y.load rfl (loadRdF sz_3 (S.rd 3 rfl) (by assumption) rfl)) ?_ | refine Plan.qT rfl rfl (fun w S => Y.load rfl (loadRdF sz_3 (S.rd 4 rfl) (by assumption) rfl)) ?_ | refine Plan.qT rfl rfl (fun w S => Y.load rfl (loadRdF sz_3 (S.rd 5 rfl) (by assumption) rfl)) ?_
           refine Plan.qT rfl rfl (fun w S => Y.move (v := .slice _ _ _) rfl) ?_
           refine Plan.qT rfl rfl (fun w S => Y.move (v := .int .i64 _) rfl) ?_
           first | refine Plan.qT rfl rfl (fun w S => Y.ixN sl_105 rfl rfl (by (first | assumption | rfl)) (by (first | assumption | omega))) ?_ | refine Plan.qT rfl rfl (fun w S => Y.ix sl_105 rfl rfl (by (first | assumption | rfl)) (by (first | assumption | omega)) (by (first | assumption | omega))) ?_
           first | refine Plan.qT rfl rfl (fun w S => Y.load rfl (loadRdN sz_109 (R1.ext S.ext) (by assumption))) ?_ | refine Plan.qT rfl rfl (fun w S => Y.load rfl (loadRdN sz_109 (S.rd 0 rfl) (by assumption))) ?_ | refine Plan.qT rfl rfl (fun w S => Y.load rfl (loadRdN sz_109 (S.rd 1 rfl) (by assumption))) ?_ | refine Plan.qT rfl rfl (fun w S => Y.load rfl (loadRdN sz_109 (S.rd 2 rfl) (by assumption))) ?_ | refine Plan.qT rfl rfl (fun w S => Y.load rfl (loadRdN sz_109 (S.rd 3 rfl) (by assumption))) ?_ | refine Plan.qT rfl rfl (fun w S => Y.load rfl (loadRdN sz_109 (S.rd 4 rfl) (by assumption))) ?_ | refine Plan.qT rfl rfl (fun w S => Y.load rfl (loadRdN sz_109 (S.rd 5 rfl) (by assumption))) ?_
           refine Plan.qT rfl rfl (fun w S => Y.move (v := .slice _ _ _) rfl) ?_
           refine Plan.qT rfl rfl (fun w S => Y.move (v := .int .i64 _) rfl) ?_
           first | refine Plan.qT rfl rfl (fun w S => Y.ixN sl_105 rfl rfl (by (first | assumption | rfl)) (by (first | assumption | omega))) ?_ | refine Plan.qT rfl rfl (fun w S => Y.ix sl_105 rfl rfl (by (first | assumption | rfl)) (by (first | assumption | omega)) (by (first | assumption | omega))) ?_
           first | refine Plan.qT rfl rfl (fun w S => Y.load rfl (loadRdN sz_109 (R1.ext S.ext) (by assumption))) ?_ | refine Plan.qT rfl rfl (fun w S => Y.load rfl (loadRdN sz_109 (S.rd 0 rfl) (by assumption))) ?_ | refine Plan.qT rfl rfl (fun w S => Y.load rfl (loadRdN sz_109 (S.rd 1 rfl) (by assumption))) ?_ | refine Plan.qT rfl rfl (fun w S => Y.load rfl (loadRdN sz_109 (S.rd 2 rfl) (by assumption))) ?_ | refine Plan.qT rfl rfl (fun w S => Y.load rfl (loadRdN sz_109 (S.rd 3 rfl) (by assumption))) ?_ | refine Plan.qT rfl rfl (fun w S => Y.load rfl (loadRdN sz_109 (S.rd 4 rfl) (by assumption))) ?_ | refine Plan.qT rfl rfl (fun w S => Y.load rfl (loadRdN sz_109 (S.rd 5 rfl) (by assumption))) ?_
           refine Plan.eT rfl rfl (fun w S => O.call cf_65 rfl (ahead_spec _ _ _ _ (by omega) (by omega)) ?_)
           rintro _ w ⟨rfl, E⟩
           replace S := S.keep E
           refine ⟨_, rfl, ?_⟩
           refine ⟨(fun w => Sat _ w _), S, (.inr (fun w S => S.pk (by repeat (first | exact Pk.nil _ | exact Pk.refl _ | refine Pk.cons 0 rfl ?_ | refine Pk.cons 1 rfl ?_ | refine Pk.cons 2 rfl ?_ | refine Pk.cons 3 rfl ?_ | refine Pk.cons 4 rfl ?_ | refine Pk.cons 5 rfl ?_ | refine Pk.cons 6 rfl ?_ | refine Pk.cons 7 rfl ?_ | refine Pk.cons 8 rfl ?_ | refine Pk.cons 9 rfl ?_ | refine Pk.cons 10 rfl ?_ | refine Pk.cons 11 rfl ?_ | refine Pk.cons 12 rfl ?_ | refine Pk.cons 13 rfl ?_ | refine Pk.drop ?_)))), ?_⟩
           clear S
           refine Plan.qT rfl rfl (fun w S => Y.not rfl) ?_
           refine Plan.q rfl (fun w S => Y.pickT (u := .bool _) rfl rfl) ?_
           refine Plan.nil (fun w S => ?_)
           replace S : Sat _ _ _ := S
           refine Then.nx ?_
           refine W.cond rfl (fun h10 => ?_) (fun h10 => ?_) -- cond 5
           ·
            have rh10 := h10
            (try simp only [Q1, Q2, Q3, Q4, Q5, Q6, Q7, Q8, Q9, Qa] at h10)
            refine W.seq ?_
            refine W.region rfl ?_
            refine WO.q (Y.move (v := .slice _ _ _) rfl) ?_
            refine WO.q (Y.move (v := .int .i64 _) rfl) ?_
            refine WO.q (Y.move (v := .int .i64 _) rfl) ?_
            refine WO.q (Y.build rfl (bld_87_0_1)) ?_
            first | refine WO.e (O.buildSlice rfl (buildOne sl_79 (by decide) rfl rfl) S (fun b84 w S => ?_)) | refine WO.e (O.buildSlice rfl (buildOne sl_79 (by decide) rfl (by simp)) S (fun b84 w S => ?_)) | refine WO.e (O.buildSlice rfl (bs_79_1_0) S (fun b84 w S => ?_))
            refine WO.e (O.append (T := tRace) (ys := [(⟨(y0 : Int), (k : Int)⟩ : GRace)]) 5 sl_79 S rfl rfl rfl rfl (S.rd1 (T := tRace) (x := ⟨(y0 : Int), (k : Int)⟩) 0 rfl) rfl (by (simp only [List.length_singleton]; omega)) (by (simp only [List.length_singleton, maxLen]; omega)) (fun a85 c85 w S hn85 => ?_))
            refine WO.q (Y.assign (v := .slice _ _ _) rfl) ?_
            refine WO.nil ?_
            refine Then.nx ?_
            refine W.exit ?_
            refine InB.x rfl ?_
            refine Then.x ?_
            refine Then.x ?_
            refine InB.e ?_
            refine Then.nx ⟨?_, ?_⟩
            ·
             (repeat (first | exact Out.hav _ _ _ | exact Out.refl _ _ | refine Out.up rfl ?_ | refine Out.sub rfl ?_))
            ·
             first | (have e := rfound_none hf (by omega); exact ⟨a2, c2, by (show Value.slice _ _ _ = _; rw [e, List.append_nil]), by (rw [e, List.append_nil]; exact S)⟩) | (have e := rfound_hit hf hy0 (racy_y hy1 (by assumption) (by first | exact .inl (by assumption) | exact .inr (by assumption))); exact ⟨a85, c85, by (show Value.slice _ _ _ = _; rw [e]), by (rw [e]; exact S.pk (by repeat (first | exact Pk.nil _ | exact Pk.refl _ | refine Pk.cons 0 rfl ?_ | refine Pk.cons 1 rfl ?_ | refine Pk.cons 2 rfl ?_ | refine Pk.cons 3 rfl ?_ | refine Pk.cons 4 rfl ?_ | refine Pk.cons 5 rfl ?_ | refine Pk.cons 6 rfl ?_ | refine Pk.cons 7 rfl ?_ | refine Pk.cons 8 rfl ?_ | refine Pk.cons 9 rfl ?_ | refine Pk.cons 10 rfl ?_ | refine Pk.cons 11 rfl ?_ | refine Pk.cons 12 rfl ?_ | refine Pk.cons 13 rfl ?_ | refine Pk.drop ?_)))⟩)
           ·
            have rh10 := h10
            (try simp only [Q1, Q2, Q3, Q4, Q5, Q6, Q7, Q8, Q9, Qa] at h10)
            refine W.skip ?_
            refine InB.nx ?_
            refine Then.nx ?_
            refine W.region rfl ?_
            first | refine WO.q (Y.addI rfl rfl (by omega)) ?_ | refine WO.q (Y.add rfl rfl) ?_
            refine WO.q (Y.move (v := .int .i64 _) rfl) ?_
            refine WO.nil ?_
            refine Then.nx ⟨?_, ?_, ?_⟩
            ·
             (repeat (first | exact Out.hav _ _ _ | exact Out.refl _ _ | refine Out.up rfl ?_ | refine Out.sub rfl ?_))
            ·
             first | exact ⟨j + 1, rfl, by omega, rfl, find_step hf hy0 (racy_n1 hy1 (by assumption)), S⟩ | exact ⟨j + 1, rfl, by omega, rfl, find_step hf hy0 (racy_n2 hy1 (by assumption) (by assumption)), S⟩
            ·
             (show ((rrun xs k).g x.arg).length - (j + 1) < ((rrun xs k).g x.arg).length - j; omega)
          ·
           (try simp only [Q1, Q2, Q3, Q4, Q5, Q6, Q7, Q8, Q9, Qa] at h9)
           refine Plan.qF rfl rfl ?_
           refine Plan.qF rfl rfl ?_
           refine Plan.qF rfl rfl ?_
           refine Plan.qF rfl rfl ?_
           refine Plan.qF rfl rfl ?_
           refine Plan.qF rfl rfl ?_
           refine Plan.qF rfl rfl ?_
           refine Plan.qF rfl rfl ?_
           refine Plan.qF rfl rfl ?_
           refine Plan.qF rfl rfl ?_
           refine Plan.qF rfl rfl ?_
           refine Plan.qF rfl rfl ?_
           refine Plan.qF rfl rfl ?_
           refine Plan.eF rfl rfl ?_
           refine Plan.qF rfl rfl ?_
           refine Plan.q rfl (fun w S => Y.pickF (u := .bool _) rfl rfl) ?_
           refine Plan.nil (fun w S => ?_)
           replace S : Sat _ _ _ := S
           refine Then.nx ?_
           first | refine W.condF rfl ?_ | refine W.condF (congrArg Value.bool (by assumption)) ?_
           refine W.skip ?_
           refine InB.nx ?_
           refine Then.nx ?_
           refine W.region rfl ?_
           first | refine WO.q (Y.addI rfl rfl (by omega)) ?_ | refine WO.q (Y.add rfl rfl) ?_
           refine WO.q (Y.move (v := .int .i64 _) rfl) ?_
           refine WO.nil ?_
           refine Then.nx ⟨?_, ?_, ?_⟩
           ·
            (repeat (first | exact Out.hav _ _ _ | exact Out.refl _ _ | refine Out.up rfl ?_ | refine Out.sub rfl ?_))
           ·
            first | exact ⟨j + 1, rfl, by omega, rfl, find_step hf hy0 (racy_n1 hy1 (by assumption)), S⟩ | exact ⟨j + 1, rfl, by omega, rfl, find_step hf hy0 (racy_n2 hy1 (by assumption) (by assumption)), S⟩
           ·
            (show ((rrun xs k).g x.arg).length - (j + 1) < ((rrun xs k).g x.arg).length - j; omega)
        ·
         have rh6 := h6
         (try simp only [Q1, Q2, Q3, Q4, Q5, Q6, Q7, Q8, Q9, Qa] at h6)
         refine W.exit ?_
         refine Then.x ?_
         refine Then.x ?_
         refine InB.e ?_
         refine Then.nx ⟨?_, ?_⟩
         ·
          (repeat (first | exact Out.hav _ _ _ | exact Out.refl _ _ | refine Out.up rfl ?_ | refine Out.sub rfl ?_))
         ·
          first | (have e := rfound_none hf (by omega); exact ⟨a2, c2, by (show Value.slice _ _ _ = _; rw [e, List.append_nil]), by (rw [e, List.append_nil]; exact S)⟩) | (have e := rfound_hit hf hy0 (racy_y hy1 (by assumption) (by first | exact .inl (by assumption) | exact .inr (by assumption))); exact ⟨a85, c85, by (show Value.slice _ _ _ = _; rw [e]), by (rw [e]; exact S.pk (by repeat (first | exact Pk.nil _ | exact Pk.refl _ | refine Pk.cons 0 rfl ?_ | refine Pk.cons 1 rfl ?_ | refine Pk.cons 2 rfl ?_ | refine Pk.cons 3 rfl ?_ | refine Pk.cons 4 rfl ?_ | refine Pk.cons 5 rfl ?_ | refine Pk.cons 6 rfl ?_ | refine Pk.cons 7 rfl ?_ | refine Pk.cons 8 rfl ?_ | refine Pk.cons 9 rfl ?_ | refine Pk.cons 10 rfl ?_ | refine Pk.cons 11 rfl ?_ | refine Pk.cons 12 rfl ?_ | refine Pk.cons 13 rfl ?_ | refine Pk.drop ?_)))⟩)
      ·
       rintro gj464 v8 w ⟨a4, c4, rfl, S⟩
       refine W.drawT (.q 0 (.q 1 (.q 2 (.q 3 (.q 4 (.q 5 (.q 6 (.q 7 (.e 8 (.e 9 (.e 10 .nil))))))))))) (fun w => Sat w0 w [Cel b10 (tAccess.enc x) 71, MapF b22 (fun n : Int => Value.int .i64 n) vSl m]) (fun w => Sat _ w _) rfl rfl (by kernel_rfl) rfl (by kernel_rfl) (by repeat (first | exact BodyQ.noFrame | refine Then.noFrame ?_ | refine InB.noFrame ?_)) (fun w S => S.pk (by repeat (first | exact Pk.nil _ | exact Pk.refl _ | refine Pk.cons 0 rfl ?_ | refine Pk.cons 1 rfl ?_ | refine Pk.cons 2 rfl ?_ | refine Pk.cons 3 rfl ?_ | refine Pk.cons 4 rfl ?_ | refine Pk.cons 5 rfl ?_ | refine Pk.cons 6 rfl ?_ | refine Pk.cons 7 rfl ?_ | refine Pk.cons 8 rfl ?_ | refine Pk.cons 9 rfl ?_ | refine Pk.cons 10 rfl ?_ | refine Pk.cons 11 rfl ?_ | refine Pk.cons 12 rfl ?_ | refine Pk.cons 13 rfl ?_ | refine Pk.drop ?_))) S.drew ?_
       clear S
       refine PlanT.q rfl (fun w S => Y.move (v := .map _) rfl) ?_
       refine PlanT.q rfl (fun w S => Y.fieldB fo_71_3 rfl) ?_
       first | refine PlanT.q rfl (fun w S => Y.load rfl (loadS1 sz_2 S 0 rfl rfl)) ?_ | refine PlanT.q rfl (fun w S => Y.load rfl (loadS1 sz_2 S 1 rfl rfl)) ?_ | refine PlanT.q rfl (fun w S => Y.load rfl (loadS1 sz_2 S 2 rfl rfl)) ?_ | refine PlanT.q rfl (fun w S => Y.load rfl (loadS1 sz_2 S 3 rfl rfl)) ?_ | refine PlanT.q rfl (fun w S => Y.load rfl (loadS1 sz_2 S 4 rfl rfl)) ?_ | refine PlanT.q rfl (fun w S => Y.load rfl (loadS1 sz_2 S 5 rfl rfl)) ?_ | refine PlanT.q rfl (fun w S => Y.load rfl (loadS1 sz_2 S 6 rfl rfl)) ?_ | refine PlanT.q rfl (fun w S => Y.load rfl (loadS1 sz_2 S 7 rfl rfl)) ?_
       refine PlanT.q rfl (fun w S => Y.move (v := .map _) rfl) ?_
       refine PlanT.q rfl (fun w S => Y.fieldB fo_71_3 rfl) ?_
       first | refine PlanT.q rfl (fun w S => Y.load rfl (loadS1 sz_2 S 0 rfl rfl)) ?_ | refine PlanT.q rfl (fun w S => Y.load rfl (loadS1 sz_2 S 1 rfl rfl)) ?_ | refine PlanT.q rfl (fun w S => Y.load rfl (loadS1 sz_2 S 2 rfl rfl)) ?_ | refine PlanT.q rfl (fun w S => Y.load rfl (loadS1 sz_2 S 3 rfl rfl)) ?_ | refine PlanT.q rfl (fun w S => Y.load rfl (loadS1 sz_2 S 4 rfl rfl)) ?_ | refine PlanT.q rfl (fun w S => Y.load rfl (loadS1 sz_2 S 5 rfl rfl)) ?_ | refine PlanT.q rfl (fun w S => Y.load rfl (loadS1 sz_2 S 6 rfl rfl)) ?_ | refine PlanT.q rfl (fun w S => Y.load rfl (loadS1 sz_2 S 7 rfl rfl)) ?_
       refine PlanT.q rfl (fun w S => Y.lookupSl x.arg Tryd.underlying112 (keyInt Tryd.underlying2) (fun w => by kernel_rfl) hm 1 S rfl rfl rfl) ?_
       refine PlanT.q rfl (fun w S => Y.move (v := .int .i64 _) rfl) ?_
       first | refine PlanT.e1 rfl (fun w S => O.buildSlice rfl (buildOne sl_27 (by decide) rfl rfl) S (fun b95 w S => ?_)) | refine PlanT.e1 rfl (fun w S => O.buildSlice rfl (buildOne sl_27 (by decide) rfl (by simp)) S (fun b95 w S => ?_)) | refine PlanT.e1 rfl (fun w S => O.buildSlice rfl (bs_27_1_0) S (fun b95 w S => ?_))
       refine ⟨(fun w => Sat w0 w [Cel b10 (tAccess.enc x) 71, MapF b22 (fun n : Int => Value.int .i64 n) vSl m]), (fun w => Sat _ w _), S, (.inr (fun _ h => h)), (fun w S => S.pk (by repeat (first | exact Pk.nil _ | exact Pk.refl _ | refine Pk.cons 0 rfl ?_ | refine Pk.cons 1 rfl ?_ | refine Pk.cons 2 rfl ?_ | refine Pk.cons 3 rfl ?_ | refine Pk.cons 4 rfl ?_ | refine Pk.cons 5 rfl ?_ | refine Pk.cons 6 rfl ?_ | refine Pk.cons 7 rfl ?_ | refine Pk.cons 8 rfl ?_ | refine Pk.cons 9 rfl ?_ | refine Pk.cons 10 rfl ?_ | refine Pk.cons 11 rfl ?_ | refine Pk.cons 12 rfl ?_ | refine Pk.cons 13 rfl ?_ | refine Pk.drop ?_))), ?_⟩
       clear S
       refine PlanT.e1 rfl (fun w S => O.append (T := tN) (ys := [k]) 1 sl_27 S rfl rfl rfl rfl (S.rd1 (T := tN) (x := k) 0 rfl) rfl (by (simp only [List.length_singleton]; omega)) (by (simp only [List.length_singleton, maxLen]; omega)) (fun a96 c96 w S hn96 => ?_))
       refine ⟨(fun w => Sat w0 w [Cel b10 (tAccess.enc x) 71, MapF b22 (fun n : Int => Value.int .i64 n) vSl m]), (fun w => Sat _ w _), S, (.inr (fun _ h => h)), (fun w S => S.pk (by repeat (first | exact Pk.nil _ | exact Pk.refl _ | refine Pk.cons 0 rfl ?_ | refine Pk.cons 1 rfl ?_ | refine Pk.cons 2 rfl ?_ | refine Pk.cons 3 rfl ?_ | refine Pk.cons 4 rfl ?_ | refine Pk.cons 5 rfl ?_ | refine Pk.cons 6 rfl ?_ | refine Pk.cons 7 rfl ?_ | refine Pk.cons 8 rfl ?_ | refine Pk.cons 9 rfl ?_ | refine Pk.cons 10 rfl ?_ | refine Pk.cons 11 rfl ?_ | refine Pk.cons 12 rfl ?_ | refine Pk.cons 13 rfl ?_ | refine Pk.drop ?_))), ?_⟩
       clear S
       refine PlanT.e0 rfl (fun w S => O.mapUpdate x.arg ((a96, (((rrun xs k).g x.arg) ++ [k]).length, c96) : SlV) Tryd.underlying112 (keyInt Tryd.underlying2) 2 S rfl rfl rfl rfl (fun w S => ?_))
       refine ⟨(fun w => Sat _ w _), (fun w => Sat _ w _), S, (.inl (by kernel_rfl)), (fun _ h => h), ?_⟩
       clear S
       refine PlanT.nil (fun w S => ?_)
       replace S : Sat _ _ _ := S
       refine InB.nx ?_
       refine Then.nx ?_
       refine W.region rfl ?_
       first | refine WO.q (Y.addI rfl rfl (by omega)) ?_ | refine WO.q (Y.add rfl rfl) ?_
       refine WO.q (Y.move (v := .int .i64 _) rfl) ?_
       refine WO.nil ?_
       refine Then.nx ⟨?_, ?_, ?_⟩
       ·
        (repeat (first | exact Out.hav _ _ _ | exact Out.refl _ _ | refine Out.up rfl ?_ | refine Out.sub rfl ?_))
       ·
        first | (have hr := rrun_succ hx1; rw [rstep_no (by assumption)] at hr; exact ⟨k + 1, a2, c2, rfl, by omega, by (show Value.slice _ _ _ = _; rw [hr]), by (rw [hr]; exact S.pk (by repeat (first | exact Pk.nil _ | exact Pk.refl _ | refine Pk.cons 0 rfl ?_ | refine Pk.cons 1 rfl ?_ | refine Pk.cons 2 rfl ?_ | refine Pk.cons 3 rfl ?_ | refine Pk.cons 4 rfl ?_ | refine Pk.cons 5 rfl ?_ | refine Pk.cons 6 rfl ?_ | refine Pk.cons 7 rfl ?_ | refine Pk.cons 8 rfl ?_ | refine Pk.cons 9 rfl ?_ | refine Pk.cons 10 rfl ?_ | refine Pk.cons 11 rfl ?_ | refine Pk.cons 12 rfl ?_ | refine Pk.cons 13 rfl ?_ | refine Pk.drop ?_)))⟩) | (have hr := rrun_succ hx1; rw [rstep_yes (by assumption)] at hr; exact ⟨k + 1, a4, c4, rfl, by omega, by (show Value.slice _ _ _ = _; rw [hr]), by (rw [hr]; exact (close a96 c96 _ (S.pk (.cons 1 rfl (.cons 1 rfl (.cons 1 rfl (.cons 2 rfl (.cons 2 rfl (.nil _)))))))).pk (by repeat (first | exact Pk.nil _ | exact Pk.refl _ | refine Pk.cons 0 rfl ?_ | refine Pk.cons 1 rfl ?_ | refine Pk.cons 2 rfl ?_ | refine Pk.cons 3 rfl ?_ | refine Pk.cons 4 rfl ?_ | refine Pk.cons 5 rfl ?_ | refine Pk.cons 6 rfl ?_ | refine Pk.cons 7 rfl ?_ | refine Pk.cons 8 rfl ?_ | refine Pk.cons 9 rfl ?_ | refine Pk.cons 10 rfl ?_ | refine Pk.cons 11 rfl ?_ | refine Pk.cons 12 rfl ?_ | refine Pk.cons 13 rfl ?_ | refine Pk.drop ?_)))⟩)
       ·
        (show xs.length - (k + 1) < xs.length - k; omega)
   ·
    have rh2 := h2
    (try simp only [Q1, Q2, Q3, Q4, Q5, Q6, Q7, Q8, Q9, Qa] at h2)
    refine W.exit ?_
    refine Then.x ?_
    refine Then.x ?_
    refine InB.e ?_
    refine Then.nx ?_
    refine W.seq ?_
    refine W.region rfl ?_
    refine WO.q (Y.move (v := .slice _ _ _) rfl) ?_
    refine WO.q (Y.assign (v := .slice _ _ _) rfl) ?_
    refine WO.q (Y.assign (v := .int .i64 _) rfl) ?_
    refine WO.nil ?_
    refine Then.nx ?_
    refine W.ret ?_
    refine BodyQ.ret2 Tryd.results34 (ResV.tmp _ rfl) (ResV.tmp _ rfl) ?_
    first | (obtain ⟨e1, e2⟩ := races_no (l := xs) (by assumption); rw [e1, e2]; exact ⟨none, 0, rfl, S.nilOwn tRace 87⟩) | (obtain ⟨e1, e2⟩ := races_yes (l := xs) (by assumption); rw [e1, e2]; have e : k = xs.length := (by omega); subst e; exact ⟨_, _, rfl, S.pk (by repeat (first | exact Pk.nil _ | exact Pk.refl _ | refine Pk.cons 0 rfl ?_ | refine Pk.cons 1 rfl ?_ | refine Pk.cons 2 rfl ?_ | refine Pk.cons 3 rfl ?_ | refine Pk.cons 4 rfl ?_ | refine Pk.cons 5 rfl ?_ | refine Pk.cons 6 rfl ?_ | refine Pk.cons 7 rfl ?_ | refine Pk.cons 8 rfl ?_ | refine Pk.cons 9 rfl ?_ | refine Pk.cons 10 rfl ?_ | refine Pk.cons 11 rfl ?_ | refine Pk.cons 12 rfl ?_ | refine Pk.cons 13 rfl ?_ | refine Pk.drop ?_))⟩)
end Go.Proofs
