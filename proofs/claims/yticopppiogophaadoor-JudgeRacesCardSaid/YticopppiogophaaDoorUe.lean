/-
  Walks of Once.
-/
import Derived.Test.YticopppiogophaaDoorTv
import Derived.Test.YticopppiogophaaDoorTp
import Derived.Test.YticopppiogophaaDoorSx
import Derived.Test.YticopppiogophaaDoorFa
import Derived.Test.YticopppiogophaaDoorFb
import Derived.Test.YticopppiogophaaDoorFc
import Derived.Test.YticopppiogophaaDoorWa
set_option linter.unusedVariables false
set_option linter.unusedSimpArgs false
set_option maxRecDepth 100000
set_option maxHeartbeats 1000000
namespace Go.Proofs
open Go Go.TL Go.RowKit
theorem Once_spec (w0 : World) (a : Option Addr) (c : Nat) (l : List Access) (R1 : Rd tAccess w0 a l) (hx : l.length ≤ 4096) :
    Calls Tryd.prog 36 [.slice a l.length c].toArray w0 (fun e w => e = .returned (.tuple #[.int .i64 (onceE l), .int .i64 (onceP l)]) ∧ Ext w0 w) := by
 have S := Sat.refl w0
 refine calls_of_W (args := [.slice a l.length c]) 78 Tryd.func36 rfl Tryd.ntmps36 rfl ?_
 refine W.seq ?_
 refine W.region rfl ?_
 refine WO.q (Y.assign (v := .int .i64 _) rfl) ?_
 refine WO.q (Y.assign (v := .int .i64 _) rfl) ?_
 refine WO.nil ?_
 refine Then.nx ?_
 refine W.seq ?_
 refine W.seq ?_
 refine W.region rfl ?_
 refine WO.q (Y.move (v := .slice _ _ _) rfl) ?_
 refine WO.e (O.call cf_63 rfl (may_spec _ _ _ l (R1.ext S.ext) (by omega)) ?_)
 rintro _ w ⟨rfl, E⟩
 replace S := S.keep E
 refine ⟨_, rfl, ?_⟩
 refine WO.q (Y.move (v := .tuple _) rfl) ?_
 refine WO.q (Y.extract (v := .int .i64 _) rfl rfl) ?_
 refine WO.q (Y.extract (v := .bool _) rfl rfl) ?_
 refine WO.q (Y.assign (v := .int .i64 _) rfl) ?_
 refine WO.q (Y.assign (v := .bool _) rfl) ?_
 refine WO.nil ?_
 refine Then.nx ?_
 refine W.seq ?_
 refine W.region rfl ?_
 refine WO.q (Y.move (v := .bool _) rfl) ?_
 refine WO.q (Y.not rfl) ?_
 refine WO.nil ?_
 refine Then.nx ?_
 refine W.cond rfl (fun h1 => ?_) (fun h1 => ?_) -- cond 0
 ·
  have rh1 := h1
  (try simp only [Q1, Q2, Q3, Q4, Q5, Q6, Q7, Q8, Q9, Qa] at h1)
  refine W.seq ?_
  refine W.region rfl ?_
  refine WO.q (Y.assign (v := .int .i64 _) rfl) ?_
  refine WO.q (Y.assign (v := .int .i64 _) rfl) ?_
  refine WO.nil ?_
  refine Then.nx ?_
  refine W.ret ?_
  refine Then.r ?_
  refine BodyQ.ret2 Tryd.results36 (ResV.tmp _ rfl) (ResV.tmp _ rfl) ?_
  first | (obtain ⟨e1, e2⟩ := once_no (l := l) (by assumption); rw [e1, e2]; exact ⟨rfl, S.ext⟩) | (obtain ⟨e1, e2⟩ := once_bad (l := l) (i := i) (by assumption) (by first | (rw [bad_begin hx1 (by omega) (by omega)]; assumption) | (rw [bad_end hx1 (by omega) (by omega) (by omega) hob]; cases hsome : lifeM l i x.arg with | none => rfl | some y => (simp only [hsome, Option.getD_some, Option.isSome_some] at *; first | contradiction | simp [*]))) hob; rw [e1, e2]; exact ⟨rfl, S.ext⟩) | (obtain ⟨e1, e2⟩ := once_ok (l := l) (n := i) (by assumption) (by omega) hob; rw [e1, e2]; exact ⟨rfl, S.ext⟩)
 ·
  have rh1 := h1
  (try simp only [Q1, Q2, Q3, Q4, Q5, Q6, Q7, Q8, Q9, Qa] at h1)
  refine W.skip ?_
  refine Then.nx ?_
  refine W.seq ?_
  refine W.region rfl ?_
  refine WO.e (O.makeMap (fun n : Int => Value.int .i64 n) vLife S (fun b18 w S => ?_))
  refine WO.q (Y.assign (v := .map _) rfl) ?_
  refine WO.nil ?_
  refine Then.nx ?_
  refine W.seq ?_
  refine W.seq ?_
  refine W.region rfl ?_
  refine WO.q (Y.move (v := .slice _ _ _) rfl) ?_
  refine WO.q (Y.len (t' := 0) Tryd.underlying64 rfl) ?_
  refine WO.q (Y.move (v := .int .i64 _) rfl) ?_
  refine WO.nil ?_
  refine Then.nx ?_
  refine W.block ?_
  -- loop 0 carries 21
  refine W.loop1 [2, 3, 7, 8, 9, 10, 21, 22, 23, 24, 25, 26, 27, 28, 29, 30, 31, 32, 33, 34, 35, 36, 37, 38, 39, 40, 41, 42, 43, 44, 45, 46, 47, 48, 49, 50, 51, 52, 53, 54, 55, 56, 57, 58, 59, 60, 61, 62, 63, 64, 65, 66, 67, 68, 69, 70, 71, 72, 73, 74, 75, 76, 77] 21 (fun v21 w => ∃ i : Nat, v21 = .int .i64 (i : Int) ∧ i ≤ l.length ∧ (∀ j, j < i → badO l j = false) ∧ Sat w0 w [MapF b18 (fun n : Int => Value.int .i64 n) vLife (lifeM l i)]) (fun v21 w => l.length - (intOf v21).toNat) ?_ ?_
  ·
   exact ⟨0, rfl, Nat.zero_le _, fun j h => by omega, S⟩
  ·
   rintro g0 v21 w ⟨i, rfl, hi, hob, S⟩
   refine W.seq ?_
   refine W.region rfl ?_
   refine WO.q (Y.lss rfl rfl) ?_
   refine WO.nil ?_
   refine Then.nx ?_
   refine W.seq ?_
   refine W.cond rfl (fun h2 => ?_) (fun h2 => ?_) -- cond 1
   ·
    have rh2 := h2
    (try simp only [Q1, Q2, Q3, Q4, Q5, Q6, Q7, Q8, Q9, Qa] at h2)
    have ha := R1.1 (by omega)
    obtain ⟨x, hx1⟩ := at_ex (xs := l) (k := i) (by omega)
    refine W.skip ?_
    refine Then.nx ?_
    refine W.seq ?_
    refine W.block ?_
    refine W.seq ?_
    refine W.region rfl ?_
    refine WO.q (Y.move (v := .int .i64 _) rfl) ?_
    first | refine WO.q (Y.ixN sl_64 rfl rfl (by (first | assumption | rfl)) (by (first | assumption | omega))) ?_ | refine WO.q (Y.ix sl_64 rfl rfl (by (first | assumption | rfl)) (by (first | assumption | omega)) (by (first | assumption | omega))) ?_
    refine WO.q (Y.load rfl (loadRdN sz_71 (R1.ext S.ext) (by assumption))) ?_
    refine WO.e (O.alloc z_71 S (fun b8 w S => ?_))
    refine WO.q (Y.assign (v := .int .i64 _) rfl) ?_
    first | refine WO.e0 (O.store (v := .agg _) 0 S rfl rfl rfl sz_71 rfl rfl rfl rfl (fun w S => ?_)) | refine WO.e0 (O.store (v := .agg _) 1 S rfl rfl rfl sz_71 rfl rfl rfl rfl (fun w S => ?_))
    refine WO.nil ?_
    refine Then.nx ?_
    refine W.seq ?_
    refine W.seq ?_
    refine W.region rfl ?_
    refine WO.q (Y.fieldB fo_71_1 rfl) ?_
    first | refine WO.q (Y.load rfl (loadS1 sz_56 S 0 rfl rfl)) ?_ | refine WO.q (Y.load rfl (loadS1 sz_56 S 1 rfl rfl)) ?_
    refine WO.q (Y.neq rfl rfl) ?_
    refine WO.nil ?_
    refine Then.nx ?_
    refine W.cond rfl (fun h3 => ?_) (fun h3 => ?_) -- cond 2
    ·
     have rh3 := h3
     (try simp only [Q1, Q2, Q3, Q4, Q5, Q6, Q7, Q8, Q9, Qa] at h3)
     refine W.exit ?_
     refine Then.x ?_
     refine InB.e ?_
     refine Then.nx ?_
     refine W.region rfl ?_
     first | refine WO.q (Y.addI rfl rfl (by omega)) ?_ | refine WO.q (Y.add rfl rfl) ?_
     refine WO.q (Y.move (v := .int .i64 _) rfl) ?_
     refine WO.nil ?_
     refine Then.nx ⟨?_, ?_, ?_⟩
     ·
      (repeat (first | exact Out.hav _ _ _ | exact Out.refl _ _ | refine Out.up rfl ?_ | refine Out.sub rfl ?_))
     ·
      first | (exact ⟨i + 1, rfl, by omega, (fun j hj => by (rcases Nat.lt_succ_iff_lt_or_eq.1 hj with hj | rfl; exact hob j hj; first | exact bad_other hx1 (by omega) | (rw [bad_begin hx1 (by omega) (by omega)]; assumption) | (rw [bad_end hx1 (by omega) (by omega) (by omega) hob, hsome]; simp only [hsome, Option.getD_some] at *; simp [*]))), by (rw [lifeM_skip hx1 (by omega)]; exact S.pk (by repeat (first | exact Pk.nil _ | exact Pk.refl _ | refine Pk.cons 0 rfl ?_ | refine Pk.cons 1 rfl ?_ | refine Pk.cons 2 rfl ?_ | refine Pk.cons 3 rfl ?_ | refine Pk.cons 4 rfl ?_ | refine Pk.cons 5 rfl ?_ | refine Pk.cons 6 rfl ?_ | refine Pk.cons 7 rfl ?_ | refine Pk.cons 8 rfl ?_ | refine Pk.cons 9 rfl ?_ | refine Pk.cons 10 rfl ?_ | refine Pk.cons 11 rfl ?_ | refine Pk.cons 12 rfl ?_ | refine Pk.cons 13 rfl ?_ | refine Pk.drop ?_)))⟩) | ((have hnone : lifeM l i x.arg = none := Option.not_isSome_iff_eq_none.1 (by (rw [show (lifeM l i x.arg).isSome = false by assumption]; decide))); exact ⟨i + 1, rfl, by omega, (fun j hj => by (rcases Nat.lt_succ_iff_lt_or_eq.1 hj with hj | rfl; exact hob j hj; first | exact bad_other hx1 (by omega) | (rw [bad_begin hx1 (by omega) (by omega)]; assumption) | (rw [bad_end hx1 (by omega) (by omega) (by omega) hob, hsome]; simp only [hsome, Option.getD_some] at *; simp [*]))), by (rw [lifeM_begin hx1 (by omega) (by omega) hnone (no_end (by omega) hob hnone)]; exact S.pk (by repeat (first | exact Pk.nil _ | exact Pk.refl _ | refine Pk.cons 0 rfl ?_ | refine Pk.cons 1 rfl ?_ | refine Pk.cons 2 rfl ?_ | refine Pk.cons 3 rfl ?_ | refine Pk.cons 4 rfl ?_ | refine Pk.cons 5 rfl ?_ | refine Pk.cons 6 rfl ?_ | refine Pk.cons 7 rfl ?_ | refine Pk.cons 8 rfl ?_ | refine Pk.cons 9 rfl ?_ | refine Pk.cons 10 rfl ?_ | refine Pk.cons 11 rfl ?_ | refine Pk.cons 12 rfl ?_ | refine Pk.cons 13 rfl ?_ | refine Pk.drop ?_)))⟩) | (obtain ⟨y, hsome⟩ := Option.isSome_iff_exists.1 (show (lifeM l i x.arg).isSome = true by assumption); rw [hsome] at S; refine ⟨i + 1, rfl, by omega, (fun j hj => by (rcases Nat.lt_succ_iff_lt_or_eq.1 hj with hj | rfl; exact hob j hj; first | exact bad_other hx1 (by omega) | (rw [bad_begin hx1 (by omega) (by omega)]; assumption) | (rw [bad_end hx1 (by omega) (by omega) (by omega) hob, hsome]; simp only [hsome, Option.getD_some] at *; simp [*]))), by (rw [lifeM_end hx1 (by omega) (by omega) hsome]; exact S.pk (by repeat (first | exact Pk.nil _ | exact Pk.refl _ | refine Pk.cons 0 rfl ?_ | refine Pk.cons 1 rfl ?_ | refine Pk.cons 2 rfl ?_ | refine Pk.cons 3 rfl ?_ | refine Pk.cons 4 rfl ?_ | refine Pk.cons 5 rfl ?_ | refine Pk.cons 6 rfl ?_ | refine Pk.cons 7 rfl ?_ | refine Pk.cons 8 rfl ?_ | refine Pk.cons 9 rfl ?_ | refine Pk.cons 10 rfl ?_ | refine Pk.cons 11 rfl ?_ | refine Pk.cons 12 rfl ?_ | refine Pk.cons 13 rfl ?_ | refine Pk.drop ?_)))⟩)
     ·
      (show l.length - (i + 1) < l.length - i; omega)
    ·
     have rh3 := h3
     (try simp only [Q1, Q2, Q3, Q4, Q5, Q6, Q7, Q8, Q9, Qa] at h3)
     refine W.skip ?_
     refine Then.nx ?_
     refine W.seq ?_
     refine W.region rfl ?_
     refine WO.q (Y.move (v := .map _) rfl) ?_
     refine WO.q (Y.fieldB fo_71_3 rfl) ?_
     first | refine WO.q (Y.load rfl (loadS1 sz_2 S 0 rfl rfl)) ?_ | refine WO.q (Y.load rfl (loadS1 sz_2 S 1 rfl rfl)) ?_
     refine WO.q (Y.lookupOk (kv := (fun n : Int => Value.int .i64 n)) (vv := vLife) (z := life0) x.arg Tryd.underlying114 (keyInt Tryd.underlying2) (fun w => by kernel_rfl) 1 S rfl rfl rfl) ?_
     refine WO.q (Y.move (v := .tuple _) rfl) ?_
     refine WO.q (Y.extract (v := .agg _) rfl rfl) ?_
     refine WO.q (Y.extract (v := .bool _) rfl rfl) ?_
     refine WO.e (O.alloc z_116 S (fun b9 w S => ?_))
     refine WO.e0 (O.store (v := .agg #[_, _, _]) 0 S rfl rfl rfl sz_116 rfl rfl rfl rfl (fun w S => ?_))
     refine WO.q (Y.assign (v := .bool _) rfl) ?_
     refine WO.nil ?_
     refine Then.nx ?_
     refine W.seq ?_
     refine W.region rfl ?_
     refine WO.q (Y.fieldB fo_71_4 rfl) ?_
     first | refine WO.q (Y.load rfl (loadS1 sz_2 S 0 rfl rfl)) ?_ | refine WO.q (Y.load rfl (loadS1 sz_2 S 1 rfl rfl)) ?_
     refine WO.nil ?_
     refine Then.nx ?_
     refine W.block ?_
     refine W.seq ?_
     refine W.seq ?_
     refine W.region rfl ?_
     refine WO.q (Y.eql rfl rfl) ?_
     refine WO.q (Y.assign (v := .bool _) rfl) ?_
     refine WO.nil ?_
     refine Then.nx ?_
     refine W.cond rfl (fun h4 => ?_) (fun h4 => ?_) -- cond 3
     ·
      have rh4 := h4
      (try simp only [Q1, Q2, Q3, Q4, Q5, Q6, Q7, Q8, Q9, Qa] at h4)
      refine W.skip ?_
      refine Then.nx ?_
      first | refine W.condT rfl ?_ | refine W.condT (congrArg Value.bool (by assumption)) ?_
      refine W.seq ?_
      refine W.seq ?_
      refine W.region rfl ?_
      refine WO.q (Y.move (v := .bool _) rfl) ?_
      refine WO.nil ?_
      refine Then.nx ?_
      refine W.cond rfl (fun h5 => ?_) (fun h5 => ?_) -- cond 4
      ·
       have rh5 := h5
       (try simp only [Q1, Q2, Q3, Q4, Q5, Q6, Q7, Q8, Q9, Qa] at h5)
       refine W.seq ?_
       refine W.region rfl ?_
       refine WO.q (Y.move (v := .int .i64 _) rfl) ?_
       refine WO.q (Y.assign (v := .int .i64 _) rfl) ?_
       refine WO.q (Y.assign (v := .int .i64 _) rfl) ?_
       refine WO.nil ?_
       refine Then.nx ?_
       refine W.ret ?_
       refine Then.r ?_
       refine InB.r ?_
       refine InB.r ?_
       refine Then.r ?_
       refine Then.r ?_
       refine InB.r ?_
       refine Then.r ?_
       refine BodyQ.ret2 Tryd.results36 (ResV.tmp _ rfl) (ResV.tmp _ rfl) ?_
       first | (obtain ⟨e1, e2⟩ := once_no (l := l) (by assumption); rw [e1, e2]; exact ⟨rfl, S.ext⟩) | (obtain ⟨e1, e2⟩ := once_bad (l := l) (i := i) (by assumption) (by first | (rw [bad_begin hx1 (by omega) (by omega)]; assumption) | (rw [bad_end hx1 (by omega) (by omega) (by omega) hob]; cases hsome : lifeM l i x.arg with | none => rfl | some y => (simp only [hsome, Option.getD_some, Option.isSome_some] at *; first | contradiction | simp [*]))) hob; rw [e1, e2]; exact ⟨rfl, S.ext⟩) | (obtain ⟨e1, e2⟩ := once_ok (l := l) (n := i) (by assumption) (by omega) hob; rw [e1, e2]; exact ⟨rfl, S.ext⟩)
      ·
       have rh5 := h5
       (try simp only [Q1, Q2, Q3, Q4, Q5, Q6, Q7, Q8, Q9, Qa] at h5)
       refine W.skip ?_
       refine Then.nx ?_
       refine W.region rfl ?_
       refine WO.q (Y.move (v := .map _) rfl) ?_
       refine WO.q (Y.fieldB fo_71_3 rfl) ?_
       first | refine WO.q (Y.load rfl (loadS1 sz_2 S 0 rfl rfl)) ?_ | refine WO.q (Y.load rfl (loadS1 sz_2 S 1 rfl rfl)) ?_
       refine WO.q (Y.fieldB fo_71_0 rfl) ?_
       first | refine WO.q (Y.load rfl (loadS1 sz_3 S 0 rfl rfl)) ?_ | refine WO.q (Y.load rfl (loadS1 sz_3 S 1 rfl rfl)) ?_
       refine WO.q (Y.fieldB fo_71_4 rfl) ?_
       first | refine WO.q (Y.load rfl (loadS1 sz_2 S 0 rfl rfl)) ?_ | refine WO.q (Y.load rfl (loadS1 sz_2 S 1 rfl rfl)) ?_
       refine WO.q (Y.eql rfl rfl) ?_
       refine WO.q (Y.build rfl (bld_116_0_2)) ?_
       refine WO.e0 (O.mapUpdate x.arg (⟨x.thread, false, decide (x.new = 4)⟩ : Life) Tryd.underlying114 (keyInt Tryd.underlying2) 2 S rfl rfl rfl rfl (fun w S => ?_))
       refine WO.nil ?_
       refine InB.nx ?_
       refine InB.nx ?_
       refine Then.nx ?_
       refine W.region rfl ?_
       first | refine WO.q (Y.addI rfl rfl (by omega)) ?_ | refine WO.q (Y.add rfl rfl) ?_
       refine WO.q (Y.move (v := .int .i64 _) rfl) ?_
       refine WO.nil ?_
       refine Then.nx ⟨?_, ?_, ?_⟩
       ·
        (repeat (first | exact Out.hav _ _ _ | exact Out.refl _ _ | refine Out.up rfl ?_ | refine Out.sub rfl ?_))
       ·
        first | (exact ⟨i + 1, rfl, by omega, (fun j hj => by (rcases Nat.lt_succ_iff_lt_or_eq.1 hj with hj | rfl; exact hob j hj; first | exact bad_other hx1 (by omega) | (rw [bad_begin hx1 (by omega) (by omega)]; assumption) | (rw [bad_end hx1 (by omega) (by omega) (by omega) hob, hsome]; simp only [hsome, Option.getD_some] at *; simp [*]))), by (rw [lifeM_skip hx1 (by omega)]; exact S.pk (by repeat (first | exact Pk.nil _ | exact Pk.refl _ | refine Pk.cons 0 rfl ?_ | refine Pk.cons 1 rfl ?_ | refine Pk.cons 2 rfl ?_ | refine Pk.cons 3 rfl ?_ | refine Pk.cons 4 rfl ?_ | refine Pk.cons 5 rfl ?_ | refine Pk.cons 6 rfl ?_ | refine Pk.cons 7 rfl ?_ | refine Pk.cons 8 rfl ?_ | refine Pk.cons 9 rfl ?_ | refine Pk.cons 10 rfl ?_ | refine Pk.cons 11 rfl ?_ | refine Pk.cons 12 rfl ?_ | refine Pk.cons 13 rfl ?_ | refine Pk.drop ?_)))⟩) | ((have hnone : lifeM l i x.arg = none := Option.not_isSome_iff_eq_none.1 (by (rw [show (lifeM l i x.arg).isSome = false by assumption]; decide))); exact ⟨i + 1, rfl, by omega, (fun j hj => by (rcases Nat.lt_succ_iff_lt_or_eq.1 hj with hj | rfl; exact hob j hj; first | exact bad_other hx1 (by omega) | (rw [bad_begin hx1 (by omega) (by omega)]; assumption) | (rw [bad_end hx1 (by omega) (by omega) (by omega) hob, hsome]; simp only [hsome, Option.getD_some] at *; simp [*]))), by (rw [lifeM_begin hx1 (by omega) (by omega) hnone (no_end (by omega) hob hnone)]; exact S.pk (by repeat (first | exact Pk.nil _ | exact Pk.refl _ | refine Pk.cons 0 rfl ?_ | refine Pk.cons 1 rfl ?_ | refine Pk.cons 2 rfl ?_ | refine Pk.cons 3 rfl ?_ | refine Pk.cons 4 rfl ?_ | refine Pk.cons 5 rfl ?_ | refine Pk.cons 6 rfl ?_ | refine Pk.cons 7 rfl ?_ | refine Pk.cons 8 rfl ?_ | refine Pk.cons 9 rfl ?_ | refine Pk.cons 10 rfl ?_ | refine Pk.cons 11 rfl ?_ | refine Pk.cons 12 rfl ?_ | refine Pk.cons 13 rfl ?_ | refine Pk.drop ?_)))⟩) | (obtain ⟨y, hsome⟩ := Option.isSome_iff_exists.1 (show (lifeM l i x.arg).isSome = true by assumption); rw [hsome] at S; refine ⟨i + 1, rfl, by omega, (fun j hj => by (rcases Nat.lt_succ_iff_lt_or_eq.1 hj with hj | rfl; exact hob j hj; first | exact bad_other hx1 (by omega) | (rw [bad_begin hx1 (by omega) (by omega)]; assumption) | (rw [bad_end hx1 (by omega) (by omega) (by omega) hob, hsome]; simp only [hsome, Option.getD_some] at *; simp [*]))), by (rw [lifeM_end hx1 (by omega) (by omega) hsome]; exact S.pk (by repeat (first | exact Pk.nil _ | exact Pk.refl _ | refine Pk.cons 0 rfl ?_ | refine Pk.cons 1 rfl ?_ | refine Pk.cons 2 rfl ?_ | refine Pk.cons 3 rfl ?_ | refine Pk.cons 4 rfl ?_ | refine Pk.cons 5 rfl ?_ | refine Pk.cons 6 rfl ?_ | refine Pk.cons 7 rfl ?_ | refine Pk.cons 8 rfl ?_ | refine Pk.cons 9 rfl ?_ | refine Pk.cons 10 rfl ?_ | refine Pk.cons 11 rfl ?_ | refine Pk.cons 12 rfl ?_ | refine Pk.cons 13 rfl ?_ | refine Pk.drop ?_)))⟩)
       ·
        (show l.length - (i + 1) < l.length - i; omega)
     ·
      have rh4 := h4
      (try simp only [Q1, Q2, Q3, Q4, Q5, Q6, Q7, Q8, Q9, Qa] at h4)
      refine W.region rfl ?_
      refine WO.q (Y.eql rfl rfl) ?_
      refine WO.q (Y.assign (v := .bool _) rfl) ?_
      refine WO.nil ?_
      refine Then.nx ?_
      refine W.cond rfl (fun h6 => ?_) (fun h6 => ?_) -- cond 5
      ·
       have rh6 := h6
       (try simp only [Q1, Q2, Q3, Q4, Q5, Q6, Q7, Q8, Q9, Qa] at h6)
       refine W.seq ?_
       refine W.seq ?_
       refine W.region rfl ?_
       refine WO.q (Y.move (v := .bool _) rfl) ?_
       refine WO.nil ?_
       refine Then.nx ?_
       refine W.cond rfl (fun h7 => ?_) (fun h7 => ?_) -- cond 6
       ·
        have rh7 := h7
        (try simp only [Q1, Q2, Q3, Q4, Q5, Q6, Q7, Q8, Q9, Qa] at h7)
        refine W.seq ?_
        refine W.region rfl ?_
        refine WO.q (Y.move (v := .int .i64 _) rfl) ?_
        refine WO.q (Y.assign (v := .int .i64 _) rfl) ?_
        refine WO.q (Y.assign (v := .int .i64 _) rfl) ?_
        refine WO.nil ?_
        refine Then.nx ?_
        refine W.ret ?_
        refine Then.r ?_
        refine InB.r ?_
        refine InB.r ?_
        refine Then.r ?_
        refine Then.r ?_
        refine InB.r ?_
        refine Then.r ?_
        refine BodyQ.ret2 Tryd.results36 (ResV.tmp _ rfl) (ResV.tmp _ rfl) ?_
        first | (obtain ⟨e1, e2⟩ := once_no (l := l) (by assumption); rw [e1, e2]; exact ⟨rfl, S.ext⟩) | (obtain ⟨e1, e2⟩ := once_bad (l := l) (i := i) (by assumption) (by first | (rw [bad_begin hx1 (by omega) (by omega)]; assumption) | (rw [bad_end hx1 (by omega) (by omega) (by omega) hob]; cases hsome : lifeM l i x.arg with | none => rfl | some y => (simp only [hsome, Option.getD_some, Option.isSome_some] at *; first | contradiction | simp [*]))) hob; rw [e1, e2]; exact ⟨rfl, S.ext⟩) | (obtain ⟨e1, e2⟩ := once_ok (l := l) (n := i) (by assumption) (by omega) hob; rw [e1, e2]; exact ⟨rfl, S.ext⟩)
       ·
        have rh7 := h7
        (try simp only [Q1, Q2, Q3, Q4, Q5, Q6, Q7, Q8, Q9, Qa] at h7)
        refine W.skip ?_
        refine Then.nx ?_
        refine W.region rfl ?_
        refine WO.q (Y.move (v := .map _) rfl) ?_
        refine WO.q (Y.fieldB fo_71_3 rfl) ?_
        first | refine WO.q (Y.load rfl (loadS1 sz_2 S 0 rfl rfl)) ?_ | refine WO.q (Y.load rfl (loadS1 sz_2 S 1 rfl rfl)) ?_
        refine WO.q (Y.fieldB fo_71_0 rfl) ?_
        first | refine WO.q (Y.load rfl (loadS1 sz_3 S 0 rfl rfl)) ?_ | refine WO.q (Y.load rfl (loadS1 sz_3 S 1 rfl rfl)) ?_
        refine WO.q (Y.fieldB fo_71_4 rfl) ?_
        first | refine WO.q (Y.load rfl (loadS1 sz_2 S 0 rfl rfl)) ?_ | refine WO.q (Y.load rfl (loadS1 sz_2 S 1 rfl rfl)) ?_
        refine WO.q (Y.eql rfl rfl) ?_
        refine WO.q (Y.build rfl (bld_116_0_2)) ?_
        refine WO.e0 (O.mapUpdate x.arg (⟨x.thread, false, decide (x.new = 4)⟩ : Life) Tryd.underlying114 (keyInt Tryd.underlying2) 2 S rfl rfl rfl rfl (fun w S => ?_))
        refine WO.nil ?_
        refine InB.nx ?_
        refine InB.nx ?_
        refine Then.nx ?_
        refine W.region rfl ?_
        first | refine WO.q (Y.addI rfl rfl (by omega)) ?_ | refine WO.q (Y.add rfl rfl) ?_
        refine WO.q (Y.move (v := .int .i64 _) rfl) ?_
        refine WO.nil ?_
        refine Then.nx ⟨?_, ?_, ?_⟩
        ·
         (repeat (first | exact Out.hav _ _ _ | exact Out.refl _ _ | refine Out.up rfl ?_ | refine Out.sub rfl ?_))
        ·
         first | (exact ⟨i + 1, rfl, by omega, (fun j hj => by (rcases Nat.lt_succ_iff_lt_or_eq.1 hj with hj | rfl; exact hob j hj; first | exact bad_other hx1 (by omega) | (rw [bad_begin hx1 (by omega) (by omega)]; assumption) | (rw [bad_end hx1 (by omega) (by omega) (by omega) hob, hsome]; simp only [hsome, Option.getD_some] at *; simp [*]))), by (rw [lifeM_skip hx1 (by omega)]; exact S.pk (by repeat (first | exact Pk.nil _ | exact Pk.refl _ | refine Pk.cons 0 rfl ?_ | refine Pk.cons 1 rfl ?_ | refine Pk.cons 2 rfl ?_ | refine Pk.cons 3 rfl ?_ | refine Pk.cons 4 rfl ?_ | refine Pk.cons 5 rfl ?_ | refine Pk.cons 6 rfl ?_ | refine Pk.cons 7 rfl ?_ | refine Pk.cons 8 rfl ?_ | refine Pk.cons 9 rfl ?_ | refine Pk.cons 10 rfl ?_ | refine Pk.cons 11 rfl ?_ | refine Pk.cons 12 rfl ?_ | refine Pk.cons 13 rfl ?_ | refine Pk.drop ?_)))⟩) | ((have hnone : lifeM l i x.arg = none := Option.not_isSome_iff_eq_none.1 (by (rw [show (lifeM l i x.arg).isSome = false by assumption]; decide))); exact ⟨i + 1, rfl, by omega, (fun j hj => by (rcases Nat.lt_succ_iff_lt_or_eq.1 hj with hj | rfl; exact hob j hj; first | exact bad_other hx1 (by omega) | (rw [bad_begin hx1 (by omega) (by omega)]; assumption) | (rw [bad_end hx1 (by omega) (by omega) (by omega) hob, hsome]; simp only [hsome, Option.getD_some] at *; simp [*]))), by (rw [lifeM_begin hx1 (by omega) (by omega) hnone (no_end (by omega) hob hnone)]; exact S.pk (by repeat (first | exact Pk.nil _ | exact Pk.refl _ | refine Pk.cons 0 rfl ?_ | refine Pk.cons 1 rfl ?_ | refine Pk.cons 2 rfl ?_ | refine Pk.cons 3 rfl ?_ | refine Pk.cons 4 rfl ?_ | refine Pk.cons 5 rfl ?_ | refine Pk.cons 6 rfl ?_ | refine Pk.cons 7 rfl ?_ | refine Pk.cons 8 rfl ?_ | refine Pk.cons 9 rfl ?_ | refine Pk.cons 10 rfl ?_ | refine Pk.cons 11 rfl ?_ | refine Pk.cons 12 rfl ?_ | refine Pk.cons 13 rfl ?_ | refine Pk.drop ?_)))⟩) | (obtain ⟨y, hsome⟩ := Option.isSome_iff_exists.1 (show (lifeM l i x.arg).isSome = true by assumption); rw [hsome] at S; refine ⟨i + 1, rfl, by omega, (fun j hj => by (rcases Nat.lt_succ_iff_lt_or_eq.1 hj with hj | rfl; exact hob j hj; first | exact bad_other hx1 (by omega) | (rw [bad_begin hx1 (by omega) (by omega)]; assumption) | (rw [bad_end hx1 (by omega) (by omega) (by omega) hob, hsome]; simp only [hsome, Option.getD_some] at *; simp [*]))), by (rw [lifeM_end hx1 (by omega) (by omega) hsome]; exact S.pk (by repeat (first | exact Pk.nil _ | exact Pk.refl _ | refine Pk.cons 0 rfl ?_ | refine Pk.cons 1 rfl ?_ | refine Pk.cons 2 rfl ?_ | refine Pk.cons 3 rfl ?_ | refine Pk.cons 4 rfl ?_ | refine Pk.cons 5 rfl ?_ | refine Pk.cons 6 rfl ?_ | refine Pk.cons 7 rfl ?_ | refine Pk.cons 8 rfl ?_ | refine Pk.cons 9 rfl ?_ | refine Pk.cons 10 rfl ?_ | refine Pk.cons 11 rfl ?_ | refine Pk.cons 12 rfl ?_ | refine Pk.cons 13 rfl ?_ | refine Pk.drop ?_)))⟩)
        ·
         (show l.length - (i + 1) < l.length - i; omega)
      ·
       have rh6 := h6
       (try simp only [Q1, Q2, Q3, Q4, Q5, Q6, Q7, Q8, Q9, Qa] at h6)
       refine W.seq ?_
       refine W.region rfl ?_
       refine WO.q (Y.eql rfl rfl) ?_
       refine WO.q (Y.assign (v := .bool _) rfl) ?_
       refine WO.nil ?_
       refine Then.nx ?_
       refine W.cond rfl (fun h8 => ?_) (fun h8 => ?_) -- cond 7
       ·
        have rh8 := h8
        (try simp only [Q1, Q2, Q3, Q4, Q5, Q6, Q7, Q8, Q9, Qa] at h8)
        refine W.seq ?_
        refine W.seq ?_
        refine W.region rfl ?_
        refine WO.q (Y.move (v := .bool _) rfl) ?_
        refine WO.q (Y.not rfl) ?_
        refine WO.q (Y.move (v := .bool _) rfl) ?_
        refine WO.splitB (fun h9 => ?_) (fun h9 => ?_)
        ·
         (try simp only [Q1, Q2, Q3, Q4, Q5, Q6, Q7, Q8, Q9, Qa] at h9)
         refine WO.qF rfl ?_
         refine WO.qF rfl ?_
         refine WO.q (Y.pickT (u := .bool _) rfl rfl) ?_
         refine WO.q (Y.move (v := .bool _) rfl) ?_
         refine WO.qF rfl ?_
         refine WO.qF rfl ?_
         refine WO.q (Y.pickT (u := .bool _) rfl rfl) ?_
         refine WO.q (Y.move (v := .bool _) rfl) ?_
         refine WO.qF rfl ?_
         refine WO.qF rfl ?_
         refine WO.qF rfl ?_
         refine WO.qF rfl ?_
         refine WO.qF rfl ?_
         refine WO.q (Y.pickT (u := .bool _) rfl rfl) ?_
         refine WO.nil ?_
         refine Then.nx ?_
         first | refine W.condT rfl ?_ | refine W.condT (congrArg Value.bool (by assumption)) ?_
         refine W.seq ?_
         refine W.region rfl ?_
         refine WO.q (Y.move (v := .int .i64 _) rfl) ?_
         refine WO.q (Y.assign (v := .int .i64 _) rfl) ?_
         refine WO.q (Y.assign (v := .int .i64 _) rfl) ?_
         refine WO.nil ?_
         refine Then.nx ?_
         refine W.ret ?_
         refine Then.r ?_
         refine InB.r ?_
         refine InB.r ?_
         refine Then.r ?_
         refine Then.r ?_
         refine InB.r ?_
         refine Then.r ?_
         refine BodyQ.ret2 Tryd.results36 (ResV.tmp _ rfl) (ResV.tmp _ rfl) ?_
         first | (obtain ⟨e1, e2⟩ := once_no (l := l) (by assumption); rw [e1, e2]; exact ⟨rfl, S.ext⟩) | (obtain ⟨e1, e2⟩ := once_bad (l := l) (i := i) (by assumption) (by first | (rw [bad_begin hx1 (by omega) (by omega)]; assumption) | (rw [bad_end hx1 (by omega) (by omega) (by omega) hob]; cases hsome : lifeM l i x.arg with | none => rfl | some y => (simp only [hsome, Option.getD_some, Option.isSome_some] at *; first | contradiction | simp [*]))) hob; rw [e1, e2]; exact ⟨rfl, S.ext⟩) | (obtain ⟨e1, e2⟩ := once_ok (l := l) (n := i) (by assumption) (by omega) hob; rw [e1, e2]; exact ⟨rfl, S.ext⟩)
        ·
         (try simp only [Q1, Q2, Q3, Q4, Q5, Q6, Q7, Q8, Q9, Qa] at h9)
         refine WO.qT rfl (Y.fieldB fo_116_2 rfl) ?_
         first | refine WO.qT rfl (Y.load rfl (loadS1 sz_4 S 0 rfl rfl)) ?_ | refine WO.qT rfl (Y.load rfl (loadS1 sz_4 S 1 rfl rfl)) ?_
         refine WO.q (Y.pickF (u := .bool _) rfl rfl) ?_
         refine WO.q (Y.move (v := .bool _) rfl) ?_
         refine WO.splitB (fun h10 => ?_) (fun h10 => ?_)
         ·
          (try simp only [Q1, Q2, Q3, Q4, Q5, Q6, Q7, Q8, Q9, Qa] at h10)
          refine WO.qF rfl ?_
          refine WO.qF rfl ?_
          refine WO.q (Y.pickT (u := .bool _) rfl rfl) ?_
          refine WO.q (Y.move (v := .bool _) rfl) ?_
          refine WO.qF rfl ?_
          refine WO.qF rfl ?_
          refine WO.qF rfl ?_
          refine WO.qF rfl ?_
          refine WO.qF rfl ?_
          refine WO.q (Y.pickT (u := .bool _) rfl rfl) ?_
          refine WO.nil ?_
          refine Then.nx ?_
          first | refine W.condT rfl ?_ | refine W.condT (congrArg Value.bool (by assumption)) ?_
          refine W.seq ?_
          refine W.region rfl ?_
          refine WO.q (Y.move (v := .int .i64 _) rfl) ?_
          refine WO.q (Y.assign (v := .int .i64 _) rfl) ?_
          refine WO.q (Y.assign (v := .int .i64 _) rfl) ?_
          refine WO.nil ?_
          refine Then.nx ?_
          refine W.ret ?_
          refine Then.r ?_
          refine InB.r ?_
          refine InB.r ?_
          refine Then.r ?_
          refine Then.r ?_
          refine InB.r ?_
          refine Then.r ?_
          refine BodyQ.ret2 Tryd.results36 (ResV.tmp _ rfl) (ResV.tmp _ rfl) ?_
          first | (obtain ⟨e1, e2⟩ := once_no (l := l) (by assumption); rw [e1, e2]; exact ⟨rfl, S.ext⟩) | (obtain ⟨e1, e2⟩ := once_bad (l := l) (i := i) (by assumption) (by first | (rw [bad_begin hx1 (by omega) (by omega)]; assumption) | (rw [bad_end hx1 (by omega) (by omega) (by omega) hob]; cases hsome : lifeM l i x.arg with | none => rfl | some y => (simp only [hsome, Option.getD_some, Option.isSome_some] at *; first | contradiction | simp [*]))) hob; rw [e1, e2]; exact ⟨rfl, S.ext⟩) | (obtain ⟨e1, e2⟩ := once_ok (l := l) (n := i) (by assumption) (by omega) hob; rw [e1, e2]; exact ⟨rfl, S.ext⟩)
         ·
          (try simp only [Q1, Q2, Q3, Q4, Q5, Q6, Q7, Q8, Q9, Qa] at h10)
          refine WO.qT rfl (Y.fieldB fo_116_1 rfl) ?_
          first | refine WO.qT rfl (Y.load rfl (loadS1 sz_4 S 0 rfl rfl)) ?_ | refine WO.qT rfl (Y.load rfl (loadS1 sz_4 S 1 rfl rfl)) ?_
          refine WO.q (Y.pickF (u := .bool _) rfl rfl) ?_
          refine WO.q (Y.move (v := .bool _) rfl) ?_
          refine WO.splitB (fun h11 => ?_) (fun h11 => ?_)
          ·
           (try simp only [Q1, Q2, Q3, Q4, Q5, Q6, Q7, Q8, Q9, Qa] at h11)
           refine WO.qF rfl ?_
           refine WO.qF rfl ?_
           refine WO.qF rfl ?_
           refine WO.qF rfl ?_
           refine WO.qF rfl ?_
           refine WO.q (Y.pickT (u := .bool _) rfl rfl) ?_
           refine WO.nil ?_
           refine Then.nx ?_
           first | refine W.condT rfl ?_ | refine W.condT (congrArg Value.bool (by assumption)) ?_
           refine W.seq ?_
           refine W.region rfl ?_
           refine WO.q (Y.move (v := .int .i64 _) rfl) ?_
           refine WO.q (Y.assign (v := .int .i64 _) rfl) ?_
           refine WO.q (Y.assign (v := .int .i64 _) rfl) ?_
           refine WO.nil ?_
           refine Then.nx ?_
           refine W.ret ?_
           refine Then.r ?_
           refine InB.r ?_
           refine InB.r ?_
           refine Then.r ?_
           refine Then.r ?_
           refine InB.r ?_
           refine Then.r ?_
           refine BodyQ.ret2 Tryd.results36 (ResV.tmp _ rfl) (ResV.tmp _ rfl) ?_
           first | (obtain ⟨e1, e2⟩ := once_no (l := l) (by assumption); rw [e1, e2]; exact ⟨rfl, S.ext⟩) | (obtain ⟨e1, e2⟩ := once_bad (l := l) (i := i) (by assumption) (by first | (rw [bad_begin hx1 (by omega) (by omega)]; assumption) | (rw [bad_end hx1 (by omega) (by omega) (by omega) hob]; cases hsome : lifeM l i x.arg with | none => rfl | some y => (simp only [hsome, Option.getD_some, Option.isSome_some] at *; first | contradiction | simp [*]))) hob; rw [e1, e2]; exact ⟨rfl, S.ext⟩) | (obtain ⟨e1, e2⟩ := once_ok (l := l) (n := i) (by assumption) (by omega) hob; rw [e1, e2]; exact ⟨rfl, S.ext⟩)
          ·
           (try simp only [Q1, Q2, Q3, Q4, Q5, Q6, Q7, Q8, Q9, Qa] at h11)
           refine WO.qT rfl (Y.fieldB fo_116_0 rfl) ?_
           first | refine WO.qT rfl (Y.load rfl (loadS1 sz_3 S 0 rfl rfl)) ?_ | refine WO.qT rfl (Y.load rfl (loadS1 sz_3 S 1 rfl rfl)) ?_
           refine WO.qT rfl (Y.fieldB fo_71_0 rfl) ?_
           first | refine WO.qT rfl (Y.load rfl (loadS1 sz_3 S 0 rfl rfl)) ?_ | refine WO.qT rfl (Y.load rfl (loadS1 sz_3 S 1 rfl rfl)) ?_
           refine WO.qT rfl (Y.neq rfl rfl) ?_
           refine WO.q (Y.pickF (u := .bool _) rfl rfl) ?_
           refine WO.nil ?_
           refine Then.nx ?_
           refine W.cond rfl (fun h12 => ?_) (fun h12 => ?_) -- cond 8
           ·
            have rh12 := h12
            (try simp only [Q1, Q2, Q3, Q4, Q5, Q6, Q7, Q8, Q9, Qa] at h12)
            refine W.seq ?_
            refine W.region rfl ?_
            refine WO.q (Y.move (v := .int .i64 _) rfl) ?_
            refine WO.q (Y.assign (v := .int .i64 _) rfl) ?_
            refine WO.q (Y.assign (v := .int .i64 _) rfl) ?_
            refine WO.nil ?_
            refine Then.nx ?_
            refine W.ret ?_
            refine Then.r ?_
            refine InB.r ?_
            refine InB.r ?_
            refine Then.r ?_
            refine Then.r ?_
            refine InB.r ?_
            refine Then.r ?_
            refine BodyQ.ret2 Tryd.results36 (ResV.tmp _ rfl) (ResV.tmp _ rfl) ?_
            first | (obtain ⟨e1, e2⟩ := once_no (l := l) (by assumption); rw [e1, e2]; exact ⟨rfl, S.ext⟩) | (obtain ⟨e1, e2⟩ := once_bad (l := l) (i := i) (by assumption) (by first | (rw [bad_begin hx1 (by omega) (by omega)]; assumption) | (rw [bad_end hx1 (by omega) (by omega) (by omega) hob]; cases hsome : lifeM l i x.arg with | none => rfl | some y => (simp only [hsome, Option.getD_some, Option.isSome_some] at *; first | contradiction | simp [*]))) hob; rw [e1, e2]; exact ⟨rfl, S.ext⟩) | (obtain ⟨e1, e2⟩ := once_ok (l := l) (n := i) (by assumption) (by omega) hob; rw [e1, e2]; exact ⟨rfl, S.ext⟩)
           ·
            have rh12 := h12
            (try simp only [Q1, Q2, Q3, Q4, Q5, Q6, Q7, Q8, Q9, Qa] at h12)
            refine W.skip ?_
            refine Then.nx ?_
            refine W.seq ?_
            refine W.region rfl ?_
            refine WO.q (Y.fieldB fo_116_1 rfl) ?_
            first | refine WO.e0 (O.store (v := .bool _) 0 S rfl rfl rfl sz_4 rfl rfl rfl rfl (fun w S => ?_)) | refine WO.e0 (O.store (v := .bool _) 1 S rfl rfl rfl sz_4 rfl rfl rfl rfl (fun w S => ?_))
            refine WO.nil ?_
            refine Then.nx ?_
            refine W.region rfl ?_
            refine WO.q (Y.move (v := .map _) rfl) ?_
            refine WO.q (Y.fieldB fo_71_3 rfl) ?_
            first | refine WO.q (Y.load rfl (loadS1 sz_2 S 0 rfl rfl)) ?_ | refine WO.q (Y.load rfl (loadS1 sz_2 S 1 rfl rfl)) ?_
            first | refine WO.q (Y.load rfl (loadSN sz_116 S 0 rfl rfl rfl)) ?_ | refine WO.q (Y.load rfl (loadSN sz_116 S 1 rfl rfl rfl)) ?_
            refine WO.e0 (O.mapUpdate x.arg (⟨((lifeM l i x.arg).getD life0).thread, true, ((lifeM l i x.arg).getD life0).lost⟩ : Life) Tryd.underlying114 (keyInt Tryd.underlying2) 2 S rfl rfl rfl rfl (fun w S => ?_))
            refine WO.nil ?_
            refine InB.nx ?_
            refine InB.nx ?_
            refine Then.nx ?_
            refine W.region rfl ?_
            first | refine WO.q (Y.addI rfl rfl (by omega)) ?_ | refine WO.q (Y.add rfl rfl) ?_
            refine WO.q (Y.move (v := .int .i64 _) rfl) ?_
            refine WO.nil ?_
            refine Then.nx ⟨?_, ?_, ?_⟩
            ·
             (repeat (first | exact Out.hav _ _ _ | exact Out.refl _ _ | refine Out.up rfl ?_ | refine Out.sub rfl ?_))
            ·
             first | (exact ⟨i + 1, rfl, by omega, (fun j hj => by (rcases Nat.lt_succ_iff_lt_or_eq.1 hj with hj | rfl; exact hob j hj; first | exact bad_other hx1 (by omega) | (rw [bad_begin hx1 (by omega) (by omega)]; assumption) | (rw [bad_end hx1 (by omega) (by omega) (by omega) hob, hsome]; simp only [hsome, Option.getD_some] at *; simp [*]))), by (rw [lifeM_skip hx1 (by omega)]; exact S.pk (by repeat (first | exact Pk.nil _ | exact Pk.refl _ | refine Pk.cons 0 rfl ?_ | refine Pk.cons 1 rfl ?_ | refine Pk.cons 2 rfl ?_ | refine Pk.cons 3 rfl ?_ | refine Pk.cons 4 rfl ?_ | refine Pk.cons 5 rfl ?_ | refine Pk.cons 6 rfl ?_ | refine Pk.cons 7 rfl ?_ | refine Pk.cons 8 rfl ?_ | refine Pk.cons 9 rfl ?_ | refine Pk.cons 10 rfl ?_ | refine Pk.cons 11 rfl ?_ | refine Pk.cons 12 rfl ?_ | refine Pk.cons 13 rfl ?_ | refine Pk.drop ?_)))⟩) | ((have hnone : lifeM l i x.arg = none := Option.not_isSome_iff_eq_none.1 (by (rw [show (lifeM l i x.arg).isSome = false by assumption]; decide))); exact ⟨i + 1, rfl, by omega, (fun j hj => by (rcases Nat.lt_succ_iff_lt_or_eq.1 hj with hj | rfl; exact hob j hj; first | exact bad_other hx1 (by omega) | (rw [bad_begin hx1 (by omega) (by omega)]; assumption) | (rw [bad_end hx1 (by omega) (by omega) (by omega) hob, hsome]; simp only [hsome, Option.getD_some] at *; simp [*]))), by (rw [lifeM_begin hx1 (by omega) (by omega) hnone (no_end (by omega) hob hnone)]; exact S.pk (by repeat (first | exact Pk.nil _ | exact Pk.refl _ | refine Pk.cons 0 rfl ?_ | refine Pk.cons 1 rfl ?_ | refine Pk.cons 2 rfl ?_ | refine Pk.cons 3 rfl ?_ | refine Pk.cons 4 rfl ?_ | refine Pk.cons 5 rfl ?_ | refine Pk.cons 6 rfl ?_ | refine Pk.cons 7 rfl ?_ | refine Pk.cons 8 rfl ?_ | refine Pk.cons 9 rfl ?_ | refine Pk.cons 10 rfl ?_ | refine Pk.cons 11 rfl ?_ | refine Pk.cons 12 rfl ?_ | refine Pk.cons 13 rfl ?_ | refine Pk.drop ?_)))⟩) | (obtain ⟨y, hsome⟩ := Option.isSome_iff_exists.1 (show (lifeM l i x.arg).isSome = true by assumption); rw [hsome] at S; refine ⟨i + 1, rfl, by omega, (fun j hj => by (rcases Nat.lt_succ_iff_lt_or_eq.1 hj with hj | rfl; exact hob j hj; first | exact bad_other hx1 (by omega) | (rw [bad_begin hx1 (by omega) (by omega)]; assumption) | (rw [bad_end hx1 (by omega) (by omega) (by omega) hob, hsome]; simp only [hsome, Option.getD_some] at *; simp [*]))), by (rw [lifeM_end hx1 (by omega) (by omega) hsome]; exact S.pk (by repeat (first | exact Pk.nil _ | exact Pk.refl _ | refine Pk.cons 0 rfl ?_ | refine Pk.cons 1 rfl ?_ | refine Pk.cons 2 rfl ?_ | refine Pk.cons 3 rfl ?_ | refine Pk.cons 4 rfl ?_ | refine Pk.cons 5 rfl ?_ | refine Pk.cons 6 rfl ?_ | refine Pk.cons 7 rfl ?_ | refine Pk.cons 8 rfl ?_ | refine Pk.cons 9 rfl ?_ | refine Pk.cons 10 rfl ?_ | refine Pk.cons 11 rfl ?_ | refine Pk.cons 12 rfl ?_ | refine Pk.cons 13 rfl ?_ | refine Pk.drop ?_)))⟩)
            ·
             (show l.length - (i + 1) < l.length - i; omega)
       ·
        have rh8 := h8
        (try simp only [Q1, Q2, Q3, Q4, Q5, Q6, Q7, Q8, Q9, Qa] at h8)
        refine W.skip ?_
        refine InB.nx ?_
        refine InB.nx ?_
        refine Then.nx ?_
        refine W.region rfl ?_
        first | refine WO.q (Y.addI rfl rfl (by omega)) ?_ | refine WO.q (Y.add rfl rfl) ?_
        refine WO.q (Y.move (v := .int .i64 _) rfl) ?_
        refine WO.nil ?_
        refine Then.nx ⟨?_, ?_, ?_⟩
        ·
         (repeat (first | exact Out.hav _ _ _ | exact Out.refl _ _ | refine Out.up rfl ?_ | refine Out.sub rfl ?_))
        ·
         first | (exact ⟨i + 1, rfl, by omega, (fun j hj => by (rcases Nat.lt_succ_iff_lt_or_eq.1 hj with hj | rfl; exact hob j hj; first | exact bad_other hx1 (by omega) | (rw [bad_begin hx1 (by omega) (by omega)]; assumption) | (rw [bad_end hx1 (by omega) (by omega) (by omega) hob, hsome]; simp only [hsome, Option.getD_some] at *; simp [*]))), by (rw [lifeM_skip hx1 (by omega)]; exact S.pk (by repeat (first | exact Pk.nil _ | exact Pk.refl _ | refine Pk.cons 0 rfl ?_ | refine Pk.cons 1 rfl ?_ | refine Pk.cons 2 rfl ?_ | refine Pk.cons 3 rfl ?_ | refine Pk.cons 4 rfl ?_ | refine Pk.cons 5 rfl ?_ | refine Pk.cons 6 rfl ?_ | refine Pk.cons 7 rfl ?_ | refine Pk.cons 8 rfl ?_ | refine Pk.cons 9 rfl ?_ | refine Pk.cons 10 rfl ?_ | refine Pk.cons 11 rfl ?_ | refine Pk.cons 12 rfl ?_ | refine Pk.cons 13 rfl ?_ | refine Pk.drop ?_)))⟩) | ((have hnone : lifeM l i x.arg = none := Option.not_isSome_iff_eq_none.1 (by (rw [show (lifeM l i x.arg).isSome = false by assumption]; decide))); exact ⟨i + 1, rfl, by omega, (fun j hj => by (rcases Nat.lt_succ_iff_lt_or_eq.1 hj with hj | rfl; exact hob j hj; first | exact bad_other hx1 (by omega) | (rw [bad_begin hx1 (by omega) (by omega)]; assumption) | (rw [bad_end hx1 (by omega) (by omega) (by omega) hob, hsome]; simp only [hsome, Option.getD_some] at *; simp [*]))), by (rw [lifeM_begin hx1 (by omega) (by omega) hnone (no_end (by omega) hob hnone)]; exact S.pk (by repeat (first | exact Pk.nil _ | exact Pk.refl _ | refine Pk.cons 0 rfl ?_ | refine Pk.cons 1 rfl ?_ | refine Pk.cons 2 rfl ?_ | refine Pk.cons 3 rfl ?_ | refine Pk.cons 4 rfl ?_ | refine Pk.cons 5 rfl ?_ | refine Pk.cons 6 rfl ?_ | refine Pk.cons 7 rfl ?_ | refine Pk.cons 8 rfl ?_ | refine Pk.cons 9 rfl ?_ | refine Pk.cons 10 rfl ?_ | refine Pk.cons 11 rfl ?_ | refine Pk.cons 12 rfl ?_ | refine Pk.cons 13 rfl ?_ | refine Pk.drop ?_)))⟩) | (obtain ⟨y, hsome⟩ := Option.isSome_iff_exists.1 (show (lifeM l i x.arg).isSome = true by assumption); rw [hsome] at S; refine ⟨i + 1, rfl, by omega, (fun j hj => by (rcases Nat.lt_succ_iff_lt_or_eq.1 hj with hj | rfl; exact hob j hj; first | exact bad_other hx1 (by omega) | (rw [bad_begin hx1 (by omega) (by omega)]; assumption) | (rw [bad_end hx1 (by omega) (by omega) (by omega) hob, hsome]; simp only [hsome, Option.getD_some] at *; simp [*]))), by (rw [lifeM_end hx1 (by omega) (by omega) hsome]; exact S.pk (by repeat (first | exact Pk.nil _ | exact Pk.refl _ | refine Pk.cons 0 rfl ?_ | refine Pk.cons 1 rfl ?_ | refine Pk.cons 2 rfl ?_ | refine Pk.cons 3 rfl ?_ | refine Pk.cons 4 rfl ?_ | refine Pk.cons 5 rfl ?_ | refine Pk.cons 6 rfl ?_ | refine Pk.cons 7 rfl ?_ | refine Pk.cons 8 rfl ?_ | refine Pk.cons 9 rfl ?_ | refine Pk.cons 10 rfl ?_ | refine Pk.cons 11 rfl ?_ | refine Pk.cons 12 rfl ?_ | refine Pk.cons 13 rfl ?_ | refine Pk.drop ?_)))⟩)
        ·
         (show l.length - (i + 1) < l.length - i; omega)
   ·
    have rh2 := h2
    (try simp only [Q1, Q2, Q3, Q4, Q5, Q6, Q7, Q8, Q9, Qa] at h2)
    refine W.exit ?_
    refine Then.x ?_
    refine Then.x ?_
    refine InB.e ?_
    refine Then.nx ?_
    refine W.seq ?_
    refine W.region rfl ?_
    refine WO.q (Y.assign (v := .int .i64 _) rfl) ?_
    refine WO.q (Y.assign (v := .int .i64 _) rfl) ?_
    refine WO.nil ?_
    refine Then.nx ?_
    refine W.ret ?_
    refine BodyQ.ret2 Tryd.results36 (ResV.tmp _ rfl) (ResV.tmp _ rfl) ?_
    first | (obtain ⟨e1, e2⟩ := once_no (l := l) (by assumption); rw [e1, e2]; exact ⟨rfl, S.ext⟩) | (obtain ⟨e1, e2⟩ := once_bad (l := l) (i := i) (by assumption) (by first | (rw [bad_begin hx1 (by omega) (by omega)]; assumption) | (rw [bad_end hx1 (by omega) (by omega) (by omega) hob]; cases hsome : lifeM l i x.arg with | none => rfl | some y => (simp only [hsome, Option.getD_some, Option.isSome_some] at *; first | contradiction | simp [*]))) hob; rw [e1, e2]; exact ⟨rfl, S.ext⟩) | (obtain ⟨e1, e2⟩ := once_ok (l := l) (n := i) (by assumption) (by omega) hob; rw [e1, e2]; exact ⟨rfl, S.ext⟩)
end Go.Proofs
