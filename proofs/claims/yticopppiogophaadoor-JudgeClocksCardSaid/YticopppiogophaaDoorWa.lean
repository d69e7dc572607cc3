/-
  Walks of may, EqInts, EqCalls, EqAccesses, EqRaces, same, CopyCalls, CopyAccesses.
-/
import Derived.Test.YticopppiogophaaDoorTp
import Derived.Test.YticopppiogophaaDoorTo
import Derived.Test.YticopppiogophaaDoorSx
import Derived.Test.YticopppiogophaaDoorFa
import Derived.Test.YticopppiogophaaDoorFb
import Derived.Test.YticopppiogophaaDoorFc
set_option linter.unusedVariables false
set_option linter.unusedSimpArgs false
set_option maxRecDepth 100000
set_option maxHeartbeats 1000000
namespace Go.Proofs
open Go Go.TL Go.RowKit
theorem may_spec (w0 : World) (a : Option Addr) (c : Nat) (xs : List Access) (R1 : Rd tAccess w0 a xs) (hx : xs.length ≤ 9223372036854775807) :
    Calls Tryd.prog 63 [.slice a xs.length c].toArray w0 (fun e w => e = .returned (.tuple #[.int .i64 (mayN xs), .bool (mayOk xs)]) ∧ Ext w0 w) := by
 have S := Sat.refl w0
 refine calls_of_W (args := [.slice a xs.length c]) 67 Tryd.func63 rfl Tryd.ntmps63 rfl ?_
 refine W.seq ?_
 refine W.region rfl ?_
 refine WO.q (Y.assign (v := .int .i64 _) rfl) ?_
 refine WO.q (Y.assign (v := .bool _) rfl) ?_
 refine WO.nil ?_
 refine Then.nx ?_
 refine W.seq ?_
 refine W.seq ?_
 refine W.region rfl ?_
 refine WO.q (Y.move (v := .slice _ _ _) rfl) ?_
 refine WO.q (Y.len (t' := 0) Tryd.underlying64 rfl) ?_
 refine WO.q (Y.move (v := .int .i64 _) rfl) ?_
 refine WO.nil ?_
 refine Then.nx ?_
 refine W.block ?_
 -- loop 0 carries 2:threads, 8
 refine W.loop2 [2, 3, 5, 8, 9, 10, 11, 12, 13, 14, 15, 16, 17, 18, 19, 20, 21, 22, 23, 24, 25, 26, 27, 28, 29, 30, 31, 32, 33, 34, 35, 36, 37, 38, 39, 40, 41, 42, 43, 44, 45, 46, 47, 48, 49, 50, 51, 52, 53, 54, 55, 56, 57, 58, 59, 60, 61, 62, 63, 64, 65] 2 8 (fun v2 v8 w => ∃ (k : Nat) (n : Int), v8 = .int .i64 (k : Int) ∧ k ≤ xs.length ∧ v2 = .int .i64 n ∧ (∀ x ∈ xs.take k, okA x = true) ∧ (xs.take k).foldl thr 0 = n ∧ (0 ≤ n ∧ n ≤ 64) ∧ Sat w0 w []) (fun v2 v8 w => xs.length - (intOf v8).toNat) ?_ ?_
 ·
  exact ⟨0, 0, rfl, by simp, rfl, by simp, by simp, by omega, S⟩
 ·
  rintro g0 v2 v8 w ⟨k, n, rfl, hk, rfl, hall, hn, hnb, S⟩
  refine W.seq ?_
  refine W.region rfl ?_
  refine WO.q (Y.lss rfl rfl) ?_
  refine WO.nil ?_
  refine Then.nx ?_
  refine W.seq ?_
  refine W.cond rfl (fun h1 => ?_) (fun h1 => ?_) -- cond 0
  ·
   have rh1 := h1
   (try simp only [Q1, Q2, Q3, Q4, Q5, Q6, Q7, Q8, Q9, Qa] at h1)
   have ha := R1.1 (by omega)
   obtain ⟨x, hx1⟩ := at_ex (xs := xs) (k := k) (by omega)
   refine W.skip ?_
   refine Then.nx ?_
   refine W.seq ?_
   refine W.block ?_
   refine W.seq ?_
   refine W.region rfl ?_
   first | refine WO.q (Y.ixN sl_64 rfl rfl (by (first | assumption | rfl)) (by (first | assumption | omega))) ?_ | refine WO.q (Y.ix sl_64 rfl rfl (by (first | assumption | rfl)) (by (first | assumption | omega)) (by (first | assumption | omega))) ?_
   refine WO.q (Y.load rfl (loadRdN sz_71 (R1.ext S.ext) (by assumption))) ?_
   refine WO.e (O.alloc z_71 S (fun b5 w S => ?_))
   first | refine WO.e0 (O.store (v := .agg _) 0 S rfl rfl rfl sz_71 rfl rfl rfl rfl (fun w S => ?_)) | refine WO.e0 (O.store (v := .agg _) 1 S rfl rfl rfl sz_71 rfl rfl rfl rfl (fun w S => ?_))
   refine WO.nil ?_
   refine Then.nx ?_
   refine W.seq ?_
   refine W.seq ?_
   refine W.region rfl ?_
   refine WO.q (Y.fieldB fo_71_0 rfl) ?_
   first | refine WO.q (Y.load rfl (loadS1 sz_3 S 0 rfl rfl)) ?_ | refine WO.q (Y.load rfl (loadS1 sz_3 S 1 rfl rfl)) ?_
   refine WO.q (Y.lss rfl rfl) ?_
   refine WO.q (Y.move (v := .bool _) rfl) ?_
   refine WO.splitB (fun h2 => ?_) (fun h2 => ?_)
   ·
    (try simp only [Q1, Q2, Q3, Q4, Q5, Q6, Q7, Q8, Q9, Qa] at h2)
    refine WO.qF rfl ?_
    refine WO.qF rfl ?_
    refine WO.qF rfl ?_
    refine WO.q (Y.pickT (u := .bool _) rfl rfl) ?_
    refine WO.q (Y.move (v := .bool _) rfl) ?_
    refine WO.qF rfl ?_
    refine WO.qF rfl ?_
    refine WO.qF rfl ?_
    refine WO.q (Y.pickT (u := .bool _) rfl rfl) ?_
    refine WO.q (Y.move (v := .bool _) rfl) ?_
    refine WO.qF rfl ?_
    refine WO.qF rfl ?_
    refine WO.qF rfl ?_
    refine WO.q (Y.pickT (u := .bool _) rfl rfl) ?_
    refine WO.nil ?_
    refine Then.nx ?_
    first | refine W.condT rfl ?_ | refine W.condT (congrArg Value.bool (by assumption)) ?_
    refine W.seq ?_
    refine W.region rfl ?_
    refine WO.q (Y.assign (v := .int .i64 _) rfl) ?_
    refine WO.q (Y.assign (v := .bool _) rfl) ?_
    refine WO.nil ?_
    refine Then.nx ?_
    refine W.ret ?_
    refine Then.r ?_
    refine InB.r ?_
    refine Then.r ?_
    refine Then.r ?_
    refine InB.r ?_
    refine Then.r ?_
    refine BodyQ.ret2 Tryd.results63 (ResV.tmp _ rfl) (ResV.tmp _ rfl) ?_
    first | (exact ⟨may_bad hx1 (by rw [okA_iff]; omega), S.ext⟩) | ((have e : xs.take k = xs := List.take_of_length_le (by omega)); rw [e] at hall hn; (have hm : mayOk xs = true := List.all_eq_true.2 hall); refine ⟨?_, S.ext⟩; (show Ending.returned (.tuple #[.int .i64 _, .bool _]) = _); rw [mayN, hm, if_pos rfl, hn])
   ·
    (try simp only [Q1, Q2, Q3, Q4, Q5, Q6, Q7, Q8, Q9, Qa] at h2)
    refine WO.qT rfl (Y.fieldB fo_71_0 rfl) ?_
    first | refine WO.qT rfl (Y.load rfl (loadS1 sz_3 S 0 rfl rfl)) ?_ | refine WO.qT rfl (Y.load rfl (loadS1 sz_3 S 1 rfl rfl)) ?_
    refine WO.qT rfl (Y.geq rfl rfl) ?_
    refine WO.q (Y.pickF (u := .bool _) rfl rfl) ?_
    refine WO.q (Y.move (v := .bool _) rfl) ?_
    refine WO.splitB (fun h3 => ?_) (fun h3 => ?_)
    ·
     (try simp only [Q1, Q2, Q3, Q4, Q5, Q6, Q7, Q8, Q9, Qa] at h3)
     refine WO.qF rfl ?_
     refine WO.qF rfl ?_
     refine WO.qF rfl ?_
     refine WO.q (Y.pickT (u := .bool _) rfl rfl) ?_
     refine WO.q (Y.move (v := .bool _) rfl) ?_
     refine WO.qF rfl ?_
     refine WO.qF rfl ?_
     refine WO.qF rfl ?_
     refine WO.q (Y.pickT (u := .bool _) rfl rfl) ?_
     refine WO.nil ?_
     refine Then.nx ?_
     first | refine W.condT rfl ?_ | refine W.condT (congrArg Value.bool (by assumption)) ?_
     refine W.seq ?_
     refine W.region rfl ?_
     refine WO.q (Y.assign (v := .int .i64 _) rfl) ?_
     refine WO.q (Y.assign (v := .bool _) rfl) ?_
     refine WO.nil ?_
     refine Then.nx ?_
     refine W.ret ?_
     refine Then.r ?_
     refine InB.r ?_
     refine Then.r ?_
     refine Then.r ?_
     refine InB.r ?_
     refine Then.r ?_
     refine BodyQ.ret2 Tryd.results63 (ResV.tmp _ rfl) (ResV.tmp _ rfl) ?_
     first | (exact ⟨may_bad hx1 (by rw [okA_iff]; omega), S.ext⟩) | ((have e : xs.take k = xs := List.take_of_length_le (by omega)); rw [e] at hall hn; (have hm : mayOk xs = true := List.all_eq_true.2 hall); refine ⟨?_, S.ext⟩; (show Ending.returned (.tuple #[.int .i64 _, .bool _]) = _); rw [mayN, hm, if_pos rfl, hn])
    ·
     (try simp only [Q1, Q2, Q3, Q4, Q5, Q6, Q7, Q8, Q9, Qa] at h3)
     refine WO.qT rfl (Y.fieldB fo_71_1 rfl) ?_
     first | refine WO.qT rfl (Y.load rfl (loadS1 sz_56 S 0 rfl rfl)) ?_ | refine WO.qT rfl (Y.load rfl (loadS1 sz_56 S 1 rfl rfl)) ?_
     refine WO.qT rfl (Y.lss rfl rfl) ?_
     refine WO.q (Y.pickF (u := .bool _) rfl rfl) ?_
     refine WO.q (Y.move (v := .bool _) rfl) ?_
     refine WO.splitB (fun h4 => ?_) (fun h4 => ?_)
     ·
      (try simp only [Q1, Q2, Q3, Q4, Q5, Q6, Q7, Q8, Q9, Qa] at h4)
      refine WO.qF rfl ?_
      refine WO.qF rfl ?_
      refine WO.qF rfl ?_
      refine WO.q (Y.pickT (u := .bool _) rfl rfl) ?_
      refine WO.nil ?_
      refine Then.nx ?_
      first | refine W.condT rfl ?_ | refine W.condT (congrArg Value.bool (by assumption)) ?_
      refine W.seq ?_
      refine W.region rfl ?_
      refine WO.q (Y.assign (v := .int .i64 _) rfl) ?_
      refine WO.q (Y.assign (v := .bool _) rfl) ?_
      refine WO.nil ?_
      refine Then.nx ?_
      refine W.ret ?_
      refine Then.r ?_
      refine InB.r ?_
      refine Then.r ?_
      refine Then.r ?_
      refine InB.r ?_
      refine Then.r ?_
      refine BodyQ.ret2 Tryd.results63 (ResV.tmp _ rfl) (ResV.tmp _ rfl) ?_
      first | (exact ⟨may_bad hx1 (by rw [okA_iff]; omega), S.ext⟩) | ((have e : xs.take k = xs := List.take_of_length_le (by omega)); rw [e] at hall hn; (have hm : mayOk xs = true := List.all_eq_true.2 hall); refine ⟨?_, S.ext⟩; (show Ending.returned (.tuple #[.int .i64 _, .bool _]) = _); rw [mayN, hm, if_pos rfl, hn])
     ·
      (try simp only [Q1, Q2, Q3, Q4, Q5, Q6, Q7, Q8, Q9, Qa] at h4)
      refine WO.qT rfl (Y.fieldB fo_71_1 rfl) ?_
      first | refine WO.qT rfl (Y.load rfl (loadS1 sz_56 S 0 rfl rfl)) ?_ | refine WO.qT rfl (Y.load rfl (loadS1 sz_56 S 1 rfl rfl)) ?_
      refine WO.qT rfl (Y.gtr rfl rfl) ?_
      refine WO.q (Y.pickF (u := .bool _) rfl rfl) ?_
      refine WO.nil ?_
      refine Then.nx ?_
      refine W.cond rfl (fun h5 => ?_) (fun h5 => ?_) -- cond 1
      ·
       have rh5 := h5
       (try simp only [Q1, Q2, Q3, Q4, Q5, Q6, Q7, Q8, Q9, Qa] at h5)
       refine W.seq ?_
       refine W.region rfl ?_
       refine WO.q (Y.assign (v := .int .i64 _) rfl) ?_
       refine WO.q (Y.assign (v := .bool _) rfl) ?_
       refine WO.nil ?_
       refine Then.nx ?_
       refine W.ret ?_
       refine Then.r ?_
       refine InB.r ?_
       refine Then.r ?_
       refine Then.r ?_
       refine InB.r ?_
       refine Then.r ?_
       refine BodyQ.ret2 Tryd.results63 (ResV.tmp _ rfl) (ResV.tmp _ rfl) ?_
       first | (exact ⟨may_bad hx1 (by rw [okA_iff]; omega), S.ext⟩) | ((have e : xs.take k = xs := List.take_of_length_le (by omega)); rw [e] at hall hn; (have hm : mayOk xs = true := List.all_eq_true.2 hall); refine ⟨?_, S.ext⟩; (show Ending.returned (.tuple #[.int .i64 _, .bool _]) = _); rw [mayN, hm, if_pos rfl, hn])
      ·
       have rh5 := h5
       (try simp only [Q1, Q2, Q3, Q4, Q5, Q6, Q7, Q8, Q9, Qa] at h5)
       refine W.skip ?_
       refine Then.nx ?_
       refine W.seq ?_
       refine W.region rfl ?_
       refine WO.q (Y.move (v := .int .i64 _) rfl) ?_
       refine WO.q (Y.fieldB fo_71_0 rfl) ?_
       first | refine WO.q (Y.load rfl (loadS1 sz_3 S 0 rfl rfl)) ?_ | refine WO.q (Y.load rfl (loadS1 sz_3 S 1 rfl rfl)) ?_
       first | refine WO.q (Y.addI rfl rfl (by omega)) ?_ | refine WO.q (Y.add rfl rfl) ?_
       refine WO.q (Y.max2 rfl rfl) ?_
       refine WO.q (Y.assign (v := .int .i64 _) rfl) ?_
       refine WO.nil ?_
       refine Then.nx ?_
       refine W.seq ?_
       refine W.region rfl ?_
       refine WO.q (Y.fieldB fo_71_1 rfl) ?_
       first | refine WO.q (Y.load rfl (loadS1 sz_56 S 0 rfl rfl)) ?_ | refine WO.q (Y.load rfl (loadS1 sz_56 S 1 rfl rfl)) ?_
       refine WO.nil ?_
       refine Then.nx ?_
       refine W.block ?_
       refine W.seq ?_
       refine W.block ?_
       refine W.seq ?_
       refine W.block ?_
       refine W.seq ?_
       refine W.block ?_
       refine W.seq ?_
       refine W.seq ?_
       refine W.seq ?_
       refine W.region rfl ?_
       refine WO.q (Y.eql rfl rfl) ?_
       refine WO.q (Y.assign (v := .bool _) rfl) ?_
       refine WO.nil ?_
       refine Then.nx ?_
       refine W.cond rfl (fun h6 => ?_) (fun h6 => ?_) -- cond 2
       ·
        have rh6 := h6
        (try simp only [Q1, Q2, Q3, Q4, Q5, Q6, Q7, Q8, Q9, Qa] at h6)
        refine W.exit ?_
        refine Then.x ?_
        refine Then.x ?_
        refine InB.e ?_
        refine Then.nx ?_
        refine W.seq ?_
        refine W.seq ?_
        refine W.region rfl ?_
        refine WO.q (Y.fieldB fo_71_6 rfl) ?_
        first | refine WO.q (Y.load rfl (loadS1 sz_2 S 0 rfl rfl)) ?_ | refine WO.q (Y.load rfl (loadS1 sz_2 S 1 rfl rfl)) ?_
        refine WO.q (Y.lss rfl rfl) ?_
        refine WO.q (Y.move (v := .bool _) rfl) ?_
        refine WO.splitB (fun h7 => ?_) (fun h7 => ?_)
        ·
         (try simp only [Q1, Q2, Q3, Q4, Q5, Q6, Q7, Q8, Q9, Qa] at h7)
         refine WO.qF rfl ?_
         refine WO.qF rfl ?_
         refine WO.qF rfl ?_
         refine WO.q (Y.pickT (u := .bool _) rfl rfl) ?_
         refine WO.nil ?_
         refine Then.nx ?_
         first | refine W.condT rfl ?_ | refine W.condT (congrArg Value.bool (by assumption)) ?_
         refine W.seq ?_
         refine W.region rfl ?_
         refine WO.q (Y.assign (v := .int .i64 _) rfl) ?_
         refine WO.q (Y.assign (v := .bool _) rfl) ?_
         refine WO.nil ?_
         refine Then.nx ?_
         refine W.ret ?_
         refine Then.r ?_
         refine InB.r ?_
         refine Then.r ?_
         refine InB.r ?_
         refine Then.r ?_
         refine InB.r ?_
         refine InB.r ?_
         refine Then.r ?_
         refine Then.r ?_
         refine InB.r ?_
         refine Then.r ?_
         refine BodyQ.ret2 Tryd.results63 (ResV.tmp _ rfl) (ResV.tmp _ rfl) ?_
         first | (exact ⟨may_bad hx1 (by rw [okA_iff]; omega), S.ext⟩) | ((have e : xs.take k = xs := List.take_of_length_le (by omega)); rw [e] at hall hn; (have hm : mayOk xs = true := List.all_eq_true.2 hall); refine ⟨?_, S.ext⟩; (show Ending.returned (.tuple #[.int .i64 _, .bool _]) = _); rw [mayN, hm, if_pos rfl, hn])
        ·
         (try simp only [Q1, Q2, Q3, Q4, Q5, Q6, Q7, Q8, Q9, Qa] at h7)
         refine WO.qT rfl (Y.fieldB fo_71_6 rfl) ?_
         first | refine WO.qT rfl (Y.load rfl (loadS1 sz_2 S 0 rfl rfl)) ?_ | refine WO.qT rfl (Y.load rfl (loadS1 sz_2 S 1 rfl rfl)) ?_
         refine WO.qT rfl (Y.geq rfl rfl) ?_
         refine WO.q (Y.pickF (u := .bool _) rfl rfl) ?_
         refine WO.nil ?_
         refine Then.nx ?_
         refine W.cond rfl (fun h8 => ?_) (fun h8 => ?_) -- cond 3
         ·
          have rh8 := h8
          (try simp only [Q1, Q2, Q3, Q4, Q5, Q6, Q7, Q8, Q9, Qa] at h8)
          refine W.seq ?_
          refine W.region rfl ?_
          refine WO.q (Y.assign (v := .int .i64 _) rfl) ?_
          refine WO.q (Y.assign (v := .bool _) rfl) ?_
          refine WO.nil ?_
          refine Then.nx ?_
          refine W.ret ?_
          refine Then.r ?_
          refine InB.r ?_
          refine Then.r ?_
          refine InB.r ?_
          refine Then.r ?_
          refine InB.r ?_
          refine InB.r ?_
          refine Then.r ?_
          refine Then.r ?_
          refine InB.r ?_
          refine Then.r ?_
          refine BodyQ.ret2 Tryd.results63 (ResV.tmp _ rfl) (ResV.tmp _ rfl) ?_
          first | (exact ⟨may_bad hx1 (by rw [okA_iff]; omega), S.ext⟩) | ((have e : xs.take k = xs := List.take_of_length_le (by omega)); rw [e] at hall hn; (have hm : mayOk xs = true := List.all_eq_true.2 hall); refine ⟨?_, S.ext⟩; (show Ending.returned (.tuple #[.int .i64 _, .bool _]) = _); rw [mayN, hm, if_pos rfl, hn])
         ·
          have rh8 := h8
          (try simp only [Q1, Q2, Q3, Q4, Q5, Q6, Q7, Q8, Q9, Qa] at h8)
          refine W.skip ?_
          refine Then.nx ?_
          refine W.region rfl ?_
          refine WO.q (Y.move (v := .int .i64 _) rfl) ?_
          refine WO.q (Y.fieldB fo_71_6 rfl) ?_
          first | refine WO.q (Y.load rfl (loadS1 sz_2 S 0 rfl rfl)) ?_ | refine WO.q (Y.load rfl (loadS1 sz_2 S 1 rfl rfl)) ?_
          first | refine WO.q (Y.addI rfl rfl (by omega)) ?_ | refine WO.q (Y.add rfl rfl) ?_
          refine WO.q (Y.max2 rfl rfl) ?_
          refine WO.q (Y.assign (v := .int .i64 _) rfl) ?_
          refine WO.nil ?_
          refine InB.nx ?_
          refine Then.nx ?_
          refine W.seq ?_
          refine W.seq ?_
          refine W.region rfl ?_
          refine WO.q (Y.fieldB fo_71_2 rfl) ?_
          first | refine WO.q (Y.load rfl (loadS1 sz_3 S 0 rfl rfl)) ?_ | refine WO.q (Y.load rfl (loadS1 sz_3 S 1 rfl rfl)) ?_
          refine WO.q (Y.neq rfl rfl) ?_
          refine WO.nil ?_
          refine Then.nx ?_
          refine W.cond rfl (fun h9 => ?_) (fun h9 => ?_) -- cond 4
          ·
           have rh9 := h9
           (try simp only [Q1, Q2, Q3, Q4, Q5, Q6, Q7, Q8, Q9, Qa] at h9)
           refine W.seq ?_
           refine W.region rfl ?_
           refine WO.q (Y.assign (v := .int .i64 _) rfl) ?_
           refine WO.q (Y.assign (v := .bool _) rfl) ?_
           refine WO.nil ?_
           refine Then.nx ?_
           refine W.ret ?_
           refine Then.r ?_
           refine InB.r ?_
           refine Then.r ?_
           refine InB.r ?_
           refine InB.r ?_
           refine Then.r ?_
           refine Then.r ?_
           refine InB.r ?_
           refine Then.r ?_
           refine BodyQ.ret2 Tryd.results63 (ResV.tmp _ rfl) (ResV.tmp _ rfl) ?_
           first | (exact ⟨may_bad hx1 (by rw [okA_iff]; omega), S.ext⟩) | ((have e : xs.take k = xs := List.take_of_length_le (by omega)); rw [e] at hall hn; (have hm : mayOk xs = true := List.all_eq_true.2 hall); refine ⟨?_, S.ext⟩; (show Ending.returned (.tuple #[.int .i64 _, .bool _]) = _); rw [mayN, hm, if_pos rfl, hn])
          ·
           have rh9 := h9
           (try simp only [Q1, Q2, Q3, Q4, Q5, Q6, Q7, Q8, Q9, Qa] at h9)
           refine W.skip ?_
           refine Then.nx ?_
           refine W.exit ?_
           refine InB.x rfl ?_
           refine Then.x ?_
           refine InB.e ?_
           refine InB.nx ?_
           refine Then.nx ?_
           refine W.region rfl ?_
           first | refine WO.q (Y.addI rfl rfl (by omega)) ?_ | refine WO.q (Y.add rfl rfl) ?_
           refine WO.q (Y.move (v := .int .i64 _) rfl) ?_
           refine WO.nil ?_
           refine Then.nx ⟨?_, ?_, ?_⟩
           ·
            (repeat (first | exact Out.hav _ _ _ | exact Out.refl _ _ | refine Out.up rfl ?_ | refine Out.sub rfl ?_))
           ·
            (have hok : okA x = true := by (rw [okA_iff]; omega)); (have ht := take_succ_at hx1); exact ⟨k + 1, thr n x, rfl, by omega, by (show Value.int .i64 _ = Value.int .i64 _; unfold thr; first | rw [if_pos (by omega)] | rw [if_neg (by omega)]), by (intro y hy; rw [ht] at hy; rcases List.mem_append.1 hy with hy | hy; exact hall y hy; simp at hy; subst hy; exact hok), by (rw [ht, List.foldl_append, hn]; rfl), by (unfold thr; split <;> omega), S.nil⟩
           ·
            (show xs.length - (k + 1) < xs.length - k; omega)
       ·
        have rh6 := h6
        (try simp only [Q1, Q2, Q3, Q4, Q5, Q6, Q7, Q8, Q9, Qa] at h6)
        refine W.skip ?_
        refine Then.nx ?_
        refine W.seq ?_
        refine W.region rfl ?_
        refine WO.q (Y.eql rfl rfl) ?_
        refine WO.q (Y.assign (v := .bool _) rfl) ?_
        refine WO.nil ?_
        refine Then.nx ?_
        refine W.cond rfl (fun h10 => ?_) (fun h10 => ?_) -- cond 5
        ·
         have rh10 := h10
         (try simp only [Q1, Q2, Q3, Q4, Q5, Q6, Q7, Q8, Q9, Qa] at h10)
         refine W.exit ?_
         refine Then.x ?_
         refine InB.x rfl ?_
         refine Then.x ?_
         refine InB.e ?_
         refine Then.nx ?_
         refine W.seq ?_
         refine W.seq ?_
         refine W.region rfl ?_
         refine WO.q (Y.fieldB fo_71_2 rfl) ?_
         first | refine WO.q (Y.load rfl (loadS1 sz_3 S 0 rfl rfl)) ?_ | refine WO.q (Y.load rfl (loadS1 sz_3 S 1 rfl rfl)) ?_
         refine WO.q (Y.neq rfl rfl) ?_
         refine WO.nil ?_
         refine Then.nx ?_
         refine W.cond rfl (fun h11 => ?_) (fun h11 => ?_) -- cond 6
         ·
          have rh11 := h11
          (try simp only [Q1, Q2, Q3, Q4, Q5, Q6, Q7, Q8, Q9, Qa] at h11)
          refine W.seq ?_
          refine W.region rfl ?_
          refine WO.q (Y.assign (v := .int .i64 _) rfl) ?_
          refine WO.q (Y.assign (v := .bool _) rfl) ?_
          refine WO.nil ?_
          refine Then.nx ?_
          refine W.ret ?_
          refine Then.r ?_
          refine InB.r ?_
          refine Then.r ?_
          refine InB.r ?_
          refine InB.r ?_
          refine Then.r ?_
          refine Then.r ?_
          refine InB.r ?_
          refine Then.r ?_
          refine BodyQ.ret2 Tryd.results63 (ResV.tmp _ rfl) (ResV.tmp _ rfl) ?_
          first | (exact ⟨may_bad hx1 (by rw [okA_iff]; omega), S.ext⟩) | ((have e : xs.take k = xs := List.take_of_length_le (by omega)); rw [e] at hall hn; (have hm : mayOk xs = true := List.all_eq_true.2 hall); refine ⟨?_, S.ext⟩; (show Ending.returned (.tuple #[.int .i64 _, .bool _]) = _); rw [mayN, hm, if_pos rfl, hn])
         ·
          have rh11 := h11
          (try simp only [Q1, Q2, Q3, Q4, Q5, Q6, Q7, Q8, Q9, Qa] at h11)
          refine W.skip ?_
          refine Then.nx ?_
          refine W.exit ?_
          refine InB.x rfl ?_
          refine Then.x ?_
          refine InB.e ?_
          refine InB.nx ?_
          refine Then.nx ?_
          refine W.region rfl ?_
          first | refine WO.q (Y.addI rfl rfl (by omega)) ?_ | refine WO.q (Y.add rfl rfl) ?_
          refine WO.q (Y.move (v := .int .i64 _) rfl) ?_
          refine WO.nil ?_
          refine Then.nx ⟨?_, ?_, ?_⟩
          ·
           (repeat (first | exact Out.hav _ _ _ | exact Out.refl _ _ | refine Out.up rfl ?_ | refine Out.sub rfl ?_))
          ·
           (have hok : okA x = true := by (rw [okA_iff]; omega)); (have ht := take_succ_at hx1); exact ⟨k + 1, thr n x, rfl, by omega, by (show Value.int .i64 _ = Value.int .i64 _; unfold thr; first | rw [if_pos (by omega)] | rw [if_neg (by omega)]), by (intro y hy; rw [ht] at hy; rcases List.mem_append.1 hy with hy | hy; exact hall y hy; simp at hy; subst hy; exact hok), by (rw [ht, List.foldl_append, hn]; rfl), by (unfold thr; split <;> omega), S.nil⟩
          ·
           (show xs.length - (k + 1) < xs.length - k; omega)
        ·
         have rh10 := h10
         (try simp only [Q1, Q2, Q3, Q4, Q5, Q6, Q7, Q8, Q9, Qa] at h10)
         refine W.skip ?_
         refine Then.nx ?_
         refine W.exit ?_
         refine InB.x rfl ?_
         refine Then.x ?_
         refine InB.x rfl ?_
         refine Then.x ?_
         refine InB.e ?_
         refine Then.nx ?_
         refine W.seq ?_
         refine W.seq ?_
         refine W.region rfl ?_
         refine WO.q (Y.fieldB fo_71_2 rfl) ?_
         first | refine WO.q (Y.load rfl (loadS1 sz_3 S 0 rfl rfl)) ?_ | refine WO.q (Y.load rfl (loadS1 sz_3 S 1 rfl rfl)) ?_
         refine WO.q (Y.lss rfl rfl) ?_
         refine WO.q (Y.move (v := .bool _) rfl) ?_
         refine WO.splitB (fun h12 => ?_) (fun h12 => ?_)
         ·
          (try simp only [Q1, Q2, Q3, Q4, Q5, Q6, Q7, Q8, Q9, Qa] at h12)
          refine WO.qF rfl ?_
          refine WO.qF rfl ?_
          refine WO.qF rfl ?_
          refine WO.q (Y.pickT (u := .bool _) rfl rfl) ?_
          refine WO.nil ?_
          refine Then.nx ?_
          first | refine W.condT rfl ?_ | refine W.condT (congrArg Value.bool (by assumption)) ?_
          refine W.seq ?_
          refine W.region rfl ?_
          refine WO.q (Y.assign (v := .int .i64 _) rfl) ?_
          refine WO.q (Y.assign (v := .bool _) rfl) ?_
          refine WO.nil ?_
          refine Then.nx ?_
          refine W.ret ?_
          refine Then.r ?_
          refine InB.r ?_
          refine InB.r ?_
          refine Then.r ?_
          refine Then.r ?_
          refine InB.r ?_
          refine Then.r ?_
          refine BodyQ.ret2 Tryd.results63 (ResV.tmp _ rfl) (ResV.tmp _ rfl) ?_
          first | (exact ⟨may_bad hx1 (by rw [okA_iff]; omega), S.ext⟩) | ((have e : xs.take k = xs := List.take_of_length_le (by omega)); rw [e] at hall hn; (have hm : mayOk xs = true := List.all_eq_true.2 hall); refine ⟨?_, S.ext⟩; (show Ending.returned (.tuple #[.int .i64 _, .bool _]) = _); rw [mayN, hm, if_pos rfl, hn])
         ·
          (try simp only [Q1, Q2, Q3, Q4, Q5, Q6, Q7, Q8, Q9, Qa] at h12)
          refine WO.qT rfl (Y.fieldB fo_71_2 rfl) ?_
          first | refine WO.qT rfl (Y.load rfl (loadS1 sz_3 S 0 rfl rfl)) ?_ | refine WO.qT rfl (Y.load rfl (loadS1 sz_3 S 1 rfl rfl)) ?_
          refine WO.qT rfl (Y.geq rfl rfl) ?_
          refine WO.q (Y.pickF (u := .bool _) rfl rfl) ?_
          refine WO.nil ?_
          refine Then.nx ?_
          refine W.cond rfl (fun h13 => ?_) (fun h13 => ?_) -- cond 7
          ·
           have rh13 := h13
           (try simp only [Q1, Q2, Q3, Q4, Q5, Q6, Q7, Q8, Q9, Qa] at h13)
           refine W.seq ?_
           refine W.region rfl ?_
           refine WO.q (Y.assign (v := .int .i64 _) rfl) ?_
           refine WO.q (Y.assign (v := .bool _) rfl) ?_
           refine WO.nil ?_
           refine Then.nx ?_
           refine W.ret ?_
           refine Then.r ?_
           refine InB.r ?_
           refine InB.r ?_
           refine Then.r ?_
           refine Then.r ?_
           refine InB.r ?_
           refine Then.r ?_
           refine BodyQ.ret2 Tryd.results63 (ResV.tmp _ rfl) (ResV.tmp _ rfl) ?_
           first | (exact ⟨may_bad hx1 (by rw [okA_iff]; omega), S.ext⟩) | ((have e : xs.take k = xs := List.take_of_length_le (by omega)); rw [e] at hall hn; (have hm : mayOk xs = true := List.all_eq_true.2 hall); refine ⟨?_, S.ext⟩; (show Ending.returned (.tuple #[.int .i64 _, .bool _]) = _); rw [mayN, hm, if_pos rfl, hn])
          ·
           have rh13 := h13
           (try simp only [Q1, Q2, Q3, Q4, Q5, Q6, Q7, Q8, Q9, Qa] at h13)
           refine W.skip ?_
           refine Then.nx ?_
           refine W.exit ?_
           refine InB.e ?_
           refine InB.nx ?_
           refine Then.nx ?_
           refine W.region rfl ?_
           first | refine WO.q (Y.addI rfl rfl (by omega)) ?_ | refine WO.q (Y.add rfl rfl) ?_
           refine WO.q (Y.move (v := .int .i64 _) rfl) ?_
           refine WO.nil ?_
           refine Then.nx ⟨?_, ?_, ?_⟩
           ·
            (repeat (first | exact Out.hav _ _ _ | exact Out.refl _ _ | refine Out.up rfl ?_ | refine Out.sub rfl ?_))
           ·
            (have hok : okA x = true := by (rw [okA_iff]; omega)); (have ht := take_succ_at hx1); exact ⟨k + 1, thr n x, rfl, by omega, by (show Value.int .i64 _ = Value.int .i64 _; unfold thr; first | rw [if_pos (by omega)] | rw [if_neg (by omega)]), by (intro y hy; rw [ht] at hy; rcases List.mem_append.1 hy with hy | hy; exact hall y hy; simp at hy; subst hy; exact hok), by (rw [ht, List.foldl_append, hn]; rfl), by (unfold thr; split <;> omega), S.nil⟩
           ·
            (show xs.length - (k + 1) < xs.length - k; omega)
  ·
   have rh1 := h1
   (try simp only [Q1, Q2, Q3, Q4, Q5, Q6, Q7, Q8, Q9, Qa] at h1)
   refine W.exit ?_
   refine Then.x ?_
   refine Then.x ?_
   refine InB.e ?_
   refine Then.nx ?_
   refine W.seq ?_
   refine W.region rfl ?_
   refine WO.q (Y.move (v := .int .i64 _) rfl) ?_
   refine WO.q (Y.assign (v := .int .i64 _) rfl) ?_
   refine WO.q (Y.assign (v := .bool _) rfl) ?_
   refine WO.nil ?_
   refine Then.nx ?_
   refine W.ret ?_
   refine BodyQ.ret2 Tryd.results63 (ResV.tmp _ rfl) (ResV.tmp _ rfl) ?_
   first | (exact ⟨may_bad hx1 (by rw [okA_iff]; omega), S.ext⟩) | ((have e : xs.take k = xs := List.take_of_length_le (by omega)); rw [e] at hall hn; (have hm : mayOk xs = true := List.all_eq_true.2 hall); refine ⟨?_, S.ext⟩; (show Ending.returned (.tuple #[.int .i64 _, .bool _]) = _); rw [mayN, hm, if_pos rfl, hn])
theorem EqInts_spec (w0 : World) (a b : Option Addr) (ca cb : Nat) (xs ys : List Int) (R1 : Rd (tI .i64) w0 a xs) (R2 : Rd (tI .i64) w0 b ys) (hx : xs.length ≤ 9223372036854775807) :
    Calls Tryd.prog 14 [.slice a xs.length ca, .slice b ys.length cb].toArray w0 (fun e w => e = .returned (.bool (decide (xs = ys))) ∧ Ext w0 w) := by
 have S := Sat.refl w0
 refine calls_of_W (args := [.slice a xs.length ca, .slice b ys.length cb]) 26 Tryd.func14 rfl Tryd.ntmps14 rfl ?_
 refine W.seq ?_
 refine W.region rfl ?_
 refine WO.q (Y.assign (v := .bool _) rfl) ?_
 refine WO.nil ?_
 refine Then.nx ?_
 refine W.seq ?_
 refine W.seq ?_
 refine W.region rfl ?_
 refine WO.q (Y.move (v := .slice _ _ _) rfl) ?_
 refine WO.q (Y.len (t' := 0) Tryd.underlying27 rfl) ?_
 refine WO.q (Y.move (v := .slice _ _ _) rfl) ?_
 refine WO.q (Y.len (t' := 0) Tryd.underlying27 rfl) ?_
 refine WO.q (Y.neq rfl rfl) ?_
 refine WO.nil ?_
 refine Then.nx ?_
 refine W.cond rfl (fun h1 => ?_) (fun h1 => ?_) -- cond 0
 ·
  have rh1 := h1
  (try simp only [Q1, Q2, Q3, Q4, Q5, Q6, Q7, Q8, Q9, Qa] at h1)
  refine W.seq ?_
  refine W.region rfl ?_
  refine WO.q (Y.assign (v := .bool _) rfl) ?_
  refine WO.nil ?_
  refine Then.nx ?_
  refine W.ret ?_
  refine Then.r ?_
  refine BodyQ.ret1 Tryd.results14 (ResV.tmp _ rfl) ?_
  exact ⟨retB (decide_eq_false (fun e => h1 (by rw [e]))).symm, S.ext⟩
 ·
  have rh1 := h1
  (try simp only [Q1, Q2, Q3, Q4, Q5, Q6, Q7, Q8, Q9, Qa] at h1)
  refine W.skip ?_
  refine Then.nx ?_
  refine W.seq ?_
  refine W.seq ?_
  refine W.region rfl ?_
  refine WO.q (Y.assign (v := .int .i64 _) rfl) ?_
  refine WO.nil ?_
  refine Then.nx ?_
  refine W.block ?_
  -- loop 0 carries 5:i
  refine W.loop1 [4, 5, 11, 12, 13, 14, 15, 16, 17, 18, 19, 20, 21, 22, 23, 24, 25] 5 (fun v5 w => ∃ k : Nat, v5 = .int .i64 (k : Int) ∧ k ≤ xs.length ∧ (∀ j, j < k → xs[j]? = ys[j]?) ∧ Sat w0 w []) (fun v5 w => xs.length - (intOf v5).toNat) ?_ ?_
  ·
   exact ⟨0, rfl, by simp, fun j h => by omega, S⟩
  ·
   rintro g0 v5 w ⟨k, rfl, hk, hj, S⟩
   refine W.seq ?_
   refine W.seq ?_
   refine W.region rfl ?_
   refine WO.q (Y.move (v := .int .i64 _) rfl) ?_
   refine WO.q (Y.move (v := .slice _ _ _) rfl) ?_
   refine WO.q (Y.len (t' := 0) Tryd.underlying27 rfl) ?_
   refine WO.q (Y.lss rfl rfl) ?_
   refine WO.nil ?_
   refine Then.nx ?_
   refine W.cond rfl (fun h2 => ?_) (fun h2 => ?_) -- cond 1
   ·
    have rh2 := h2
    (try simp only [Q1, Q2, Q3, Q4, Q5, Q6, Q7, Q8, Q9, Qa] at h2)
    have ha := R1.1 (by omega)
    have hb := R2.1 (by omega)
    obtain ⟨x, hx1⟩ := at_ex (xs := xs) (k := k) (by omega)
    obtain ⟨y, hy1⟩ := at_ex (xs := ys) (k := k) (by omega)
    refine W.skip ?_
    refine Then.nx ?_
    refine W.seq ?_
    refine W.block ?_
    refine W.seq ?_
    refine W.draw (.q 0 (.q 1 (.q 2 (.q 3 (.q 4 (.q 5 (.q 6 (.q 7 (.q 8 .nil))))))))) (fun w => Sat _ w _) rfl rfl (by kernel_rfl) rfl (by kernel_rfl) (by repeat (first | exact BodyQ.noFrame | refine Then.noFrame ?_ | refine InB.noFrame ?_)) S.drew ?_
    clear S
    refine Plan.q rfl (fun w S => Y.move (v := .slice _ _ _) rfl) ?_
    refine Plan.q rfl (fun w S => Y.move (v := .int .i64 _) rfl) ?_
    first | refine Plan.q rfl (fun w S => Y.ixN sl_27 rfl rfl (by (first | assumption | rfl)) (by (first | assumption | omega))) ?_ | refine Plan.q rfl (fun w S => Y.ix sl_27 rfl rfl (by (first | assumption | rfl)) (by (first | assumption | omega)) (by (first | assumption | omega))) ?_
    first | refine Plan.q rfl (fun w S => Y.load rfl (loadRd1 sz_3 (R1.ext S.ext) (by assumption) rfl)) ?_ | refine Plan.q rfl (fun w S => Y.load rfl (loadRd1 sz_3 (R2.ext S.ext) (by assumption) rfl)) ?_
    refine Plan.q rfl (fun w S => Y.move (v := .slice _ _ _) rfl) ?_
    refine Plan.q rfl (fun w S => Y.move (v := .int .i64 _) rfl) ?_
    first | refine Plan.q rfl (fun w S => Y.ixN sl_27 rfl rfl (by (first | assumption | rfl)) (by (first | assumption | omega))) ?_ | refine Plan.q rfl (fun w S => Y.ix sl_27 rfl rfl (by (first | assumption | rfl)) (by (first | assumption | omega)) (by (first | assumption | omega))) ?_
    first | refine Plan.q rfl (fun w S => Y.load rfl (loadRd1 sz_3 (R1.ext S.ext) (by assumption) rfl)) ?_ | refine Plan.q rfl (fun w S => Y.load rfl (loadRd1 sz_3 (R2.ext S.ext) (by assumption) rfl)) ?_
    refine Plan.q rfl (fun w S => Y.neq rfl rfl) ?_
    refine Plan.nil (fun w S => ?_)
    replace S : Sat _ _ _ := S
    refine Then.nx ?_
    refine W.cond rfl (fun h3 => ?_) (fun h3 => ?_) -- cond 2
    ·
     have rh3 := h3
     (try simp only [Q1, Q2, Q3, Q4, Q5, Q6, Q7, Q8, Q9, Qa] at h3)
     refine W.seq ?_
     refine W.region rfl ?_
     refine WO.q (Y.assign (v := .bool _) rfl) ?_
     refine WO.nil ?_
     refine Then.nx ?_
     refine W.ret ?_
     refine InB.r ?_
     refine Then.r ?_
     refine Then.r ?_
     refine InB.r ?_
     refine Then.r ?_
     refine BodyQ.ret1 Tryd.results14 (ResV.tmp _ rfl) ?_
     exact ⟨retB (decide_eq_false (fun e => h3 (by rw [e, hy1] at hx1; exact (Option.some.inj hx1).symm))).symm, S.ext⟩
    ·
     have rh3 := h3
     (try simp only [Q1, Q2, Q3, Q4, Q5, Q6, Q7, Q8, Q9, Qa] at h3)
     have hn : xs[k]? = ys[k]? := by rw [hx1, hy1, h3]
     refine W.skip ?_
     refine InB.nx ?_
     refine Then.nx ?_
     refine W.region rfl ?_
     refine WO.q (Y.move (v := .int .i64 _) rfl) ?_
     first | refine WO.q (Y.addI rfl rfl (by omega)) ?_ | refine WO.q (Y.add rfl rfl) ?_
     refine WO.q (Y.assign (v := .int .i64 _) rfl) ?_
     refine WO.nil ?_
     refine Then.nx ⟨?_, ?_, ?_⟩
     ·
      (repeat (first | exact Out.hav _ _ _ | exact Out.refl _ _ | refine Out.up rfl ?_ | refine Out.sub rfl ?_))
     ·
      exact ⟨k + 1, rfl, by omega, fun j h => by rcases Nat.lt_succ_iff_lt_or_eq.1 h with h | rfl; exact hj j h; exact hn, S⟩
     ·
      (show xs.length - (k + 1) < xs.length - k; omega)
   ·
    have rh2 := h2
    (try simp only [Q1, Q2, Q3, Q4, Q5, Q6, Q7, Q8, Q9, Qa] at h2)
    refine W.exit ?_
    refine Then.x ?_
    refine Then.x ?_
    refine InB.e ?_
    refine Then.nx ?_
    refine W.seq ?_
    refine W.region rfl ?_
    refine WO.q (Y.assign (v := .bool _) rfl) ?_
    refine WO.nil ?_
    refine Then.nx ?_
    refine W.ret ?_
    refine BodyQ.ret1 Tryd.results14 (ResV.tmp _ rfl) ?_
    exact ⟨retB (decide_eq_true (List.ext_getElem? (fun j => by by_cases h : j < xs.length; exact hj j (by omega); rw [List.getElem?_eq_none (by omega), List.getElem?_eq_none (by omega)]))).symm, S.ext⟩
theorem EqCalls_spec (w0 : World) (a b : Option Addr) (ca cb : Nat) (xs ys : List GCall) (R1 : Rd tCall w0 a xs) (R2 : Rd tCall w0 b ys) (hx : xs.length ≤ 9223372036854775807) :
    Calls Tryd.prog 15 [.slice a xs.length ca, .slice b ys.length cb].toArray w0 (fun e w => e = .returned (.bool (decide (xs = ys))) ∧ Ext w0 w) := by
 have S := Sat.refl w0
 refine calls_of_W (args := [.slice a xs.length ca, .slice b ys.length cb]) 26 Tryd.func15 rfl Tryd.ntmps15 rfl ?_
 refine W.seq ?_
 refine W.region rfl ?_
 refine WO.q (Y.assign (v := .bool _) rfl) ?_
 refine WO.nil ?_
 refine Then.nx ?_
 refine W.seq ?_
 refine W.seq ?_
 refine W.region rfl ?_
 refine WO.q (Y.move (v := .slice _ _ _) rfl) ?_
 refine WO.q (Y.len (t' := 0) Tryd.underlying22 rfl) ?_
 refine WO.q (Y.move (v := .slice _ _ _) rfl) ?_
 refine WO.q (Y.len (t' := 0) Tryd.underlying22 rfl) ?_
 refine WO.q (Y.neq rfl rfl) ?_
 refine WO.nil ?_
 refine Then.nx ?_
 refine W.cond rfl (fun h1 => ?_) (fun h1 => ?_) -- cond 0
 ·
  have rh1 := h1
  (try simp only [Q1, Q2, Q3, Q4, Q5, Q6, Q7, Q8, Q9, Qa] at h1)
  refine W.seq ?_
  refine W.region rfl ?_
  refine WO.q (Y.assign (v := .bool _) rfl) ?_
  refine WO.nil ?_
  refine Then.nx ?_
  refine W.ret ?_
  refine Then.r ?_
  refine BodyQ.ret1 Tryd.results15 (ResV.tmp _ rfl) ?_
  exact ⟨retB (decide_eq_false (fun e => h1 (by rw [e]))).symm, S.ext⟩
 ·
  have rh1 := h1
  (try simp only [Q1, Q2, Q3, Q4, Q5, Q6, Q7, Q8, Q9, Qa] at h1)
  refine W.skip ?_
  refine Then.nx ?_
  refine W.seq ?_
  refine W.seq ?_
  refine W.region rfl ?_
  refine WO.q (Y.assign (v := .int .i64 _) rfl) ?_
  refine WO.nil ?_
  refine Then.nx ?_
  refine W.block ?_
  -- loop 0 carries 5:i
  refine W.loop1 [4, 5, 11, 12, 13, 14, 15, 16, 17, 18, 19, 20, 21, 22, 23, 24, 25] 5 (fun v5 w => ∃ k : Nat, v5 = .int .i64 (k : Int) ∧ k ≤ xs.length ∧ (∀ j, j < k → xs[j]? = ys[j]?) ∧ Sat w0 w []) (fun v5 w => xs.length - (intOf v5).toNat) ?_ ?_
  ·
   exact ⟨0, rfl, by simp, fun j h => by omega, S⟩
  ·
   rintro g0 v5 w ⟨k, rfl, hk, hj, S⟩
   refine W.seq ?_
   refine W.seq ?_
   refine W.region rfl ?_
   refine WO.q (Y.move (v := .int .i64 _) rfl) ?_
   refine WO.q (Y.move (v := .slice _ _ _) rfl) ?_
   refine WO.q (Y.len (t' := 0) Tryd.underlying22 rfl) ?_
   refine WO.q (Y.lss rfl rfl) ?_
   refine WO.nil ?_
   refine Then.nx ?_
   refine W.cond rfl (fun h2 => ?_) (fun h2 => ?_) -- cond 1
   ·
    have rh2 := h2
    (try simp only [Q1, Q2, Q3, Q4, Q5, Q6, Q7, Q8, Q9, Qa] at h2)
    have ha := R1.1 (by omega)
    have hb := R2.1 (by omega)
    obtain ⟨x, hx1⟩ := at_ex (xs := xs) (k := k) (by omega)
    obtain ⟨y, hy1⟩ := at_ex (xs := ys) (k := k) (by omega)
    refine W.skip ?_
    refine Then.nx ?_
    refine W.seq ?_
    refine W.block ?_
    refine W.seq ?_
    refine W.draw (.q 0 (.q 1 (.q 2 (.q 3 (.q 4 (.q 5 (.q 6 (.q 7 (.q 8 .nil))))))))) (fun w => Sat _ w _) rfl rfl (by kernel_rfl) rfl (by kernel_rfl) (by repeat (first | exact BodyQ.noFrame | refine Then.noFrame ?_ | refine InB.noFrame ?_)) S.drew ?_
    clear S
    refine Plan.q rfl (fun w S => Y.move (v := .slice _ _ _) rfl) ?_
    refine Plan.q rfl (fun w S => Y.move (v := .int .i64 _) rfl) ?_
    first | refine Plan.q rfl (fun w S => Y.ixN sl_22 rfl rfl (by (first | assumption | rfl)) (by (first | assumption | omega))) ?_ | refine Plan.q rfl (fun w S => Y.ix sl_22 rfl rfl (by (first | assumption | rfl)) (by (first | assumption | omega)) (by (first | assumption | omega))) ?_
    first | refine Plan.q rfl (fun w S => Y.load rfl (loadRdN sz_58 (R1.ext S.ext) (by assumption))) ?_ | refine Plan.q rfl (fun w S => Y.load rfl (loadRdN sz_58 (R2.ext S.ext) (by assumption))) ?_
    refine Plan.q rfl (fun w S => Y.move (v := .slice _ _ _) rfl) ?_
    refine Plan.q rfl (fun w S => Y.move (v := .int .i64 _) rfl) ?_
    first | refine Plan.q rfl (fun w S => Y.ixN sl_22 rfl rfl (by (first | assumption | rfl)) (by (first | assumption | omega))) ?_ | refine Plan.q rfl (fun w S => Y.ix sl_22 rfl rfl (by (first | assumption | rfl)) (by (first | assumption | omega)) (by (first | assumption | omega))) ?_
    first | refine Plan.q rfl (fun w S => Y.load rfl (loadRdN sz_58 (R1.ext S.ext) (by assumption))) ?_ | refine Plan.q rfl (fun w S => Y.load rfl (loadRdN sz_58 (R2.ext S.ext) (by assumption))) ?_
    refine Plan.q rfl (fun w S => Y.neqA eqt_58 rfl rfl) ?_
    refine Plan.nil (fun w S => ?_)
    replace S : Sat _ _ _ := S
    refine Then.nx ?_
    refine W.cond rfl (fun h3 => ?_) (fun h3 => ?_) -- cond 2
    ·
     have rh3 := h3
     (try simp only [Q1, Q2, Q3, Q4, Q5, Q6, Q7, Q8, Q9, Qa] at h3)
     refine W.seq ?_
     refine W.region rfl ?_
     refine WO.q (Y.assign (v := .bool _) rfl) ?_
     refine WO.nil ?_
     refine Then.nx ?_
     refine W.ret ?_
     refine InB.r ?_
     refine Then.r ?_
     refine Then.r ?_
     refine InB.r ?_
     refine Then.r ?_
     refine BodyQ.ret1 Tryd.results15 (ResV.tmp _ rfl) ?_
     exact ⟨retB (decide_eq_false (fun e => h3 (by rw [e, hy1] at hx1; exact (Option.some.inj hx1).symm))).symm, S.ext⟩
    ·
     have rh3 := h3
     (try simp only [Q1, Q2, Q3, Q4, Q5, Q6, Q7, Q8, Q9, Qa] at h3)
     have hn : xs[k]? = ys[k]? := by rw [hx1, hy1, h3]
     refine W.skip ?_
     refine InB.nx ?_
     refine Then.nx ?_
     refine W.region rfl ?_
     refine WO.q (Y.move (v := .int .i64 _) rfl) ?_
     first | refine WO.q (Y.addI rfl rfl (by omega)) ?_ | refine WO.q (Y.add rfl rfl) ?_
     refine WO.q (Y.assign (v := .int .i64 _) rfl) ?_
     refine WO.nil ?_
     refine Then.nx ⟨?_, ?_, ?_⟩
     ·
      (repeat (first | exact Out.hav _ _ _ | exact Out.refl _ _ | refine Out.up rfl ?_ | refine Out.sub rfl ?_))
     ·
      exact ⟨k + 1, rfl, by omega, fun j h => by rcases Nat.lt_succ_iff_lt_or_eq.1 h with h | rfl; exact hj j h; exact hn, S⟩
     ·
      (show xs.length - (k + 1) < xs.length - k; omega)
   ·
    have rh2 := h2
    (try simp only [Q1, Q2, Q3, Q4, Q5, Q6, Q7, Q8, Q9, Qa] at h2)
    refine W.exit ?_
    refine Then.x ?_
    refine Then.x ?_
    refine InB.e ?_
    refine Then.nx ?_
    refine W.seq ?_
    refine W.region rfl ?_
    refine WO.q (Y.assign (v := .bool _) rfl) ?_
    refine WO.nil ?_
    refine Then.nx ?_
    refine W.ret ?_
    refine BodyQ.ret1 Tryd.results15 (ResV.tmp _ rfl) ?_
    exact ⟨retB (decide_eq_true (List.ext_getElem? (fun j => by by_cases h : j < xs.length; exact hj j (by omega); rw [List.getElem?_eq_none (by omega), List.getElem?_eq_none (by omega)]))).symm, S.ext⟩
theorem EqAccesses_spec (w0 : World) (a b : Option Addr) (ca cb : Nat) (xs ys : List Access) (R1 : Rd tAccess w0 a xs) (R2 : Rd tAccess w0 b ys) (hx : xs.length ≤ 9223372036854775807) :
    Calls Tryd.prog 31 [.slice a xs.length ca, .slice b ys.length cb].toArray w0 (fun e w => e = .returned (.bool (decide (xs = ys))) ∧ Ext w0 w) := by
 have S := Sat.refl w0
 refine calls_of_W (args := [.slice a xs.length ca, .slice b ys.length cb]) 26 Tryd.func31 rfl Tryd.ntmps31 rfl ?_
 refine W.seq ?_
 refine W.region rfl ?_
 refine WO.q (Y.assign (v := .bool _) rfl) ?_
 refine WO.nil ?_
 refine Then.nx ?_
 refine W.seq ?_
 refine W.seq ?_
 refine W.region rfl ?_
 refine WO.q (Y.move (v := .slice _ _ _) rfl) ?_
 refine WO.q (Y.len (t' := 0) Tryd.underlying64 rfl) ?_
 refine WO.q (Y.move (v := .slice _ _ _) rfl) ?_
 refine WO.q (Y.len (t' := 0) Tryd.underlying64 rfl) ?_
 refine WO.q (Y.neq rfl rfl) ?_
 refine WO.nil ?_
 refine Then.nx ?_
 refine W.cond rfl (fun h1 => ?_) (fun h1 => ?_) -- cond 0
 ·
  have rh1 := h1
  (try simp only [Q1, Q2, Q3, Q4, Q5, Q6, Q7, Q8, Q9, Qa] at h1)
  refine W.seq ?_
  refine W.region rfl ?_
  refine WO.q (Y.assign (v := .bool _) rfl) ?_
  refine WO.nil ?_
  refine Then.nx ?_
  refine W.ret ?_
  refine Then.r ?_
  refine BodyQ.ret1 Tryd.results31 (ResV.tmp _ rfl) ?_
  exact ⟨retB (decide_eq_false (fun e => h1 (by rw [e]))).symm, S.ext⟩
 ·
  have rh1 := h1
  (try simp only [Q1, Q2, Q3, Q4, Q5, Q6, Q7, Q8, Q9, Qa] at h1)
  refine W.skip ?_
  refine Then.nx ?_
  refine W.seq ?_
  refine W.seq ?_
  refine W.region rfl ?_
  refine WO.q (Y.assign (v := .int .i64 _) rfl) ?_
  refine WO.nil ?_
  refine Then.nx ?_
  refine W.block ?_
  -- loop 0 carries 5:i
  refine W.loop1 [4, 5, 11, 12, 13, 14, 15, 16, 17, 18, 19, 20, 21, 22, 23, 24, 25] 5 (fun v5 w => ∃ k : Nat, v5 = .int .i64 (k : Int) ∧ k ≤ xs.length ∧ (∀ j, j < k → xs[j]? = ys[j]?) ∧ Sat w0 w []) (fun v5 w => xs.length - (intOf v5).toNat) ?_ ?_
  ·
   exact ⟨0, rfl, by simp, fun j h => by omega, S⟩
  ·
   rintro g0 v5 w ⟨k, rfl, hk, hj, S⟩
   refine W.seq ?_
   refine W.seq ?_
   refine W.region rfl ?_
   refine WO.q (Y.move (v := .int .i64 _) rfl) ?_
   refine WO.q (Y.move (v := .slice _ _ _) rfl) ?_
   refine WO.q (Y.len (t' := 0) Tryd.underlying64 rfl) ?_
   refine WO.q (Y.lss rfl rfl) ?_
   refine WO.nil ?_
   refine Then.nx ?_
   refine W.cond rfl (fun h2 => ?_) (fun h2 => ?_) -- cond 1
   ·
    have rh2 := h2
    (try simp only [Q1, Q2, Q3, Q4, Q5, Q6, Q7, Q8, Q9, Qa] at h2)
    have ha := R1.1 (by omega)
    have hb := R2.1 (by omega)
    obtain ⟨x, hx1⟩ := at_ex (xs := xs) (k := k) (by omega)
    obtain ⟨y, hy1⟩ := at_ex (xs := ys) (k := k) (by omega)
    refine W.skip ?_
    refine Then.nx ?_
    refine W.seq ?_
    refine W.block ?_
    refine W.seq ?_
    refine W.draw (.q 0 (.q 1 (.q 2 (.q 3 (.q 4 (.q 5 (.q 6 (.q 7 (.q 8 .nil))))))))) (fun w => Sat _ w _) rfl rfl (by kernel_rfl) rfl (by kernel_rfl) (by repeat (first | exact BodyQ.noFrame | refine Then.noFrame ?_ | refine InB.noFrame ?_)) S.drew ?_
    clear S
    refine Plan.q rfl (fun w S => Y.move (v := .slice _ _ _) rfl) ?_
    refine Plan.q rfl (fun w S => Y.move (v := .int .i64 _) rfl) ?_
    first | refine Plan.q rfl (fun w S => Y.ixN sl_64 rfl rfl (by (first | assumption | rfl)) (by (first | assumption | omega))) ?_ | refine Plan.q rfl (fun w S => Y.ix sl_64 rfl rfl (by (first | assumption | rfl)) (by (first | assumption | omega)) (by (first | assumption | omega))) ?_
    first | refine Plan.q rfl (fun w S => Y.load rfl (loadRdN sz_71 (R1.ext S.ext) (by assumption))) ?_ | refine Plan.q rfl (fun w S => Y.load rfl (loadRdN sz_71 (R2.ext S.ext) (by assumption))) ?_
    refine Plan.q rfl (fun w S => Y.move (v := .slice _ _ _) rfl) ?_
    refine Plan.q rfl (fun w S => Y.move (v := .int .i64 _) rfl) ?_
    first | refine Plan.q rfl (fun w S => Y.ixN sl_64 rfl rfl (by (first | assumption | rfl)) (by (first | assumption | omega))) ?_ | refine Plan.q rfl (fun w S => Y.ix sl_64 rfl rfl (by (first | assumption | rfl)) (by (first | assumption | omega)) (by (first | assumption | omega))) ?_
    first | refine Plan.q rfl (fun w S => Y.load rfl (loadRdN sz_71 (R1.ext S.ext) (by assumption))) ?_ | refine Plan.q rfl (fun w S => Y.load rfl (loadRdN sz_71 (R2.ext S.ext) (by assumption))) ?_
    refine Plan.q rfl (fun w S => Y.neqA eqt_71 rfl rfl) ?_
    refine Plan.nil (fun w S => ?_)
    replace S : Sat _ _ _ := S
    refine Then.nx ?_
    refine W.cond rfl (fun h3 => ?_) (fun h3 => ?_) -- cond 2
    ·
     have rh3 := h3
     (try simp only [Q1, Q2, Q3, Q4, Q5, Q6, Q7, Q8, Q9, Qa] at h3)
     refine W.seq ?_
     refine W.region rfl ?_
     refine WO.q (Y.assign (v := .bool _) rfl) ?_
     refine WO.nil ?_
     refine Then.nx ?_
     refine W.ret ?_
     refine InB.r ?_
     refine Then.r ?_
     refine Then.r ?_
     refine InB.r ?_
     refine Then.r ?_
     refine BodyQ.ret1 Tryd.results31 (ResV.tmp _ rfl) ?_
     exact ⟨retB (decide_eq_false (fun e => h3 (by rw [e, hy1] at hx1; exact (Option.some.inj hx1).symm))).symm, S.ext⟩
    ·
     have rh3 := h3
     (try simp only [Q1, Q2, Q3, Q4, Q5, Q6, Q7, Q8, Q9, Qa] at h3)
     have hn : xs[k]? = ys[k]? := by rw [hx1, hy1, h3]
     refine W.skip ?_
     refine InB.nx ?_
     refine Then.nx ?_
     refine W.region rfl ?_
     refine WO.q (Y.move (v := .int .i64 _) rfl) ?_
     first | refine WO.q (Y.addI rfl rfl (by omega)) ?_ | refine WO.q (Y.add rfl rfl) ?_
     refine WO.q (Y.assign (v := .int .i64 _) rfl) ?_
     refine WO.nil ?_
     refine Then.nx ⟨?_, ?_, ?_⟩
     ·
      (repeat (first | exact Out.hav _ _ _ | exact Out.refl _ _ | refine Out.up rfl ?_ | refine Out.sub rfl ?_))
     ·
      exact ⟨k + 1, rfl, by omega, fun j h => by rcases Nat.lt_succ_iff_lt_or_eq.1 h with h | rfl; exact hj j h; exact hn, S⟩
     ·
      (show xs.length - (k + 1) < xs.length - k; omega)
   ·
    have rh2 := h2
    (try simp only [Q1, Q2, Q3, Q4, Q5, Q6, Q7, Q8, Q9, Qa] at h2)
    refine W.exit ?_
    refine Then.x ?_
    refine Then.x ?_
    refine InB.e ?_
    refine Then.nx ?_
    refine W.seq ?_
    refine W.region rfl ?_
    refine WO.q (Y.assign (v := .bool _) rfl) ?_
    refine WO.nil ?_
    refine Then.nx ?_
    refine W.ret ?_
    refine BodyQ.ret1 Tryd.results31 (ResV.tmp _ rfl) ?_
    exact ⟨retB (decide_eq_true (List.ext_getElem? (fun j => by by_cases h : j < xs.length; exact hj j (by omega); rw [List.getElem?_eq_none (by omega), List.getElem?_eq_none (by omega)]))).symm, S.ext⟩
theorem EqRaces_spec (w0 : World) (a b : Option Addr) (ca cb : Nat) (xs ys : List GRace) (R1 : Rd tRace w0 a xs) (R2 : Rd tRace w0 b ys) (hx : xs.length ≤ 9223372036854775807) :
    Calls Tryd.prog 38 [.slice a xs.length ca, .slice b ys.length cb].toArray w0 (fun e w => e = .returned (.bool (decide (xs = ys))) ∧ Ext w0 w) := by
 have S := Sat.refl w0
 refine calls_of_W (args := [.slice a xs.length ca, .slice b ys.length cb]) 26 Tryd.func38 rfl Tryd.ntmps38 rfl ?_
 refine W.seq ?_
 refine W.region rfl ?_
 refine WO.q (Y.assign (v := .bool _) rfl) ?_
 refine WO.nil ?_
 refine Then.nx ?_
 refine W.seq ?_
 refine W.seq ?_
 refine W.region rfl ?_
 refine WO.q (Y.move (v := .slice _ _ _) rfl) ?_
 refine WO.q (Y.len (t' := 0) Tryd.underlying79 rfl) ?_
 refine WO.q (Y.move (v := .slice _ _ _) rfl) ?_
 refine WO.q (Y.len (t' := 0) Tryd.underlying79 rfl) ?_
 refine WO.q (Y.neq rfl rfl) ?_
 refine WO.nil ?_
 refine Then.nx ?_
 refine W.cond rfl (fun h1 => ?_) (fun h1 => ?_) -- cond 0
 ·
  have rh1 := h1
  (try simp only [Q1, Q2, Q3, Q4, Q5, Q6, Q7, Q8, Q9, Qa] at h1)
  refine W.seq ?_
  refine W.region rfl ?_
  refine WO.q (Y.assign (v := .bool _) rfl) ?_
  refine WO.nil ?_
  refine Then.nx ?_
  refine W.ret ?_
  refine Then.r ?_
  refine BodyQ.ret1 Tryd.results38 (ResV.tmp _ rfl) ?_
  exact ⟨retB (decide_eq_false (fun e => h1 (by rw [e]))).symm, S.ext⟩
 ·
  have rh1 := h1
  (try simp only [Q1, Q2, Q3, Q4, Q5, Q6, Q7, Q8, Q9, Qa] at h1)
  refine W.skip ?_
  refine Then.nx ?_
  refine W.seq ?_
  refine W.seq ?_
  refine W.region rfl ?_
  refine WO.q (Y.assign (v := .int .i64 _) rfl) ?_
  refine WO.nil ?_
  refine Then.nx ?_
  refine W.block ?_
  -- loop 0 carries 5:i
  refine W.loop1 [4, 5, 11, 12, 13, 14, 15, 16, 17, 18, 19, 20, 21, 22, 23, 24, 25] 5 (fun v5 w => ∃ k : Nat, v5 = .int .i64 (k : Int) ∧ k ≤ xs.length ∧ (∀ j, j < k → xs[j]? = ys[j]?) ∧ Sat w0 w []) (fun v5 w => xs.length - (intOf v5).toNat) ?_ ?_
  ·
   exact ⟨0, rfl, by simp, fun j h => by omega, S⟩
  ·
   rintro g0 v5 w ⟨k, rfl, hk, hj, S⟩
   refine W.seq ?_
   refine W.seq ?_
   refine W.region rfl ?_
   refine WO.q (Y.move (v := .int .i64 _) rfl) ?_
   refine WO.q (Y.move (v := .slice _ _ _) rfl) ?_
   refine WO.q (Y.len (t' := 0) Tryd.underlying79 rfl) ?_
   refine WO.q (Y.lss rfl rfl) ?_
   refine WO.nil ?_
   refine Then.nx ?_
   refine W.cond rfl (fun h2 => ?_) (fun h2 => ?_) -- cond 1
   ·
    have rh2 := h2
    (try simp only [Q1, Q2, Q3, Q4, Q5, Q6, Q7, Q8, Q9, Qa] at h2)
    have ha := R1.1 (by omega)
    have hb := R2.1 (by omega)
    obtain ⟨x, hx1⟩ := at_ex (xs := xs) (k := k) (by omega)
    obtain ⟨y, hy1⟩ := at_ex (xs := ys) (k := k) (by omega)
    refine W.skip ?_
    refine Then.nx ?_
    refine W.seq ?_
    refine W.block ?_
    refine W.seq ?_
    refine W.draw (.q 0 (.q 1 (.q 2 (.q 3 (.q 4 (.q 5 (.q 6 (.q 7 (.q 8 .nil))))))))) (fun w => Sat _ w _) rfl rfl (by kernel_rfl) rfl (by kernel_rfl) (by repeat (first | exact BodyQ.noFrame | refine Then.noFrame ?_ | refine InB.noFrame ?_)) S.drew ?_
    clear S
    refine Plan.q rfl (fun w S => Y.move (v := .slice _ _ _) rfl) ?_
    refine Plan.q rfl (fun w S => Y.move (v := .int .i64 _) rfl) ?_
    first | refine Plan.q rfl (fun w S => Y.ixN sl_79 rfl rfl (by (first | assumption | rfl)) (by (first | assumption | omega))) ?_ | refine Plan.q rfl (fun w S => Y.ix sl_79 rfl rfl (by (first | assumption | rfl)) (by (first | assumption | omega)) (by (first | assumption | omega))) ?_
    first | refine Plan.q rfl (fun w S => Y.load rfl (loadRdN sz_87 (R1.ext S.ext) (by assumption))) ?_ | refine Plan.q rfl (fun w S => Y.load rfl (loadRdN sz_87 (R2.ext S.ext) (by assumption))) ?_
    refine Plan.q rfl (fun w S => Y.move (v := .slice _ _ _) rfl) ?_
    refine Plan.q rfl (fun w S => Y.move (v := .int .i64 _) rfl) ?_
    first | refine Plan.q rfl (fun w S => Y.ixN sl_79 rfl rfl (by (first | assumption | rfl)) (by (first | assumption | omega))) ?_ | refine Plan.q rfl (fun w S => Y.ix sl_79 rfl rfl (by (first | assumption | rfl)) (by (first | assumption | omega)) (by (first | assumption | omega))) ?_
    first | refine Plan.q rfl (fun w S => Y.load rfl (loadRdN sz_87 (R1.ext S.ext) (by assumption))) ?_ | refine Plan.q rfl (fun w S => Y.load rfl (loadRdN sz_87 (R2.ext S.ext) (by assumption))) ?_
    refine Plan.q rfl (fun w S => Y.neqA eqt_87 rfl rfl) ?_
    refine Plan.nil (fun w S => ?_)
    replace S : Sat _ _ _ := S
    refine Then.nx ?_
    refine W.cond rfl (fun h3 => ?_) (fun h3 => ?_) -- cond 2
    ·
     have rh3 := h3
     (try simp only [Q1, Q2, Q3, Q4, Q5, Q6, Q7, Q8, Q9, Qa] at h3)
     refine W.seq ?_
     refine W.region rfl ?_
     refine WO.q (Y.assign (v := .bool _) rfl) ?_
     refine WO.nil ?_
     refine Then.nx ?_
     refine W.ret ?_
     refine InB.r ?_
     refine Then.r ?_
     refine Then.r ?_
     refine InB.r ?_
     refine Then.r ?_
     refine BodyQ.ret1 Tryd.results38 (ResV.tmp _ rfl) ?_
     exact ⟨retB (decide_eq_false (fun e => h3 (by rw [e, hy1] at hx1; exact (Option.some.inj hx1).symm))).symm, S.ext⟩
    ·
     have rh3 := h3
     (try simp only [Q1, Q2, Q3, Q4, Q5, Q6, Q7, Q8, Q9, Qa] at h3)
     have hn : xs[k]? = ys[k]? := by rw [hx1, hy1, h3]
     refine W.skip ?_
     refine InB.nx ?_
     refine Then.nx ?_
     refine W.region rfl ?_
     refine WO.q (Y.move (v := .int .i64 _) rfl) ?_
     first | refine WO.q (Y.addI rfl rfl (by omega)) ?_ | refine WO.q (Y.add rfl rfl) ?_
     refine WO.q (Y.assign (v := .int .i64 _) rfl) ?_
     refine WO.nil ?_
     refine Then.nx ⟨?_, ?_, ?_⟩
     ·
      (repeat (first | exact Out.hav _ _ _ | exact Out.refl _ _ | refine Out.up rfl ?_ | refine Out.sub rfl ?_))
     ·
      exact ⟨k + 1, rfl, by omega, fun j h => by rcases Nat.lt_succ_iff_lt_or_eq.1 h with h | rfl; exact hj j h; exact hn, S⟩
     ·
      (show xs.length - (k + 1) < xs.length - k; omega)
   ·
    have rh2 := h2
    (try simp only [Q1, Q2, Q3, Q4, Q5, Q6, Q7, Q8, Q9, Qa] at h2)
    refine W.exit ?_
    refine Then.x ?_
    refine Then.x ?_
    refine InB.e ?_
    refine Then.nx ?_
    refine W.seq ?_
    refine W.region rfl ?_
    refine WO.q (Y.assign (v := .bool _) rfl) ?_
    refine WO.nil ?_
    refine Then.nx ?_
    refine W.ret ?_
    refine BodyQ.ret1 Tryd.results38 (ResV.tmp _ rfl) ?_
    exact ⟨retB (decide_eq_true (List.ext_getElem? (fun j => by by_cases h : j < xs.length; exact hj j (by omega); rw [List.getElem?_eq_none (by omega), List.getElem?_eq_none (by omega)]))).symm, S.ext⟩
theorem same_spec (w0 : World) (a b : Option Addr) (ca cb : Nat) (xs ys : List Int) (R1 : Rd (tI .i64) w0 a xs) (R2 : Rd (tI .i64) w0 b ys) (hx : xs.length ≤ 9223372036854775807) :
    Calls Tryd.prog 76 [.slice a xs.length ca, .slice b ys.length cb].toArray w0 (fun e w => e = .returned (.bool (decide (xs = ys))) ∧ Ext w0 w) := by
 have S := Sat.refl w0
 refine calls_of_W (args := [.slice a xs.length ca, .slice b ys.length cb]) 26 Tryd.func76 rfl Tryd.ntmps76 rfl ?_
 refine W.seq ?_
 refine W.region rfl ?_
 refine WO.q (Y.assign (v := .bool _) rfl) ?_
 refine WO.nil ?_
 refine Then.nx ?_
 refine W.seq ?_
 refine W.seq ?_
 refine W.region rfl ?_
 refine WO.q (Y.move (v := .slice _ _ _) rfl) ?_
 refine WO.q (Y.len (t' := 0) Tryd.underlying54 rfl) ?_
 refine WO.q (Y.move (v := .slice _ _ _) rfl) ?_
 refine WO.q (Y.len (t' := 0) Tryd.underlying54 rfl) ?_
 refine WO.q (Y.neq rfl rfl) ?_
 refine WO.nil ?_
 refine Then.nx ?_
 refine W.cond rfl (fun h1 => ?_) (fun h1 => ?_) -- cond 0
 ·
  have rh1 := h1
  (try simp only [Q1, Q2, Q3, Q4, Q5, Q6, Q7, Q8, Q9, Qa] at h1)
  refine W.seq ?_
  refine W.region rfl ?_
  refine WO.q (Y.assign (v := .bool _) rfl) ?_
  refine WO.nil ?_
  refine Then.nx ?_
  refine W.ret ?_
  refine Then.r ?_
  refine BodyQ.ret1 Tryd.results76 (ResV.tmp _ rfl) ?_
  exact ⟨retB (decide_eq_false (fun e => h1 (by rw [e]))).symm, S.ext⟩
 ·
  have rh1 := h1
  (try simp only [Q1, Q2, Q3, Q4, Q5, Q6, Q7, Q8, Q9, Qa] at h1)
  refine W.skip ?_
  refine Then.nx ?_
  refine W.seq ?_
  refine W.seq ?_
  refine W.region rfl ?_
  refine WO.q (Y.assign (v := .int .i64 _) rfl) ?_
  refine WO.nil ?_
  refine Then.nx ?_
  refine W.block ?_
  -- loop 0 carries 5:i
  refine W.loop1 [4, 5, 11, 12, 13, 14, 15, 16, 17, 18, 19, 20, 21, 22, 23, 24, 25] 5 (fun v5 w => ∃ k : Nat, v5 = .int .i64 (k : Int) ∧ k ≤ xs.length ∧ (∀ j, j < k → xs[j]? = ys[j]?) ∧ Sat w0 w []) (fun v5 w => xs.length - (intOf v5).toNat) ?_ ?_
  ·
   exact ⟨0, rfl, by simp, fun j h => by omega, S⟩
  ·
   rintro g0 v5 w ⟨k, rfl, hk, hj, S⟩
   refine W.seq ?_
   refine W.seq ?_
   refine W.region rfl ?_
   refine WO.q (Y.move (v := .int .i64 _) rfl) ?_
   refine WO.q (Y.move (v := .slice _ _ _) rfl) ?_
   refine WO.q (Y.len (t' := 0) Tryd.underlying54 rfl) ?_
   refine WO.q (Y.lss rfl rfl) ?_
   refine WO.nil ?_
   refine Then.nx ?_
   refine W.cond rfl (fun h2 => ?_) (fun h2 => ?_) -- cond 1
   ·
    have rh2 := h2
    (try simp only [Q1, Q2, Q3, Q4, Q5, Q6, Q7, Q8, Q9, Qa] at h2)
    have ha := R1.1 (by omega)
    have hb := R2.1 (by omega)
    obtain ⟨x, hx1⟩ := at_ex (xs := xs) (k := k) (by omega)
    obtain ⟨y, hy1⟩ := at_ex (xs := ys) (k := k) (by omega)
    refine W.skip ?_
    refine Then.nx ?_
    refine W.seq ?_
    refine W.block ?_
    refine W.seq ?_
    refine W.draw (.q 0 (.q 1 (.q 2 (.q 3 (.q 4 (.q 5 (.q 6 (.q 7 (.q 8 .nil))))))))) (fun w => Sat _ w _) rfl rfl (by kernel_rfl) rfl (by kernel_rfl) (by repeat (first | exact BodyQ.noFrame | refine Then.noFrame ?_ | refine InB.noFrame ?_)) S.drew ?_
    clear S
    refine Plan.q rfl (fun w S => Y.move (v := .slice _ _ _) rfl) ?_
    refine Plan.q rfl (fun w S => Y.move (v := .int .i64 _) rfl) ?_
    first | refine Plan.q rfl (fun w S => Y.ixN sl_54 rfl rfl (by (first | assumption | rfl)) (by (first | assumption | omega))) ?_ | refine Plan.q rfl (fun w S => Y.ix sl_54 rfl rfl (by (first | assumption | rfl)) (by (first | assumption | omega)) (by (first | assumption | omega))) ?_
    first | refine Plan.q rfl (fun w S => Y.load rfl (loadRd1 sz_2 (R1.ext S.ext) (by assumption) rfl)) ?_ | refine Plan.q rfl (fun w S => Y.load rfl (loadRd1 sz_2 (R2.ext S.ext) (by assumption) rfl)) ?_
    refine Plan.q rfl (fun w S => Y.move (v := .slice _ _ _) rfl) ?_
    refine Plan.q rfl (fun w S => Y.move (v := .int .i64 _) rfl) ?_
    first | refine Plan.q rfl (fun w S => Y.ixN sl_54 rfl rfl (by (first | assumption | rfl)) (by (first | assumption | omega))) ?_ | refine Plan.q rfl (fun w S => Y.ix sl_54 rfl rfl (by (first | assumption | rfl)) (by (first | assumption | omega)) (by (first | assumption | omega))) ?_
    first | refine Plan.q rfl (fun w S => Y.load rfl (loadRd1 sz_2 (R1.ext S.ext) (by assumption) rfl)) ?_ | refine Plan.q rfl (fun w S => Y.load rfl (loadRd1 sz_2 (R2.ext S.ext) (by assumption) rfl)) ?_
    refine Plan.q rfl (fun w S => Y.neq rfl rfl) ?_
    refine Plan.nil (fun w S => ?_)
    replace S : Sat _ _ _ := S
    refine Then.nx ?_
    refine W.cond rfl (fun h3 => ?_) (fun h3 => ?_) -- cond 2
    ·
     have rh3 := h3
     (try simp only [Q1, Q2, Q3, Q4, Q5, Q6, Q7, Q8, Q9, Qa] at h3)
     refine W.seq ?_
     refine W.region rfl ?_
     refine WO.q (Y.assign (v := .bool _) rfl) ?_
     refine WO.nil ?_
     refine Then.nx ?_
     refine W.ret ?_
     refine InB.r ?_
     refine Then.r ?_
     refine Then.r ?_
     refine InB.r ?_
     refine Then.r ?_
     refine BodyQ.ret1 Tryd.results76 (ResV.tmp _ rfl) ?_
     exact ⟨retB (decide_eq_false (fun e => h3 (by rw [e, hy1] at hx1; exact (Option.some.inj hx1).symm))).symm, S.ext⟩
    ·
     have rh3 := h3
     (try simp only [Q1, Q2, Q3, Q4, Q5, Q6, Q7, Q8, Q9, Qa] at h3)
     have hn : xs[k]? = ys[k]? := by rw [hx1, hy1, h3]
     refine W.skip ?_
     refine InB.nx ?_
     refine Then.nx ?_
     refine W.region rfl ?_
     refine WO.q (Y.move (v := .int .i64 _) rfl) ?_
     first | refine WO.q (Y.addI rfl rfl (by omega)) ?_ | refine WO.q (Y.add rfl rfl) ?_
     refine WO.q (Y.assign (v := .int .i64 _) rfl) ?_
     refine WO.nil ?_
     refine Then.nx ⟨?_, ?_, ?_⟩
     ·
      (repeat (first | exact Out.hav _ _ _ | exact Out.refl _ _ | refine Out.up rfl ?_ | refine Out.sub rfl ?_))
     ·
      exact ⟨k + 1, rfl, by omega, fun j h => by rcases Nat.lt_succ_iff_lt_or_eq.1 h with h | rfl; exact hj j h; exact hn, S⟩
     ·
      (show xs.length - (k + 1) < xs.length - k; omega)
   ·
    have rh2 := h2
    (try simp only [Q1, Q2, Q3, Q4, Q5, Q6, Q7, Q8, Q9, Qa] at h2)
    refine W.exit ?_
    refine Then.x ?_
    refine Then.x ?_
    refine InB.e ?_
    refine Then.nx ?_
    refine W.seq ?_
    refine W.region rfl ?_
    refine WO.q (Y.assign (v := .bool _) rfl) ?_
    refine WO.nil ?_
    refine Then.nx ?_
    refine W.ret ?_
    refine BodyQ.ret1 Tryd.results76 (ResV.tmp _ rfl) ?_
    exact ⟨retB (decide_eq_true (List.ext_getElem? (fun j => by by_cases h : j < xs.length; exact hj j (by omega); rw [List.getElem?_eq_none (by omega), List.getElem?_eq_none (by omega)]))).symm, S.ext⟩
theorem CopyCalls_spec (w0 : World) (a : Option Addr) (ca : Nat) (xs : List GCall) (R1 : Rd tCall w0 a xs) (hx : xs.length * 56 ≤ 140737488355328) :
    Calls Tryd.prog 22 [.slice a xs.length ca].toArray w0 (fun e w => ∃ a' c' e', e = .returned (.slice a' xs.length c') ∧ Sat w0 w [Own tCall e' a' c' xs]) := by
 have hxl : xs.length ≤ maxLen := by (simp only [maxLen]; omega)
 have S := (Sat.refl w0).nilOwn tCall 58
 refine calls_of_W (args := [.slice a xs.length ca]) 7 Tryd.func22 rfl Tryd.ntmps22 rfl ?_
 refine W.seq ?_
 refine W.region rfl ?_
 refine WO.q (Y.assign (v := .slice _ _ _) rfl) ?_
 refine WO.nil ?_
 refine Then.nx ?_
 refine W.seq ?_
 refine W.region rfl ?_
 refine WO.q (Y.assign (v := .slice _ _ _) rfl) ?_
 refine WO.nil ?_
 refine Then.nx ?_
 refine W.seq ?_
 refine W.region rfl ?_
 refine WO.q (Y.move (v := .slice _ _ _) rfl) ?_
 refine WO.q (Y.move (v := .slice _ _ _) rfl) ?_
 first | refine WO.e (O.append 0 sl_22 S rfl rfl (by (first | rfl | simp)) rfl (S.rd1 0 rfl) (by (first | rfl | simp)) (by (first | (simp only [List.length_nil]; omega) | (simp only [List.length_nil, Nat.zero_add]; exact hxl))) (by (first | (simp only [List.length_nil]; omega) | (simp only [List.length_nil, Nat.zero_add]; exact hxl))) (fun a6 c6 w S hn6 => ?_)) | refine WO.e (O.append 0 sl_22 S rfl rfl (by (first | rfl | simp)) rfl (S.rd1 1 rfl) (by (first | rfl | simp)) (by (first | (simp only [List.length_nil]; omega) | (simp only [List.length_nil, Nat.zero_add]; exact hxl))) (by (first | (simp only [List.length_nil]; omega) | (simp only [List.length_nil, Nat.zero_add]; exact hxl))) (fun a6 c6 w S hn6 => ?_)) | refine WO.e (O.append 0 sl_22 S rfl rfl (by (first | rfl | simp)) rfl (S.rd1 2 rfl) (by (first | rfl | simp)) (by (first | (simp only [List.length_nil]; omega) | (simp only [List.length_nil, Nat.zero_add]; exact hxl))) (by (first | (simp only [List.length_nil]; omega) | (simp only [List.length_nil, Nat.zero_add]; exact hxl))) (fun a6 c6 w S hn6 => ?_)) | refine WO.e (O.append 0 sl_22 S rfl rfl (by (first | rfl | simp)) rfl (R1.ext S.ext) (by (first | rfl | simp)) (by (first | (simp only [List.length_nil]; omega) | (simp only [List.length_nil, Nat.zero_add]; exact hxl))) (by (first | (simp only [List.length_nil]; omega) | (simp only [List.length_nil, Nat.zero_add]; exact hxl))) (fun a6 c6 w S hn6 => ?_))
 refine WO.q (Y.assign (v := .slice _ _ _) rfl) ?_
 refine WO.nil ?_
 refine Then.nx ?_
 refine W.ret ?_
 refine BodyQ.ret1 Tryd.results22 (ResV.tmp _ rfl) ?_
 exact ⟨_, _, _, by simp only [List.nil_append]; rfl, S⟩
theorem CopyAccesses_spec (w0 : World) (a : Option Addr) (ca : Nat) (xs : List Access) (R1 : Rd tAccess w0 a xs) (hx : xs.length * 64 ≤ 140737488355328) :
    Calls Tryd.prog 24 [.slice a xs.length ca].toArray w0 (fun e w => ∃ a' c' e', e = .returned (.slice a' xs.length c') ∧ Sat w0 w [Own tAccess e' a' c' xs]) := by
 have hxl : xs.length ≤ maxLen := by (simp only [maxLen]; omega)
 have S := (Sat.refl w0).nilOwn tAccess 71
 refine calls_of_W (args := [.slice a xs.length ca]) 7 Tryd.func24 rfl Tryd.ntmps24 rfl ?_
 refine W.seq ?_
 refine W.region rfl ?_
 refine WO.q (Y.assign (v := .slice _ _ _) rfl) ?_
 refine WO.nil ?_
 refine Then.nx ?_
 refine W.seq ?_
 refine W.region rfl ?_
 refine WO.q (Y.assign (v := .slice _ _ _) rfl) ?_
 refine WO.nil ?_
 refine Then.nx ?_
 refine W.seq ?_
 refine W.region rfl ?_
 refine WO.q (Y.move (v := .slice _ _ _) rfl) ?_
 refine WO.q (Y.move (v := .slice _ _ _) rfl) ?_
 first | refine WO.e (O.append 0 sl_64 S rfl rfl (by (first | rfl | simp)) rfl (S.rd1 0 rfl) (by (first | rfl | simp)) (by (first | (simp only [List.length_nil]; omega) | (simp only [List.length_nil, Nat.zero_add]; exact hxl))) (by (first | (simp only [List.length_nil]; omega) | (simp only [List.length_nil, Nat.zero_add]; exact hxl))) (fun a6 c6 w S hn6 => ?_)) | refine WO.e (O.append 0 sl_64 S rfl rfl (by (first | rfl | simp)) rfl (S.rd1 1 rfl) (by (first | rfl | simp)) (by (first | (simp only [List.length_nil]; omega) | (simp only [List.length_nil, Nat.zero_add]; exact hxl))) (by (first | (simp only [List.length_nil]; omega) | (simp only [List.length_nil, Nat.zero_add]; exact hxl))) (fun a6 c6 w S hn6 => ?_)) | refine WO.e (O.append 0 sl_64 S rfl rfl (by (first | rfl | simp)) rfl (S.rd1 2 rfl) (by (first | rfl | simp)) (by (first | (simp only [List.length_nil]; omega) | (simp only [List.length_nil, Nat.zero_add]; exact hxl))) (by (first | (simp only [List.length_nil]; omega) | (simp only [List.length_nil, Nat.zero_add]; exact hxl))) (fun a6 c6 w S hn6 => ?_)) | refine WO.e (O.append 0 sl_64 S rfl rfl (by (first | rfl | simp)) rfl (R1.ext S.ext) (by (first | rfl | simp)) (by (first | (simp only [List.length_nil]; omega) | (simp only [List.length_nil, Nat.zero_add]; exact hxl))) (by (first | (simp only [List.length_nil]; omega) | (simp only [List.length_nil, Nat.zero_add]; exact hxl))) (fun a6 c6 w S hn6 => ?_))
 refine WO.q (Y.assign (v := .slice _ _ _) rfl) ?_
 refine WO.nil ?_
 refine Then.nx ?_
 refine W.ret ?_
 refine BodyQ.ret1 Tryd.results24 (ResV.tmp _ rfl) ?_
 exact ⟨_, _, _, by simp only [List.nil_append]; rfl, S⟩
end Go.Proofs
