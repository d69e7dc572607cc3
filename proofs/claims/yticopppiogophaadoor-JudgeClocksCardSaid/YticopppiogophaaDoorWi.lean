/-
  Walks of Linear.
-/
import Derived.Test.YticopppiogophaaDoorTp
import Derived.Test.YticopppiogophaaDoorTo
import Derived.Test.YticopppiogophaaDoorSx
import Derived.Test.YticopppiogophaaDoorFa
import Derived.Test.YticopppiogophaaDoorFb
import Derived.Test.YticopppiogophaaDoorFc
import Derived.Test.YticopppiogophaaDoorWh
set_option linter.unusedVariables false
set_option linter.unusedSimpArgs false
set_option maxRecDepth 100000
set_option maxHeartbeats 1000000
namespace Go.Proofs
open Go Go.TL Go.RowKit
theorem Linear_spec (w0 : World) (htab : Lib.TabIs Tryd.prog w0 "internal/strconv.uint64pow10" .u64 Lib.pow10Tab) (k : Int) (h : List GCall) (a : Option Addr) (cap : Nat) (R1 : Rd tCall w0 a h) (hlm : h.length ≤ 9223372036854775807) (hI : ∀ c ∈ h, I64 c.arg ∧ I64 c.new) :
    Calls Tryd.prog 12 [.int .i64 k, .slice a h.length cap].toArray w0 (fun e w => ∃ a' c', e = .returned (.tuple #[.slice a' (linR k h).length c', .bool (linB k h), .int .i64 (linE k h)]) ∧ Sat w0 w [Own tN 3 a' c' (linR k h)]) := by
 have S := Sat.refl w0
 refine calls_of_W (args := [.int .i64 k, .slice a h.length cap]) 55 Tryd.func12 rfl Tryd.ntmps12 rfl ?_
 refine W.seq ?_
 refine W.region rfl ?_
 refine WO.e (O.box rfl rfl S (fun b3 w S => ?_))
 refine WO.q (Y.assign (v := .slice _ _ _) rfl) ?_
 refine WO.q (Y.assign (v := .bool _) rfl) ?_
 refine WO.q (Y.assign (v := .int .i64 _) rfl) ?_
 refine WO.nil ?_
 refine Then.nx ?_
 refine W.seq ?_
 refine W.region rfl ?_
 refine WO.q (Y.move (v := .int .i64 _) rfl) ?_
 refine WO.e (O.alloc z_89 S (fun b7 w S => ?_))
 first | refine WO.e0 (O.store (v := .int .i64 _) 0 S rfl rfl rfl sz_89 rfl rfl rfl rfl (fun w S => ?_)) | refine WO.e0 (O.store (v := .int .i64 _) 1 S rfl rfl rfl sz_89 rfl rfl rfl rfl (fun w S => ?_)) | refine WO.e0 (O.store (v := .int .i64 _) 2 S rfl rfl rfl sz_89 rfl rfl rfl rfl (fun w S => ?_)) | refine WO.e0 (O.store (v := .int .i64 _) 3 S rfl rfl rfl sz_89 rfl rfl rfl rfl (fun w S => ?_)) | refine WO.e0 (O.store (v := .int .i64 _) 4 S rfl rfl rfl sz_89 rfl rfl rfl rfl (fun w S => ?_)) | refine WO.e0 (O.store (v := .int .i64 _) 5 S rfl rfl rfl sz_89 rfl rfl rfl rfl (fun w S => ?_)) | refine WO.e0 (O.store (v := .int .i64 _) 6 S rfl rfl rfl sz_89 rfl rfl rfl rfl (fun w S => ?_)) | refine WO.e0 (O.store (v := .int .i64 _) 7 S rfl rfl rfl sz_89 rfl rfl rfl rfl (fun w S => ?_)) | refine WO.e0 (O.store (v := .int .i64 _) 8 S rfl rfl rfl sz_89 rfl rfl rfl rfl (fun w S => ?_)) | refine WO.e0 (O.store (v := .int .i64 _) 9 S rfl rfl rfl sz_89 rfl rfl rfl rfl (fun w S => ?_)) | refine WO.e0 (O.store (v := .int .i64 _) 10 S rfl rfl rfl sz_89 rfl rfl rfl rfl (fun w S => ?_)) | refine WO.e0 (O.store (v := .int .i64 _) 11 S rfl rfl rfl sz_89 rfl rfl rfl rfl (fun w S => ?_)) | refine WO.e0 (O.store (v := .int .i64 _) 12 S rfl rfl rfl sz_89 rfl rfl rfl rfl (fun w S => ?_)) | refine WO.e0 (O.store (v := .int .i64 _) 13 S rfl rfl rfl sz_89 rfl rfl rfl rfl (fun w S => ?_))
 refine WO.nil ?_
 refine Then.nx ?_
 refine W.seq ?_
 refine W.seq ?_
 refine W.region rfl ?_
 first | refine WO.q (Y.load rfl (loadS1 sz_89 S 0 rfl rfl)) ?_ | refine WO.q (Y.load rfl (loadS1 sz_89 S 1 rfl rfl)) ?_ | refine WO.q (Y.load rfl (loadS1 sz_89 S 2 rfl rfl)) ?_ | refine WO.q (Y.load rfl (loadS1 sz_89 S 3 rfl rfl)) ?_ | refine WO.q (Y.load rfl (loadS1 sz_89 S 4 rfl rfl)) ?_ | refine WO.q (Y.load rfl (loadS1 sz_89 S 5 rfl rfl)) ?_ | refine WO.q (Y.load rfl (loadS1 sz_89 S 6 rfl rfl)) ?_ | refine WO.q (Y.load rfl (loadS1 sz_89 S 7 rfl rfl)) ?_ | refine WO.q (Y.load rfl (loadS1 sz_89 S 8 rfl rfl)) ?_ | refine WO.q (Y.load rfl (loadS1 sz_89 S 9 rfl rfl)) ?_ | refine WO.q (Y.load rfl (loadS1 sz_89 S 10 rfl rfl)) ?_ | refine WO.q (Y.load rfl (loadS1 sz_89 S 11 rfl rfl)) ?_ | refine WO.q (Y.load rfl (loadS1 sz_89 S 12 rfl rfl)) ?_ | refine WO.q (Y.load rfl (loadS1 sz_89 S 13 rfl rfl)) ?_
 refine WO.q (Y.lss rfl rfl) ?_
 refine WO.q (Y.move (v := .bool _) rfl) ?_
 refine WO.splitB (fun h1 => ?_) (fun h1 => ?_)
 ·
  (try simp only [Q1, Q2, Q3, Q4, Q5, Q6, Q7, Q8, Q9, Qa] at h1)
  refine WO.qF rfl ?_
  refine WO.qF rfl ?_
  refine WO.q (Y.pickT (u := .bool _) rfl rfl) ?_
  refine WO.nil ?_
  refine Then.nx ?_
  first | refine W.condT rfl ?_ | refine W.condT (congrArg Value.bool (by assumption)) ?_
  refine W.seq ?_
  refine W.region rfl ?_
  refine WO.q (Y.assign (v := .slice _ _ _) rfl) ?_
  refine WO.q (Y.assign (v := .bool _) rfl) ?_
  refine WO.q (Y.assign (v := .int .i64 _) rfl) ?_
  refine WO.nil ?_
  refine Then.nx ?_
  refine W.ret ?_
  refine Then.r ?_
  refine BodyQ.ret3 Tryd.results12 (ResV.tmp _ rfl) (ResV.tmp _ rfl) (ResV.tmp _ rfl) ?_
  obtain ⟨e1, e2, e3⟩ := lin_arg (k := k) (h := h) (by omega); rw [e1, e2, e3]; exact ⟨none, 0, rfl, (S.nil).nilOwn tN 3⟩
 ·
  (try simp only [Q1, Q2, Q3, Q4, Q5, Q6, Q7, Q8, Q9, Qa] at h1)
  first | refine WO.qT rfl (Y.load rfl (loadS1 sz_89 S 0 rfl rfl)) ?_ | refine WO.qT rfl (Y.load rfl (loadS1 sz_89 S 1 rfl rfl)) ?_ | refine WO.qT rfl (Y.load rfl (loadS1 sz_89 S 2 rfl rfl)) ?_ | refine WO.qT rfl (Y.load rfl (loadS1 sz_89 S 3 rfl rfl)) ?_ | refine WO.qT rfl (Y.load rfl (loadS1 sz_89 S 4 rfl rfl)) ?_ | refine WO.qT rfl (Y.load rfl (loadS1 sz_89 S 5 rfl rfl)) ?_ | refine WO.qT rfl (Y.load rfl (loadS1 sz_89 S 6 rfl rfl)) ?_ | refine WO.qT rfl (Y.load rfl (loadS1 sz_89 S 7 rfl rfl)) ?_ | refine WO.qT rfl (Y.load rfl (loadS1 sz_89 S 8 rfl rfl)) ?_ | refine WO.qT rfl (Y.load rfl (loadS1 sz_89 S 9 rfl rfl)) ?_ | refine WO.qT rfl (Y.load rfl (loadS1 sz_89 S 10 rfl rfl)) ?_ | refine WO.qT rfl (Y.load rfl (loadS1 sz_89 S 11 rfl rfl)) ?_ | refine WO.qT rfl (Y.load rfl (loadS1 sz_89 S 12 rfl rfl)) ?_ | refine WO.qT rfl (Y.load rfl (loadS1 sz_89 S 13 rfl rfl)) ?_
  refine WO.qT rfl (Y.gtr rfl rfl) ?_
  refine WO.q (Y.pickF (u := .bool _) rfl rfl) ?_
  refine WO.nil ?_
  refine Then.nx ?_
  refine W.cond rfl (fun h2 => ?_) (fun h2 => ?_) -- cond 0
  ·
   have rh2 := h2
   (try simp only [Q1, Q2, Q3, Q4, Q5, Q6, Q7, Q8, Q9, Qa] at h2)
   refine W.seq ?_
   refine W.region rfl ?_
   refine WO.q (Y.assign (v := .slice _ _ _) rfl) ?_
   refine WO.q (Y.assign (v := .bool _) rfl) ?_
   refine WO.q (Y.assign (v := .int .i64 _) rfl) ?_
   refine WO.nil ?_
   refine Then.nx ?_
   refine W.ret ?_
   refine Then.r ?_
   refine BodyQ.ret3 Tryd.results12 (ResV.tmp _ rfl) (ResV.tmp _ rfl) (ResV.tmp _ rfl) ?_
   obtain ⟨e1, e2, e3⟩ := lin_arg (k := k) (h := h) (by omega); rw [e1, e2, e3]; exact ⟨none, 0, rfl, (S.nil).nilOwn tN 3⟩
  ·
   have rh2 := h2
   (try simp only [Q1, Q2, Q3, Q4, Q5, Q6, Q7, Q8, Q9, Qa] at h2)
   refine W.skip ?_
   refine Then.nx ?_
   refine W.seq ?_
   refine W.seq ?_
   refine W.region rfl ?_
   first | refine WO.q (Y.load rfl (loadS1 sz_22 S 0 rfl rfl)) ?_ | refine WO.q (Y.load rfl (loadS1 sz_22 S 1 rfl rfl)) ?_ | refine WO.q (Y.load rfl (loadS1 sz_22 S 2 rfl rfl)) ?_ | refine WO.q (Y.load rfl (loadS1 sz_22 S 3 rfl rfl)) ?_ | refine WO.q (Y.load rfl (loadS1 sz_22 S 4 rfl rfl)) ?_ | refine WO.q (Y.load rfl (loadS1 sz_22 S 5 rfl rfl)) ?_ | refine WO.q (Y.load rfl (loadS1 sz_22 S 6 rfl rfl)) ?_ | refine WO.q (Y.load rfl (loadS1 sz_22 S 7 rfl rfl)) ?_ | refine WO.q (Y.load rfl (loadS1 sz_22 S 8 rfl rfl)) ?_ | refine WO.q (Y.load rfl (loadS1 sz_22 S 9 rfl rfl)) ?_ | refine WO.q (Y.load rfl (loadS1 sz_22 S 10 rfl rfl)) ?_ | refine WO.q (Y.load rfl (loadS1 sz_22 S 11 rfl rfl)) ?_ | refine WO.q (Y.load rfl (loadS1 sz_22 S 12 rfl rfl)) ?_ | refine WO.q (Y.load rfl (loadS1 sz_22 S 13 rfl rfl)) ?_
   refine WO.q (Y.len (t' := 0) Tryd.underlying22 rfl) ?_
   refine WO.q (Y.gtr rfl rfl) ?_
   refine WO.nil ?_
   refine Then.nx ?_
   refine W.cond rfl (fun h3 => ?_) (fun h3 => ?_) -- cond 1
   ·
    have rh3 := h3
    (try simp only [Q1, Q2, Q3, Q4, Q5, Q6, Q7, Q8, Q9, Qa] at h3)
    refine W.seq ?_
    refine W.region rfl ?_
    refine WO.q (Y.assign (v := .slice _ _ _) rfl) ?_
    refine WO.q (Y.assign (v := .bool _) rfl) ?_
    refine WO.q (Y.assign (v := .int .i64 _) rfl) ?_
    refine WO.nil ?_
    refine Then.nx ?_
    refine W.ret ?_
    refine Then.r ?_
    refine BodyQ.ret3 Tryd.results12 (ResV.tmp _ rfl) (ResV.tmp _ rfl) (ResV.tmp _ rfl) ?_
    obtain ⟨e1, e2, e3⟩ := lin_long (k := k) (h := h) (by omega) (by omega); rw [e1, e2, e3]; exact ⟨none, 0, rfl, (S.nil).nilOwn tN 3⟩
   ·
    have rh3 := h3
    (try simp only [Q1, Q2, Q3, Q4, Q5, Q6, Q7, Q8, Q9, Qa] at h3)
    refine W.skip ?_
    refine Then.nx ?_
    refine W.seq ?_
    refine W.region rfl ?_
    refine WO.e (O.alloc z_3 S (fun b8 w S => ?_))
    first | refine WO.e0 (O.store (v := .int .i64 _) 0 S rfl rfl rfl sz_3 rfl rfl rfl rfl (fun w S => ?_)) | refine WO.e0 (O.store (v := .int .i64 _) 1 S rfl rfl rfl sz_3 rfl rfl rfl rfl (fun w S => ?_)) | refine WO.e0 (O.store (v := .int .i64 _) 2 S rfl rfl rfl sz_3 rfl rfl rfl rfl (fun w S => ?_)) | refine WO.e0 (O.store (v := .int .i64 _) 3 S rfl rfl rfl sz_3 rfl rfl rfl rfl (fun w S => ?_)) | refine WO.e0 (O.store (v := .int .i64 _) 4 S rfl rfl rfl sz_3 rfl rfl rfl rfl (fun w S => ?_)) | refine WO.e0 (O.store (v := .int .i64 _) 5 S rfl rfl rfl sz_3 rfl rfl rfl rfl (fun w S => ?_)) | refine WO.e0 (O.store (v := .int .i64 _) 6 S rfl rfl rfl sz_3 rfl rfl rfl rfl (fun w S => ?_)) | refine WO.e0 (O.store (v := .int .i64 _) 7 S rfl rfl rfl sz_3 rfl rfl rfl rfl (fun w S => ?_)) | refine WO.e0 (O.store (v := .int .i64 _) 8 S rfl rfl rfl sz_3 rfl rfl rfl rfl (fun w S => ?_)) | refine WO.e0 (O.store (v := .int .i64 _) 9 S rfl rfl rfl sz_3 rfl rfl rfl rfl (fun w S => ?_)) | refine WO.e0 (O.store (v := .int .i64 _) 10 S rfl rfl rfl sz_3 rfl rfl rfl rfl (fun w S => ?_)) | refine WO.e0 (O.store (v := .int .i64 _) 11 S rfl rfl rfl sz_3 rfl rfl rfl rfl (fun w S => ?_)) | refine WO.e0 (O.store (v := .int .i64 _) 12 S rfl rfl rfl sz_3 rfl rfl rfl rfl (fun w S => ?_)) | refine WO.e0 (O.store (v := .int .i64 _) 13 S rfl rfl rfl sz_3 rfl rfl rfl rfl (fun w S => ?_))
    refine WO.nil ?_
    refine Then.nx ?_
    refine W.seq ?_
    refine W.seq ?_
    refine W.region rfl ?_
    first | refine WO.q (Y.load rfl (loadS1 sz_22 S 0 rfl rfl)) ?_ | refine WO.q (Y.load rfl (loadS1 sz_22 S 1 rfl rfl)) ?_ | refine WO.q (Y.load rfl (loadS1 sz_22 S 2 rfl rfl)) ?_ | refine WO.q (Y.load rfl (loadS1 sz_22 S 3 rfl rfl)) ?_ | refine WO.q (Y.load rfl (loadS1 sz_22 S 4 rfl rfl)) ?_ | refine WO.q (Y.load rfl (loadS1 sz_22 S 5 rfl rfl)) ?_ | refine WO.q (Y.load rfl (loadS1 sz_22 S 6 rfl rfl)) ?_ | refine WO.q (Y.load rfl (loadS1 sz_22 S 7 rfl rfl)) ?_ | refine WO.q (Y.load rfl (loadS1 sz_22 S 8 rfl rfl)) ?_ | refine WO.q (Y.load rfl (loadS1 sz_22 S 9 rfl rfl)) ?_ | refine WO.q (Y.load rfl (loadS1 sz_22 S 10 rfl rfl)) ?_ | refine WO.q (Y.load rfl (loadS1 sz_22 S 11 rfl rfl)) ?_ | refine WO.q (Y.load rfl (loadS1 sz_22 S 12 rfl rfl)) ?_ | refine WO.q (Y.load rfl (loadS1 sz_22 S 13 rfl rfl)) ?_
    refine WO.q (Y.len (t' := 0) Tryd.underlying22 rfl) ?_
    refine WO.q (Y.move (v := .int .i64 _) rfl) ?_
    refine WO.nil ?_
    refine Then.nx ?_
    refine W.block ?_
    -- loop 0 carries 27
    refine W.loop1 [4, 5, 6, 9, 10, 27, 28, 29, 30, 31, 32, 33, 34, 35, 36, 37, 38, 39, 40, 41, 42, 43] 27 (fun v27 w => ∃ i : Nat, v27 = .int .i64 (i : Int) ∧ i ≤ h.length ∧ (h.take i).all (rightB k) = true ∧ Sat w0 w [Cel b8 [.int .i64 (mustOf h i : Int)] 3, Cel b7 [.int .i64 k] 89, Cel b3 [.slice a h.length cap] 22]) (fun v27 w => h.length - (intOf v27).toNat) ?_ ?_
    ·
     exact ⟨0, rfl, by omega, by simp, S⟩
    ·
     rintro g0 v27 w ⟨i, rfl, hi, hall, S⟩
     refine W.seq ?_
     refine W.region rfl ?_
     refine WO.q (Y.lss rfl rfl) ?_
     refine WO.nil ?_
     refine Then.nx ?_
     refine W.seq ?_
     refine W.cond rfl (fun h4 => ?_) (fun h4 => ?_) -- cond 2
     ·
      have rh4 := h4
      (try simp only [Q1, Q2, Q3, Q4, Q5, Q6, Q7, Q8, Q9, Qa] at h4)
      have ha := R1.1 (by omega)
      obtain ⟨x, hx1⟩ := at_ex (xs := h) (k := i) (by omega)
      have hmi := mustOf_lt h i (by omega)
      refine W.skip ?_
      refine Then.nx ?_
      refine W.seq ?_
      refine W.block ?_
      refine W.seq ?_
      refine W.region rfl ?_
      refine WO.q (Y.move (v := .int .i64 _) rfl) ?_
      first | refine WO.q (Y.ixN sl_22 rfl rfl (by (first | assumption | rfl)) (by (first | assumption | omega))) ?_ | refine WO.q (Y.ix sl_22 rfl rfl (by (first | assumption | rfl)) (by (first | assumption | omega)) (by (first | assumption | omega))) ?_
      refine WO.q (Y.load rfl (loadRdN sz_58 (R1.ext S.ext) (by assumption))) ?_
      refine WO.e (O.alloc z_58 S (fun b10 w S => ?_))
      refine WO.q (Y.assign (v := .int .i64 _) rfl) ?_
      first | refine WO.e0 (O.store (v := .agg _) 0 S rfl rfl rfl sz_58 rfl rfl rfl rfl (fun w S => ?_)) | refine WO.e0 (O.store (v := .agg _) 1 S rfl rfl rfl sz_58 rfl rfl rfl rfl (fun w S => ?_)) | refine WO.e0 (O.store (v := .agg _) 2 S rfl rfl rfl sz_58 rfl rfl rfl rfl (fun w S => ?_)) | refine WO.e0 (O.store (v := .agg _) 3 S rfl rfl rfl sz_58 rfl rfl rfl rfl (fun w S => ?_)) | refine WO.e0 (O.store (v := .agg _) 4 S rfl rfl rfl sz_58 rfl rfl rfl rfl (fun w S => ?_)) | refine WO.e0 (O.store (v := .agg _) 5 S rfl rfl rfl sz_58 rfl rfl rfl rfl (fun w S => ?_)) | refine WO.e0 (O.store (v := .agg _) 6 S rfl rfl rfl sz_58 rfl rfl rfl rfl (fun w S => ?_)) | refine WO.e0 (O.store (v := .agg _) 7 S rfl rfl rfl sz_58 rfl rfl rfl rfl (fun w S => ?_)) | refine WO.e0 (O.store (v := .agg _) 8 S rfl rfl rfl sz_58 rfl rfl rfl rfl (fun w S => ?_)) | refine WO.e0 (O.store (v := .agg _) 9 S rfl rfl rfl sz_58 rfl rfl rfl rfl (fun w S => ?_)) | refine WO.e0 (O.store (v := .agg _) 10 S rfl rfl rfl sz_58 rfl rfl rfl rfl (fun w S => ?_)) | refine WO.e0 (O.store (v := .agg _) 11 S rfl rfl rfl sz_58 rfl rfl rfl rfl (fun w S => ?_)) | refine WO.e0 (O.store (v := .agg _) 12 S rfl rfl rfl sz_58 rfl rfl rfl rfl (fun w S => ?_)) | refine WO.e0 (O.store (v := .agg _) 13 S rfl rfl rfl sz_58 rfl rfl rfl rfl (fun w S => ?_))
      refine WO.nil ?_
      refine Then.nx ?_
      refine W.seq ?_
      refine W.seq ?_
      refine W.region rfl ?_
      first | refine WO.q (Y.load rfl (loadS1 sz_89 S 0 rfl rfl)) ?_ | refine WO.q (Y.load rfl (loadS1 sz_89 S 1 rfl rfl)) ?_ | refine WO.q (Y.load rfl (loadS1 sz_89 S 2 rfl rfl)) ?_ | refine WO.q (Y.load rfl (loadS1 sz_89 S 3 rfl rfl)) ?_ | refine WO.q (Y.load rfl (loadS1 sz_89 S 4 rfl rfl)) ?_ | refine WO.q (Y.load rfl (loadS1 sz_89 S 5 rfl rfl)) ?_ | refine WO.q (Y.load rfl (loadS1 sz_89 S 6 rfl rfl)) ?_ | refine WO.q (Y.load rfl (loadS1 sz_89 S 7 rfl rfl)) ?_ | refine WO.q (Y.load rfl (loadS1 sz_89 S 8 rfl rfl)) ?_ | refine WO.q (Y.load rfl (loadS1 sz_89 S 9 rfl rfl)) ?_ | refine WO.q (Y.load rfl (loadS1 sz_89 S 10 rfl rfl)) ?_ | refine WO.q (Y.load rfl (loadS1 sz_89 S 11 rfl rfl)) ?_ | refine WO.q (Y.load rfl (loadS1 sz_89 S 12 rfl rfl)) ?_ | refine WO.q (Y.load rfl (loadS1 sz_89 S 13 rfl rfl)) ?_
      first | refine WO.q (Y.load rfl (loadSN sz_58 S 0 rfl rfl rfl)) ?_ | refine WO.q (Y.load rfl (loadSN sz_58 S 1 rfl rfl rfl)) ?_ | refine WO.q (Y.load rfl (loadSN sz_58 S 2 rfl rfl rfl)) ?_ | refine WO.q (Y.load rfl (loadSN sz_58 S 3 rfl rfl rfl)) ?_ | refine WO.q (Y.load rfl (loadSN sz_58 S 4 rfl rfl rfl)) ?_ | refine WO.q (Y.load rfl (loadSN sz_58 S 5 rfl rfl rfl)) ?_ | refine WO.q (Y.load rfl (loadSN sz_58 S 6 rfl rfl rfl)) ?_ | refine WO.q (Y.load rfl (loadSN sz_58 S 7 rfl rfl rfl)) ?_ | refine WO.q (Y.load rfl (loadSN sz_58 S 8 rfl rfl rfl)) ?_ | refine WO.q (Y.load rfl (loadSN sz_58 S 9 rfl rfl rfl)) ?_ | refine WO.q (Y.load rfl (loadSN sz_58 S 10 rfl rfl rfl)) ?_ | refine WO.q (Y.load rfl (loadSN sz_58 S 11 rfl rfl rfl)) ?_ | refine WO.q (Y.load rfl (loadSN sz_58 S 12 rfl rfl rfl)) ?_ | refine WO.q (Y.load rfl (loadSN sz_58 S 13 rfl rfl rfl)) ?_
      refine WO.e (O.call cf_41 rfl (right_spec _ k x) ?_)
      rintro _ w ⟨rfl, E⟩
      replace S := S.keep E
      refine ⟨_, rfl, ?_⟩
      refine WO.q (Y.not rfl) ?_
      refine WO.nil ?_
      refine Then.nx ?_
      refine W.cond rfl (fun h5 => ?_) (fun h5 => ?_) -- cond 3
      ·
       have rh5 := h5
       (try simp only [Q1, Q2, Q3, Q4, Q5, Q6, Q7, Q8, Q9, Qa] at h5)
       refine W.seq ?_
       refine W.region rfl ?_
       refine WO.q (Y.assign (v := .slice _ _ _) rfl) ?_
       refine WO.q (Y.assign (v := .bool _) rfl) ?_
       refine WO.q (Y.assign (v := .int .i64 _) rfl) ?_
       refine WO.nil ?_
       refine Then.nx ?_
       refine W.ret ?_
       refine Then.r ?_
       refine InB.r ?_
       refine Then.r ?_
       refine Then.r ?_
       refine InB.r ?_
       refine Then.r ?_
       refine BodyQ.ret3 Tryd.results12 (ResV.tmp _ rfl) (ResV.tmp _ rfl) (ResV.tmp _ rfl) ?_
       obtain ⟨e1, e2, e3⟩ := lin_bad (k := k) (h := h) (by omega) (by omega) (List.mem_of_getElem? hx1) (by assumption); rw [e1, e2, e3]; exact ⟨none, 0, rfl, (S.nil).nilOwn tN 3⟩
      ·
       have rh5 := h5
       (try simp only [Q1, Q2, Q3, Q4, Q5, Q6, Q7, Q8, Q9, Qa] at h5)
       refine W.skip ?_
       refine Then.nx ?_
       refine W.seq ?_
       refine W.region rfl ?_
       refine WO.q (Y.fieldB fo_58_6 rfl) ?_
       first | refine WO.q (Y.load rfl (loadS1 sz_3 S 0 rfl rfl)) ?_ | refine WO.q (Y.load rfl (loadS1 sz_3 S 1 rfl rfl)) ?_ | refine WO.q (Y.load rfl (loadS1 sz_3 S 2 rfl rfl)) ?_ | refine WO.q (Y.load rfl (loadS1 sz_3 S 3 rfl rfl)) ?_ | refine WO.q (Y.load rfl (loadS1 sz_3 S 4 rfl rfl)) ?_ | refine WO.q (Y.load rfl (loadS1 sz_3 S 5 rfl rfl)) ?_ | refine WO.q (Y.load rfl (loadS1 sz_3 S 6 rfl rfl)) ?_ | refine WO.q (Y.load rfl (loadS1 sz_3 S 7 rfl rfl)) ?_ | refine WO.q (Y.load rfl (loadS1 sz_3 S 8 rfl rfl)) ?_ | refine WO.q (Y.load rfl (loadS1 sz_3 S 9 rfl rfl)) ?_ | refine WO.q (Y.load rfl (loadS1 sz_3 S 10 rfl rfl)) ?_ | refine WO.q (Y.load rfl (loadS1 sz_3 S 11 rfl rfl)) ?_ | refine WO.q (Y.load rfl (loadS1 sz_3 S 12 rfl rfl)) ?_ | refine WO.q (Y.load rfl (loadS1 sz_3 S 13 rfl rfl)) ?_
       refine WO.q (Y.neq rfl rfl) ?_
       refine WO.nil ?_
       refine Then.nx ?_
       refine W.cond rfl (fun h6 => ?_) (fun h6 => ?_) -- cond 4
       ·
        have rh6 := h6
        (try simp only [Q1, Q2, Q3, Q4, Q5, Q6, Q7, Q8, Q9, Qa] at h6)
        have hsh : 1 <<< i < 4096 := by (rw [Nat.shiftLeft_eq, Nat.one_mul]; exact Nat.pow_lt_pow_right (m := i) (n := 12) (by decide) (by omega))
        refine W.draw (.q 0 (.q 1 (.q 2 (.q 3 (.e 4 .nil))))) (fun w => Sat _ w _) rfl rfl (by kernel_rfl) rfl (by kernel_rfl) (by repeat (first | exact BodyQ.noFrame | refine Then.noFrame ?_ | refine InB.noFrame ?_)) S.drew ?_
        clear S
        first | refine Plan.q rfl (fun w S => Y.load rfl (loadS1 sz_3 S 0 rfl rfl)) ?_ | refine Plan.q rfl (fun w S => Y.load rfl (loadS1 sz_3 S 1 rfl rfl)) ?_ | refine Plan.q rfl (fun w S => Y.load rfl (loadS1 sz_3 S 2 rfl rfl)) ?_ | refine Plan.q rfl (fun w S => Y.load rfl (loadS1 sz_3 S 3 rfl rfl)) ?_ | refine Plan.q rfl (fun w S => Y.load rfl (loadS1 sz_3 S 4 rfl rfl)) ?_ | refine Plan.q rfl (fun w S => Y.load rfl (loadS1 sz_3 S 5 rfl rfl)) ?_ | refine Plan.q rfl (fun w S => Y.load rfl (loadS1 sz_3 S 6 rfl rfl)) ?_ | refine Plan.q rfl (fun w S => Y.load rfl (loadS1 sz_3 S 7 rfl rfl)) ?_ | refine Plan.q rfl (fun w S => Y.load rfl (loadS1 sz_3 S 8 rfl rfl)) ?_ | refine Plan.q rfl (fun w S => Y.load rfl (loadS1 sz_3 S 9 rfl rfl)) ?_ | refine Plan.q rfl (fun w S => Y.load rfl (loadS1 sz_3 S 10 rfl rfl)) ?_ | refine Plan.q rfl (fun w S => Y.load rfl (loadS1 sz_3 S 11 rfl rfl)) ?_ | refine Plan.q rfl (fun w S => Y.load rfl (loadS1 sz_3 S 12 rfl rfl)) ?_ | refine Plan.q rfl (fun w S => Y.load rfl (loadS1 sz_3 S 13 rfl rfl)) ?_
        refine Plan.q rfl (fun w S => Y.move (v := .int .i64 _) rfl) ?_
        refine Plan.q rfl (fun w S => Y.shlN (x := 1) (y := i) rfl rfl (by omega) (by omega)) ?_
        refine Plan.q rfl (fun w S => Y.orN (x := mustOf h i) (y := 1 <<< i) rfl rfl (by omega) (by omega)) ?_
        first | refine Plan.e0 rfl (fun w S => O.store (v := .int .i64 _) 0 S rfl rfl rfl sz_3 rfl rfl rfl rfl (fun w S => ?_)) | refine Plan.e0 rfl (fun w S => O.store (v := .int .i64 _) 1 S rfl rfl rfl sz_3 rfl rfl rfl rfl (fun w S => ?_)) | refine Plan.e0 rfl (fun w S => O.store (v := .int .i64 _) 2 S rfl rfl rfl sz_3 rfl rfl rfl rfl (fun w S => ?_)) | refine Plan.e0 rfl (fun w S => O.store (v := .int .i64 _) 3 S rfl rfl rfl sz_3 rfl rfl rfl rfl (fun w S => ?_)) | refine Plan.e0 rfl (fun w S => O.store (v := .int .i64 _) 4 S rfl rfl rfl sz_3 rfl rfl rfl rfl (fun w S => ?_)) | refine Plan.e0 rfl (fun w S => O.store (v := .int .i64 _) 5 S rfl rfl rfl sz_3 rfl rfl rfl rfl (fun w S => ?_)) | refine Plan.e0 rfl (fun w S => O.store (v := .int .i64 _) 6 S rfl rfl rfl sz_3 rfl rfl rfl rfl (fun w S => ?_)) | refine Plan.e0 rfl (fun w S => O.store (v := .int .i64 _) 7 S rfl rfl rfl sz_3 rfl rfl rfl rfl (fun w S => ?_)) | refine Plan.e0 rfl (fun w S => O.store (v := .int .i64 _) 8 S rfl rfl rfl sz_3 rfl rfl rfl rfl (fun w S => ?_)) | refine Plan.e0 rfl (fun w S => O.store (v := .int .i64 _) 9 S rfl rfl rfl sz_3 rfl rfl rfl rfl (fun w S => ?_)) | refine Plan.e0 rfl (fun w S => O.store (v := .int .i64 _) 10 S rfl rfl rfl sz_3 rfl rfl rfl rfl (fun w S => ?_)) | refine Plan.e0 rfl (fun w S => O.store (v := .int .i64 _) 11 S rfl rfl rfl sz_3 rfl rfl rfl rfl (fun w S => ?_)) | refine Plan.e0 rfl (fun w S => O.store (v := .int .i64 _) 12 S rfl rfl rfl sz_3 rfl rfl rfl rfl (fun w S => ?_)) | refine Plan.e0 rfl (fun w S => O.store (v := .int .i64 _) 13 S rfl rfl rfl sz_3 rfl rfl rfl rfl (fun w S => ?_))
        refine ⟨(fun w => Sat _ w _), S, (.inl (by kernel_rfl)), ?_⟩
        clear S
        refine Plan.nil (fun w S => ?_)
        replace S : Sat _ _ _ := S
        refine InB.nx ?_
        refine Then.nx ?_
        refine W.region rfl ?_
        first | refine WO.q (Y.addI rfl rfl (by omega)) ?_ | refine WO.q (Y.add rfl rfl) ?_
        refine WO.q (Y.move (v := .int .i64 _) rfl) ?_
        refine WO.nil ?_
        refine Then.nx ⟨?_, ?_, ?_⟩
        ·
         (repeat (first | exact Out.hav _ _ _ | exact Out.refl _ _ | refine Out.up rfl ?_ | refine Out.sub rfl ?_))
        ·
         (have hal2 : (h.take (i + 1)).all (rightB k) = true := (by (rw [take_succ_at hx1, List.all_append, hall]; simp only [List.all_cons, List.all_nil, Bool.and_true, Bool.true_and]; assumption))); first | exact ⟨i + 1, rfl, by omega, hal2, by (rw [mustOf_succ hx1, if_pos (by omega)]; exact S.pk (by repeat (first | exact Pk.nil _ | exact Pk.refl _ | refine Pk.cons 0 rfl ?_ | refine Pk.cons 1 rfl ?_ | refine Pk.cons 2 rfl ?_ | refine Pk.cons 3 rfl ?_ | refine Pk.cons 4 rfl ?_ | refine Pk.cons 5 rfl ?_ | refine Pk.cons 6 rfl ?_ | refine Pk.cons 7 rfl ?_ | refine Pk.cons 8 rfl ?_ | refine Pk.cons 9 rfl ?_ | refine Pk.cons 10 rfl ?_ | refine Pk.cons 11 rfl ?_ | refine Pk.cons 12 rfl ?_ | refine Pk.cons 13 rfl ?_ | refine Pk.drop ?_)))⟩ | exact ⟨i + 1, rfl, by omega, hal2, by (rw [mustOf_succ hx1, if_neg (by omega)]; exact S.pk (by repeat (first | exact Pk.nil _ | exact Pk.refl _ | refine Pk.cons 0 rfl ?_ | refine Pk.cons 1 rfl ?_ | refine Pk.cons 2 rfl ?_ | refine Pk.cons 3 rfl ?_ | refine Pk.cons 4 rfl ?_ | refine Pk.cons 5 rfl ?_ | refine Pk.cons 6 rfl ?_ | refine Pk.cons 7 rfl ?_ | refine Pk.cons 8 rfl ?_ | refine Pk.cons 9 rfl ?_ | refine Pk.cons 10 rfl ?_ | refine Pk.cons 11 rfl ?_ | refine Pk.cons 12 rfl ?_ | refine Pk.cons 13 rfl ?_ | refine Pk.drop ?_)))⟩
        ·
         (show h.length - (i + 1) < h.length - i; omega)
       ·
        have rh6 := h6
        (try simp only [Q1, Q2, Q3, Q4, Q5, Q6, Q7, Q8, Q9, Qa] at h6)
        refine W.skip ?_
        refine InB.nx ?_
        refine Then.nx ?_
        refine W.region rfl ?_
        first | refine WO.q (Y.addI rfl rfl (by omega)) ?_ | refine WO.q (Y.add rfl rfl) ?_
        refine WO.q (Y.move (v := .int .i64 _) rfl) ?_
        refine WO.nil ?_
        refine Then.nx ⟨?_, ?_, ?_⟩
        ·
         (repeat (first | exact Out.hav _ _ _ | exact Out.refl _ _ | refine Out.up rfl ?_ | refine Out.sub rfl ?_))
        ·
         (have hal2 : (h.take (i + 1)).all (rightB k) = true := (by (rw [take_succ_at hx1, List.all_append, hall]; simp only [List.all_cons, List.all_nil, Bool.and_true, Bool.true_and]; assumption))); first | exact ⟨i + 1, rfl, by omega, hal2, by (rw [mustOf_succ hx1, if_pos (by omega)]; exact S.pk (by repeat (first | exact Pk.nil _ | exact Pk.refl _ | refine Pk.cons 0 rfl ?_ | refine Pk.cons 1 rfl ?_ | refine Pk.cons 2 rfl ?_ | refine Pk.cons 3 rfl ?_ | refine Pk.cons 4 rfl ?_ | refine Pk.cons 5 rfl ?_ | refine Pk.cons 6 rfl ?_ | refine Pk.cons 7 rfl ?_ | refine Pk.cons 8 rfl ?_ | refine Pk.cons 9 rfl ?_ | refine Pk.cons 10 rfl ?_ | refine Pk.cons 11 rfl ?_ | refine Pk.cons 12 rfl ?_ | refine Pk.cons 13 rfl ?_ | refine Pk.drop ?_)))⟩ | exact ⟨i + 1, rfl, by omega, hal2, by (rw [mustOf_succ hx1, if_neg (by omega)]; exact S.pk (by repeat (first | exact Pk.nil _ | exact Pk.refl _ | refine Pk.cons 0 rfl ?_ | refine Pk.cons 1 rfl ?_ | refine Pk.cons 2 rfl ?_ | refine Pk.cons 3 rfl ?_ | refine Pk.cons 4 rfl ?_ | refine Pk.cons 5 rfl ?_ | refine Pk.cons 6 rfl ?_ | refine Pk.cons 7 rfl ?_ | refine Pk.cons 8 rfl ?_ | refine Pk.cons 9 rfl ?_ | refine Pk.cons 10 rfl ?_ | refine Pk.cons 11 rfl ?_ | refine Pk.cons 12 rfl ?_ | refine Pk.cons 13 rfl ?_ | refine Pk.drop ?_)))⟩
        ·
         (show h.length - (i + 1) < h.length - i; omega)
     ·
      have rh4 := h4
      (try simp only [Q1, Q2, Q3, Q4, Q5, Q6, Q7, Q8, Q9, Qa] at h4)
      refine W.exit ?_
      refine Then.x ?_
      refine Then.x ?_
      refine InB.e ?_
      refine Then.nx ?_
      refine W.seq ?_
      have e2 : i = h.length := by omega
      subst e2
      have hgood := lin_good (k := k) (h := h) (by omega) (by omega) (by rw [← List.take_of_length_le (Nat.le_refl h.length)]; exact hall)
      have hmu := mustOf_lt h h.length (by omega)
      refine W.region rfl ?_
      refine WO.e (O.makeMap (fun s : ByteArray => Value.string s) (fun b : Bool => Value.bool b) S (fun b44 w S => ?_))
      refine WO.e (O.alloc z_91 S (fun b11 w S => ?_))
      first | refine WO.e0 (O.store (v := .map _) 0 S rfl rfl rfl sz_91 rfl rfl rfl rfl (fun w S => ?_)) | refine WO.e0 (O.store (v := .map _) 1 S rfl rfl rfl sz_91 rfl rfl rfl rfl (fun w S => ?_)) | refine WO.e0 (O.store (v := .map _) 2 S rfl rfl rfl sz_91 rfl rfl rfl rfl (fun w S => ?_)) | refine WO.e0 (O.store (v := .map _) 3 S rfl rfl rfl sz_91 rfl rfl rfl rfl (fun w S => ?_)) | refine WO.e0 (O.store (v := .map _) 4 S rfl rfl rfl sz_91 rfl rfl rfl rfl (fun w S => ?_)) | refine WO.e0 (O.store (v := .map _) 5 S rfl rfl rfl sz_91 rfl rfl rfl rfl (fun w S => ?_)) | refine WO.e0 (O.store (v := .map _) 6 S rfl rfl rfl sz_91 rfl rfl rfl rfl (fun w S => ?_)) | refine WO.e0 (O.store (v := .map _) 7 S rfl rfl rfl sz_91 rfl rfl rfl rfl (fun w S => ?_)) | refine WO.e0 (O.store (v := .map _) 8 S rfl rfl rfl sz_91 rfl rfl rfl rfl (fun w S => ?_)) | refine WO.e0 (O.store (v := .map _) 9 S rfl rfl rfl sz_91 rfl rfl rfl rfl (fun w S => ?_)) | refine WO.e0 (O.store (v := .map _) 10 S rfl rfl rfl sz_91 rfl rfl rfl rfl (fun w S => ?_)) | refine WO.e0 (O.store (v := .map _) 11 S rfl rfl rfl sz_91 rfl rfl rfl rfl (fun w S => ?_)) | refine WO.e0 (O.store (v := .map _) 12 S rfl rfl rfl sz_91 rfl rfl rfl rfl (fun w S => ?_)) | refine WO.e0 (O.store (v := .map _) 13 S rfl rfl rfl sz_91 rfl rfl rfl rfl (fun w S => ?_))
      refine WO.nil ?_
      refine Then.nx ?_
      refine W.seq ?_
      refine W.region rfl ?_
      refine WO.e (O.alloc z_27 S (fun b12 w S => ?_))
      refine WO.nil ?_
      refine Then.nx ?_
      refine W.seq ?_
      refine W.region rfl ?_
      refine WO.e (O.alloc z_92 S (fun b13 w S => ?_))
      refine WO.nil ?_
      refine Then.nx ?_
      refine W.seq ?_
      refine W.region rfl ?_
      refine WO.q (Y.makeFunc rfl rfl) ?_
      first | refine WO.e0 (O.store (v := .func _ _ _) 0 S rfl rfl rfl sz_92 rfl rfl rfl rfl (fun w S => ?_)) | refine WO.e0 (O.store (v := .nilFunc) 0 S rfl rfl rfl sz_92 rfl rfl rfl rfl (fun w S => ?_)) | refine WO.e0 (O.store (v := .func _ _ _) 1 S rfl rfl rfl sz_92 rfl rfl rfl rfl (fun w S => ?_)) | refine WO.e0 (O.store (v := .nilFunc) 1 S rfl rfl rfl sz_92 rfl rfl rfl rfl (fun w S => ?_)) | refine WO.e0 (O.store (v := .func _ _ _) 2 S rfl rfl rfl sz_92 rfl rfl rfl rfl (fun w S => ?_)) | refine WO.e0 (O.store (v := .nilFunc) 2 S rfl rfl rfl sz_92 rfl rfl rfl rfl (fun w S => ?_)) | refine WO.e0 (O.store (v := .func _ _ _) 3 S rfl rfl rfl sz_92 rfl rfl rfl rfl (fun w S => ?_)) | refine WO.e0 (O.store (v := .nilFunc) 3 S rfl rfl rfl sz_92 rfl rfl rfl rfl (fun w S => ?_)) | refine WO.e0 (O.store (v := .func _ _ _) 4 S rfl rfl rfl sz_92 rfl rfl rfl rfl (fun w S => ?_)) | refine WO.e0 (O.store (v := .nilFunc) 4 S rfl rfl rfl sz_92 rfl rfl rfl rfl (fun w S => ?_)) | refine WO.e0 (O.store (v := .func _ _ _) 5 S rfl rfl rfl sz_92 rfl rfl rfl rfl (fun w S => ?_)) | refine WO.e0 (O.store (v := .nilFunc) 5 S rfl rfl rfl sz_92 rfl rfl rfl rfl (fun w S => ?_)) | refine WO.e0 (O.store (v := .func _ _ _) 6 S rfl rfl rfl sz_92 rfl rfl rfl rfl (fun w S => ?_)) | refine WO.e0 (O.store (v := .nilFunc) 6 S rfl rfl rfl sz_92 rfl rfl rfl rfl (fun w S => ?_)) | refine WO.e0 (O.store (v := .func _ _ _) 7 S rfl rfl rfl sz_92 rfl rfl rfl rfl (fun w S => ?_)) | refine WO.e0 (O.store (v := .nilFunc) 7 S rfl rfl rfl sz_92 rfl rfl rfl rfl (fun w S => ?_)) | refine WO.e0 (O.store (v := .func _ _ _) 8 S rfl rfl rfl sz_92 rfl rfl rfl rfl (fun w S => ?_)) | refine WO.e0 (O.store (v := .nilFunc) 8 S rfl rfl rfl sz_92 rfl rfl rfl rfl (fun w S => ?_)) | refine WO.e0 (O.store (v := .func _ _ _) 9 S rfl rfl rfl sz_92 rfl rfl rfl rfl (fun w S => ?_)) | refine WO.e0 (O.store (v := .nilFunc) 9 S rfl rfl rfl sz_92 rfl rfl rfl rfl (fun w S => ?_)) | refine WO.e0 (O.store (v := .func _ _ _) 10 S rfl rfl rfl sz_92 rfl rfl rfl rfl (fun w S => ?_)) | refine WO.e0 (O.store (v := .nilFunc) 10 S rfl rfl rfl sz_92 rfl rfl rfl rfl (fun w S => ?_)) | refine WO.e0 (O.store (v := .func _ _ _) 11 S rfl rfl rfl sz_92 rfl rfl rfl rfl (fun w S => ?_)) | refine WO.e0 (O.store (v := .nilFunc) 11 S rfl rfl rfl sz_92 rfl rfl rfl rfl (fun w S => ?_)) | refine WO.e0 (O.store (v := .func _ _ _) 12 S rfl rfl rfl sz_92 rfl rfl rfl rfl (fun w S => ?_)) | refine WO.e0 (O.store (v := .nilFunc) 12 S rfl rfl rfl sz_92 rfl rfl rfl rfl (fun w S => ?_)) | refine WO.e0 (O.store (v := .func _ _ _) 13 S rfl rfl rfl sz_92 rfl rfl rfl rfl (fun w S => ?_)) | refine WO.e0 (O.store (v := .nilFunc) 13 S rfl rfl rfl sz_92 rfl rfl rfl rfl (fun w S => ?_))
      refine WO.nil ?_
      refine Then.nx ?_
      refine W.seq ?_
      refine W.region rfl ?_
      first | refine WO.e (O.buildSlice rfl (buildOne sl_54 (by decide) rfl rfl) S (fun b46 w S => ?_)) | refine WO.e (O.buildSlice rfl (buildOne sl_54 (by decide) rfl (by simp)) S (fun b46 w S => ?_)) | refine WO.e (O.buildSlice rfl (bs_54_1_0) S (fun b46 w S => ?_))
      refine WO.q (Y.assign (v := .slice _ _ _) rfl) ?_
      refine WO.nil ?_
      refine Then.nx ?_
      replace S := S.nilOwn tN 3
      replace S : Sat w0 w [(Cel b46 [.int .i64 0] 2), Cel b8 [.int .i64 ((mustOf h h.length) : Int)] 3, Cel b11 [.map (some b44)] 91, MapF b44 (fun s : ByteArray => Value.string s) (fun b : Bool => Value.bool b) (beenM []), Cel b3 [.slice a h.length cap] 22, Cel b7 [.int .i64 k] 89, Cel b12 [.slice none ([] : List Nat).length 0] 27, Own tN 3 none 0 ([] : List Nat), Cel b13 [.func (.func 42) #[] #[.pointer (some ⟨b8, 0, none⟩), .pointer (some ⟨b11, 0, none⟩), .pointer (some ⟨b3, 0, none⟩), .pointer (some ⟨b7, 0, none⟩), .pointer (some ⟨b12, 0, none⟩), .pointer (some ⟨b13, 0, none⟩)]] 92] := S.pk (by repeat (first | exact Pk.nil _ | exact Pk.refl _ | refine Pk.cons 0 rfl ?_ | refine Pk.cons 1 rfl ?_ | refine Pk.cons 2 rfl ?_ | refine Pk.cons 3 rfl ?_ | refine Pk.cons 4 rfl ?_ | refine Pk.cons 5 rfl ?_ | refine Pk.cons 6 rfl ?_ | refine Pk.cons 7 rfl ?_ | refine Pk.cons 8 rfl ?_ | refine Pk.cons 9 rfl ?_ | refine Pk.cons 10 rfl ?_ | refine Pk.cons 11 rfl ?_ | refine Pk.cons 12 rfl ?_ | refine Pk.cons 13 rfl ?_ | refine Pk.drop ?_))
      refine W.cut1 [14, 47, 48] 14 (fun v14 w => ∃ ab cb, v14 = .slice ab (linBegin k).length cb ∧ (linBegin k).length ≤ cb ∧ Reads (Cel b46 [.int .i64 0] 2) (tI .i64) ab (linBegin k) ∧ Sat w0 w [(Cel b46 [.int .i64 0] 2), Cel b8 [.int .i64 ((mustOf h h.length) : Int)] 3, Cel b11 [.map (some b44)] 91, MapF b44 (fun s : ByteArray => Value.string s) (fun b : Bool => Value.bool b) (beenM []), Cel b3 [.slice a h.length cap] 22, Cel b7 [.int .i64 k] 89, Cel b12 [.slice none ([] : List Nat).length 0] 27, Own tN 3 none 0 ([] : List Nat), Cel b13 [.func (.func 42) #[] #[.pointer (some ⟨b8, 0, none⟩), .pointer (some ⟨b11, 0, none⟩), .pointer (some ⟨b3, 0, none⟩), .pointer (some ⟨b7, 0, none⟩), .pointer (some ⟨b12, 0, none⟩), .pointer (some ⟨b13, 0, none⟩)]] 92]) ?_ ?_
      ·
       refine W.seq ?_
       refine W.region rfl ?_
       first | refine WO.q (Y.load rfl (loadS1 sz_89 S 0 rfl rfl)) ?_ | refine WO.q (Y.load rfl (loadS1 sz_89 S 1 rfl rfl)) ?_ | refine WO.q (Y.load rfl (loadS1 sz_89 S 2 rfl rfl)) ?_ | refine WO.q (Y.load rfl (loadS1 sz_89 S 3 rfl rfl)) ?_ | refine WO.q (Y.load rfl (loadS1 sz_89 S 4 rfl rfl)) ?_ | refine WO.q (Y.load rfl (loadS1 sz_89 S 5 rfl rfl)) ?_ | refine WO.q (Y.load rfl (loadS1 sz_89 S 6 rfl rfl)) ?_ | refine WO.q (Y.load rfl (loadS1 sz_89 S 7 rfl rfl)) ?_ | refine WO.q (Y.load rfl (loadS1 sz_89 S 8 rfl rfl)) ?_ | refine WO.q (Y.load rfl (loadS1 sz_89 S 9 rfl rfl)) ?_ | refine WO.q (Y.load rfl (loadS1 sz_89 S 10 rfl rfl)) ?_ | refine WO.q (Y.load rfl (loadS1 sz_89 S 11 rfl rfl)) ?_ | refine WO.q (Y.load rfl (loadS1 sz_89 S 12 rfl rfl)) ?_ | refine WO.q (Y.load rfl (loadS1 sz_89 S 13 rfl rfl)) ?_
       refine WO.q (Y.leq rfl rfl) ?_
       refine WO.nil ?_
       refine Then.nx ?_
       refine W.cond rfl (fun h7 => ?_) (fun h7 => ?_) -- cond 5
       ·
        have rh7 := h7
        (try simp only [Q1, Q2, Q3, Q4, Q5, Q6, Q7, Q8, Q9, Qa] at h7)
        refine W.region rfl ?_
        refine WO.q (Y.assign (v := .slice _ _ _) rfl) ?_
        refine WO.nil ?_
        refine Then.nx ⟨?_, ?_⟩
        ·
         (repeat (first | exact Out.hav _ _ _ | exact Out.refl _ _ | refine Out.up rfl ?_ | refine Out.sub rfl ?_))
        ·
         first | (rw [show linBegin k = [] from if_pos (by omega)]; exact ⟨none, 0, rfl, Nat.le_refl 0, Reads.nil _ _ _, S⟩) | (rw [show linBegin k = [0] from if_neg (by omega)]; exact ⟨_, 1, rfl, Nat.le_refl 1, Reads.one (T := tI .i64) (0 : Int), S⟩)
       ·
        have rh7 := h7
        (try simp only [Q1, Q2, Q3, Q4, Q5, Q6, Q7, Q8, Q9, Qa] at h7)
        refine W.skip ?_
        refine Then.nx ⟨?_, ?_⟩
        ·
         (repeat (first | exact Out.hav _ _ _ | exact Out.refl _ _ | refine Out.up rfl ?_ | refine Out.sub rfl ?_))
        ·
         first | (rw [show linBegin k = [] from if_pos (by omega)]; exact ⟨none, 0, rfl, Nat.le_refl 0, Reads.nil _ _ _, S⟩) | (rw [show linBegin k = [0] from if_neg (by omega)]; exact ⟨_, 1, rfl, Nat.le_refl 1, Reads.one (T := tI .i64) (0 : Int), S⟩)
      ·
       rintro gj309 v14 w ⟨ab, cb, rfl, hcb, hrb, S⟩
       refine W.seq ?_
       refine W.seq ?_
       have hk4 : 1 ≤ k ∧ k ≤ 4 := by omega
       have hl12 : h.length ≤ 12 := by omega
       have hlb := linBegin_ok k
       have hud := undone_le h.length 0
       refine W.region rfl ?_
       first | refine WO.q (Y.load rfl (loadS1 sz_92 S 0 rfl rfl)) ?_ | refine WO.q (Y.load rfl (loadS1 sz_92 S 1 rfl rfl)) ?_ | refine WO.q (Y.load rfl (loadS1 sz_92 S 2 rfl rfl)) ?_ | refine WO.q (Y.load rfl (loadS1 sz_92 S 3 rfl rfl)) ?_ | refine WO.q (Y.load rfl (loadS1 sz_92 S 4 rfl rfl)) ?_ | refine WO.q (Y.load rfl (loadS1 sz_92 S 5 rfl rfl)) ?_ | refine WO.q (Y.load rfl (loadS1 sz_92 S 6 rfl rfl)) ?_ | refine WO.q (Y.load rfl (loadS1 sz_92 S 7 rfl rfl)) ?_ | refine WO.q (Y.load rfl (loadS1 sz_92 S 8 rfl rfl)) ?_ | refine WO.q (Y.load rfl (loadS1 sz_92 S 9 rfl rfl)) ?_ | refine WO.q (Y.load rfl (loadS1 sz_92 S 10 rfl rfl)) ?_ | refine WO.q (Y.load rfl (loadS1 sz_92 S 11 rfl rfl)) ?_ | refine WO.q (Y.load rfl (loadS1 sz_92 S 12 rfl rfl)) ?_ | refine WO.q (Y.load rfl (loadS1 sz_92 S 13 rfl rfl)) ?_
       refine WO.q (Y.move (v := .slice _ _ _) rfl) ?_
       refine WO.e (O.callV (caps := [.pointer (some ⟨b8, 0, none⟩), .pointer (some ⟨b11, 0, none⟩), .pointer (some ⟨b3, 0, none⟩), .pointer (some ⟨b7, 0, none⟩), .pointer (some ⟨b12, 0, none⟩), .pointer (some ⟨b13, 0, none⟩)]) (fun args w => by kernel_rfl) rfl rfl (from_spec w0 htab k hk4 h a cap R1 hl12 hI (mustOf h h.length) hmu b8 b11 b44 b3 b7 b12 b13 (h.length + 1) 0 (linBegin k) [] [] _ ab none cb 0 w (by omega) (by decide) hrb hcb (by omega) hlb.2.1 hlb.2.2 (by (simp only [List.length_nil]; omega)) S) ?_)
       rintro _ w ⟨ao3, co3, rfl, S⟩
       refine ⟨_, rfl, ?_⟩
       refine WO.q (Y.not rfl) ?_
       refine WO.nil ?_
       refine Then.nx ?_
       refine W.cond rfl (fun h8 => ?_) (fun h8 => ?_) -- cond 6
       ·
        have rh8 := h8
        (try simp only [Q1, Q2, Q3, Q4, Q5, Q6, Q7, Q8, Q9, Qa] at h8)
        have hnone : linO k h = none := Option.not_isSome_iff_eq_none.1 (by rw [show linO k h = (linFrom k h (mustOf h h.length) (h.length + 1) 0 (linBegin k) []).1 from rfl, h8]; decide)
        refine W.seq ?_
        refine W.region rfl ?_
        refine WO.q (Y.assign (v := .slice _ _ _) rfl) ?_
        refine WO.q (Y.assign (v := .bool _) rfl) ?_
        refine WO.q (Y.assign (v := .int .i64 _) rfl) ?_
        refine WO.nil ?_
        refine Then.nx ?_
        refine W.ret ?_
        refine Then.r ?_
        refine BodyQ.ret3 Tryd.results12 (ResV.tmp _ rfl) (ResV.tmp _ rfl) (ResV.tmp _ rfl) ?_
        obtain ⟨e1, e2, e3⟩ := hgood; rw [e1, e2, e3, hnone]; exact ⟨none, 0, rfl, (S.nil).nilOwn tN 3⟩
       ·
        have rh8 := h8
        (try simp only [Q1, Q2, Q3, Q4, Q5, Q6, Q7, Q8, Q9, Qa] at h8)
        obtain ⟨l, hsome⟩ := Option.isSome_iff_exists.1 h8
        rw [hsome] at S
        simp only [Option.getD_some, List.nil_append] at S
        have hlo := linO_len hsome
        refine W.skip ?_
        refine Then.nx ?_
        refine W.seq ?_
        refine W.region rfl ?_
        first | refine WO.q (Y.load rfl (loadS1 sz_27 S 0 rfl rfl)) ?_ | refine WO.q (Y.load rfl (loadS1 sz_27 S 1 rfl rfl)) ?_ | refine WO.q (Y.load rfl (loadS1 sz_27 S 2 rfl rfl)) ?_ | refine WO.q (Y.load rfl (loadS1 sz_27 S 3 rfl rfl)) ?_ | refine WO.q (Y.load rfl (loadS1 sz_27 S 4 rfl rfl)) ?_ | refine WO.q (Y.load rfl (loadS1 sz_27 S 5 rfl rfl)) ?_ | refine WO.q (Y.load rfl (loadS1 sz_27 S 6 rfl rfl)) ?_ | refine WO.q (Y.load rfl (loadS1 sz_27 S 7 rfl rfl)) ?_ | refine WO.q (Y.load rfl (loadS1 sz_27 S 8 rfl rfl)) ?_ | refine WO.q (Y.load rfl (loadS1 sz_27 S 9 rfl rfl)) ?_ | refine WO.q (Y.load rfl (loadS1 sz_27 S 10 rfl rfl)) ?_ | refine WO.q (Y.load rfl (loadS1 sz_27 S 11 rfl rfl)) ?_ | refine WO.q (Y.load rfl (loadS1 sz_27 S 12 rfl rfl)) ?_ | refine WO.q (Y.load rfl (loadS1 sz_27 S 13 rfl rfl)) ?_
        refine WO.e (O.call cf_46 rfl (Clone_spec _ _ _ _ (S.rd 7 rfl) (by omega)) ?_)
        rintro _ w ⟨a5, c5, rfl, S2⟩
        replace S := S.trans S2
        refine ⟨_, rfl, ?_⟩
        refine WO.q (Y.assign (v := .slice _ _ _) rfl) ?_
        refine WO.q (Y.assign (v := .bool _) rfl) ?_
        refine WO.q (Y.assign (v := .int .i64 _) rfl) ?_
        refine WO.nil ?_
        refine Then.nx ?_
        refine W.ret ?_
        refine BodyQ.ret3 Tryd.results12 (ResV.tmp _ rfl) (ResV.tmp _ rfl) (ResV.tmp _ rfl) ?_
        obtain ⟨e1, e2, e3⟩ := hgood; rw [e1, e2, e3, show linO k h = some l from hsome]; exact ⟨a5, c5, rfl, S.pk (by repeat (first | exact Pk.nil _ | exact Pk.refl _ | refine Pk.cons 0 rfl ?_ | refine Pk.cons 1 rfl ?_ | refine Pk.cons 2 rfl ?_ | refine Pk.cons 3 rfl ?_ | refine Pk.cons 4 rfl ?_ | refine Pk.cons 5 rfl ?_ | refine Pk.cons 6 rfl ?_ | refine Pk.cons 7 rfl ?_ | refine Pk.cons 8 rfl ?_ | refine Pk.cons 9 rfl ?_ | refine Pk.cons 10 rfl ?_ | refine Pk.cons 11 rfl ?_ | refine Pk.cons 12 rfl ?_ | refine Pk.cons 13 rfl ?_ | refine Pk.drop ?_))⟩
end Go.Proofs
