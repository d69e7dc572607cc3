/-
  Walks of Clip, Clone, late, right, does.
-/
import Derived.Test.YticopppiogophaaDoorTp
import Derived.Test.YticopppiogophaaDoorTo
import Derived.Test.YticopppiogophaaDoorSx
import Derived.Test.YticopppiogophaaDoorFa
import Derived.Test.YticopppiogophaaDoorFb
import Derived.Test.YticopppiogophaaDoorFc
set_option linter.unusedVariables false
set_option linter.unusedSimpArgs false
set_option maxRecDepth 100000
set_option maxHeartbeats 1000000
namespace Go.Proofs
open Go Go.TL Go.RowKit
theorem Clip_spec (w0 : World) (a : Option Addr) (n cap : Nat) (h : n ≤ cap) :
    Calls Tryd.prog 75 [.slice a n cap].toArray w0 (fun e w => e = .returned (.slice a n n) ∧ Ext w0 w) := by
 have S := Sat.refl w0
 refine calls_of_W (args := [.slice a n cap]) 9 Tryd.func75 rfl Tryd.ntmps75 rfl ?_
 refine W.seq ?_
 refine W.region rfl ?_
 refine WO.q (Y.assign (v := .slice _ _ _) rfl) ?_
 refine WO.nil ?_
 refine Then.nx ?_
 refine W.seq ?_
 refine W.region rfl ?_
 refine WO.q (Y.move (v := .slice _ _ _) rfl) ?_
 refine WO.q (Y.move (v := .slice _ _ _) rfl) ?_
 refine WO.q (Y.len (t' := 0) Tryd.underlying54 rfl) ?_
 refine WO.q (Y.move (v := .slice _ _ _) rfl) ?_
 refine WO.q (Y.len (t' := 0) Tryd.underlying54 rfl) ?_
 refine WO.q (Y.sliceHM sl_54 rfl rfl rfl (Nat.le_refl _) h) ?_
 refine WO.q (Y.assign (v := .slice _ _ _) rfl) ?_
 refine WO.nil ?_
 refine Then.nx ?_
 refine W.ret ?_
 refine BodyQ.ret1 Tryd.results75 (ResV.tmp _ rfl) ?_
 exact ⟨rfl, S.ext⟩
theorem Clone_spec (w0 : World) (a : Option Addr) (cap : Nat) (xs : List Nat) (R1 : Rd tN w0 a xs) (h : xs.length ≤ 4096) :
    Calls Tryd.prog 46 [.slice a xs.length cap].toArray w0 (fun e w' => ∃ a' cap', e = .returned (.slice a' xs.length cap') ∧ Sat w0 w' [Own tN 3 a' cap' xs]) := by
 have S := Sat.refl w0
 refine calls_of_W (args := [.slice a xs.length cap]) 8 Tryd.func46 rfl Tryd.ntmps46 rfl ?_
 refine W.seq ?_
 refine W.region rfl ?_
 refine WO.q (Y.assign (v := .slice _ _ _) rfl) ?_
 refine WO.nil ?_
 refine Then.nx ?_
 refine W.seq ?_
 refine W.seq ?_
 refine W.region rfl ?_
 refine WO.q (Y.move (v := .slice _ _ _) rfl) ?_
 refine WO.q (Y.eqNilS Tryd.underlying27 rfl rfl) ?_
 refine WO.nil ?_
 refine Then.nx ?_
 refine W.cond rfl (fun h1 => ?_) (fun h1 => ?_) -- cond 0
 ·
  have rh1 := h1
  (try simp only [Q1, Q2, Q3, Q4, Q5, Q6, Q7, Q8, Q9, Qa] at h1)
  refine W.seq ?_
  refine W.region rfl ?_
  refine WO.q (Y.assign (v := .slice _ _ _) rfl) ?_
  refine WO.nil ?_
  refine Then.nx ?_
  refine W.ret ?_
  refine Then.r ?_
  refine BodyQ.ret1 Tryd.results46 (ResV.tmp _ rfl) ?_
  have e := R1.isNil (by assumption); subst e; exact ⟨none, 0, rfl, S.nilOwn tN 3⟩
 ·
  have rh1 := h1
  (try simp only [Q1, Q2, Q3, Q4, Q5, Q6, Q7, Q8, Q9, Qa] at h1)
  refine W.skip ?_
  refine Then.nx ?_
  refine W.seq ?_
  refine W.region rfl ?_
  refine WO.e (O.buildSlice (cs := []) (e := 3) rfl (by intro w; kernel_rfl) S (fun b5 w S => ?_))
  replace S := S.emptyOwn tN
  refine WO.q (Y.move (v := .slice _ _ _) rfl) ?_
  refine WO.e (O.append 0 sl_27 S rfl rfl rfl rfl (R1.ext S.ext) rfl (by (simp only [List.length_nil]; omega)) (by (simp only [List.length_nil, maxLen]; omega)) (fun a7 c7 w S hn7 => ?_))
  refine WO.q (Y.assign (v := .slice _ _ _) rfl) ?_
  refine WO.nil ?_
  refine Then.nx ?_
  refine W.ret ?_
  refine BodyQ.ret1 Tryd.results46 (ResV.tmp _ rfl) ?_
  exact ⟨a7, c7, rfl, S⟩
theorem late_spec (w0 : World) (a : Option Addr) (cap : Nat) (h : List GCall) (d : Nat) (c : GCall) (R1 : Rd tCall w0 a h) (hl : h.length ≤ 64) (hd : d < 9223372036854775808) :
    Calls Tryd.prog 44 [.slice a h.length cap, .int .i64 (d : Int), .agg (tCall.enc c).toArray].toArray w0 (fun e w => e = .returned (.bool (lateB h d c)) ∧ Ext w0 w) := by
 have S := Sat.refl w0
 refine calls_of_W (args := [.slice a h.length cap, .int .i64 (d : Int), .agg (tCall.enc c).toArray]) 34 Tryd.func44 rfl Tryd.ntmps44 rfl ?_
 refine W.seq ?_
 refine W.region rfl ?_
 refine WO.e (O.box rfl rfl S (fun b5 w S => ?_))
 refine WO.q (Y.assign (v := .bool _) rfl) ?_
 refine WO.nil ?_
 refine Then.nx ?_
 refine W.seq ?_
 refine W.seq ?_
 refine W.region rfl ?_
 refine WO.q (Y.move (v := .slice _ _ _) rfl) ?_
 refine WO.q (Y.len (t' := 0) Tryd.underlying22 rfl) ?_
 refine WO.q (Y.move (v := .int .i64 _) rfl) ?_
 refine WO.nil ?_
 refine Then.nx ?_
 refine W.block ?_
 -- loop 0 carries 11
 refine W.loop1 [6, 7, 8, 11, 12, 13, 14, 15, 16, 17, 18, 19, 20, 21, 22, 23, 24, 25, 26, 27, 28, 29, 30, 31, 32, 33] 11 (fun v11 w => ∃ k : Nat, v11 = .int .i64 (k : Int) ∧ k ≤ h.length ∧ (∀ j, j < k → lateAt h d c j = false) ∧ Sat w0 w [Cel b5 (tCall.enc c) 58]) (fun v11 w => h.length - (intOf v11).toNat) ?_ ?_
 ·
  exact ⟨0, rfl, by omega, fun j h => by omega, S⟩
 ·
  rintro g0 v11 w ⟨k, rfl, hk, hf, S⟩
  refine W.seq ?_
  refine W.region rfl ?_
  refine WO.q (Y.lss rfl rfl) ?_
  refine WO.nil ?_
  refine Then.nx ?_
  refine W.seq ?_
  refine W.cond rfl (fun h1 => ?_) (fun h1 => ?_) -- cond 0
  ·
   have rh1 := h1
   (try simp only [Q1, Q2, Q3, Q4, Q5, Q6, Q7, Q8, Q9, Qa] at h1)
   have ha := R1.1 (by omega)
   obtain ⟨x, hx1⟩ := at_ex (xs := h) (k := k) (by omega)
   refine W.skip ?_
   refine Then.nx ?_
   refine W.seq ?_
   refine W.block ?_
   refine W.seq ?_
   refine W.region rfl ?_
   refine WO.q (Y.move (v := .int .i64 _) rfl) ?_
   first | refine WO.q (Y.ixN sl_22 rfl rfl (by (first | assumption | rfl)) (by (first | assumption | omega))) ?_ | refine WO.q (Y.ix sl_22 rfl rfl (by (first | assumption | rfl)) (by (first | assumption | omega)) (by (first | assumption | omega))) ?_
   refine WO.q (Y.load rfl (loadRdN sz_58 (R1.ext S.ext) (by assumption))) ?_
   refine WO.e (O.alloc z_58 S (fun b8 w S => ?_))
   refine WO.q (Y.assign (v := .int .i64 _) rfl) ?_
   first | refine WO.e0 (O.store (v := .agg _) 0 S rfl rfl rfl sz_58 rfl rfl rfl rfl (fun w S => ?_)) | refine WO.e0 (O.store (v := .agg _) 1 S rfl rfl rfl sz_58 rfl rfl rfl rfl (fun w S => ?_)) | refine WO.e0 (O.store (v := .agg _) 2 S rfl rfl rfl sz_58 rfl rfl rfl rfl (fun w S => ?_))
   refine WO.nil ?_
   refine Then.nx ?_
   refine W.seq ?_
   refine W.region rfl ?_
   refine WO.q (Y.move (v := .int .i64 _) rfl) ?_
   refine WO.q (Y.move (v := .int .i64 _) rfl) ?_
   refine WO.q (Y.shrN (x := d) (y := k) rfl rfl (by omega)) ?_
   refine WO.q (Y.andN (x := d >>> k) (y := 1) rfl rfl (Nat.lt_of_le_of_lt (Nat.shiftRight_le _ _) hd) (by decide)) ?_
   refine WO.q (Y.eql rfl rfl) ?_
   refine WO.q (Y.move (v := .bool _) rfl) ?_
   refine WO.splitB (fun h2 => ?_) (fun h2 => ?_)
   ·
    (try simp only [Q1, Q2, Q3, Q4, Q5, Q6, Q7, Q8, Q9, Qa] at h2)
    refine WO.qT rfl (Y.fieldB fo_58_6 rfl) ?_
    first | refine WO.qT rfl (Y.load rfl (loadS1 sz_3 S 0 rfl rfl)) ?_ | refine WO.qT rfl (Y.load rfl (loadS1 sz_3 S 1 rfl rfl)) ?_ | refine WO.qT rfl (Y.load rfl (loadS1 sz_3 S 2 rfl rfl)) ?_
    refine WO.qT rfl (Y.neq rfl rfl) ?_
    refine WO.q (Y.pickT (u := .bool _) rfl rfl) ?_
    refine WO.q (Y.move (v := .bool _) rfl) ?_
    refine WO.splitB (fun h3 => ?_) (fun h3 => ?_)
    ·
     (try simp only [Q1, Q2, Q3, Q4, Q5, Q6, Q7, Q8, Q9, Qa] at h3)
     refine WO.qT rfl (Y.fieldB fo_58_6 rfl) ?_
     first | refine WO.qT rfl (Y.load rfl (loadS1 sz_3 S 0 rfl rfl)) ?_ | refine WO.qT rfl (Y.load rfl (loadS1 sz_3 S 1 rfl rfl)) ?_ | refine WO.qT rfl (Y.load rfl (loadS1 sz_3 S 2 rfl rfl)) ?_
     refine WO.qT rfl (Y.fieldB fo_58_5 rfl) ?_
     first | refine WO.qT rfl (Y.load rfl (loadS1 sz_3 S 0 rfl rfl)) ?_ | refine WO.qT rfl (Y.load rfl (loadS1 sz_3 S 1 rfl rfl)) ?_ | refine WO.qT rfl (Y.load rfl (loadS1 sz_3 S 2 rfl rfl)) ?_
     refine WO.qT rfl (Y.lss rfl rfl) ?_
     refine WO.q (Y.pickT (u := .bool _) rfl rfl) ?_
     refine WO.nil ?_
     refine Then.nx ?_
     refine W.cond rfl (fun h4 => ?_) (fun h4 => ?_) -- cond 1
     ·
      have rh4 := h4
      (try simp only [Q1, Q2, Q3, Q4, Q5, Q6, Q7, Q8, Q9, Qa] at h4)
      refine W.seq ?_
      refine W.region rfl ?_
      refine WO.q (Y.assign (v := .bool _) rfl) ?_
      refine WO.nil ?_
      refine Then.nx ?_
      refine W.ret ?_
      refine InB.r ?_
      refine Then.r ?_
      refine Then.r ?_
      refine InB.r ?_
      refine Then.r ?_
      refine BodyQ.ret1 Tryd.results44 (ResV.tmp _ rfl) ?_
      first | exact ⟨retB (late_yes (at_lt hx1) (by rw [lateAt_eq hx1, decide_eq_true]; unfold bitN; omega)).symm, S.ext⟩ | exact ⟨retB (late_no (by omega) hf).symm, S.ext⟩
     ·
      have rh4 := h4
      (try simp only [Q1, Q2, Q3, Q4, Q5, Q6, Q7, Q8, Q9, Qa] at h4)
      refine W.skip ?_
      refine InB.nx ?_
      refine Then.nx ?_
      refine W.region rfl ?_
      first | refine WO.q (Y.addI rfl rfl (by omega)) ?_ | refine WO.q (Y.add rfl rfl) ?_
      refine WO.q (Y.move (v := .int .i64 _) rfl) ?_
      refine WO.nil ?_
      refine Then.nx ⟨?_, ?_, ?_⟩
      ·
       (repeat (first | exact Out.hav _ _ _ | exact Out.refl _ _ | refine Out.up rfl ?_ | refine Out.sub rfl ?_))
      ·
       exact ⟨k + 1, rfl, by omega, fun j hj => by rcases Nat.lt_succ_iff_lt_or_eq.1 hj with hj | rfl; exact hf j hj; (rw [lateAt_eq hx1, decide_eq_false]; unfold bitN; omega), S.pk (by repeat (first | exact Pk.nil _ | exact Pk.refl _ | refine Pk.cons 0 rfl ?_ | refine Pk.cons 1 rfl ?_ | refine Pk.cons 2 rfl ?_ | refine Pk.cons 3 rfl ?_ | refine Pk.cons 4 rfl ?_ | refine Pk.cons 5 rfl ?_ | refine Pk.cons 6 rfl ?_ | refine Pk.cons 7 rfl ?_ | refine Pk.cons 8 rfl ?_ | refine Pk.cons 9 rfl ?_ | refine Pk.cons 10 rfl ?_ | refine Pk.cons 11 rfl ?_ | refine Pk.cons 12 rfl ?_ | refine Pk.cons 13 rfl ?_ | refine Pk.drop ?_))⟩
      ·
       (show h.length - (k + 1) < h.length - k; omega)
    ·
     (try simp only [Q1, Q2, Q3, Q4, Q5, Q6, Q7, Q8, Q9, Qa] at h3)
     refine WO.qF rfl ?_
     refine WO.qF rfl ?_
     refine WO.qF rfl ?_
     refine WO.qF rfl ?_
     refine WO.qF rfl ?_
     refine WO.q (Y.pickF (u := .bool _) rfl rfl) ?_
     refine WO.nil ?_
     refine Then.nx ?_
     first | refine W.condF rfl ?_ | refine W.condF (congrArg Value.bool (by assumption)) ?_
     refine W.skip ?_
     refine InB.nx ?_
     refine Then.nx ?_
     refine W.region rfl ?_
     first | refine WO.q (Y.addI rfl rfl (by omega)) ?_ | refine WO.q (Y.add rfl rfl) ?_
     refine WO.q (Y.move (v := .int .i64 _) rfl) ?_
     refine WO.nil ?_
     refine Then.nx ⟨?_, ?_, ?_⟩
     ·
      (repeat (first | exact Out.hav _ _ _ | exact Out.refl _ _ | refine Out.up rfl ?_ | refine Out.sub rfl ?_))
     ·
      exact ⟨k + 1, rfl, by omega, fun j hj => by rcases Nat.lt_succ_iff_lt_or_eq.1 hj with hj | rfl; exact hf j hj; (rw [lateAt_eq hx1, decide_eq_false]; unfold bitN; omega), S.pk (by repeat (first | exact Pk.nil _ | exact Pk.refl _ | refine Pk.cons 0 rfl ?_ | refine Pk.cons 1 rfl ?_ | refine Pk.cons 2 rfl ?_ | refine Pk.cons 3 rfl ?_ | refine Pk.cons 4 rfl ?_ | refine Pk.cons 5 rfl ?_ | refine Pk.cons 6 rfl ?_ | refine Pk.cons 7 rfl ?_ | refine Pk.cons 8 rfl ?_ | refine Pk.cons 9 rfl ?_ | refine Pk.cons 10 rfl ?_ | refine Pk.cons 11 rfl ?_ | refine Pk.cons 12 rfl ?_ | refine Pk.cons 13 rfl ?_ | refine Pk.drop ?_))⟩
     ·
      (show h.length - (k + 1) < h.length - k; omega)
   ·
    (try simp only [Q1, Q2, Q3, Q4, Q5, Q6, Q7, Q8, Q9, Qa] at h2)
    refine WO.qF rfl ?_
    refine WO.qF rfl ?_
    refine WO.qF rfl ?_
    refine WO.q (Y.pickF (u := .bool _) rfl rfl) ?_
    refine WO.q (Y.move (v := .bool _) rfl) ?_
    refine WO.qF rfl ?_
    refine WO.qF rfl ?_
    refine WO.qF rfl ?_
    refine WO.qF rfl ?_
    refine WO.qF rfl ?_
    refine WO.q (Y.pickF (u := .bool _) rfl rfl) ?_
    refine WO.nil ?_
    refine Then.nx ?_
    first | refine W.condF rfl ?_ | refine W.condF (congrArg Value.bool (by assumption)) ?_
    refine W.skip ?_
    refine InB.nx ?_
    refine Then.nx ?_
    refine W.region rfl ?_
    first | refine WO.q (Y.addI rfl rfl (by omega)) ?_ | refine WO.q (Y.add rfl rfl) ?_
    refine WO.q (Y.move (v := .int .i64 _) rfl) ?_
    refine WO.nil ?_
    refine Then.nx ⟨?_, ?_, ?_⟩
    ·
     (repeat (first | exact Out.hav _ _ _ | exact Out.refl _ _ | refine Out.up rfl ?_ | refine Out.sub rfl ?_))
    ·
     exact ⟨k + 1, rfl, by omega, fun j hj => by rcases Nat.lt_succ_iff_lt_or_eq.1 hj with hj | rfl; exact hf j hj; (rw [lateAt_eq hx1, decide_eq_false]; unfold bitN; omega), S.pk (by repeat (first | exact Pk.nil _ | exact Pk.refl _ | refine Pk.cons 0 rfl ?_ | refine Pk.cons 1 rfl ?_ | refine Pk.cons 2 rfl ?_ | refine Pk.cons 3 rfl ?_ | refine Pk.cons 4 rfl ?_ | refine Pk.cons 5 rfl ?_ | refine Pk.cons 6 rfl ?_ | refine Pk.cons 7 rfl ?_ | refine Pk.cons 8 rfl ?_ | refine Pk.cons 9 rfl ?_ | refine Pk.cons 10 rfl ?_ | refine Pk.cons 11 rfl ?_ | refine Pk.cons 12 rfl ?_ | refine Pk.cons 13 rfl ?_ | refine Pk.drop ?_))⟩
    ·
     (show h.length - (k + 1) < h.length - k; omega)
  ·
   have rh1 := h1
   (try simp only [Q1, Q2, Q3, Q4, Q5, Q6, Q7, Q8, Q9, Qa] at h1)
   refine W.exit ?_
   refine Then.x ?_
   refine Then.x ?_
   refine InB.e ?_
   refine Then.nx ?_
   refine W.seq ?_
   refine W.region rfl ?_
   refine WO.q (Y.assign (v := .bool _) rfl) ?_
   refine WO.nil ?_
   refine Then.nx ?_
   refine W.ret ?_
   refine BodyQ.ret1 Tryd.results44 (ResV.tmp _ rfl) ?_
   first | exact ⟨retB (late_yes (at_lt hx1) (by rw [lateAt_eq hx1, decide_eq_true]; unfold bitN; omega)).symm, S.ext⟩ | exact ⟨retB (late_no (by omega) hf).symm, S.ext⟩
theorem right_spec (w0 : World) (k : Int) (c : GCall) :
    Calls Tryd.prog 41 [.int .i64 k, .agg (tCall.enc c).toArray].toArray w0 (fun e w => e = .returned (.bool (rightB k c)) ∧ Ext w0 w) := by
 have S := Sat.refl w0
 refine calls_of_W (args := [.int .i64 k, .agg (tCall.enc c).toArray]) 100 Tryd.func41 rfl Tryd.ntmps41 rfl ?_
 refine W.seq ?_
 refine W.region rfl ?_
 refine WO.e (O.box rfl rfl S (fun b3 w S => ?_))
 refine WO.q (Y.assign (v := .bool _) rfl) ?_
 refine WO.nil ?_
 refine Then.nx ?_
 refine W.seq ?_
 refine W.cut1 [6, 7, 8, 9, 10, 11, 12, 13, 14, 15, 16, 17, 18, 19, 20, 21, 22, 23, 24, 25, 26, 27, 28, 29, 30, 31, 32, 33, 34] 34 (fun v34 w => v34 = .bool (badC c) ∧ Sat w0 w [Cel b3 (tCall.enc c) 58]) ?_ ?_
 ·
  refine W.region rfl ?_
  refine WO.q (Y.fieldB fo_58_5 rfl) ?_
  first | refine WO.q (Y.load rfl (loadS1 sz_3 S 0 rfl rfl)) ?_ | refine WO.q (Y.load rfl (loadS1 sz_3 S 1 rfl rfl)) ?_
  refine WO.q (Y.lss rfl rfl) ?_
  refine WO.q (Y.move (v := .bool _) rfl) ?_
  refine WO.splitB (fun h1 => ?_) (fun h1 => ?_)
  ·
   (try simp only [Q1, Q2, Q3, Q4, Q5, Q6, Q7, Q8, Q9, Qa] at h1)
   refine WO.qF rfl ?_
   refine WO.qF rfl ?_
   refine WO.qF rfl ?_
   refine WO.qF rfl ?_
   refine WO.qF rfl ?_
   refine WO.qF rfl ?_
   refine WO.qF rfl ?_
   refine WO.qF rfl ?_
   refine WO.qF rfl ?_
   refine WO.qF rfl ?_
   refine WO.q (Y.pickT (u := .bool _) rfl rfl) ?_
   refine WO.q (Y.move (v := .bool _) rfl) ?_
   refine WO.qF rfl ?_
   refine WO.qF rfl ?_
   refine WO.qF rfl ?_
   refine WO.qF rfl ?_
   refine WO.qF rfl ?_
   refine WO.qF rfl ?_
   refine WO.qF rfl ?_
   refine WO.qF rfl ?_
   refine WO.qF rfl ?_
   refine WO.qF rfl ?_
   refine WO.qF rfl ?_
   refine WO.qF rfl ?_
   refine WO.q (Y.pickT (u := .bool _) rfl rfl) ?_
   refine WO.nil ?_
   refine Then.nx ⟨?_, ?_⟩
   ·
    (repeat (first | exact Out.hav _ _ _ | exact Out.refl _ _ | refine Out.up rfl ?_ | refine Out.sub rfl ?_))
   ·
    first | (exfalso; omega) | exact ⟨by (show Value.bool _ = Value.bool _; congr 1; unfold badC; repeat (first | rw [if_pos (by omega)] | rw [if_neg (by omega)])), S⟩
  ·
   (try simp only [Q1, Q2, Q3, Q4, Q5, Q6, Q7, Q8, Q9, Qa] at h1)
   refine WO.qT rfl (Y.fieldB fo_58_6 rfl) ?_
   first | refine WO.qT rfl (Y.load rfl (loadS1 sz_3 S 0 rfl rfl)) ?_ | refine WO.qT rfl (Y.load rfl (loadS1 sz_3 S 1 rfl rfl)) ?_
   refine WO.qT rfl (Y.neq rfl rfl) ?_
   refine WO.qT rfl (Y.move (v := .bool _) rfl) ?_
   refine WO.splitB (fun h2 => ?_) (fun h2 => ?_)
   ·
    (try simp only [Q1, Q2, Q3, Q4, Q5, Q6, Q7, Q8, Q9, Qa] at h2)
    refine WO.qT rfl (Y.fieldB fo_58_6 rfl) ?_
    first | refine WO.qT rfl (Y.load rfl (loadS1 sz_3 S 0 rfl rfl)) ?_ | refine WO.qT rfl (Y.load rfl (loadS1 sz_3 S 1 rfl rfl)) ?_
    refine WO.qT rfl (Y.fieldB fo_58_5 rfl) ?_
    first | refine WO.qT rfl (Y.load rfl (loadS1 sz_3 S 0 rfl rfl)) ?_ | refine WO.qT rfl (Y.load rfl (loadS1 sz_3 S 1 rfl rfl)) ?_
    refine WO.qT rfl (Y.lss rfl rfl) ?_
    refine WO.qT rfl (Y.pickT (u := .bool _) rfl rfl) ?_
    refine WO.q (Y.pickF (u := .bool _) rfl rfl) ?_
    refine WO.q (Y.move (v := .bool _) rfl) ?_
    refine WO.splitB (fun h3 => ?_) (fun h3 => ?_)
    ·
     (try simp only [Q1, Q2, Q3, Q4, Q5, Q6, Q7, Q8, Q9, Qa] at h3)
     refine WO.qF rfl ?_
     refine WO.qF rfl ?_
     refine WO.qF rfl ?_
     refine WO.qF rfl ?_
     refine WO.qF rfl ?_
     refine WO.qF rfl ?_
     refine WO.qF rfl ?_
     refine WO.qF rfl ?_
     refine WO.qF rfl ?_
     refine WO.qF rfl ?_
     refine WO.qF rfl ?_
     refine WO.qF rfl ?_
     refine WO.q (Y.pickT (u := .bool _) rfl rfl) ?_
     refine WO.nil ?_
     refine Then.nx ⟨?_, ?_⟩
     ·
      (repeat (first | exact Out.hav _ _ _ | exact Out.refl _ _ | refine Out.up rfl ?_ | refine Out.sub rfl ?_))
     ·
      first | (exfalso; omega) | exact ⟨by (show Value.bool _ = Value.bool _; congr 1; unfold badC; repeat (first | rw [if_pos (by omega)] | rw [if_neg (by omega)])), S⟩
    ·
     (try simp only [Q1, Q2, Q3, Q4, Q5, Q6, Q7, Q8, Q9, Qa] at h3)
     refine WO.qT rfl (Y.fieldB fo_58_6 rfl) ?_
     first | refine WO.qT rfl (Y.load rfl (loadS1 sz_3 S 0 rfl rfl)) ?_ | refine WO.qT rfl (Y.load rfl (loadS1 sz_3 S 1 rfl rfl)) ?_
     refine WO.qT rfl (Y.eql rfl rfl) ?_
     refine WO.qT rfl (Y.move (v := .bool _) rfl) ?_
     refine WO.splitB (fun h4 => ?_) (fun h4 => ?_)
     ·
      (try simp only [Q1, Q2, Q3, Q4, Q5, Q6, Q7, Q8, Q9, Qa] at h4)
      refine WO.qT rfl (Y.fieldB fo_58_3 rfl) ?_
      first | refine WO.qT rfl (Y.load rfl (loadS1 sz_2 S 0 rfl rfl)) ?_ | refine WO.qT rfl (Y.load rfl (loadS1 sz_2 S 1 rfl rfl)) ?_
      refine WO.qT rfl (Y.neq rfl rfl) ?_
      refine WO.qT rfl (Y.move (v := .bool _) rfl) ?_
      refine WO.splitB (fun h5 => ?_) (fun h5 => ?_)
      ·
       (try simp only [Q1, Q2, Q3, Q4, Q5, Q6, Q7, Q8, Q9, Qa] at h5)
       refine WO.qF rfl ?_
       refine WO.qF rfl ?_
       refine WO.qT rfl (Y.pickT (u := .bool _) rfl rfl) ?_
       refine WO.qT rfl (Y.pickT (u := .bool _) rfl rfl) ?_
       refine WO.q (Y.pickF (u := .bool _) rfl rfl) ?_
       refine WO.nil ?_
       refine Then.nx ⟨?_, ?_⟩
       ·
        (repeat (first | exact Out.hav _ _ _ | exact Out.refl _ _ | refine Out.up rfl ?_ | refine Out.sub rfl ?_))
       ·
        first | (exfalso; omega) | exact ⟨by (show Value.bool _ = Value.bool _; congr 1; unfold badC; repeat (first | rw [if_pos (by omega)] | rw [if_neg (by omega)])), S⟩
      ·
       (try simp only [Q1, Q2, Q3, Q4, Q5, Q6, Q7, Q8, Q9, Qa] at h5)
       refine WO.qT rfl (Y.fieldB fo_58_4 rfl) ?_
       first | refine WO.qT rfl (Y.load rfl (loadS1 sz_4 S 0 rfl rfl)) ?_ | refine WO.qT rfl (Y.load rfl (loadS1 sz_4 S 1 rfl rfl)) ?_
       refine WO.qT rfl (Y.pickF (u := .bool _) rfl rfl) ?_
       refine WO.qT rfl (Y.pickT (u := .bool _) rfl rfl) ?_
       refine WO.q (Y.pickF (u := .bool _) rfl rfl) ?_
       refine WO.nil ?_
       refine Then.nx ⟨?_, ?_⟩
       ·
        (repeat (first | exact Out.hav _ _ _ | exact Out.refl _ _ | refine Out.up rfl ?_ | refine Out.sub rfl ?_))
       ·
        first | (exfalso; omega) | exact ⟨by (show Value.bool _ = Value.bool _; congr 1; unfold badC; repeat (first | rw [if_pos (by omega)] | rw [if_neg (by omega)])), S⟩
     ·
      (try simp only [Q1, Q2, Q3, Q4, Q5, Q6, Q7, Q8, Q9, Qa] at h4)
      refine WO.qF rfl ?_
      refine WO.qF rfl ?_
      refine WO.qF rfl ?_
      refine WO.qF rfl ?_
      refine WO.qF rfl ?_
      refine WO.qF rfl ?_
      refine WO.qF rfl ?_
      refine WO.qT rfl (Y.pickF (u := .bool _) rfl rfl) ?_
      refine WO.q (Y.pickF (u := .bool _) rfl rfl) ?_
      refine WO.nil ?_
      refine Then.nx ⟨?_, ?_⟩
      ·
       (repeat (first | exact Out.hav _ _ _ | exact Out.refl _ _ | refine Out.up rfl ?_ | refine Out.sub rfl ?_))
      ·
       first | (exfalso; omega) | exact ⟨by (show Value.bool _ = Value.bool _; congr 1; unfold badC; repeat (first | rw [if_pos (by omega)] | rw [if_neg (by omega)])), S⟩
   ·
    (try simp only [Q1, Q2, Q3, Q4, Q5, Q6, Q7, Q8, Q9, Qa] at h2)
    refine WO.qF rfl ?_
    refine WO.qF rfl ?_
    refine WO.qF rfl ?_
    refine WO.qF rfl ?_
    refine WO.qF rfl ?_
    refine WO.qT rfl (Y.pickF (u := .bool _) rfl rfl) ?_
    refine WO.q (Y.pickF (u := .bool _) rfl rfl) ?_
    refine WO.q (Y.move (v := .bool _) rfl) ?_
    refine WO.qT rfl (Y.fieldB fo_58_6 rfl) ?_
    first | refine WO.qT rfl (Y.load rfl (loadS1 sz_3 S 0 rfl rfl)) ?_ | refine WO.qT rfl (Y.load rfl (loadS1 sz_3 S 1 rfl rfl)) ?_
    refine WO.qT rfl (Y.eql rfl rfl) ?_
    refine WO.qT rfl (Y.move (v := .bool _) rfl) ?_
    refine WO.splitB (fun h6 => ?_) (fun h6 => ?_)
    ·
     (try simp only [Q1, Q2, Q3, Q4, Q5, Q6, Q7, Q8, Q9, Qa] at h6)
     refine WO.qT rfl (Y.fieldB fo_58_3 rfl) ?_
     first | refine WO.qT rfl (Y.load rfl (loadS1 sz_2 S 0 rfl rfl)) ?_ | refine WO.qT rfl (Y.load rfl (loadS1 sz_2 S 1 rfl rfl)) ?_
     refine WO.qT rfl (Y.neq rfl rfl) ?_
     refine WO.qT rfl (Y.move (v := .bool _) rfl) ?_
     refine WO.splitB (fun h7 => ?_) (fun h7 => ?_)
     ·
      (try simp only [Q1, Q2, Q3, Q4, Q5, Q6, Q7, Q8, Q9, Qa] at h7)
      refine WO.qF rfl ?_
      refine WO.qF rfl ?_
      refine WO.qT rfl (Y.pickT (u := .bool _) rfl rfl) ?_
      refine WO.qT rfl (Y.pickT (u := .bool _) rfl rfl) ?_
      refine WO.q (Y.pickF (u := .bool _) rfl rfl) ?_
      refine WO.nil ?_
      refine Then.nx ⟨?_, ?_⟩
      ·
       (repeat (first | exact Out.hav _ _ _ | exact Out.refl _ _ | refine Out.up rfl ?_ | refine Out.sub rfl ?_))
      ·
       first | (exfalso; omega) | exact ⟨by (show Value.bool _ = Value.bool _; congr 1; unfold badC; repeat (first | rw [if_pos (by omega)] | rw [if_neg (by omega)])), S⟩
     ·
      (try simp only [Q1, Q2, Q3, Q4, Q5, Q6, Q7, Q8, Q9, Qa] at h7)
      refine WO.qT rfl (Y.fieldB fo_58_4 rfl) ?_
      first | refine WO.qT rfl (Y.load rfl (loadS1 sz_4 S 0 rfl rfl)) ?_ | refine WO.qT rfl (Y.load rfl (loadS1 sz_4 S 1 rfl rfl)) ?_
      refine WO.qT rfl (Y.pickF (u := .bool _) rfl rfl) ?_
      refine WO.qT rfl (Y.pickT (u := .bool _) rfl rfl) ?_
      refine WO.q (Y.pickF (u := .bool _) rfl rfl) ?_
      refine WO.nil ?_
      refine Then.nx ⟨?_, ?_⟩
      ·
       (repeat (first | exact Out.hav _ _ _ | exact Out.refl _ _ | refine Out.up rfl ?_ | refine Out.sub rfl ?_))
      ·
       first | (exfalso; omega) | exact ⟨by (show Value.bool _ = Value.bool _; congr 1; unfold badC; repeat (first | rw [if_pos (by omega)] | rw [if_neg (by omega)])), S⟩
    ·
     (try simp only [Q1, Q2, Q3, Q4, Q5, Q6, Q7, Q8, Q9, Qa] at h6)
     refine WO.qF rfl ?_
     refine WO.qF rfl ?_
     refine WO.qF rfl ?_
     refine WO.qF rfl ?_
     refine WO.qF rfl ?_
     refine WO.qF rfl ?_
     refine WO.qF rfl ?_
     refine WO.qT rfl (Y.pickF (u := .bool _) rfl rfl) ?_
     refine WO.q (Y.pickF (u := .bool _) rfl rfl) ?_
     refine WO.nil ?_
     refine Then.nx ⟨?_, ?_⟩
     ·
      (repeat (first | exact Out.hav _ _ _ | exact Out.refl _ _ | refine Out.up rfl ?_ | refine Out.sub rfl ?_))
     ·
      first | (exfalso; omega) | exact ⟨by (show Value.bool _ = Value.bool _; congr 1; unfold badC; repeat (first | rw [if_pos (by omega)] | rw [if_neg (by omega)])), S⟩
 ·
  rintro gj212 v34 w ⟨rfl, S⟩
  refine W.cond rfl (fun h8 => ?_) (fun h8 => ?_) -- cond 0
  ·
   have rh8 := h8
   (try simp only [Q1, Q2, Q3, Q4, Q5, Q6, Q7, Q8, Q9, Qa] at h8)
   refine W.seq ?_
   refine W.region rfl ?_
   refine WO.q (Y.assign (v := .bool _) rfl) ?_
   refine WO.nil ?_
   refine Then.nx ?_
   refine W.ret ?_
   refine Then.r ?_
   refine BodyQ.ret1 Tryd.results41 (ResV.tmp _ rfl) ?_
   exact ⟨retB (by (unfold rightB; rw [show badC c = true by assumption]; rfl)), S.ext⟩
  ·
   have rh8 := h8
   (try simp only [Q1, Q2, Q3, Q4, Q5, Q6, Q7, Q8, Q9, Qa] at h8)
   refine W.skip ?_
   refine Then.nx ?_
   refine W.seq ?_
   refine W.region rfl ?_
   first | refine WO.q (Y.load rfl (loadSN sz_58 S 0 rfl rfl rfl)) ?_ | refine WO.q (Y.load rfl (loadSN sz_58 S 1 rfl rfl rfl)) ?_
   refine WO.e (O.alloc z_58 S (fun b5 w S => ?_))
   first | refine WO.e0 (O.store (v := .agg _) 0 S rfl rfl rfl sz_58 rfl rfl rfl rfl (fun w S => ?_)) | refine WO.e0 (O.store (v := .agg _) 1 S rfl rfl rfl sz_58 rfl rfl rfl rfl (fun w S => ?_))
   refine WO.nil ?_
   refine Then.nx ?_
   refine W.seq ?_
   refine W.region rfl ?_
   refine WO.q (Y.fieldB fo_58_5 rfl) ?_
   first | refine WO.e0 (O.store (v := .int .i64 _) 0 S rfl rfl rfl sz_3 rfl rfl rfl rfl (fun w S => ?_)) | refine WO.e0 (O.store (v := .int .i64 _) 1 S rfl rfl rfl sz_3 rfl rfl rfl rfl (fun w S => ?_))
   refine WO.q (Y.fieldB fo_58_6 rfl) ?_
   first | refine WO.e0 (O.store (v := .int .i64 _) 0 S rfl rfl rfl sz_3 rfl rfl rfl rfl (fun w S => ?_)) | refine WO.e0 (O.store (v := .int .i64 _) 1 S rfl rfl rfl sz_3 rfl rfl rfl rfl (fun w S => ?_))
   refine WO.q (Y.fieldB fo_58_0 rfl) ?_
   first | refine WO.e0 (O.store (v := .int .i8 _) 0 S rfl rfl rfl sz_56 rfl rfl rfl rfl (fun w S => ?_)) | refine WO.e0 (O.store (v := .int .i8 _) 1 S rfl rfl rfl sz_56 rfl rfl rfl rfl (fun w S => ?_))
   refine WO.nil ?_
   refine Then.nx ?_
   refine W.cut0 [4, 39, 40, 41, 42, 43, 44, 45, 46, 47, 48, 49, 50, 51, 52, 53, 54, 55, 56, 57, 58, 59, 60, 61, 62, 63, 64, 65, 66, 67, 68, 69, 70, 71, 72, 73, 74, 75, 76, 77, 78, 79, 80, 81, 82, 83, 84, 85, 86, 87, 88, 89, 90, 91, 92, 93, 94, 95, 96]  (fun w => ∃ bb : GCall, bareC k c = some bb ∧ Sat w0 w [Cel b5 (tCall.enc bb) 58, Cel b3 (tCall.enc c) 58]) ?_ ?_
   ·
    refine W.block ?_
    refine W.cut1 [39, 40, 41, 42, 43, 44, 45, 46, 47, 48, 49, 50, 51, 52, 53] 39 (fun v39 w => v39 = .bool (decide ((k ≤ 2 ∧ c.op = 1) ∨ (k = 4 ∧ c.op = 1))) ∧ Sat w0 w [Cel b5 (tCall.enc ⟨0, c.arg, c.new, c.answer, c.ok, 0, 0⟩) 58, Cel b3 (tCall.enc c) 58]) ?_ ?_
    ·
     refine W.cut1 [39, 40, 41, 42, 43, 44, 45, 46] 39 (fun v39 w => v39 = .bool (decide (k ≤ 2 ∧ c.op = 1)) ∧ Sat w0 w [Cel b5 (tCall.enc ⟨0, c.arg, c.new, c.answer, c.ok, 0, 0⟩) 58, Cel b3 (tCall.enc c) 58]) ?_ ?_
     ·
      refine W.region rfl ?_
      refine WO.q (Y.move (v := .int .i64 _) rfl) ?_
      refine WO.q (Y.leq rfl rfl) ?_
      refine WO.q (Y.move (v := .bool _) rfl) ?_
      refine WO.splitB (fun h9 => ?_) (fun h9 => ?_)
      ·
       (try simp only [Q1, Q2, Q3, Q4, Q5, Q6, Q7, Q8, Q9, Qa] at h9)
       refine WO.qT rfl (Y.fieldB fo_58_0 rfl) ?_
       first | refine WO.qT rfl (Y.load rfl (loadS1 sz_56 S 0 rfl rfl)) ?_ | refine WO.qT rfl (Y.load rfl (loadS1 sz_56 S 1 rfl rfl)) ?_
       refine WO.qT rfl (Y.eql rfl rfl) ?_
       refine WO.q (Y.pickT (u := .bool _) rfl rfl) ?_
       refine WO.q (Y.assign (v := .bool _) rfl) ?_
       refine WO.nil ?_
       refine Then.nx ⟨?_, ?_⟩
       ·
        (repeat (first | exact Out.hav _ _ _ | exact Out.refl _ _ | refine Out.up rfl ?_ | refine Out.sub rfl ?_))
       ·
        first | (exfalso; omega) | exact ⟨by (show Value.bool _ = Value.bool _; congr 1; first | (symm; rw [decide_eq_false_iff_not]; omega) | (symm; rw [decide_eq_true_eq]; omega) | (rw [decide_eq_decide]; omega)), S⟩
      ·
       (try simp only [Q1, Q2, Q3, Q4, Q5, Q6, Q7, Q8, Q9, Qa] at h9)
       refine WO.qF rfl ?_
       refine WO.qF rfl ?_
       refine WO.qF rfl ?_
       refine WO.q (Y.pickF (u := .bool _) rfl rfl) ?_
       refine WO.q (Y.assign (v := .bool _) rfl) ?_
       refine WO.nil ?_
       refine Then.nx ⟨?_, ?_⟩
       ·
        (repeat (first | exact Out.hav _ _ _ | exact Out.refl _ _ | refine Out.up rfl ?_ | refine Out.sub rfl ?_))
       ·
        first | (exfalso; omega) | exact ⟨by (show Value.bool _ = Value.bool _; congr 1; first | (symm; rw [decide_eq_false_iff_not]; omega) | (symm; rw [decide_eq_true_eq]; omega) | (rw [decide_eq_decide]; omega)), S⟩
     ·
      rintro gj287 v39 w ⟨rfl, S⟩
      refine W.cond rfl (fun h10 => ?_) (fun h10 => ?_) -- cond 1
      ·
       have rh10 := h10
       (try simp only [Q1, Q2, Q3, Q4, Q5, Q6, Q7, Q8, Q9, Qa] at h10)
       refine W.skip ?_
       refine Then.nx ⟨?_, ?_⟩
       ·
        (repeat (first | exact Out.hav _ _ _ | exact Out.refl _ _ | refine Out.up rfl ?_ | refine Out.sub rfl ?_))
       ·
        first | (exfalso; omega) | exact ⟨by (show Value.bool _ = Value.bool _; congr 1; first | (symm; rw [decide_eq_false_iff_not]; omega) | (symm; rw [decide_eq_true_eq]; omega) | (rw [decide_eq_decide]; omega)), S⟩
      ·
       have rh10 := h10
       (try simp only [Q1, Q2, Q3, Q4, Q5, Q6, Q7, Q8, Q9, Qa] at h10)
       refine W.region rfl ?_
       refine WO.q (Y.move (v := .int .i64 _) rfl) ?_
       refine WO.q (Y.eql rfl rfl) ?_
       refine WO.q (Y.move (v := .bool _) rfl) ?_
       refine WO.splitB (fun h11 => ?_) (fun h11 => ?_)
       ·
        (try simp only [Q1, Q2, Q3, Q4, Q5, Q6, Q7, Q8, Q9, Qa] at h11)
        refine WO.qT rfl (Y.fieldB fo_58_0 rfl) ?_
        first | refine WO.qT rfl (Y.load rfl (loadS1 sz_56 S 0 rfl rfl)) ?_ | refine WO.qT rfl (Y.load rfl (loadS1 sz_56 S 1 rfl rfl)) ?_
        refine WO.qT rfl (Y.eql rfl rfl) ?_
        refine WO.q (Y.pickT (u := .bool _) rfl rfl) ?_
        refine WO.q (Y.assign (v := .bool _) rfl) ?_
        refine WO.nil ?_
        refine Then.nx ⟨?_, ?_⟩
        ·
         (repeat (first | exact Out.hav _ _ _ | exact Out.refl _ _ | refine Out.up rfl ?_ | refine Out.sub rfl ?_))
        ·
         first | (exfalso; omega) | exact ⟨by (show Value.bool _ = Value.bool _; congr 1; first | (symm; rw [decide_eq_false_iff_not]; omega) | (symm; rw [decide_eq_true_eq]; omega) | (rw [decide_eq_decide]; omega)), S⟩
       ·
        (try simp only [Q1, Q2, Q3, Q4, Q5, Q6, Q7, Q8, Q9, Qa] at h11)
        refine WO.qF rfl ?_
        refine WO.qF rfl ?_
        refine WO.qF rfl ?_
        refine WO.q (Y.pickF (u := .bool _) rfl rfl) ?_
        refine WO.q (Y.assign (v := .bool _) rfl) ?_
        refine WO.nil ?_
        refine Then.nx ⟨?_, ?_⟩
        ·
         (repeat (first | exact Out.hav _ _ _ | exact Out.refl _ _ | refine Out.up rfl ?_ | refine Out.sub rfl ?_))
        ·
         first | (exfalso; omega) | exact ⟨by (show Value.bool _ = Value.bool _; congr 1; first | (symm; rw [decide_eq_false_iff_not]; omega) | (symm; rw [decide_eq_true_eq]; omega) | (rw [decide_eq_decide]; omega)), S⟩
    ·
     rintro gj333 v39 w ⟨rfl, S⟩
     refine W.cond rfl (fun h12 => ?_) (fun h12 => ?_) -- cond 2
     ·
      have rh12 := h12
      (try simp only [Q1, Q2, Q3, Q4, Q5, Q6, Q7, Q8, Q9, Qa] at h12)
      refine W.region rfl ?_
      refine WO.q (Y.fieldB fo_58_1 rfl) ?_
      first | refine WO.e0 (O.store (v := .int .i64 _) 0 S rfl rfl rfl sz_2 rfl rfl rfl rfl (fun w S => ?_)) | refine WO.e0 (O.store (v := .int .i64 _) 1 S rfl rfl rfl sz_2 rfl rfl rfl rfl (fun w S => ?_))
      refine WO.nil ?_
      refine InB.nx ?_
      refine Then.nx ⟨?_, ?_⟩
      ·
       (repeat (first | exact Out.hav _ _ _ | exact Out.refl _ _ | refine Out.up rfl ?_ | refine Out.sub rfl ?_))
      ·
       first | (exfalso; omega) | (unfold bareC; (repeat (first | rw [if_pos (by omega)] | rw [if_neg (by omega)] | rw [if_pos (by assumption)] | rw [if_neg (by simp only [*]; decide)])); exact ⟨_, rfl, S⟩)
     ·
      have rh12 := h12
      (try simp only [Q1, Q2, Q3, Q4, Q5, Q6, Q7, Q8, Q9, Qa] at h12)
      refine W.cut1 [55, 56, 57, 58, 59, 60, 61, 62] 55 (fun v55 w => v55 = .bool (decide (k ≤ 2 ∧ c.op = 2)) ∧ Sat w0 w [Cel b5 (tCall.enc ⟨0, c.arg, c.new, c.answer, c.ok, 0, 0⟩) 58, Cel b3 (tCall.enc c) 58]) ?_ ?_
      ·
       refine W.region rfl ?_
       refine WO.q (Y.move (v := .int .i64 _) rfl) ?_
       refine WO.q (Y.leq rfl rfl) ?_
       refine WO.q (Y.move (v := .bool _) rfl) ?_
       refine WO.splitB (fun h13 => ?_) (fun h13 => ?_)
       ·
        (try simp only [Q1, Q2, Q3, Q4, Q5, Q6, Q7, Q8, Q9, Qa] at h13)
        refine WO.qT rfl (Y.fieldB fo_58_0 rfl) ?_
        first | refine WO.qT rfl (Y.load rfl (loadS1 sz_56 S 0 rfl rfl)) ?_ | refine WO.qT rfl (Y.load rfl (loadS1 sz_56 S 1 rfl rfl)) ?_
        refine WO.qT rfl (Y.eql rfl rfl) ?_
        refine WO.q (Y.pickT (u := .bool _) rfl rfl) ?_
        refine WO.q (Y.assign (v := .bool _) rfl) ?_
        refine WO.nil ?_
        refine Then.nx ⟨?_, ?_⟩
        ·
         (repeat (first | exact Out.hav _ _ _ | exact Out.refl _ _ | refine Out.up rfl ?_ | refine Out.sub rfl ?_))
        ·
         first | (exfalso; omega) | exact ⟨by (show Value.bool _ = Value.bool _; congr 1; first | (symm; rw [decide_eq_false_iff_not]; omega) | (symm; rw [decide_eq_true_eq]; omega) | (rw [decide_eq_decide]; omega)), S⟩
       ·
        (try simp only [Q1, Q2, Q3, Q4, Q5, Q6, Q7, Q8, Q9, Qa] at h13)
        refine WO.qF rfl ?_
        refine WO.qF rfl ?_
        refine WO.qF rfl ?_
        refine WO.q (Y.pickF (u := .bool _) rfl rfl) ?_
        refine WO.q (Y.assign (v := .bool _) rfl) ?_
        refine WO.nil ?_
        refine Then.nx ⟨?_, ?_⟩
        ·
         (repeat (first | exact Out.hav _ _ _ | exact Out.refl _ _ | refine Out.up rfl ?_ | refine Out.sub rfl ?_))
        ·
         first | (exfalso; omega) | exact ⟨by (show Value.bool _ = Value.bool _; congr 1; first | (symm; rw [decide_eq_false_iff_not]; omega) | (symm; rw [decide_eq_true_eq]; omega) | (rw [decide_eq_decide]; omega)), S⟩
      ·
       rintro gj385 v55 w ⟨rfl, S⟩
       refine W.cond rfl (fun h14 => ?_) (fun h14 => ?_) -- cond 3
       ·
        have rh14 := h14
        (try simp only [Q1, Q2, Q3, Q4, Q5, Q6, Q7, Q8, Q9, Qa] at h14)
        refine W.seq ?_
        refine W.region rfl ?_
        refine WO.q (Y.fieldB fo_58_4 rfl) ?_
        first | refine WO.q (Y.load rfl (loadS1 sz_4 S 0 rfl rfl)) ?_ | refine WO.q (Y.load rfl (loadS1 sz_4 S 1 rfl rfl)) ?_
        refine WO.nil ?_
        refine Then.nx ?_
        refine W.cond rfl (fun h15 => ?_) (fun h15 => ?_) -- cond 4
        ·
         have rh15 := h15
         (try simp only [Q1, Q2, Q3, Q4, Q5, Q6, Q7, Q8, Q9, Qa] at h15)
         refine W.region rfl ?_
         refine WO.q (Y.fieldB fo_58_3 rfl) ?_
         first | refine WO.e0 (O.store (v := .int .i64 _) 0 S rfl rfl rfl sz_2 rfl rfl rfl rfl (fun w S => ?_)) | refine WO.e0 (O.store (v := .int .i64 _) 1 S rfl rfl rfl sz_2 rfl rfl rfl rfl (fun w S => ?_))
         refine WO.q (Y.fieldB fo_58_4 rfl) ?_
         first | refine WO.e0 (O.store (v := .bool _) 0 S rfl rfl rfl sz_4 rfl rfl rfl rfl (fun w S => ?_)) | refine WO.e0 (O.store (v := .bool _) 1 S rfl rfl rfl sz_4 rfl rfl rfl rfl (fun w S => ?_))
         refine WO.nil ?_
         refine InB.nx ?_
         refine Then.nx ⟨?_, ?_⟩
         ·
          (repeat (first | exact Out.hav _ _ _ | exact Out.refl _ _ | refine Out.up rfl ?_ | refine Out.sub rfl ?_))
         ·
          first | (exfalso; omega) | (unfold bareC; (repeat (first | rw [if_pos (by omega)] | rw [if_neg (by omega)] | rw [if_pos (by assumption)] | rw [if_neg (by simp only [*]; decide)])); exact ⟨_, rfl, S⟩)
        ·
         have rh15 := h15
         (try simp only [Q1, Q2, Q3, Q4, Q5, Q6, Q7, Q8, Q9, Qa] at h15)
         refine W.skip ?_
         refine InB.nx ?_
         refine Then.nx ⟨?_, ?_⟩
         ·
          (repeat (first | exact Out.hav _ _ _ | exact Out.refl _ _ | refine Out.up rfl ?_ | refine Out.sub rfl ?_))
         ·
          first | (exfalso; omega) | (unfold bareC; (repeat (first | rw [if_pos (by omega)] | rw [if_neg (by omega)] | rw [if_pos (by assumption)] | rw [if_neg (by simp only [*]; decide)])); exact ⟨_, rfl, S⟩)
       ·
        have rh14 := h14
        (try simp only [Q1, Q2, Q3, Q4, Q5, Q6, Q7, Q8, Q9, Qa] at h14)
        refine W.cut1 [67, 68, 69, 70, 71, 72, 73, 74] 67 (fun v67 w => v67 = .bool (decide (k = 3 ∧ c.op = 3)) ∧ Sat w0 w [Cel b5 (tCall.enc ⟨0, c.arg, c.new, c.answer, c.ok, 0, 0⟩) 58, Cel b3 (tCall.enc c) 58]) ?_ ?_
        ·
         refine W.region rfl ?_
         refine WO.q (Y.move (v := .int .i64 _) rfl) ?_
         refine WO.q (Y.eql rfl rfl) ?_
         refine WO.q (Y.move (v := .bool _) rfl) ?_
         refine WO.splitB (fun h16 => ?_) (fun h16 => ?_)
         ·
          (try simp only [Q1, Q2, Q3, Q4, Q5, Q6, Q7, Q8, Q9, Qa] at h16)
          refine WO.qT rfl (Y.fieldB fo_58_0 rfl) ?_
          first | refine WO.qT rfl (Y.load rfl (loadS1 sz_56 S 0 rfl rfl)) ?_ | refine WO.qT rfl (Y.load rfl (loadS1 sz_56 S 1 rfl rfl)) ?_
          refine WO.qT rfl (Y.eql rfl rfl) ?_
          refine WO.q (Y.pickT (u := .bool _) rfl rfl) ?_
          refine WO.q (Y.assign (v := .bool _) rfl) ?_
          refine WO.nil ?_
          refine Then.nx ⟨?_, ?_⟩
          ·
           (repeat (first | exact Out.hav _ _ _ | exact Out.refl _ _ | refine Out.up rfl ?_ | refine Out.sub rfl ?_))
          ·
           first | (exfalso; omega) | exact ⟨by (show Value.bool _ = Value.bool _; congr 1; first | (symm; rw [decide_eq_false_iff_not]; omega) | (symm; rw [decide_eq_true_eq]; omega) | (rw [decide_eq_decide]; omega)), S⟩
         ·
          (try simp only [Q1, Q2, Q3, Q4, Q5, Q6, Q7, Q8, Q9, Qa] at h16)
          refine WO.qF rfl ?_
          refine WO.qF rfl ?_
          refine WO.qF rfl ?_
          refine WO.q (Y.pickF (u := .bool _) rfl rfl) ?_
          refine WO.q (Y.assign (v := .bool _) rfl) ?_
          refine WO.nil ?_
          refine Then.nx ⟨?_, ?_⟩
          ·
           (repeat (first | exact Out.hav _ _ _ | exact Out.refl _ _ | refine Out.up rfl ?_ | refine Out.sub rfl ?_))
          ·
           first | (exfalso; omega) | exact ⟨by (show Value.bool _ = Value.bool _; congr 1; first | (symm; rw [decide_eq_false_iff_not]; omega) | (symm; rw [decide_eq_true_eq]; omega) | (rw [decide_eq_decide]; omega)), S⟩
        ·
         rintro gj459 v67 w ⟨rfl, S⟩
         refine W.cond rfl (fun h17 => ?_) (fun h17 => ?_) -- cond 5
         ·
          have rh17 := h17
          (try simp only [Q1, Q2, Q3, Q4, Q5, Q6, Q7, Q8, Q9, Qa] at h17)
          refine W.region rfl ?_
          refine WO.q (Y.fieldB fo_58_1 rfl) ?_
          first | refine WO.e0 (O.store (v := .int .i64 _) 0 S rfl rfl rfl sz_2 rfl rfl rfl rfl (fun w S => ?_)) | refine WO.e0 (O.store (v := .int .i64 _) 1 S rfl rfl rfl sz_2 rfl rfl rfl rfl (fun w S => ?_))
          refine WO.q (Y.fieldB fo_58_3 rfl) ?_
          first | refine WO.e0 (O.store (v := .int .i64 _) 0 S rfl rfl rfl sz_2 rfl rfl rfl rfl (fun w S => ?_)) | refine WO.e0 (O.store (v := .int .i64 _) 1 S rfl rfl rfl sz_2 rfl rfl rfl rfl (fun w S => ?_))
          refine WO.nil ?_
          refine InB.nx ?_
          refine Then.nx ⟨?_, ?_⟩
          ·
           (repeat (first | exact Out.hav _ _ _ | exact Out.refl _ _ | refine Out.up rfl ?_ | refine Out.sub rfl ?_))
          ·
           first | (exfalso; omega) | (unfold bareC; (repeat (first | rw [if_pos (by omega)] | rw [if_neg (by omega)] | rw [if_pos (by assumption)] | rw [if_neg (by simp only [*]; decide)])); exact ⟨_, rfl, S⟩)
         ·
          have rh17 := h17
          (try simp only [Q1, Q2, Q3, Q4, Q5, Q6, Q7, Q8, Q9, Qa] at h17)
          refine W.cut1 [77, 78, 79, 80, 81, 82, 83, 84] 77 (fun v77 w => v77 = .bool (decide (3 ≤ k ∧ c.op = 4)) ∧ Sat w0 w [Cel b5 (tCall.enc ⟨0, c.arg, c.new, c.answer, c.ok, 0, 0⟩) 58, Cel b3 (tCall.enc c) 58]) ?_ ?_
          ·
           refine W.region rfl ?_
           refine WO.q (Y.move (v := .int .i64 _) rfl) ?_
           refine WO.q (Y.geq rfl rfl) ?_
           refine WO.q (Y.move (v := .bool _) rfl) ?_
           refine WO.splitB (fun h18 => ?_) (fun h18 => ?_)
           ·
            (try simp only [Q1, Q2, Q3, Q4, Q5, Q6, Q7, Q8, Q9, Qa] at h18)
            refine WO.qT rfl (Y.fieldB fo_58_0 rfl) ?_
            first | refine WO.qT rfl (Y.load rfl (loadS1 sz_56 S 0 rfl rfl)) ?_ | refine WO.qT rfl (Y.load rfl (loadS1 sz_56 S 1 rfl rfl)) ?_
            refine WO.qT rfl (Y.eql rfl rfl) ?_
            refine WO.q (Y.pickT (u := .bool _) rfl rfl) ?_
            refine WO.q (Y.assign (v := .bool _) rfl) ?_
            refine WO.nil ?_
            refine Then.nx ⟨?_, ?_⟩
            ·
             (repeat (first | exact Out.hav _ _ _ | exact Out.refl _ _ | refine Out.up rfl ?_ | refine Out.sub rfl ?_))
            ·
             first | (exfalso; omega) | exact ⟨by (show Value.bool _ = Value.bool _; congr 1; first | (symm; rw [decide_eq_false_iff_not]; omega) | (symm; rw [decide_eq_true_eq]; omega) | (rw [decide_eq_decide]; omega)), S⟩
           ·
            (try simp only [Q1, Q2, Q3, Q4, Q5, Q6, Q7, Q8, Q9, Qa] at h18)
            refine WO.qF rfl ?_
            refine WO.qF rfl ?_
            refine WO.qF rfl ?_
            refine WO.q (Y.pickF (u := .bool _) rfl rfl) ?_
            refine WO.q (Y.assign (v := .bool _) rfl) ?_
            refine WO.nil ?_
            refine Then.nx ⟨?_, ?_⟩
            ·
             (repeat (first | exact Out.hav _ _ _ | exact Out.refl _ _ | refine Out.up rfl ?_ | refine Out.sub rfl ?_))
            ·
             first | (exfalso; omega) | exact ⟨by (show Value.bool _ = Value.bool _; congr 1; first | (symm; rw [decide_eq_false_iff_not]; omega) | (symm; rw [decide_eq_true_eq]; omega) | (rw [decide_eq_decide]; omega)), S⟩
          ·
           rintro gj513 v77 w ⟨rfl, S⟩
           refine W.cond rfl (fun h19 => ?_) (fun h19 => ?_) -- cond 6
           ·
            have rh19 := h19
            (try simp only [Q1, Q2, Q3, Q4, Q5, Q6, Q7, Q8, Q9, Qa] at h19)
            refine W.region rfl ?_
            refine WO.q (Y.fieldB fo_58_3 rfl) ?_
            first | refine WO.e0 (O.store (v := .int .i64 _) 0 S rfl rfl rfl sz_2 rfl rfl rfl rfl (fun w S => ?_)) | refine WO.e0 (O.store (v := .int .i64 _) 1 S rfl rfl rfl sz_2 rfl rfl rfl rfl (fun w S => ?_))
            refine WO.nil ?_
            refine InB.nx ?_
            refine Then.nx ⟨?_, ?_⟩
            ·
             (repeat (first | exact Out.hav _ _ _ | exact Out.refl _ _ | refine Out.up rfl ?_ | refine Out.sub rfl ?_))
            ·
             first | (exfalso; omega) | (unfold bareC; (repeat (first | rw [if_pos (by omega)] | rw [if_neg (by omega)] | rw [if_pos (by assumption)] | rw [if_neg (by simp only [*]; decide)])); exact ⟨_, rfl, S⟩)
           ·
            have rh19 := h19
            (try simp only [Q1, Q2, Q3, Q4, Q5, Q6, Q7, Q8, Q9, Qa] at h19)
            refine W.cut1 [86, 87, 88, 89, 90, 91, 92, 93] 86 (fun v86 w => v86 = .bool (decide (k = 4 ∧ c.op = 5)) ∧ Sat w0 w [Cel b5 (tCall.enc ⟨0, c.arg, c.new, c.answer, c.ok, 0, 0⟩) 58, Cel b3 (tCall.enc c) 58]) ?_ ?_
            ·
             refine W.region rfl ?_
             refine WO.q (Y.move (v := .int .i64 _) rfl) ?_
             refine WO.q (Y.eql rfl rfl) ?_
             refine WO.q (Y.move (v := .bool _) rfl) ?_
             refine WO.splitB (fun h20 => ?_) (fun h20 => ?_)
             ·
              (try simp only [Q1, Q2, Q3, Q4, Q5, Q6, Q7, Q8, Q9, Qa] at h20)
              refine WO.qT rfl (Y.fieldB fo_58_0 rfl) ?_
              first | refine WO.qT rfl (Y.load rfl (loadS1 sz_56 S 0 rfl rfl)) ?_ | refine WO.qT rfl (Y.load rfl (loadS1 sz_56 S 1 rfl rfl)) ?_
              refine WO.qT rfl (Y.eql rfl rfl) ?_
              refine WO.q (Y.pickT (u := .bool _) rfl rfl) ?_
              refine WO.q (Y.assign (v := .bool _) rfl) ?_
              refine WO.nil ?_
              refine Then.nx ⟨?_, ?_⟩
              ·
               (repeat (first | exact Out.hav _ _ _ | exact Out.refl _ _ | refine Out.up rfl ?_ | refine Out.sub rfl ?_))
              ·
               first | (exfalso; omega) | exact ⟨by (show Value.bool _ = Value.bool _; congr 1; first | (symm; rw [decide_eq_false_iff_not]; omega) | (symm; rw [decide_eq_true_eq]; omega) | (rw [decide_eq_decide]; omega)), S⟩
             ·
              (try simp only [Q1, Q2, Q3, Q4, Q5, Q6, Q7, Q8, Q9, Qa] at h20)
              refine WO.qF rfl ?_
              refine WO.qF rfl ?_
              refine WO.qF rfl ?_
              refine WO.q (Y.pickF (u := .bool _) rfl rfl) ?_
              refine WO.q (Y.assign (v := .bool _) rfl) ?_
              refine WO.nil ?_
              refine Then.nx ⟨?_, ?_⟩
              ·
               (repeat (first | exact Out.hav _ _ _ | exact Out.refl _ _ | refine Out.up rfl ?_ | refine Out.sub rfl ?_))
              ·
               first | (exfalso; omega) | exact ⟨by (show Value.bool _ = Value.bool _; congr 1; first | (symm; rw [decide_eq_false_iff_not]; omega) | (symm; rw [decide_eq_true_eq]; omega) | (rw [decide_eq_decide]; omega)), S⟩
            ·
             rintro gj565 v86 w ⟨rfl, S⟩
             refine W.cond rfl (fun h21 => ?_) (fun h21 => ?_) -- cond 7
             ·
              have rh21 := h21
              (try simp only [Q1, Q2, Q3, Q4, Q5, Q6, Q7, Q8, Q9, Qa] at h21)
              refine W.region rfl ?_
              refine WO.q (Y.fieldB fo_58_1 rfl) ?_
              first | refine WO.e0 (O.store (v := .int .i64 _) 0 S rfl rfl rfl sz_2 rfl rfl rfl rfl (fun w S => ?_)) | refine WO.e0 (O.store (v := .int .i64 _) 1 S rfl rfl rfl sz_2 rfl rfl rfl rfl (fun w S => ?_))
              refine WO.q (Y.fieldB fo_58_2 rfl) ?_
              first | refine WO.e0 (O.store (v := .int .i64 _) 0 S rfl rfl rfl sz_2 rfl rfl rfl rfl (fun w S => ?_)) | refine WO.e0 (O.store (v := .int .i64 _) 1 S rfl rfl rfl sz_2 rfl rfl rfl rfl (fun w S => ?_))
              refine WO.q (Y.fieldB fo_58_4 rfl) ?_
              first | refine WO.e0 (O.store (v := .bool _) 0 S rfl rfl rfl sz_4 rfl rfl rfl rfl (fun w S => ?_)) | refine WO.e0 (O.store (v := .bool _) 1 S rfl rfl rfl sz_4 rfl rfl rfl rfl (fun w S => ?_))
              refine WO.nil ?_
              refine InB.nx ?_
              refine Then.nx ⟨?_, ?_⟩
              ·
               (repeat (first | exact Out.hav _ _ _ | exact Out.refl _ _ | refine Out.up rfl ?_ | refine Out.sub rfl ?_))
              ·
               first | (exfalso; omega) | (unfold bareC; (repeat (first | rw [if_pos (by omega)] | rw [if_neg (by omega)] | rw [if_pos (by assumption)] | rw [if_neg (by simp only [*]; decide)])); exact ⟨_, rfl, S⟩)
             ·
              have rh21 := h21
              (try simp only [Q1, Q2, Q3, Q4, Q5, Q6, Q7, Q8, Q9, Qa] at h21)
              refine W.seq ?_
              refine W.region rfl ?_
              refine WO.q (Y.assign (v := .bool _) rfl) ?_
              refine WO.nil ?_
              refine Then.nx ?_
              refine W.ret ?_
              refine InB.r ?_
              refine Then.r ?_
              refine BodyQ.ret1 Tryd.results41 (ResV.tmp _ rfl) ?_
              exact ⟨retB (by (unfold rightB bareC; rw [show badC c = false by assumption]; (repeat (first | rw [if_pos (by omega)] | rw [if_neg (by omega)])); rfl)), S.ext⟩
   ·
    rintro gj598 w ⟨bb, hbb, S⟩
    refine W.seq ?_
    refine W.region rfl ?_
    first | refine WO.q (Y.load rfl (loadSN sz_58 S 0 rfl rfl rfl)) ?_ | refine WO.q (Y.load rfl (loadSN sz_58 S 1 rfl rfl rfl)) ?_
    refine WO.q (Y.build rfl (bld_58_)) ?_
    first | refine WO.q (Y.eqlA eqt_58 rfl rfl) ?_ | refine WO.q (Y.eqlA (x := bb) (y := call0) eqt_58 rfl rfl) ?_
    refine WO.q (Y.assign (v := .bool _) rfl) ?_
    refine WO.nil ?_
    refine Then.nx ?_
    refine W.ret ?_
    refine BodyQ.ret1 Tryd.results41 (ResV.tmp _ rfl) ?_
    exact ⟨retB (by (unfold rightB; rw [show badC c = false by assumption, hbb]; rfl)), S.ext⟩
theorem does_spec (w0 : World) (k : Int) (a : Option Addr) (cap : Nat) (hs : List Int) (c : GCall) (R1 : Rd (tI .i64) w0 a hs) (hk : 1 ≤ k) (hne : 2 < k → hs ≠ []) (hcap : hs.length ≤ cap) (hl : hs.length ≤ 4096) :
    Calls Tryd.prog 45 [.int .i64 k, .slice a hs.length cap, .agg (tCall.enc c).toArray].toArray w0 (fun e w => ∃ a' cap' M, e = .returned (.tuple #[.slice a' (doesM k hs c).1.length cap', .agg (tCall.enc (doesM k hs c).2).toArray]) ∧ (doesM k hs c).1.length ≤ cap' ∧ Sat w0 w [M] ∧ ∀ X, Reads X (tI .i64) a hs → Reads (Bun [M, X]) (tI .i64) a' (doesM k hs c).1) := by
 have S := Sat.refl w0
 refine calls_of_W (args := [.int .i64 k, .slice a hs.length cap, .agg (tCall.enc c).toArray]) 87 Tryd.func45 rfl Tryd.ntmps45 rfl ?_
 refine W.seq ?_
 refine W.region rfl ?_
 refine WO.e (O.box rfl rfl S (fun b5 w S => ?_))
 refine WO.q (Y.assign (v := .slice _ _ _) rfl) ?_
 refine WO.e (O.alloc z_58 S (fun b7 w S => ?_))
 refine WO.nil ?_
 refine Then.nx ?_
 refine W.seq ?_
 refine W.region rfl ?_
 refine WO.q (Y.fieldB fo_58_3 rfl) ?_
 first | refine WO.e0 (O.store (v := .int .i64 _) 0 S rfl rfl rfl sz_2 rfl rfl rfl rfl (fun w S => ?_)) | refine WO.e0 (O.store (v := .int .i64 _) 1 S rfl rfl rfl sz_2 rfl rfl rfl rfl (fun w S => ?_)) | refine WO.e0 (O.store (v := .int .i64 _) 2 S rfl rfl rfl sz_2 rfl rfl rfl rfl (fun w S => ?_))
 refine WO.q (Y.fieldB fo_58_4 rfl) ?_
 first | refine WO.e0 (O.store (v := .bool _) 0 S rfl rfl rfl sz_4 rfl rfl rfl rfl (fun w S => ?_)) | refine WO.e0 (O.store (v := .bool _) 1 S rfl rfl rfl sz_4 rfl rfl rfl rfl (fun w S => ?_)) | refine WO.e0 (O.store (v := .bool _) 2 S rfl rfl rfl sz_4 rfl rfl rfl rfl (fun w S => ?_))
 refine WO.nil ?_
 refine Then.nx ?_
 refine W.seq ?_
 refine W.seq ?_
 replace S : Sat w0 w [Cel b7 (tCall.enc call0) 58, Cel b5 (tCall.enc ⟨c.op, c.arg, c.new, 0, false, c.begin_, c.end_⟩) 58] := S
 refine W.region rfl ?_
 refine WO.q (Y.move (v := .int .i64 _) rfl) ?_
 refine WO.q (Y.leq rfl rfl) ?_
 refine WO.nil ?_
 refine Then.nx ?_
 refine W.cond rfl (fun h1 => ?_) (fun h1 => ?_) -- cond 0
 ·
  have rh1 := h1
  (try simp only [Q1, Q2, Q3, Q4, Q5, Q6, Q7, Q8, Q9, Qa] at h1)
  refine W.seq ?_
  refine W.seq ?_
  refine W.region rfl ?_
  refine WO.q (Y.fieldB fo_58_0 rfl) ?_
  first | refine WO.q (Y.load rfl (loadS1 sz_56 S 0 rfl rfl)) ?_ | refine WO.q (Y.load rfl (loadS1 sz_56 S 1 rfl rfl)) ?_ | refine WO.q (Y.load rfl (loadS1 sz_56 S 2 rfl rfl)) ?_
  refine WO.q (Y.eql rfl rfl) ?_
  refine WO.nil ?_
  refine Then.nx ?_
  refine W.cond rfl (fun h2 => ?_) (fun h2 => ?_) -- cond 1
  ·
   have rh2 := h2
   (try simp only [Q1, Q2, Q3, Q4, Q5, Q6, Q7, Q8, Q9, Qa] at h2)
   refine W.seq ?_
   refine W.drawT (.q 0 (.q 2 (.q 3 (.q 6 (.br 1 (.e 4 (.e 5 (.q 7 (.e 8 .nil)))) 4 (.e 1 (.e 5 (.q 7 (.e 8 .nil))))))))) (fun w => Sat w0 w [Cel b7 (tCall.enc call0) 58, Cel b5 (tCall.enc ⟨c.op, c.arg, c.new, 0, false, c.begin_, c.end_⟩) 58]) (fun w => Sat _ w _) rfl rfl (by kernel_rfl) rfl (by kernel_rfl) (by repeat (first | exact BodyQ.noFrame | refine Then.noFrame ?_ | refine InB.noFrame ?_)) (fun w S => S.pk (by repeat (first | exact Pk.nil _ | exact Pk.refl _ | refine Pk.cons 0 rfl ?_ | refine Pk.cons 1 rfl ?_ | refine Pk.cons 2 rfl ?_ | refine Pk.cons 3 rfl ?_ | refine Pk.cons 4 rfl ?_ | refine Pk.cons 5 rfl ?_ | refine Pk.cons 6 rfl ?_ | refine Pk.cons 7 rfl ?_ | refine Pk.cons 8 rfl ?_ | refine Pk.cons 9 rfl ?_ | refine Pk.cons 10 rfl ?_ | refine Pk.cons 11 rfl ?_ | refine Pk.cons 12 rfl ?_ | refine Pk.cons 13 rfl ?_ | refine Pk.drop ?_))) S.drew ?_
   clear S
   refine PlanT.q rfl (fun w S => Y.move (v := .slice _ _ _) rfl) ?_
   refine PlanT.q rfl (fun w S => Y.fieldB fo_58_1 rfl) ?_
   first | refine PlanT.q rfl (fun w S => Y.load rfl (loadS1 sz_2 S 0 rfl rfl)) ?_ | refine PlanT.q rfl (fun w S => Y.load rfl (loadS1 sz_2 S 1 rfl rfl)) ?_ | refine PlanT.q rfl (fun w S => Y.load rfl (loadS1 sz_2 S 2 rfl rfl)) ?_
   first | refine PlanT.q rfl (fun w S => Y.load rfl (loadSN sz_58 S 0 rfl rfl rfl)) ?_ | refine PlanT.q rfl (fun w S => Y.load rfl (loadSN sz_58 S 1 rfl rfl rfl)) ?_ | refine PlanT.q rfl (fun w S => Y.load rfl (loadSN sz_58 S 2 rfl rfl rfl)) ?_
   refine PlanT.br ?_ ?_
   ·
    refine PlanT.e1 rfl (fun w S => O.call cf_75 rfl (Clip_spec _ _ _ _ hcap) ?_)
    rintro _ w ⟨rfl, E⟩
    replace S := S.keep E
    refine ⟨_, rfl, ?_⟩
    refine ⟨(fun w => Sat w0 w [Cel b7 (tCall.enc call0) 58, Cel b5 (tCall.enc ⟨c.op, c.arg, c.new, 0, false, c.begin_, c.end_⟩) 58]), (fun w => Sat _ w _), S, (.inr (fun _ h => h)), (fun w S => S.pk (by repeat (first | exact Pk.nil _ | exact Pk.refl _ | refine Pk.cons 0 rfl ?_ | refine Pk.cons 1 rfl ?_ | refine Pk.cons 2 rfl ?_ | refine Pk.cons 3 rfl ?_ | refine Pk.cons 4 rfl ?_ | refine Pk.cons 5 rfl ?_ | refine Pk.cons 6 rfl ?_ | refine Pk.cons 7 rfl ?_ | refine Pk.cons 8 rfl ?_ | refine Pk.cons 9 rfl ?_ | refine Pk.cons 10 rfl ?_ | refine Pk.cons 11 rfl ?_ | refine Pk.cons 12 rfl ?_ | refine Pk.cons 13 rfl ?_ | refine Pk.drop ?_))), ?_⟩
    clear S
    first | refine PlanT.e1 rfl (fun w S => O.buildSlice rfl (buildOne sl_54 (by decide) rfl rfl) S (fun b21 w S => ?_)) | refine PlanT.e1 rfl (fun w S => O.buildSlice rfl (buildOne sl_54 (by decide) rfl (by simp)) S (fun b21 w S => ?_)) | refine PlanT.e1 rfl (fun w S => O.buildSlice rfl (bs_54_1_0) S (fun b21 w S => ?_))
    refine ⟨(fun w => Sat w0 w [Cel b7 (tCall.enc call0) 58, Cel b5 (tCall.enc ⟨c.op, c.arg, c.new, 0, false, c.begin_, c.end_⟩) 58]), (fun w => Sat _ w _), S, (.inr (fun _ h => h)), (fun w S => S.pk (by repeat (first | exact Pk.nil _ | exact Pk.refl _ | refine Pk.cons 0 rfl ?_ | refine Pk.cons 1 rfl ?_ | refine Pk.cons 2 rfl ?_ | refine Pk.cons 3 rfl ?_ | refine Pk.cons 4 rfl ?_ | refine Pk.cons 5 rfl ?_ | refine Pk.cons 6 rfl ?_ | refine Pk.cons 7 rfl ?_ | refine Pk.cons 8 rfl ?_ | refine Pk.cons 9 rfl ?_ | refine Pk.cons 10 rfl ?_ | refine Pk.cons 11 rfl ?_ | refine Pk.cons 12 rfl ?_ | refine Pk.cons 13 rfl ?_ | refine Pk.drop ?_))), ?_⟩
    clear S
    refine PlanT.e1 rfl (fun w S => O.appendFull (ys := [c.arg]) (T := tI .i64) sl_54 S rfl (R1.ext S.ext) rfl rfl rfl (S.rd1 (T := tI .i64) (x := c.arg) 0 rfl) rfl (by simp) (by (simp only [List.length_singleton]; omega)) (by (simp only [List.length_singleton, maxLen]; omega)) (fun a22 c22 w S => ?_))
    refine ⟨(fun w => Sat w0 w [Cel b7 (tCall.enc call0) 58, Cel b5 (tCall.enc ⟨c.op, c.arg, c.new, 0, false, c.begin_, c.end_⟩) 58]), (fun w => Sat _ w _), S, (.inr (fun _ h => h)), (fun w S => S.pk (by repeat (first | exact Pk.nil _ | exact Pk.refl _ | refine Pk.cons 0 rfl ?_ | refine Pk.cons 1 rfl ?_ | refine Pk.cons 2 rfl ?_ | refine Pk.cons 3 rfl ?_ | refine Pk.cons 4 rfl ?_ | refine Pk.cons 5 rfl ?_ | refine Pk.cons 6 rfl ?_ | refine Pk.cons 7 rfl ?_ | refine Pk.cons 8 rfl ?_ | refine Pk.cons 9 rfl ?_ | refine Pk.cons 10 rfl ?_ | refine Pk.cons 11 rfl ?_ | refine Pk.cons 12 rfl ?_ | refine Pk.cons 13 rfl ?_ | refine Pk.drop ?_))), ?_⟩
    clear S
    refine PlanT.q rfl (fun w S => Y.assign (v := .slice _ _ _) rfl) ?_
    first | refine PlanT.e0 rfl (fun w S => O.store (v := .agg _) 0 S rfl rfl rfl sz_58 rfl rfl rfl rfl (fun w S => ?_)) | refine PlanT.e0 rfl (fun w S => O.store (v := .agg _) 1 S rfl rfl rfl sz_58 rfl rfl rfl rfl (fun w S => ?_)) | refine PlanT.e0 rfl (fun w S => O.store (v := .agg _) 2 S rfl rfl rfl sz_58 rfl rfl rfl rfl (fun w S => ?_))
    refine ⟨(fun w => Sat _ w _), (fun w => Sat _ w _), S, (.inl (by kernel_rfl)), (fun _ h => h), ?_⟩
    clear S
    refine PlanT.nil (fun w S => ?_)
    replace S : Sat _ _ _ := S
    refine Then.nx ?_
    refine W.ret ?_
    refine Then.r ?_
    refine Then.r ?_
    refine BodyQ.ret2 Tryd.results45 (ResV.tmp _ rfl) (by first | exact (ResV.cell _ rfl (loadSN sz_58 S 0 rfl rfl rfl)) | exact (ResV.cell _ rfl (loadSN sz_58 S 1 rfl rfl rfl)) | exact (ResV.cell _ rfl (loadSN sz_58 S 2 rfl rfl rfl)) | exact (ResV.cell _ rfl (loadSN sz_58 S 3 rfl rfl rfl)) | exact (ResV.cell _ rfl (loadSN sz_58 S 4 rfl rfl rfl)) | exact (ResV.cell _ rfl (loadSN sz_58 S 5 rfl rfl rfl)) | exact (ResV.cell _ rfl (loadSN sz_58 S 6 rfl rfl rfl)) | exact (ResV.cell _ rfl (loadSN sz_58 S 7 rfl rfl rfl))) ?_
    have hln := (S.ownLen 0 rfl).1; rw [doesM_put (by omega) (by assumption)]; exact ⟨a22, c22, _, rfl, hln, S.pk (.cons 0 rfl (.nil _)), fun X hX => (Reads.own _ _ _ _ _).bun 0 rfl⟩
   ·
    first | refine PlanT.e1 rfl (fun w S => O.buildSlice rfl (buildOne sl_54 (by decide) rfl rfl) S (fun b21 w S => ?_)) | refine PlanT.e1 rfl (fun w S => O.buildSlice rfl (buildOne sl_54 (by decide) rfl (by simp)) S (fun b21 w S => ?_)) | refine PlanT.e1 rfl (fun w S => O.buildSlice rfl (bs_54_1_0) S (fun b21 w S => ?_))
    refine ⟨(fun w => Sat w0 w [Cel b7 (tCall.enc call0) 58, Cel b5 (tCall.enc ⟨c.op, c.arg, c.new, 0, false, c.begin_, c.end_⟩) 58]), (fun w => Sat _ w _), S, (.inr (fun _ h => h)), (fun w S => S.pk (by repeat (first | exact Pk.nil _ | exact Pk.refl _ | refine Pk.cons 0 rfl ?_ | refine Pk.cons 1 rfl ?_ | refine Pk.cons 2 rfl ?_ | refine Pk.cons 3 rfl ?_ | refine Pk.cons 4 rfl ?_ | refine Pk.cons 5 rfl ?_ | refine Pk.cons 6 rfl ?_ | refine Pk.cons 7 rfl ?_ | refine Pk.cons 8 rfl ?_ | refine Pk.cons 9 rfl ?_ | refine Pk.cons 10 rfl ?_ | refine Pk.cons 11 rfl ?_ | refine Pk.cons 12 rfl ?_ | refine Pk.cons 13 rfl ?_ | refine Pk.drop ?_))), ?_⟩
    clear S
    refine PlanT.e1 rfl (fun w S => O.call cf_75 rfl (Clip_spec _ _ _ _ hcap) ?_)
    rintro _ w ⟨rfl, E⟩
    replace S := S.keep E
    refine ⟨_, rfl, ?_⟩
    refine ⟨(fun w => Sat w0 w [Cel b7 (tCall.enc call0) 58, Cel b5 (tCall.enc ⟨c.op, c.arg, c.new, 0, false, c.begin_, c.end_⟩) 58]), (fun w => Sat _ w _), S, (.inr (fun _ h => h)), (fun w S => S.pk (by repeat (first | exact Pk.nil _ | exact Pk.refl _ | refine Pk.cons 0 rfl ?_ | refine Pk.cons 1 rfl ?_ | refine Pk.cons 2 rfl ?_ | refine Pk.cons 3 rfl ?_ | refine Pk.cons 4 rfl ?_ | refine Pk.cons 5 rfl ?_ | refine Pk.cons 6 rfl ?_ | refine Pk.cons 7 rfl ?_ | refine Pk.cons 8 rfl ?_ | refine Pk.cons 9 rfl ?_ | refine Pk.cons 10 rfl ?_ | refine Pk.cons 11 rfl ?_ | refine Pk.cons 12 rfl ?_ | refine Pk.cons 13 rfl ?_ | refine Pk.drop ?_))), ?_⟩
    clear S
    refine PlanT.e1 rfl (fun w S => O.appendFull (ys := [c.arg]) (T := tI .i64) sl_54 S rfl (R1.ext S.ext) rfl rfl rfl (S.rd1 (T := tI .i64) (x := c.arg) 0 rfl) rfl (by simp) (by (simp only [List.length_singleton]; omega)) (by (simp only [List.length_singleton, maxLen]; omega)) (fun a22 c22 w S => ?_))
    refine ⟨(fun w => Sat w0 w [Cel b7 (tCall.enc call0) 58, Cel b5 (tCall.enc ⟨c.op, c.arg, c.new, 0, false, c.begin_, c.end_⟩) 58]), (fun w => Sat _ w _), S, (.inr (fun _ h => h)), (fun w S => S.pk (by repeat (first | exact Pk.nil _ | exact Pk.refl _ | refine Pk.cons 0 rfl ?_ | refine Pk.cons 1 rfl ?_ | refine Pk.cons 2 rfl ?_ | refine Pk.cons 3 rfl ?_ | refine Pk.cons 4 rfl ?_ | refine Pk.cons 5 rfl ?_ | refine Pk.cons 6 rfl ?_ | refine Pk.cons 7 rfl ?_ | refine Pk.cons 8 rfl ?_ | refine Pk.cons 9 rfl ?_ | refine Pk.cons 10 rfl ?_ | refine Pk.cons 11 rfl ?_ | refine Pk.cons 12 rfl ?_ | refine Pk.cons 13 rfl ?_ | refine Pk.drop ?_))), ?_⟩
    clear S
    refine PlanT.q rfl (fun w S => Y.assign (v := .slice _ _ _) rfl) ?_
    first | refine PlanT.e0 rfl (fun w S => O.store (v := .agg _) 0 S rfl rfl rfl sz_58 rfl rfl rfl rfl (fun w S => ?_)) | refine PlanT.e0 rfl (fun w S => O.store (v := .agg _) 1 S rfl rfl rfl sz_58 rfl rfl rfl rfl (fun w S => ?_)) | refine PlanT.e0 rfl (fun w S => O.store (v := .agg _) 2 S rfl rfl rfl sz_58 rfl rfl rfl rfl (fun w S => ?_))
    refine ⟨(fun w => Sat _ w _), (fun w => Sat _ w _), S, (.inl (by kernel_rfl)), (fun _ h => h), ?_⟩
    clear S
    refine PlanT.nil (fun w S => ?_)
    replace S : Sat _ _ _ := S
    refine Then.nx ?_
    refine W.ret ?_
    refine Then.r ?_
    refine Then.r ?_
    refine BodyQ.ret2 Tryd.results45 (ResV.tmp _ rfl) (by first | exact (ResV.cell _ rfl (loadSN sz_58 S 0 rfl rfl rfl)) | exact (ResV.cell _ rfl (loadSN sz_58 S 1 rfl rfl rfl)) | exact (ResV.cell _ rfl (loadSN sz_58 S 2 rfl rfl rfl)) | exact (ResV.cell _ rfl (loadSN sz_58 S 3 rfl rfl rfl)) | exact (ResV.cell _ rfl (loadSN sz_58 S 4 rfl rfl rfl)) | exact (ResV.cell _ rfl (loadSN sz_58 S 5 rfl rfl rfl)) | exact (ResV.cell _ rfl (loadSN sz_58 S 6 rfl rfl rfl)) | exact (ResV.cell _ rfl (loadSN sz_58 S 7 rfl rfl rfl))) ?_
    have hln := (S.ownLen 0 rfl).1; rw [doesM_put (by omega) (by assumption)]; exact ⟨a22, c22, _, rfl, hln, S.pk (.cons 0 rfl (.nil _)), fun X hX => (Reads.own _ _ _ _ _).bun 0 rfl⟩
  ·
   have rh2 := h2
   (try simp only [Q1, Q2, Q3, Q4, Q5, Q6, Q7, Q8, Q9, Qa] at h2)
   refine W.skip ?_
   refine Then.nx ?_
   refine W.seq ?_
   refine W.seq ?_
   refine W.region rfl ?_
   refine WO.q (Y.move (v := .slice _ _ _) rfl) ?_
   refine WO.q (Y.len (t' := 0) Tryd.underlying54 rfl) ?_
   refine WO.q (Y.eql rfl rfl) ?_
   refine WO.nil ?_
   refine Then.nx ?_
   refine W.cond rfl (fun h3 => ?_) (fun h3 => ?_) -- cond 2
   ·
    have rh3 := h3
    (try simp only [Q1, Q2, Q3, Q4, Q5, Q6, Q7, Q8, Q9, Qa] at h3)
    refine W.seq ?_
    refine W.draw (.q 0 (.q 1 (.q 2 (.e 3 .nil)))) (fun w => Sat _ w _) rfl rfl (by kernel_rfl) rfl (by kernel_rfl) (by repeat (first | exact BodyQ.noFrame | refine Then.noFrame ?_ | refine InB.noFrame ?_)) S.drew ?_
    clear S
    refine Plan.q rfl (fun w S => Y.move (v := .slice _ _ _) rfl) ?_
    first | refine Plan.q rfl (fun w S => Y.load rfl (loadSN sz_58 S 0 rfl rfl rfl)) ?_ | refine Plan.q rfl (fun w S => Y.load rfl (loadSN sz_58 S 1 rfl rfl rfl)) ?_ | refine Plan.q rfl (fun w S => Y.load rfl (loadSN sz_58 S 2 rfl rfl rfl)) ?_
    refine Plan.q rfl (fun w S => Y.assign (v := .slice _ _ _) rfl) ?_
    first | refine Plan.e0 rfl (fun w S => O.store (v := .agg _) 0 S rfl rfl rfl sz_58 rfl rfl rfl rfl (fun w S => ?_)) | refine Plan.e0 rfl (fun w S => O.store (v := .agg _) 1 S rfl rfl rfl sz_58 rfl rfl rfl rfl (fun w S => ?_)) | refine Plan.e0 rfl (fun w S => O.store (v := .agg _) 2 S rfl rfl rfl sz_58 rfl rfl rfl rfl (fun w S => ?_))
    refine ⟨(fun w => Sat _ w _), S, (.inl (by kernel_rfl)), ?_⟩
    clear S
    refine Plan.nil (fun w S => ?_)
    replace S : Sat _ _ _ := S
    refine Then.nx ?_
    refine W.ret ?_
    refine Then.r ?_
    refine Then.r ?_
    refine BodyQ.ret2 Tryd.results45 (ResV.tmp _ rfl) (by first | exact (ResV.cell _ rfl (loadSN sz_58 S 0 rfl rfl rfl)) | exact (ResV.cell _ rfl (loadSN sz_58 S 1 rfl rfl rfl)) | exact (ResV.cell _ rfl (loadSN sz_58 S 2 rfl rfl rfl)) | exact (ResV.cell _ rfl (loadSN sz_58 S 3 rfl rfl rfl)) | exact (ResV.cell _ rfl (loadSN sz_58 S 4 rfl rfl rfl)) | exact (ResV.cell _ rfl (loadSN sz_58 S 5 rfl rfl rfl)) | exact (ResV.cell _ rfl (loadSN sz_58 S 6 rfl rfl rfl)) | exact (ResV.cell _ rfl (loadSN sz_58 S 7 rfl rfl rfl))) ?_
    rw [doesM_nil (by omega) (by assumption) (List.eq_nil_of_length_eq_zero (by omega))]; exact ⟨a, cap, Bun [], rfl, hcap, (S.nil).bun (M := []), fun X hX => hX.bun 1 rfl⟩
   ·
    have rh3 := h3
    (try simp only [Q1, Q2, Q3, Q4, Q5, Q6, Q7, Q8, Q9, Qa] at h3)
    refine W.skip ?_
    refine Then.nx ?_
    refine W.seq ?_
    refine W.region rfl ?_
    refine WO.q (Y.fieldB fo_58_4 rfl) ?_
    first | refine WO.e0 (O.store (v := .bool _) 0 S rfl rfl rfl sz_4 rfl rfl rfl rfl (fun w S => ?_)) | refine WO.e0 (O.store (v := .bool _) 1 S rfl rfl rfl sz_4 rfl rfl rfl rfl (fun w S => ?_)) | refine WO.e0 (O.store (v := .bool _) 2 S rfl rfl rfl sz_4 rfl rfl rfl rfl (fun w S => ?_))
    refine WO.nil ?_
    refine Then.nx ?_
    refine W.seq ?_
    refine W.seq ?_
    refine W.region rfl ?_
    refine WO.q (Y.move (v := .int .i64 _) rfl) ?_
    refine WO.q (Y.eql rfl rfl) ?_
    refine WO.nil ?_
    refine Then.nx ?_
    refine W.cond rfl (fun h4 => ?_) (fun h4 => ?_) -- cond 3
    ·
     have rh4 := h4
     (try simp only [Q1, Q2, Q3, Q4, Q5, Q6, Q7, Q8, Q9, Qa] at h4)
     refine W.seq ?_
     have hx0 : 0 < hs.length := by omega
     have ha := R1.1 hx0
     obtain ⟨x, hx1⟩ := at_ex (xs := hs) (k := 0) hx0
     refine W.region rfl ?_
     refine WO.q (Y.move (v := .slice _ _ _) rfl) ?_
     first | refine WO.q (Y.ixN sl_54 rfl rfl (by (first | assumption | rfl)) (by (first | assumption | omega))) ?_ | refine WO.q (Y.ix sl_54 rfl rfl (by (first | assumption | rfl)) (by (first | assumption | omega)) (by (first | assumption | omega))) ?_
     refine WO.q (Y.load rfl (loadRd1 sz_2 (R1.ext S.ext) (by assumption) rfl)) ?_
     refine WO.q (Y.fieldB fo_58_3 rfl) ?_
     first | refine WO.e0 (O.store (v := .int .i64 _) 0 S rfl rfl rfl sz_2 rfl rfl rfl rfl (fun w S => ?_)) | refine WO.e0 (O.store (v := .int .i64 _) 1 S rfl rfl rfl sz_2 rfl rfl rfl rfl (fun w S => ?_)) | refine WO.e0 (O.store (v := .int .i64 _) 2 S rfl rfl rfl sz_2 rfl rfl rfl rfl (fun w S => ?_))
     refine WO.nil ?_
     refine Then.nx ?_
     refine W.seq ?_
     refine W.draw (.q 0 (.q 1 (.q 2 (.q 3 (.e 4 .nil))))) (fun w => Sat _ w _) rfl rfl (by kernel_rfl) rfl (by kernel_rfl) (by repeat (first | exact BodyQ.noFrame | refine Then.noFrame ?_ | refine InB.noFrame ?_)) S.drew ?_
     clear S
     refine Plan.q rfl (fun w S => Y.move (v := .slice _ _ _) rfl) ?_
     refine Plan.q rfl (fun w S => Y.sliceL sl_54 rfl rfl (by (first | assumption | omega))) ?_
     first | refine Plan.q rfl (fun w S => Y.load rfl (loadSN sz_58 S 0 rfl rfl rfl)) ?_ | refine Plan.q rfl (fun w S => Y.load rfl (loadSN sz_58 S 1 rfl rfl rfl)) ?_ | refine Plan.q rfl (fun w S => Y.load rfl (loadSN sz_58 S 2 rfl rfl rfl)) ?_
     refine Plan.q rfl (fun w S => Y.assign (v := .slice _ _ _) rfl) ?_
     first | refine Plan.e0 rfl (fun w S => O.store (v := .agg _) 0 S rfl rfl rfl sz_58 rfl rfl rfl rfl (fun w S => ?_)) | refine Plan.e0 rfl (fun w S => O.store (v := .agg _) 1 S rfl rfl rfl sz_58 rfl rfl rfl rfl (fun w S => ?_)) | refine Plan.e0 rfl (fun w S => O.store (v := .agg _) 2 S rfl rfl rfl sz_58 rfl rfl rfl rfl (fun w S => ?_))
     refine ⟨(fun w => Sat _ w _), S, (.inl (by kernel_rfl)), ?_⟩
     clear S
     refine Plan.nil (fun w S => ?_)
     replace S : Sat _ _ _ := S
     refine Then.nx ?_
     refine W.ret ?_
     refine Then.r ?_
     refine Then.r ?_
     refine BodyQ.ret2 Tryd.results45 (ResV.tmp _ rfl) (by first | exact (ResV.cell _ rfl (loadSN sz_58 S 0 rfl rfl rfl)) | exact (ResV.cell _ rfl (loadSN sz_58 S 1 rfl rfl rfl)) | exact (ResV.cell _ rfl (loadSN sz_58 S 2 rfl rfl rfl)) | exact (ResV.cell _ rfl (loadSN sz_58 S 3 rfl rfl rfl)) | exact (ResV.cell _ rfl (loadSN sz_58 S 4 rfl rfl rfl)) | exact (ResV.cell _ rfl (loadSN sz_58 S 5 rfl rfl rfl)) | exact (ResV.cell _ rfl (loadSN sz_58 S 6 rfl rfl rfl)) | exact (ResV.cell _ rfl (loadSN sz_58 S 7 rfl rfl rfl))) ?_
     rw [doesM_queue (by omega) (by assumption) hx1 (by assumption)]; exact ⟨sla a 1 cap 1, cap - 1, Bun [], by (rw [List.length_drop]; rfl), by (rw [List.length_drop]; omega), (S.nil).bun (M := []), fun X hX => (hX.drop 1 cap hcap).bun 1 rfl⟩
    ·
     have rh4 := h4
     (try simp only [Q1, Q2, Q3, Q4, Q5, Q6, Q7, Q8, Q9, Qa] at h4)
     refine W.skip ?_
     refine Then.nx ?_
     refine W.seq ?_
     have hx0 : 0 < hs.length := by omega
     have ha := R1.1 hx0
     obtain ⟨x, hx1⟩ := at_ex (xs := hs) (k := hs.length - 1) (by omega)
     have hcast : ((hs.length : Int) - 1) = ((hs.length - 1 : Nat) : Int) := by omega
     refine W.region rfl ?_
     refine WO.q (Y.move (v := .slice _ _ _) rfl) ?_
     refine WO.q (Y.len (t' := 0) Tryd.underlying54 rfl) ?_
     refine WO.q (Y.subN (x := hs.length) (y := 1) rfl rfl (by omega) (by omega)) ?_
     refine WO.q (Y.assign (v := .int .i64 _) rfl) ?_
     refine WO.nil ?_
     refine Then.nx ?_
     refine W.seq ?_
     refine W.region rfl ?_
     refine WO.q (Y.move (v := .slice _ _ _) rfl) ?_
     refine WO.q (Y.move (v := .int .i64 _) rfl) ?_
     first | refine WO.q (Y.ixN sl_54 rfl rfl (by (first | assumption | rfl)) (by (first | assumption | omega))) ?_ | refine WO.q (Y.ix sl_54 rfl rfl (by (first | assumption | rfl)) (by (first | assumption | omega)) (by (first | assumption | omega))) ?_
     refine WO.q (Y.load rfl (loadRd1 sz_2 (R1.ext S.ext) (by assumption) rfl)) ?_
     refine WO.q (Y.fieldB fo_58_3 rfl) ?_
     first | refine WO.e0 (O.store (v := .int .i64 _) 0 S rfl rfl rfl sz_2 rfl rfl rfl rfl (fun w S => ?_)) | refine WO.e0 (O.store (v := .int .i64 _) 1 S rfl rfl rfl sz_2 rfl rfl rfl rfl (fun w S => ?_)) | refine WO.e0 (O.store (v := .int .i64 _) 2 S rfl rfl rfl sz_2 rfl rfl rfl rfl (fun w S => ?_))
     refine WO.nil ?_
     refine Then.nx ?_
     refine W.seq ?_
     refine W.draw (.q 0 (.q 1 (.q 2 (.q 3 (.q 4 (.q 5 (.e 6 .nil))))))) (fun w => Sat _ w _) rfl rfl (by kernel_rfl) rfl (by kernel_rfl) (by repeat (first | exact BodyQ.noFrame | refine Then.noFrame ?_ | refine InB.noFrame ?_)) S.drew ?_
     clear S
     refine Plan.q rfl (fun w S => Y.move (v := .slice _ _ _) rfl) ?_
     refine Plan.q rfl (fun w S => Y.move (v := .int .i64 _) rfl) ?_
     refine Plan.q rfl (fun w S => Y.move (v := .int .i64 _) rfl) ?_
     refine Plan.q rfl (fun w S => Y.sliceHM sl_54 rfl rfl rfl (by (first | assumption | omega)) (by (first | assumption | omega))) ?_
     first | refine Plan.q rfl (fun w S => Y.load rfl (loadSN sz_58 S 0 rfl rfl rfl)) ?_ | refine Plan.q rfl (fun w S => Y.load rfl (loadSN sz_58 S 1 rfl rfl rfl)) ?_ | refine Plan.q rfl (fun w S => Y.load rfl (loadSN sz_58 S 2 rfl rfl rfl)) ?_
     refine Plan.q rfl (fun w S => Y.assign (v := .slice _ _ _) rfl) ?_
     first | refine Plan.e0 rfl (fun w S => O.store (v := .agg _) 0 S rfl rfl rfl sz_58 rfl rfl rfl rfl (fun w S => ?_)) | refine Plan.e0 rfl (fun w S => O.store (v := .agg _) 1 S rfl rfl rfl sz_58 rfl rfl rfl rfl (fun w S => ?_)) | refine Plan.e0 rfl (fun w S => O.store (v := .agg _) 2 S rfl rfl rfl sz_58 rfl rfl rfl rfl (fun w S => ?_))
     refine ⟨(fun w => Sat _ w _), S, (.inl (by kernel_rfl)), ?_⟩
     clear S
     refine Plan.nil (fun w S => ?_)
     replace S : Sat _ _ _ := S
     refine Then.nx ?_
     refine W.ret ?_
     refine Then.r ?_
     refine BodyQ.ret2 Tryd.results45 (ResV.tmp _ rfl) (by first | exact (ResV.cell _ rfl (loadSN sz_58 S 0 rfl rfl rfl)) | exact (ResV.cell _ rfl (loadSN sz_58 S 1 rfl rfl rfl)) | exact (ResV.cell _ rfl (loadSN sz_58 S 2 rfl rfl rfl)) | exact (ResV.cell _ rfl (loadSN sz_58 S 3 rfl rfl rfl)) | exact (ResV.cell _ rfl (loadSN sz_58 S 4 rfl rfl rfl)) | exact (ResV.cell _ rfl (loadSN sz_58 S 5 rfl rfl rfl)) | exact (ResV.cell _ rfl (loadSN sz_58 S 6 rfl rfl rfl)) | exact (ResV.cell _ rfl (loadSN sz_58 S 7 rfl rfl rfl))) ?_
     have hlt : (hs.take (hs.length - 1)).length = hs.length - 1 := (by (rw [List.length_take]; omega)); rw [doesM_stack (by omega) (by assumption) hx1 (by assumption)]; exact ⟨a, hs.length - 1, Bun [], by (rw [hlt]; rfl), by (rw [hlt]; omega), (S.nil).bun (M := []), fun X hX => (hX.take _).bun 1 rfl⟩
 ·
  have rh1 := h1
  (try simp only [Q1, Q2, Q3, Q4, Q5, Q6, Q7, Q8, Q9, Qa] at h1)
  refine W.skip ?_
  refine Then.nx ?_
  refine W.seq ?_
  have hx0 : 0 < hs.length := List.length_pos_iff.2 (hne (by omega))
  have ha := R1.1 hx0
  obtain ⟨x, hx1⟩ := at_ex (xs := hs) (k := 0) hx0
  refine W.region rfl ?_
  refine WO.q (Y.move (v := .slice _ _ _) rfl) ?_
  first | refine WO.q (Y.ixN sl_54 rfl rfl (by (first | assumption | rfl)) (by (first | assumption | omega))) ?_ | refine WO.q (Y.ix sl_54 rfl rfl (by (first | assumption | rfl)) (by (first | assumption | omega)) (by (first | assumption | omega))) ?_
  refine WO.q (Y.load rfl (loadRd1 sz_2 (R1.ext S.ext) (by assumption) rfl)) ?_
  refine WO.q (Y.assign (v := .int .i64 _) rfl) ?_
  refine WO.nil ?_
  refine Then.nx ?_
  refine W.cut1 [9, 55, 56, 57, 58, 59, 60, 61, 62, 63, 64, 65, 66, 67, 68, 69, 70, 71, 72, 73, 74, 75, 76, 77, 78, 79, 80, 81, 82, 83] 9 (fun v9 w => ∃ xv cc, v9 = .int .i64 xv ∧ doesM k hs c = ([xv], cc) ∧ Sat w0 w [Cel b7 (tCall.enc call0) 58, Cel b5 (tCall.enc cc) 58]) ?_ ?_
  ·
   refine W.seq ?_
   refine W.region rfl ?_
   refine WO.q (Y.fieldB fo_58_0 rfl) ?_
   first | refine WO.q (Y.load rfl (loadS1 sz_56 S 0 rfl rfl)) ?_ | refine WO.q (Y.load rfl (loadS1 sz_56 S 1 rfl rfl)) ?_ | refine WO.q (Y.load rfl (loadS1 sz_56 S 2 rfl rfl)) ?_
   refine WO.nil ?_
   refine Then.nx ?_
   refine W.block ?_
   refine W.seq ?_
   refine W.region rfl ?_
   refine WO.q (Y.eql rfl rfl) ?_
   refine WO.q (Y.assign (v := .bool _) rfl) ?_
   refine WO.nil ?_
   refine Then.nx ?_
   refine W.cond rfl (fun h5 => ?_) (fun h5 => ?_) -- cond 4
   ·
    have rh5 := h5
    (try simp only [Q1, Q2, Q3, Q4, Q5, Q6, Q7, Q8, Q9, Qa] at h5)
    refine W.seq ?_
    refine W.region rfl ?_
    refine WO.q (Y.move (v := .int .i64 _) rfl) ?_
    refine WO.q (Y.fieldB fo_58_1 rfl) ?_
    first | refine WO.q (Y.load rfl (loadS1 sz_2 S 0 rfl rfl)) ?_ | refine WO.q (Y.load rfl (loadS1 sz_2 S 1 rfl rfl)) ?_ | refine WO.q (Y.load rfl (loadS1 sz_2 S 2 rfl rfl)) ?_
    first | refine WO.q (Y.addI rfl rfl (by omega)) ?_ | refine WO.q (Y.add rfl rfl) ?_
    refine WO.q (Y.assign (v := .int .i64 _) rfl) ?_
    refine WO.nil ?_
    refine Then.nx ?_
    refine W.region rfl ?_
    refine WO.q (Y.move (v := .int .i64 _) rfl) ?_
    refine WO.q (Y.fieldB fo_58_3 rfl) ?_
    first | refine WO.e0 (O.store (v := .int .i64 _) 0 S rfl rfl rfl sz_2 rfl rfl rfl rfl (fun w S => ?_)) | refine WO.e0 (O.store (v := .int .i64 _) 1 S rfl rfl rfl sz_2 rfl rfl rfl rfl (fun w S => ?_)) | refine WO.e0 (O.store (v := .int .i64 _) 2 S rfl rfl rfl sz_2 rfl rfl rfl rfl (fun w S => ?_))
    refine WO.nil ?_
    refine InB.nx ?_
    refine Then.nx ⟨?_, ?_⟩
    ·
     (repeat (first | exact Out.hav _ _ _ | exact Out.refl _ _ | refine Out.up rfl ?_ | refine Out.sub rfl ?_))
    ·
     first | (exfalso; omega) | (rw [doesM_one (by omega) hx1]; (repeat (first | rw [if_pos (by omega)] | rw [if_neg (by omega)])); exact ⟨_, _, rfl, rfl, S⟩)
   ·
    have rh5 := h5
    (try simp only [Q1, Q2, Q3, Q4, Q5, Q6, Q7, Q8, Q9, Qa] at h5)
    refine W.seq ?_
    refine W.region rfl ?_
    refine WO.q (Y.eql rfl rfl) ?_
    refine WO.q (Y.assign (v := .bool _) rfl) ?_
    refine WO.nil ?_
    refine Then.nx ?_
    refine W.cond rfl (fun h6 => ?_) (fun h6 => ?_) -- cond 5
    ·
     have rh6 := h6
     (try simp only [Q1, Q2, Q3, Q4, Q5, Q6, Q7, Q8, Q9, Qa] at h6)
     refine W.region rfl ?_
     refine WO.q (Y.move (v := .int .i64 _) rfl) ?_
     refine WO.q (Y.fieldB fo_58_3 rfl) ?_
     first | refine WO.e0 (O.store (v := .int .i64 _) 0 S rfl rfl rfl sz_2 rfl rfl rfl rfl (fun w S => ?_)) | refine WO.e0 (O.store (v := .int .i64 _) 1 S rfl rfl rfl sz_2 rfl rfl rfl rfl (fun w S => ?_)) | refine WO.e0 (O.store (v := .int .i64 _) 2 S rfl rfl rfl sz_2 rfl rfl rfl rfl (fun w S => ?_))
     refine WO.nil ?_
     refine InB.nx ?_
     refine Then.nx ⟨?_, ?_⟩
     ·
      (repeat (first | exact Out.hav _ _ _ | exact Out.refl _ _ | refine Out.up rfl ?_ | refine Out.sub rfl ?_))
     ·
      first | (exfalso; omega) | (rw [doesM_one (by omega) hx1]; (repeat (first | rw [if_pos (by omega)] | rw [if_neg (by omega)])); exact ⟨_, _, rfl, rfl, S⟩)
    ·
     have rh6 := h6
     (try simp only [Q1, Q2, Q3, Q4, Q5, Q6, Q7, Q8, Q9, Qa] at h6)
     refine W.seq ?_
     refine W.region rfl ?_
     refine WO.q (Y.eql rfl rfl) ?_
     refine WO.q (Y.assign (v := .bool _) rfl) ?_
     refine WO.nil ?_
     refine Then.nx ?_
     refine W.cond rfl (fun h7 => ?_) (fun h7 => ?_) -- cond 6
     ·
      have rh7 := h7
      (try simp only [Q1, Q2, Q3, Q4, Q5, Q6, Q7, Q8, Q9, Qa] at h7)
      refine W.region rfl ?_
      refine WO.q (Y.fieldB fo_58_1 rfl) ?_
      first | refine WO.q (Y.load rfl (loadS1 sz_2 S 0 rfl rfl)) ?_ | refine WO.q (Y.load rfl (loadS1 sz_2 S 1 rfl rfl)) ?_ | refine WO.q (Y.load rfl (loadS1 sz_2 S 2 rfl rfl)) ?_
      refine WO.q (Y.assign (v := .int .i64 _) rfl) ?_
      refine WO.nil ?_
      refine InB.nx ?_
      refine Then.nx ⟨?_, ?_⟩
      ·
       (repeat (first | exact Out.hav _ _ _ | exact Out.refl _ _ | refine Out.up rfl ?_ | refine Out.sub rfl ?_))
      ·
       first | (exfalso; omega) | (rw [doesM_one (by omega) hx1]; (repeat (first | rw [if_pos (by omega)] | rw [if_neg (by omega)])); exact ⟨_, _, rfl, rfl, S⟩)
     ·
      have rh7 := h7
      (try simp only [Q1, Q2, Q3, Q4, Q5, Q6, Q7, Q8, Q9, Qa] at h7)
      refine W.seq ?_
      refine W.region rfl ?_
      refine WO.q (Y.eql rfl rfl) ?_
      refine WO.q (Y.assign (v := .bool _) rfl) ?_
      refine WO.nil ?_
      refine Then.nx ?_
      refine W.cond rfl (fun h8 => ?_) (fun h8 => ?_) -- cond 7
      ·
       have rh8 := h8
       (try simp only [Q1, Q2, Q3, Q4, Q5, Q6, Q7, Q8, Q9, Qa] at h8)
       refine W.seq ?_
       refine W.region rfl ?_
       refine WO.q (Y.move (v := .int .i64 _) rfl) ?_
       refine WO.q (Y.fieldB fo_58_1 rfl) ?_
       first | refine WO.q (Y.load rfl (loadS1 sz_2 S 0 rfl rfl)) ?_ | refine WO.q (Y.load rfl (loadS1 sz_2 S 1 rfl rfl)) ?_ | refine WO.q (Y.load rfl (loadS1 sz_2 S 2 rfl rfl)) ?_
       refine WO.q (Y.eql rfl rfl) ?_
       refine WO.q (Y.fieldB fo_58_4 rfl) ?_
       first | refine WO.e0 (O.store (v := .bool _) 0 S rfl rfl rfl sz_4 rfl rfl rfl rfl (fun w S => ?_)) | refine WO.e0 (O.store (v := .bool _) 1 S rfl rfl rfl sz_4 rfl rfl rfl rfl (fun w S => ?_)) | refine WO.e0 (O.store (v := .bool _) 2 S rfl rfl rfl sz_4 rfl rfl rfl rfl (fun w S => ?_))
       refine WO.nil ?_
       refine Then.nx ?_
       refine W.seq ?_
       refine W.region rfl ?_
       refine WO.q (Y.fieldB fo_58_4 rfl) ?_
       first | refine WO.q (Y.load rfl (loadS1 sz_4 S 0 rfl rfl)) ?_ | refine WO.q (Y.load rfl (loadS1 sz_4 S 1 rfl rfl)) ?_ | refine WO.q (Y.load rfl (loadS1 sz_4 S 2 rfl rfl)) ?_
       refine WO.nil ?_
       refine Then.nx ?_
       refine W.cond rfl (fun h9 => ?_) (fun h9 => ?_) -- cond 8
       ·
        have rh9 := h9
        (try simp only [Q1, Q2, Q3, Q4, Q5, Q6, Q7, Q8, Q9, Qa] at h9)
        rw [rh9] at S
        refine W.region rfl ?_
        refine WO.q (Y.fieldB fo_58_2 rfl) ?_
        first | refine WO.q (Y.load rfl (loadS1 sz_2 S 0 rfl rfl)) ?_ | refine WO.q (Y.load rfl (loadS1 sz_2 S 1 rfl rfl)) ?_ | refine WO.q (Y.load rfl (loadS1 sz_2 S 2 rfl rfl)) ?_
        refine WO.q (Y.assign (v := .int .i64 _) rfl) ?_
        refine WO.nil ?_
        refine InB.nx ?_
        refine Then.nx ⟨?_, ?_⟩
        ·
         (repeat (first | exact Out.hav _ _ _ | exact Out.refl _ _ | refine Out.up rfl ?_ | refine Out.sub rfl ?_))
        ·
         first | (exfalso; omega) | (rw [doesM_one (by omega) hx1]; (repeat (first | rw [if_pos (by omega)] | rw [if_neg (by omega)])); exact ⟨_, _, rfl, rfl, S⟩)
       ·
        have rh9 := h9
        (try simp only [Q1, Q2, Q3, Q4, Q5, Q6, Q7, Q8, Q9, Qa] at h9)
        rw [rh9] at S
        refine W.skip ?_
        refine InB.nx ?_
        refine Then.nx ⟨?_, ?_⟩
        ·
         (repeat (first | exact Out.hav _ _ _ | exact Out.refl _ _ | refine Out.up rfl ?_ | refine Out.sub rfl ?_))
        ·
         first | (exfalso; omega) | (rw [doesM_one (by omega) hx1]; (repeat (first | rw [if_pos (by omega)] | rw [if_neg (by omega)])); exact ⟨_, _, rfl, rfl, S⟩)
      ·
       have rh8 := h8
       (try simp only [Q1, Q2, Q3, Q4, Q5, Q6, Q7, Q8, Q9, Qa] at h8)
       refine W.skip ?_
       refine InB.nx ?_
       refine Then.nx ⟨?_, ?_⟩
       ·
        (repeat (first | exact Out.hav _ _ _ | exact Out.refl _ _ | refine Out.up rfl ?_ | refine Out.sub rfl ?_))
       ·
        first | (exfalso; omega) | (rw [doesM_one (by omega) hx1]; (repeat (first | rw [if_pos (by omega)] | rw [if_neg (by omega)])); exact ⟨_, _, rfl, rfl, S⟩)
  ·
   rintro gj401 v9 w ⟨xv, cc, rfl, hdo, S⟩
   refine W.seq ?_
   refine W.draw (.q 0 (.q 2 (.e 1 (.q 3 (.e 4 .nil))))) (fun w => Sat _ w _) rfl rfl (by kernel_rfl) rfl (by kernel_rfl) (by repeat (first | exact BodyQ.noFrame | refine Then.noFrame ?_ | refine InB.noFrame ?_)) S.drew ?_
   clear S
   refine Plan.q rfl (fun w S => Y.move (v := .int .i64 _) rfl) ?_
   first | refine Plan.q rfl (fun w S => Y.load rfl (loadSN sz_58 S 0 rfl rfl rfl)) ?_ | refine Plan.q rfl (fun w S => Y.load rfl (loadSN sz_58 S 1 rfl rfl rfl)) ?_ | refine Plan.q rfl (fun w S => Y.load rfl (loadSN sz_58 S 2 rfl rfl rfl)) ?_
   first | refine Plan.e1 rfl (fun w S => O.buildSlice rfl (buildOne sl_54 (by decide) rfl rfl) S (fun b85 w S => ?_)) | refine Plan.e1 rfl (fun w S => O.buildSlice rfl (buildOne sl_54 (by decide) rfl (by simp)) S (fun b85 w S => ?_)) | refine Plan.e1 rfl (fun w S => O.buildSlice rfl (bs_54_1_0) S (fun b85 w S => ?_))
   refine ⟨(fun w => Sat _ w _), S, (.inr (fun w S => S.pk (by repeat (first | exact Pk.nil _ | exact Pk.refl _ | refine Pk.cons 0 rfl ?_ | refine Pk.cons 1 rfl ?_ | refine Pk.cons 2 rfl ?_ | refine Pk.cons 3 rfl ?_ | refine Pk.cons 4 rfl ?_ | refine Pk.cons 5 rfl ?_ | refine Pk.cons 6 rfl ?_ | refine Pk.cons 7 rfl ?_ | refine Pk.cons 8 rfl ?_ | refine Pk.cons 9 rfl ?_ | refine Pk.cons 10 rfl ?_ | refine Pk.cons 11 rfl ?_ | refine Pk.cons 12 rfl ?_ | refine Pk.cons 13 rfl ?_ | refine Pk.drop ?_)))), ?_⟩
   clear S
   refine Plan.q rfl (fun w S => Y.assign (v := .slice _ _ _) rfl) ?_
   first | refine Plan.e0 rfl (fun w S => O.store (v := .agg _) 0 S rfl rfl rfl sz_58 rfl rfl rfl rfl (fun w S => ?_)) | refine Plan.e0 rfl (fun w S => O.store (v := .agg _) 1 S rfl rfl rfl sz_58 rfl rfl rfl rfl (fun w S => ?_)) | refine Plan.e0 rfl (fun w S => O.store (v := .agg _) 2 S rfl rfl rfl sz_58 rfl rfl rfl rfl (fun w S => ?_))
   refine ⟨(fun w => Sat _ w _), S, (.inl (by kernel_rfl)), ?_⟩
   clear S
   refine Plan.nil (fun w S => ?_)
   replace S : Sat _ _ _ := S
   refine Then.nx ?_
   refine W.ret ?_
   refine BodyQ.ret2 Tryd.results45 (ResV.tmp _ rfl) (by first | exact (ResV.cell _ rfl (loadSN sz_58 S 0 rfl rfl rfl)) | exact (ResV.cell _ rfl (loadSN sz_58 S 1 rfl rfl rfl)) | exact (ResV.cell _ rfl (loadSN sz_58 S 2 rfl rfl rfl)) | exact (ResV.cell _ rfl (loadSN sz_58 S 3 rfl rfl rfl)) | exact (ResV.cell _ rfl (loadSN sz_58 S 4 rfl rfl rfl)) | exact (ResV.cell _ rfl (loadSN sz_58 S 5 rfl rfl rfl)) | exact (ResV.cell _ rfl (loadSN sz_58 S 6 rfl rfl rfl)) | exact (ResV.cell _ rfl (loadSN sz_58 S 7 rfl rfl rfl))) ?_
   rw [hdo]; exact ⟨_, 1, _, rfl, Nat.le_refl 1, S.pk (.cons 0 rfl (.nil _)), fun X hX => (Reads.one (T := tI .i64) xv).bun 0 rfl⟩
end Go.Proofs
