/-
  Walks of rank, inside, words, isName.
-/
import Derived.Test.YtlnimgpfopaicaaGb
import Derived.Test.YtlnimgpfopaicaaFa
import Derived.Test.YtlnimgpfopaicaaFb
set_option linter.unusedVariables false
set_option linter.unusedSimpArgs false
set_option maxRecDepth 100000
set_option maxHeartbeats 1000000
namespace Go.Proofs
open Go Go.TL Go.RowKit
theorem rank_spec (w0 : World) (op : Int) :
    Calls Try.prog 55 [.int .i8 op].toArray w0 (fun e w => e = .returned (.int .i64 (rankM op)) ∧ Ext w0 w) := by
 have S := Sat.refl w0
 refine calls_of_W (args := [.int .i8 op]) 11 Try.func55 rfl Try.ntmps55 rfl ?_
 refine W.seq ?_
 refine W.region rfl ?_
 refine WO.q (Y.assign (v := .int .i64 _) rfl) ?_
 refine WO.nil ?_
 refine Then.nx ?_
 refine W.seq ?_
 refine W.seq ?_
 refine W.region rfl ?_
 refine WO.q (Y.move (v := .int .i8 _) rfl) ?_
 refine WO.nil ?_
 refine Then.nx ?_
 refine W.block ?_
 refine W.seq ?_
 refine W.seq ?_
 refine W.region rfl ?_
 refine WO.q (Y.eql rfl rfl) ?_
 refine WO.q (Y.assign (v := .bool _) rfl) ?_
 refine WO.nil ?_
 refine Then.nx ?_
 refine W.cond rfl (fun h1 => ?_) (fun h1 => ?_) -- cond 0
 ·
  have rh1 := h1
  (try simp only [Q1, Q2, Q3, Q4, Q5, Q6, Q7, Q8, Q9, Qa] at h1)
  refine W.skip ?_
  refine Then.nx ?_
  first | refine W.condT rfl ?_ | refine W.condT (congrArg Value.bool (by assumption)) ?_
  refine W.seq ?_
  refine W.region rfl ?_
  refine WO.q (Y.assign (v := .int .i64 _) rfl) ?_
  refine WO.nil ?_
  refine Then.nx ?_
  refine W.ret ?_
  refine InB.r ?_
  refine Then.r ?_
  refine BodyQ.ret1 Try.results55 (ResV.tmp _ rfl) ?_
  refine ⟨?_, S.ext⟩; unfold rankM; (repeat' split) <;> first | rfl | (exfalso; omega)
 ·
  have rh1 := h1
  (try simp only [Q1, Q2, Q3, Q4, Q5, Q6, Q7, Q8, Q9, Qa] at h1)
  refine W.region rfl ?_
  refine WO.q (Y.eql rfl rfl) ?_
  refine WO.q (Y.assign (v := .bool _) rfl) ?_
  refine WO.nil ?_
  refine Then.nx ?_
  refine W.cond rfl (fun h2 => ?_) (fun h2 => ?_) -- cond 1
  ·
   have rh2 := h2
   (try simp only [Q1, Q2, Q3, Q4, Q5, Q6, Q7, Q8, Q9, Qa] at h2)
   refine W.seq ?_
   refine W.region rfl ?_
   refine WO.q (Y.assign (v := .int .i64 _) rfl) ?_
   refine WO.nil ?_
   refine Then.nx ?_
   refine W.ret ?_
   refine InB.r ?_
   refine Then.r ?_
   refine BodyQ.ret1 Try.results55 (ResV.tmp _ rfl) ?_
   refine ⟨?_, S.ext⟩; unfold rankM; (repeat' split) <;> first | rfl | (exfalso; omega)
  ·
   have rh2 := h2
   (try simp only [Q1, Q2, Q3, Q4, Q5, Q6, Q7, Q8, Q9, Qa] at h2)
   refine W.seq ?_
   refine W.region rfl ?_
   refine WO.q (Y.eql rfl rfl) ?_
   refine WO.q (Y.assign (v := .bool _) rfl) ?_
   refine WO.nil ?_
   refine Then.nx ?_
   refine W.cond rfl (fun h3 => ?_) (fun h3 => ?_) -- cond 2
   ·
    have rh3 := h3
    (try simp only [Q1, Q2, Q3, Q4, Q5, Q6, Q7, Q8, Q9, Qa] at h3)
    refine W.seq ?_
    refine W.region rfl ?_
    refine WO.q (Y.assign (v := .int .i64 _) rfl) ?_
    refine WO.nil ?_
    refine Then.nx ?_
    refine W.ret ?_
    refine InB.r ?_
    refine Then.r ?_
    refine BodyQ.ret1 Try.results55 (ResV.tmp _ rfl) ?_
    refine ⟨?_, S.ext⟩; unfold rankM; (repeat' split) <;> first | rfl | (exfalso; omega)
   ·
    have rh3 := h3
    (try simp only [Q1, Q2, Q3, Q4, Q5, Q6, Q7, Q8, Q9, Qa] at h3)
    refine W.seq ?_
    refine W.region rfl ?_
    refine WO.q (Y.eql rfl rfl) ?_
    refine WO.q (Y.assign (v := .bool _) rfl) ?_
    refine WO.nil ?_
    refine Then.nx ?_
    refine W.cond rfl (fun h4 => ?_) (fun h4 => ?_) -- cond 3
    ·
     have rh4 := h4
     (try simp only [Q1, Q2, Q3, Q4, Q5, Q6, Q7, Q8, Q9, Qa] at h4)
     refine W.seq ?_
     refine W.region rfl ?_
     refine WO.q (Y.assign (v := .int .i64 _) rfl) ?_
     refine WO.nil ?_
     refine Then.nx ?_
     refine W.ret ?_
     refine InB.r ?_
     refine Then.r ?_
     refine BodyQ.ret1 Try.results55 (ResV.tmp _ rfl) ?_
     refine ⟨?_, S.ext⟩; unfold rankM; (repeat' split) <;> first | rfl | (exfalso; omega)
    ·
     have rh4 := h4
     (try simp only [Q1, Q2, Q3, Q4, Q5, Q6, Q7, Q8, Q9, Qa] at h4)
     refine W.skip ?_
     refine InB.nx ?_
     refine Then.nx ?_
     refine W.seq ?_
     refine W.region rfl ?_
     refine WO.q (Y.assign (v := .int .i64 _) rfl) ?_
     refine WO.nil ?_
     refine Then.nx ?_
     refine W.ret ?_
     refine BodyQ.ret1 Try.results55 (ResV.tmp _ rfl) ?_
     refine ⟨?_, S.ext⟩; unfold rankM; (repeat' split) <;> first | rfl | (exfalso; omega)
theorem inside_spec (w0 : World) (b : UInt8) :
    Calls Try.prog 53 [.int .u8 (b.toNat : Int)].toArray w0 (fun e w => e = .returned (.bool (insideB b)) ∧ Ext w0 w) := by
 have S := Sat.refl w0
 refine calls_of_W (args := [.int .u8 (b.toNat : Int)]) 29 Try.func53 rfl Try.ntmps53 rfl ?_
 refine W.seq ?_
 refine W.region rfl ?_
 refine WO.q (Y.assign (v := .bool _) rfl) ?_
 refine WO.nil ?_
 refine Then.nx ?_
 refine W.seq ?_
 refine W.region rfl ?_
 refine WO.q (Y.move (v := .int .u8 _) rfl) ?_
 refine WO.q (Y.geq rfl rfl) ?_
 refine WO.q (Y.move (v := .bool _) rfl) ?_
 refine WO.splitB (fun h1 => ?_) (fun h1 => ?_)
 ·
  (try simp only [Q1, Q2, Q3, Q4, Q5, Q6, Q7, Q8, Q9, Qa] at h1)
  refine WO.qT rfl (Y.move (v := .int .u8 _) rfl) ?_
  refine WO.qT rfl (Y.leq rfl rfl) ?_
  refine WO.q (Y.pickT (u := .bool _) rfl rfl) ?_
  refine WO.q (Y.move (v := .bool _) rfl) ?_
  refine WO.splitB (fun h2 => ?_) (fun h2 => ?_)
  ·
   (try simp only [Q1, Q2, Q3, Q4, Q5, Q6, Q7, Q8, Q9, Qa] at h2)
   refine WO.qF rfl ?_
   refine WO.qF rfl ?_
   refine WO.qF rfl ?_
   refine WO.qF rfl ?_
   refine WO.qF rfl ?_
   refine WO.qF rfl ?_
   refine WO.q (Y.pickT (u := .bool _) rfl rfl) ?_
   refine WO.q (Y.move (v := .bool _) rfl) ?_
   refine WO.qF rfl ?_
   refine WO.qF rfl ?_
   refine WO.qF rfl ?_
   refine WO.qF rfl ?_
   refine WO.qF rfl ?_
   refine WO.qF rfl ?_
   refine WO.q (Y.pickT (u := .bool _) rfl rfl) ?_
   refine WO.q (Y.move (v := .bool _) rfl) ?_
   refine WO.qF rfl ?_
   refine WO.qF rfl ?_
   refine WO.q (Y.pickT (u := .bool _) rfl rfl) ?_
   refine WO.q (Y.assign (v := .bool _) rfl) ?_
   refine WO.nil ?_
   refine Then.nx ?_
   refine W.ret ?_
   refine BodyQ.ret1 Try.results53 (ResV.tmp _ rfl) ?_
   refine ⟨?_, S.ext⟩; (show Ending.returned (.bool _) = _; congr 2; (try unfold insideB); first | (symm; rw [decide_eq_true_eq]; omega) | (symm; rw [decide_eq_false_iff_not]; omega) | (rw [Bool.eq_iff_iff]; simp only [decide_eq_true_eq, Bool.not_eq_true', decide_eq_false_iff_not]; omega))
  ·
   (try simp only [Q1, Q2, Q3, Q4, Q5, Q6, Q7, Q8, Q9, Qa] at h2)
   refine WO.qT rfl (Y.move (v := .int .u8 _) rfl) ?_
   refine WO.qT rfl (Y.geq rfl rfl) ?_
   refine WO.qT rfl (Y.move (v := .bool _) rfl) ?_
   refine WO.splitB (fun h3 => ?_) (fun h3 => ?_)
   ·
    (try simp only [Q1, Q2, Q3, Q4, Q5, Q6, Q7, Q8, Q9, Qa] at h3)
    refine WO.qT rfl (Y.move (v := .int .u8 _) rfl) ?_
    refine WO.qT rfl (Y.leq rfl rfl) ?_
    refine WO.qT rfl (Y.pickT (u := .bool _) rfl rfl) ?_
    refine WO.q (Y.pickF (u := .bool _) rfl rfl) ?_
    refine WO.q (Y.move (v := .bool _) rfl) ?_
    refine WO.splitB (fun h4 => ?_) (fun h4 => ?_)
    ·
     (try simp only [Q1, Q2, Q3, Q4, Q5, Q6, Q7, Q8, Q9, Qa] at h4)
     refine WO.qF rfl ?_
     refine WO.qF rfl ?_
     refine WO.qF rfl ?_
     refine WO.qF rfl ?_
     refine WO.qF rfl ?_
     refine WO.qF rfl ?_
     refine WO.q (Y.pickT (u := .bool _) rfl rfl) ?_
     refine WO.q (Y.move (v := .bool _) rfl) ?_
     refine WO.qF rfl ?_
     refine WO.qF rfl ?_
     refine WO.q (Y.pickT (u := .bool _) rfl rfl) ?_
     refine WO.q (Y.assign (v := .bool _) rfl) ?_
     refine WO.nil ?_
     refine Then.nx ?_
     refine W.ret ?_
     refine BodyQ.ret1 Try.results53 (ResV.tmp _ rfl) ?_
     refine ⟨?_, S.ext⟩; (show Ending.returned (.bool _) = _; congr 2; (try unfold insideB); first | (symm; rw [decide_eq_true_eq]; omega) | (symm; rw [decide_eq_false_iff_not]; omega) | (rw [Bool.eq_iff_iff]; simp only [decide_eq_true_eq, Bool.not_eq_true', decide_eq_false_iff_not]; omega))
    ·
     (try simp only [Q1, Q2, Q3, Q4, Q5, Q6, Q7, Q8, Q9, Qa] at h4)
     refine WO.qT rfl (Y.move (v := .int .u8 _) rfl) ?_
     refine WO.qT rfl (Y.geq rfl rfl) ?_
     refine WO.qT rfl (Y.move (v := .bool _) rfl) ?_
     refine WO.splitB (fun h5 => ?_) (fun h5 => ?_)
     ·
      (try simp only [Q1, Q2, Q3, Q4, Q5, Q6, Q7, Q8, Q9, Qa] at h5)
      refine WO.qT rfl (Y.move (v := .int .u8 _) rfl) ?_
      refine WO.qT rfl (Y.leq rfl rfl) ?_
      refine WO.qT rfl (Y.pickT (u := .bool _) rfl rfl) ?_
      refine WO.q (Y.pickF (u := .bool _) rfl rfl) ?_
      refine WO.q (Y.move (v := .bool _) rfl) ?_
      refine WO.splitB (fun h6 => ?_) (fun h6 => ?_)
      ·
       (try simp only [Q1, Q2, Q3, Q4, Q5, Q6, Q7, Q8, Q9, Qa] at h6)
       refine WO.qF rfl ?_
       refine WO.qF rfl ?_
       refine WO.q (Y.pickT (u := .bool _) rfl rfl) ?_
       refine WO.q (Y.assign (v := .bool _) rfl) ?_
       refine WO.nil ?_
       refine Then.nx ?_
       refine W.ret ?_
       refine BodyQ.ret1 Try.results53 (ResV.tmp _ rfl) ?_
       refine ⟨?_, S.ext⟩; (show Ending.returned (.bool _) = _; congr 2; (try unfold insideB); first | (symm; rw [decide_eq_true_eq]; omega) | (symm; rw [decide_eq_false_iff_not]; omega) | (rw [Bool.eq_iff_iff]; simp only [decide_eq_true_eq, Bool.not_eq_true', decide_eq_false_iff_not]; omega))
      ·
       (try simp only [Q1, Q2, Q3, Q4, Q5, Q6, Q7, Q8, Q9, Qa] at h6)
       refine WO.qT rfl (Y.move (v := .int .u8 _) rfl) ?_
       refine WO.qT rfl (Y.eql rfl rfl) ?_
       refine WO.q (Y.pickF (u := .bool _) rfl rfl) ?_
       refine WO.q (Y.assign (v := .bool _) rfl) ?_
       refine WO.nil ?_
       refine Then.nx ?_
       refine W.ret ?_
       refine BodyQ.ret1 Try.results53 (ResV.tmp _ rfl) ?_
       refine ⟨?_, S.ext⟩; (show Ending.returned (.bool _) = _; congr 2; (try unfold insideB); first | (symm; rw [decide_eq_true_eq]; omega) | (symm; rw [decide_eq_false_iff_not]; omega) | (rw [Bool.eq_iff_iff]; simp only [decide_eq_true_eq, Bool.not_eq_true', decide_eq_false_iff_not]; omega))
     ·
      (try simp only [Q1, Q2, Q3, Q4, Q5, Q6, Q7, Q8, Q9, Qa] at h5)
      refine WO.qF rfl ?_
      refine WO.qF rfl ?_
      refine WO.qT rfl (Y.pickF (u := .bool _) rfl rfl) ?_
      refine WO.q (Y.pickF (u := .bool _) rfl rfl) ?_
      refine WO.q (Y.move (v := .bool _) rfl) ?_
      refine WO.qT rfl (Y.move (v := .int .u8 _) rfl) ?_
      refine WO.qT rfl (Y.eql rfl rfl) ?_
      refine WO.q (Y.pickF (u := .bool _) rfl rfl) ?_
      refine WO.q (Y.assign (v := .bool _) rfl) ?_
      refine WO.nil ?_
      refine Then.nx ?_
      refine W.ret ?_
      refine BodyQ.ret1 Try.results53 (ResV.tmp _ rfl) ?_
      refine ⟨?_, S.ext⟩; (show Ending.returned (.bool _) = _; congr 2; (try unfold insideB); first | (symm; rw [decide_eq_true_eq]; omega) | (symm; rw [decide_eq_false_iff_not]; omega) | (rw [Bool.eq_iff_iff]; simp only [decide_eq_true_eq, Bool.not_eq_true', decide_eq_false_iff_not]; omega))
   ·
    (try simp only [Q1, Q2, Q3, Q4, Q5, Q6, Q7, Q8, Q9, Qa] at h3)
    refine WO.qF rfl ?_
    refine WO.qF rfl ?_
    refine WO.qT rfl (Y.pickF (u := .bool _) rfl rfl) ?_
    refine WO.q (Y.pickF (u := .bool _) rfl rfl) ?_
    refine WO.q (Y.move (v := .bool _) rfl) ?_
    refine WO.qT rfl (Y.move (v := .int .u8 _) rfl) ?_
    refine WO.qT rfl (Y.geq rfl rfl) ?_
    refine WO.qT rfl (Y.move (v := .bool _) rfl) ?_
    refine WO.splitB (fun h7 => ?_) (fun h7 => ?_)
    ·
     (try simp only [Q1, Q2, Q3, Q4, Q5, Q6, Q7, Q8, Q9, Qa] at h7)
     refine WO.qT rfl (Y.move (v := .int .u8 _) rfl) ?_
     refine WO.qT rfl (Y.leq rfl rfl) ?_
     refine WO.qT rfl (Y.pickT (u := .bool _) rfl rfl) ?_
     refine WO.q (Y.pickF (u := .bool _) rfl rfl) ?_
     refine WO.q (Y.move (v := .bool _) rfl) ?_
     refine WO.splitB (fun h8 => ?_) (fun h8 => ?_)
     ·
      (try simp only [Q1, Q2, Q3, Q4, Q5, Q6, Q7, Q8, Q9, Qa] at h8)
      refine WO.qF rfl ?_
      refine WO.qF rfl ?_
      refine WO.q (Y.pickT (u := .bool _) rfl rfl) ?_
      refine WO.q (Y.assign (v := .bool _) rfl) ?_
      refine WO.nil ?_
      refine Then.nx ?_
      refine W.ret ?_
      refine BodyQ.ret1 Try.results53 (ResV.tmp _ rfl) ?_
      refine ⟨?_, S.ext⟩; (show Ending.returned (.bool _) = _; congr 2; (try unfold insideB); first | (symm; rw [decide_eq_true_eq]; omega) | (symm; rw [decide_eq_false_iff_not]; omega) | (rw [Bool.eq_iff_iff]; simp only [decide_eq_true_eq, Bool.not_eq_true', decide_eq_false_iff_not]; omega))
     ·
      (try simp only [Q1, Q2, Q3, Q4, Q5, Q6, Q7, Q8, Q9, Qa] at h8)
      refine WO.qT rfl (Y.move (v := .int .u8 _) rfl) ?_
      refine WO.qT rfl (Y.eql rfl rfl) ?_
      refine WO.q (Y.pickF (u := .bool _) rfl rfl) ?_
      refine WO.q (Y.assign (v := .bool _) rfl) ?_
      refine WO.nil ?_
      refine Then.nx ?_
      refine W.ret ?_
      refine BodyQ.ret1 Try.results53 (ResV.tmp _ rfl) ?_
      refine ⟨?_, S.ext⟩; (show Ending.returned (.bool _) = _; congr 2; (try unfold insideB); first | (symm; rw [decide_eq_true_eq]; omega) | (symm; rw [decide_eq_false_iff_not]; omega) | (rw [Bool.eq_iff_iff]; simp only [decide_eq_true_eq, Bool.not_eq_true', decide_eq_false_iff_not]; omega))
    ·
     (try simp only [Q1, Q2, Q3, Q4, Q5, Q6, Q7, Q8, Q9, Qa] at h7)
     refine WO.qF rfl ?_
     refine WO.qF rfl ?_
     refine WO.qT rfl (Y.pickF (u := .bool _) rfl rfl) ?_
     refine WO.q (Y.pickF (u := .bool _) rfl rfl) ?_
     refine WO.q (Y.move (v := .bool _) rfl) ?_
     refine WO.qT rfl (Y.move (v := .int .u8 _) rfl) ?_
     refine WO.qT rfl (Y.eql rfl rfl) ?_
     refine WO.q (Y.pickF (u := .bool _) rfl rfl) ?_
     refine WO.q (Y.assign (v := .bool _) rfl) ?_
     refine WO.nil ?_
     refine Then.nx ?_
     refine W.ret ?_
     refine BodyQ.ret1 Try.results53 (ResV.tmp _ rfl) ?_
     refine ⟨?_, S.ext⟩; (show Ending.returned (.bool _) = _; congr 2; (try unfold insideB); first | (symm; rw [decide_eq_true_eq]; omega) | (symm; rw [decide_eq_false_iff_not]; omega) | (rw [Bool.eq_iff_iff]; simp only [decide_eq_true_eq, Bool.not_eq_true', decide_eq_false_iff_not]; omega))
 ·
  (try simp only [Q1, Q2, Q3, Q4, Q5, Q6, Q7, Q8, Q9, Qa] at h1)
  refine WO.qF rfl ?_
  refine WO.qF rfl ?_
  refine WO.q (Y.pickF (u := .bool _) rfl rfl) ?_
  refine WO.q (Y.move (v := .bool _) rfl) ?_
  refine WO.qT rfl (Y.move (v := .int .u8 _) rfl) ?_
  refine WO.qT rfl (Y.geq rfl rfl) ?_
  refine WO.qT rfl (Y.move (v := .bool _) rfl) ?_
  refine WO.splitB (fun h9 => ?_) (fun h9 => ?_)
  ·
   (try simp only [Q1, Q2, Q3, Q4, Q5, Q6, Q7, Q8, Q9, Qa] at h9)
   refine WO.qT rfl (Y.move (v := .int .u8 _) rfl) ?_
   refine WO.qT rfl (Y.leq rfl rfl) ?_
   refine WO.qT rfl (Y.pickT (u := .bool _) rfl rfl) ?_
   refine WO.q (Y.pickF (u := .bool _) rfl rfl) ?_
   refine WO.q (Y.move (v := .bool _) rfl) ?_
   refine WO.splitB (fun h10 => ?_) (fun h10 => ?_)
   ·
    (try simp only [Q1, Q2, Q3, Q4, Q5, Q6, Q7, Q8, Q9, Qa] at h10)
    refine WO.qF rfl ?_
    refine WO.qF rfl ?_
    refine WO.qF rfl ?_
    refine WO.qF rfl ?_
    refine WO.qF rfl ?_
    refine WO.qF rfl ?_
    refine WO.q (Y.pickT (u := .bool _) rfl rfl) ?_
    refine WO.q (Y.move (v := .bool _) rfl) ?_
    refine WO.qF rfl ?_
    refine WO.qF rfl ?_
    refine WO.q (Y.pickT (u := .bool _) rfl rfl) ?_
    refine WO.q (Y.assign (v := .bool _) rfl) ?_
    refine WO.nil ?_
    refine Then.nx ?_
    refine W.ret ?_
    refine BodyQ.ret1 Try.results53 (ResV.tmp _ rfl) ?_
    refine ⟨?_, S.ext⟩; (show Ending.returned (.bool _) = _; congr 2; (try unfold insideB); first | (symm; rw [decide_eq_true_eq]; omega) | (symm; rw [decide_eq_false_iff_not]; omega) | (rw [Bool.eq_iff_iff]; simp only [decide_eq_true_eq, Bool.not_eq_true', decide_eq_false_iff_not]; omega))
   ·
    (try simp only [Q1, Q2, Q3, Q4, Q5, Q6, Q7, Q8, Q9, Qa] at h10)
    refine WO.qT rfl (Y.move (v := .int .u8 _) rfl) ?_
    refine WO.qT rfl (Y.geq rfl rfl) ?_
    refine WO.qT rfl (Y.move (v := .bool _) rfl) ?_
    refine WO.splitB (fun h11 => ?_) (fun h11 => ?_)
    ·
     (try simp only [Q1, Q2, Q3, Q4, Q5, Q6, Q7, Q8, Q9, Qa] at h11)
     refine WO.qT rfl (Y.move (v := .int .u8 _) rfl) ?_
     refine WO.qT rfl (Y.leq rfl rfl) ?_
     refine WO.qT rfl (Y.pickT (u := .bool _) rfl rfl) ?_
     refine WO.q (Y.pickF (u := .bool _) rfl rfl) ?_
     refine WO.q (Y.move (v := .bool _) rfl) ?_
     refine WO.splitB (fun h12 => ?_) (fun h12 => ?_)
     ·
      (try simp only [Q1, Q2, Q3, Q4, Q5, Q6, Q7, Q8, Q9, Qa] at h12)
      refine WO.qF rfl ?_
      refine WO.qF rfl ?_
      refine WO.q (Y.pickT (u := .bool _) rfl rfl) ?_
      refine WO.q (Y.assign (v := .bool _) rfl) ?_
      refine WO.nil ?_
      refine Then.nx ?_
      refine W.ret ?_
      refine BodyQ.ret1 Try.results53 (ResV.tmp _ rfl) ?_
      refine ⟨?_, S.ext⟩; (show Ending.returned (.bool _) = _; congr 2; (try unfold insideB); first | (symm; rw [decide_eq_true_eq]; omega) | (symm; rw [decide_eq_false_iff_not]; omega) | (rw [Bool.eq_iff_iff]; simp only [decide_eq_true_eq, Bool.not_eq_true', decide_eq_false_iff_not]; omega))
     ·
      (try simp only [Q1, Q2, Q3, Q4, Q5, Q6, Q7, Q8, Q9, Qa] at h12)
      refine WO.qT rfl (Y.move (v := .int .u8 _) rfl) ?_
      refine WO.qT rfl (Y.eql rfl rfl) ?_
      refine WO.q (Y.pickF (u := .bool _) rfl rfl) ?_
      refine WO.q (Y.assign (v := .bool _) rfl) ?_
      refine WO.nil ?_
      refine Then.nx ?_
      refine W.ret ?_
      refine BodyQ.ret1 Try.results53 (ResV.tmp _ rfl) ?_
      refine ⟨?_, S.ext⟩; (show Ending.returned (.bool _) = _; congr 2; (try unfold insideB); first | (symm; rw [decide_eq_true_eq]; omega) | (symm; rw [decide_eq_false_iff_not]; omega) | (rw [Bool.eq_iff_iff]; simp only [decide_eq_true_eq, Bool.not_eq_true', decide_eq_false_iff_not]; omega))
    ·
     (try simp only [Q1, Q2, Q3, Q4, Q5, Q6, Q7, Q8, Q9, Qa] at h11)
     refine WO.qF rfl ?_
     refine WO.qF rfl ?_
     refine WO.qT rfl (Y.pickF (u := .bool _) rfl rfl) ?_
     refine WO.q (Y.pickF (u := .bool _) rfl rfl) ?_
     refine WO.q (Y.move (v := .bool _) rfl) ?_
     refine WO.qT rfl (Y.move (v := .int .u8 _) rfl) ?_
     refine WO.qT rfl (Y.eql rfl rfl) ?_
     refine WO.q (Y.pickF (u := .bool _) rfl rfl) ?_
     refine WO.q (Y.assign (v := .bool _) rfl) ?_
     refine WO.nil ?_
     refine Then.nx ?_
     refine W.ret ?_
     refine BodyQ.ret1 Try.results53 (ResV.tmp _ rfl) ?_
     refine ⟨?_, S.ext⟩; (show Ending.returned (.bool _) = _; congr 2; (try unfold insideB); first | (symm; rw [decide_eq_true_eq]; omega) | (symm; rw [decide_eq_false_iff_not]; omega) | (rw [Bool.eq_iff_iff]; simp only [decide_eq_true_eq, Bool.not_eq_true', decide_eq_false_iff_not]; omega))
  ·
   (try simp only [Q1, Q2, Q3, Q4, Q5, Q6, Q7, Q8, Q9, Qa] at h9)
   refine WO.qF rfl ?_
   refine WO.qF rfl ?_
   refine WO.qT rfl (Y.pickF (u := .bool _) rfl rfl) ?_
   refine WO.q (Y.pickF (u := .bool _) rfl rfl) ?_
   refine WO.q (Y.move (v := .bool _) rfl) ?_
   refine WO.qT rfl (Y.move (v := .int .u8 _) rfl) ?_
   refine WO.qT rfl (Y.geq rfl rfl) ?_
   refine WO.qT rfl (Y.move (v := .bool _) rfl) ?_
   refine WO.splitB (fun h13 => ?_) (fun h13 => ?_)
   ·
    (try simp only [Q1, Q2, Q3, Q4, Q5, Q6, Q7, Q8, Q9, Qa] at h13)
    refine WO.qT rfl (Y.move (v := .int .u8 _) rfl) ?_
    refine WO.qT rfl (Y.leq rfl rfl) ?_
    refine WO.qT rfl (Y.pickT (u := .bool _) rfl rfl) ?_
    refine WO.q (Y.pickF (u := .bool _) rfl rfl) ?_
    refine WO.q (Y.move (v := .bool _) rfl) ?_
    refine WO.splitB (fun h14 => ?_) (fun h14 => ?_)
    ·
     (try simp only [Q1, Q2, Q3, Q4, Q5, Q6, Q7, Q8, Q9, Qa] at h14)
     refine WO.qF rfl ?_
     refine WO.qF rfl ?_
     refine WO.q (Y.pickT (u := .bool _) rfl rfl) ?_
     refine WO.q (Y.assign (v := .bool _) rfl) ?_
     refine WO.nil ?_
     refine Then.nx ?_
     refine W.ret ?_
     refine BodyQ.ret1 Try.results53 (ResV.tmp _ rfl) ?_
     refine ⟨?_, S.ext⟩; (show Ending.returned (.bool _) = _; congr 2; (try unfold insideB); first | (symm; rw [decide_eq_true_eq]; omega) | (symm; rw [decide_eq_false_iff_not]; omega) | (rw [Bool.eq_iff_iff]; simp only [decide_eq_true_eq, Bool.not_eq_true', decide_eq_false_iff_not]; omega))
    ·
     (try simp only [Q1, Q2, Q3, Q4, Q5, Q6, Q7, Q8, Q9, Qa] at h14)
     refine WO.qT rfl (Y.move (v := .int .u8 _) rfl) ?_
     refine WO.qT rfl (Y.eql rfl rfl) ?_
     refine WO.q (Y.pickF (u := .bool _) rfl rfl) ?_
     refine WO.q (Y.assign (v := .bool _) rfl) ?_
     refine WO.nil ?_
     refine Then.nx ?_
     refine W.ret ?_
     refine BodyQ.ret1 Try.results53 (ResV.tmp _ rfl) ?_
     refine ⟨?_, S.ext⟩; (show Ending.returned (.bool _) = _; congr 2; (try unfold insideB); first | (symm; rw [decide_eq_true_eq]; omega) | (symm; rw [decide_eq_false_iff_not]; omega) | (rw [Bool.eq_iff_iff]; simp only [decide_eq_true_eq, Bool.not_eq_true', decide_eq_false_iff_not]; omega))
   ·
    (try simp only [Q1, Q2, Q3, Q4, Q5, Q6, Q7, Q8, Q9, Qa] at h13)
    refine WO.qF rfl ?_
    refine WO.qF rfl ?_
    refine WO.qT rfl (Y.pickF (u := .bool _) rfl rfl) ?_
    refine WO.q (Y.pickF (u := .bool _) rfl rfl) ?_
    refine WO.q (Y.move (v := .bool _) rfl) ?_
    refine WO.qT rfl (Y.move (v := .int .u8 _) rfl) ?_
    refine WO.qT rfl (Y.eql rfl rfl) ?_
    refine WO.q (Y.pickF (u := .bool _) rfl rfl) ?_
    refine WO.q (Y.assign (v := .bool _) rfl) ?_
    refine WO.nil ?_
    refine Then.nx ?_
    refine W.ret ?_
    refine BodyQ.ret1 Try.results53 (ResV.tmp _ rfl) ?_
    refine ⟨?_, S.ext⟩; (show Ending.returned (.bool _) = _; congr 2; (try unfold insideB); first | (symm; rw [decide_eq_true_eq]; omega) | (symm; rw [decide_eq_false_iff_not]; omega) | (rw [Bool.eq_iff_iff]; simp only [decide_eq_true_eq, Bool.not_eq_true', decide_eq_false_iff_not]; omega))
theorem words_spec (w0 w : World) (L : List HA) (S : Sat w0 w L) :
    Calls Try.prog 54 [].toArray w (fun e w' => ∃ m, e = .returned (.map (some m)) ∧ Sat w0 w' (MapF m (fun s : ByteArray => Value.string s) (fun b : Bool => Value.bool b) wordsM :: L)) := by
 refine calls_of_W (args := []) 3 Try.func54 rfl Try.ntmps54 rfl ?_
 refine W.seq ?_
 refine W.region rfl ?_
 refine WO.q (Y.assign (v := .map _) rfl) ?_
 refine WO.nil ?_
 refine Then.nx ?_
 refine W.seq ?_
 refine W.region rfl ?_
 refine WO.e (O.makeMap (fun s : ByteArray => Value.string s) (fun b : Bool => Value.bool b) S (fun b1 w S => ?_))
 refine WO.e0 (O.insert (⟨#[108, 101, 116]⟩ : ByteArray) false Try.underlying76 (keyStr Try.underlying9) 0 S rfl rfl rfl rfl (fun w S => ?_))
 refine WO.e0 (O.insert (⟨#[111, 117, 116]⟩ : ByteArray) false Try.underlying76 (keyStr Try.underlying9) 0 S rfl rfl rfl rfl (fun w S => ?_))
 refine WO.e0 (O.insert (⟨#[114, 97, 99, 101]⟩ : ByteArray) false Try.underlying76 (keyStr Try.underlying9) 0 S rfl rfl rfl rfl (fun w S => ?_))
 refine WO.e0 (O.insert (⟨#[99, 97, 110, 99, 101, 108]⟩ : ByteArray) false Try.underlying76 (keyStr Try.underlying9) 0 S rfl rfl rfl rfl (fun w S => ?_))
 refine WO.e0 (O.insert (⟨#[97, 108, 108]⟩ : ByteArray) true Try.underlying76 (keyStr Try.underlying9) 0 S rfl rfl rfl rfl (fun w S => ?_))
 refine WO.e0 (O.insert (⟨#[102, 105, 114, 115, 116]⟩ : ByteArray) true Try.underlying76 (keyStr Try.underlying9) 0 S rfl rfl rfl rfl (fun w S => ?_))
 refine WO.e0 (O.insert (⟨#[119, 104, 101, 110]⟩ : ByteArray) true Try.underlying76 (keyStr Try.underlying9) 0 S rfl rfl rfl rfl (fun w S => ?_))
 refine WO.e0 (O.insert (⟨#[102, 97, 105, 108]⟩ : ByteArray) true Try.underlying76 (keyStr Try.underlying9) 0 S rfl rfl rfl rfl (fun w S => ?_))
 refine WO.e0 (O.insert (⟨#[112, 97, 110, 105, 99]⟩ : ByteArray) true Try.underlying76 (keyStr Try.underlying9) 0 S rfl rfl rfl rfl (fun w S => ?_))
 refine WO.e0 (O.insert (⟨#[109, 101, 109, 111]⟩ : ByteArray) true Try.underlying76 (keyStr Try.underlying9) 0 S rfl rfl rfl rfl (fun w S => ?_))
 refine WO.e0 (O.insert (⟨#[98, 117, 114, 110]⟩ : ByteArray) true Try.underlying76 (keyStr Try.underlying9) 0 S rfl rfl rfl rfl (fun w S => ?_))
 refine WO.q (Y.move (v := .map _) rfl) ?_
 refine WO.q (Y.assign (v := .map _) rfl) ?_
 refine WO.nil ?_
 refine Then.nx ?_
 refine W.ret ?_
 refine BodyQ.ret1 Try.results54 (ResV.tmp _ rfl) ?_
 exact ⟨_, rfl, S⟩
theorem isName_spec (w0 : World) (s : ByteArray) :
    Calls Try.prog 44 [.string s].toArray w0 (fun e w => e = .returned (.bool (isNameM s)) ∧ Ext w0 w) := by
 have S := Sat.refl w0
 refine calls_of_W (args := [.string s]) 43 Try.func44 rfl Try.ntmps44 rfl ?_
 refine W.seq ?_
 refine W.region rfl ?_
 refine WO.q (Y.assign (v := .bool _) rfl) ?_
 refine WO.nil ?_
 refine Then.nx ?_
 refine W.seq ?_
 refine W.seq ?_
 refine W.region rfl ?_
 refine WO.q (Y.move (v := .string _) rfl) ?_
 refine WO.q (Y.lenS Try.underlying9 rfl) ?_
 refine WO.q (Y.lss rfl rfl) ?_
 refine WO.q (Y.move (v := .bool _) rfl) ?_
 refine WO.splitB (fun h1 => ?_) (fun h1 => ?_)
 ·
  (try simp only [Q1, Q2, Q3, Q4, Q5, Q6, Q7, Q8, Q9, Qa] at h1)
  refine WO.qF rfl ?_
  refine WO.qF rfl ?_
  refine WO.qF rfl ?_
  refine WO.q (Y.pickT (u := .bool _) rfl rfl) ?_
  refine WO.q (Y.move (v := .bool _) rfl) ?_
  refine WO.qF rfl ?_
  refine WO.qF rfl ?_
  refine WO.qF rfl ?_
  refine WO.q (Y.pickT (u := .bool _) rfl rfl) ?_
  refine WO.q (Y.move (v := .bool _) rfl) ?_
  refine WO.qF rfl ?_
  refine WO.qF rfl ?_
  refine WO.qF rfl ?_
  refine WO.q (Y.pickT (u := .bool _) rfl rfl) ?_
  refine WO.nil ?_
  refine Then.nx ?_
  first | refine W.condT rfl ?_ | refine W.condT (congrArg Value.bool (by assumption)) ?_
  refine W.seq ?_
  refine W.region rfl ?_
  refine WO.q (Y.assign (v := .bool _) rfl) ?_
  refine WO.nil ?_
  refine Then.nx ?_
  refine W.ret ?_
  refine Then.r ?_
  refine BodyQ.ret1 Try.results44 (ResV.tmp _ rfl) ?_
  refine ⟨?_, by first | exact S.ext | exact S.tl.ext⟩; show Ending.returned (.bool _) = _; first | rw [isName_len (by omega)] | rw [isName_head hb0 (by omega)] | rw [isName_in hb (by assumption)] | rw [isName_yes (by omega) hb0 (by omega) (fun j c hc => hall j c (by (have := (List.getElem?_eq_some_iff.1 hc).1; rw [← ba_size] at this; omega)) hc)]
 ·
  (try simp only [Q1, Q2, Q3, Q4, Q5, Q6, Q7, Q8, Q9, Qa] at h1)
  refine WO.qT rfl (Y.move (v := .string _) rfl) ?_
  refine WO.qT rfl (Y.lenS Try.underlying9 rfl) ?_
  refine WO.qT rfl (Y.gtr rfl rfl) ?_
  refine WO.q (Y.pickF (u := .bool _) rfl rfl) ?_
  refine WO.q (Y.move (v := .bool _) rfl) ?_
  refine WO.splitB (fun h2 => ?_) (fun h2 => ?_)
  ·
   (try simp only [Q1, Q2, Q3, Q4, Q5, Q6, Q7, Q8, Q9, Qa] at h2)
   refine WO.qF rfl ?_
   refine WO.qF rfl ?_
   refine WO.qF rfl ?_
   refine WO.q (Y.pickT (u := .bool _) rfl rfl) ?_
   refine WO.q (Y.move (v := .bool _) rfl) ?_
   refine WO.qF rfl ?_
   refine WO.qF rfl ?_
   refine WO.qF rfl ?_
   refine WO.q (Y.pickT (u := .bool _) rfl rfl) ?_
   refine WO.nil ?_
   refine Then.nx ?_
   first | refine W.condT rfl ?_ | refine W.condT (congrArg Value.bool (by assumption)) ?_
   refine W.seq ?_
   refine W.region rfl ?_
   refine WO.q (Y.assign (v := .bool _) rfl) ?_
   refine WO.nil ?_
   refine Then.nx ?_
   refine W.ret ?_
   refine Then.r ?_
   refine BodyQ.ret1 Try.results44 (ResV.tmp _ rfl) ?_
   refine ⟨?_, by first | exact S.ext | exact S.tl.ext⟩; show Ending.returned (.bool _) = _; first | rw [isName_len (by omega)] | rw [isName_head hb0 (by omega)] | rw [isName_in hb (by assumption)] | rw [isName_yes (by omega) hb0 (by omega) (fun j c hc => hall j c (by (have := (List.getElem?_eq_some_iff.1 hc).1; rw [← ba_size] at this; omega)) hc)]
  ·
   (try simp only [Q1, Q2, Q3, Q4, Q5, Q6, Q7, Q8, Q9, Qa] at h2)
   refine WO.qT rfl (Y.move (v := .string _) rfl) ?_
   obtain ⟨b0, hb0⟩ := at_ex (xs := s.data.toList) (k := 0) (by (rw [← ba_size]; omega))
   refine WO.qT rfl (Y.indexS (i := 0) Try.underlying9 rfl rfl hb0) ?_
   refine WO.qT rfl (Y.lss rfl rfl) ?_
   refine WO.q (Y.pickF (u := .bool _) rfl rfl) ?_
   refine WO.q (Y.move (v := .bool _) rfl) ?_
   refine WO.splitB (fun h3 => ?_) (fun h3 => ?_)
   ·
    (try simp only [Q1, Q2, Q3, Q4, Q5, Q6, Q7, Q8, Q9, Qa] at h3)
    refine WO.qF rfl ?_
    refine WO.qF rfl ?_
    refine WO.qF rfl ?_
    refine WO.q (Y.pickT (u := .bool _) rfl rfl) ?_
    refine WO.nil ?_
    refine Then.nx ?_
    first | refine W.condT rfl ?_ | refine W.condT (congrArg Value.bool (by assumption)) ?_
    refine W.seq ?_
    refine W.region rfl ?_
    refine WO.q (Y.assign (v := .bool _) rfl) ?_
    refine WO.nil ?_
    refine Then.nx ?_
    refine W.ret ?_
    refine Then.r ?_
    refine BodyQ.ret1 Try.results44 (ResV.tmp _ rfl) ?_
    refine ⟨?_, by first | exact S.ext | exact S.tl.ext⟩; show Ending.returned (.bool _) = _; first | rw [isName_len (by omega)] | rw [isName_head hb0 (by omega)] | rw [isName_in hb (by assumption)] | rw [isName_yes (by omega) hb0 (by omega) (fun j c hc => hall j c (by (have := (List.getElem?_eq_some_iff.1 hc).1; rw [← ba_size] at this; omega)) hc)]
   ·
    (try simp only [Q1, Q2, Q3, Q4, Q5, Q6, Q7, Q8, Q9, Qa] at h3)
    refine WO.qT rfl (Y.move (v := .string _) rfl) ?_
    refine WO.qT rfl (Y.indexS (i := 0) Try.underlying9 rfl rfl hb0) ?_
    refine WO.qT rfl (Y.gtr rfl rfl) ?_
    refine WO.q (Y.pickF (u := .bool _) rfl rfl) ?_
    refine WO.nil ?_
    refine Then.nx ?_
    refine W.cond rfl (fun h4 => ?_) (fun h4 => ?_) -- cond 0
    ·
     have rh4 := h4
     (try simp only [Q1, Q2, Q3, Q4, Q5, Q6, Q7, Q8, Q9, Qa] at h4)
     refine W.seq ?_
     refine W.region rfl ?_
     refine WO.q (Y.assign (v := .bool _) rfl) ?_
     refine WO.nil ?_
     refine Then.nx ?_
     refine W.ret ?_
     refine Then.r ?_
     refine BodyQ.ret1 Try.results44 (ResV.tmp _ rfl) ?_
     refine ⟨?_, by first | exact S.ext | exact S.tl.ext⟩; show Ending.returned (.bool _) = _; first | rw [isName_len (by omega)] | rw [isName_head hb0 (by omega)] | rw [isName_in hb (by assumption)] | rw [isName_yes (by omega) hb0 (by omega) (fun j c hc => hall j c (by (have := (List.getElem?_eq_some_iff.1 hc).1; rw [← ba_size] at this; omega)) hc)]
    ·
     have rh4 := h4
     (try simp only [Q1, Q2, Q3, Q4, Q5, Q6, Q7, Q8, Q9, Qa] at h4)
     refine W.skip ?_
     refine Then.nx ?_
     refine W.seq ?_
     refine W.seq ?_
     refine W.region rfl ?_
     refine WO.q (Y.move (v := .string _) rfl) ?_
     refine WO.q (Y.lenS Try.underlying9 rfl) ?_
     refine WO.q (Y.move (v := .int .i64 _) rfl) ?_
     refine WO.nil ?_
     refine Then.nx ?_
     refine W.block ?_
     -- loop 0 carries 26
     refine W.loop1 [2, 3, 26, 27, 28, 29, 30, 31, 32, 33, 34] 26 (fun v26 w => ∃ i : Nat, v26 = .int .i64 (i : Int) ∧ i ≤ s.size ∧ (∀ (j : Nat) c, j < i → s.data.toList[j]? = some c → insideB c = true) ∧ Sat w0 w []) (fun v26 w => s.size - (intOf v26).toNat) ?_ ?_
     ·
      exact ⟨0, rfl, Nat.zero_le _, fun j c hj _ => absurd hj (by omega), S⟩
     ·
      rintro g0 v26 w ⟨i, rfl, hi, hall, S⟩
      refine W.seq ?_
      refine W.region rfl ?_
      refine WO.q (Y.lss rfl rfl) ?_
      refine WO.nil ?_
      refine Then.nx ?_
      refine W.seq ?_
      refine W.cond rfl (fun h5 => ?_) (fun h5 => ?_) -- cond 1
      ·
       have rh5 := h5
       (try simp only [Q1, Q2, Q3, Q4, Q5, Q6, Q7, Q8, Q9, Qa] at h5)
       obtain ⟨b, hb⟩ := at_ex (xs := s.data.toList) (k := i) (by (rw [← ba_size]; omega))
       refine W.skip ?_
       refine Then.nx ?_
       refine W.seq ?_
       refine W.block ?_
       refine W.seq ?_
       refine W.region rfl ?_
       refine WO.q (Y.move (v := .int .i64 _) rfl) ?_
       refine WO.q (Y.assign (v := .int .i64 _) rfl) ?_
       refine WO.nil ?_
       refine Then.nx ?_
       refine W.seq ?_
       refine W.region rfl ?_
       refine WO.q (Y.move (v := .string _) rfl) ?_
       refine WO.q (Y.move (v := .int .i64 _) rfl) ?_
       refine WO.q (Y.indexS Try.underlying9 rfl rfl (by assumption)) ?_
       refine WO.e (O.call cf_53 rfl (inside_spec _ b) ?_)
       rintro _ w ⟨rfl, E⟩
       replace S := S.keep E
       refine ⟨_, rfl, ?_⟩
       refine WO.q (Y.not rfl) ?_
       refine WO.nil ?_
       refine Then.nx ?_
       refine W.cond rfl (fun h6 => ?_) (fun h6 => ?_) -- cond 2
       ·
        have rh6 := h6
        (try simp only [Q1, Q2, Q3, Q4, Q5, Q6, Q7, Q8, Q9, Qa] at h6)
        refine W.seq ?_
        refine W.region rfl ?_
        refine WO.q (Y.assign (v := .bool _) rfl) ?_
        refine WO.nil ?_
        refine Then.nx ?_
        refine W.ret ?_
        refine InB.r ?_
        refine Then.r ?_
        refine Then.r ?_
        refine InB.r ?_
        refine Then.r ?_
        refine BodyQ.ret1 Try.results44 (ResV.tmp _ rfl) ?_
        refine ⟨?_, by first | exact S.ext | exact S.tl.ext⟩; show Ending.returned (.bool _) = _; first | rw [isName_len (by omega)] | rw [isName_head hb0 (by omega)] | rw [isName_in hb (by assumption)] | rw [isName_yes (by omega) hb0 (by omega) (fun j c hc => hall j c (by (have := (List.getElem?_eq_some_iff.1 hc).1; rw [← ba_size] at this; omega)) hc)]
       ·
        have rh6 := h6
        (try simp only [Q1, Q2, Q3, Q4, Q5, Q6, Q7, Q8, Q9, Qa] at h6)
        refine W.skip ?_
        refine InB.nx ?_
        refine Then.nx ?_
        refine W.region rfl ?_
        first | refine WO.q (Y.addI rfl rfl (by omega)) ?_ | refine WO.q (Y.add rfl rfl) ?_
        refine WO.q (Y.move (v := .int .i64 _) rfl) ?_
        refine WO.nil ?_
        refine Then.nx ⟨?_, ?_, ?_⟩
        ·
         (repeat (first | exact Out.hav _ _ _ | exact Out.refl _ _ | refine Out.up rfl ?_ | refine Out.sub rfl ?_))
        ·
         exact ⟨i + 1, rfl, by omega, fun j c hj hc => by (by_cases hji : j < i; exact hall j c hji hc; (have e : j = i := by omega); subst e; rw [hb] at hc; obtain rfl := Option.some.inj hc; assumption), S.nil⟩
        ·
         (show s.size - (i + 1) < s.size - i; omega)
      ·
       have rh5 := h5
       (try simp only [Q1, Q2, Q3, Q4, Q5, Q6, Q7, Q8, Q9, Qa] at h5)
       refine W.exit ?_
       refine Then.x ?_
       refine Then.x ?_
       refine InB.e ?_
       refine Then.nx ?_
       refine W.seq ?_
       refine W.region rfl ?_
       refine WO.e (O.call cf_54 rfl (words_spec w0 _ _ S) ?_)
       rintro _ w ⟨m36, rfl, S⟩
       refine ⟨_, rfl, ?_⟩
       refine WO.q (Y.move (v := .string _) rfl) ?_
       refine WO.q (Y.lookupOk (kv := (fun s : ByteArray => Value.string s)) (vv := (fun b : Bool => Value.bool b)) (z := false) s Try.underlying76 (keyStr Try.underlying9) (fun w => by kernel_rfl) 0 S rfl rfl rfl) ?_
       refine WO.q (Y.move (v := .tuple _) rfl) ?_
       refine WO.q (Y.extract (v := .bool _) rfl rfl) ?_
       refine WO.q (Y.extract (v := .bool _) rfl rfl) ?_
       refine WO.q (Y.assign (v := .bool _) rfl) ?_
       refine WO.q (Y.assign (v := .bool _) rfl) ?_
       refine WO.nil ?_
       refine Then.nx ?_
       refine W.seq ?_
       refine W.region rfl ?_
       refine WO.q (Y.move (v := .bool _) rfl) ?_
       refine WO.q (Y.not rfl) ?_
       refine WO.q (Y.assign (v := .bool _) rfl) ?_
       refine WO.nil ?_
       refine Then.nx ?_
       refine W.ret ?_
       refine BodyQ.ret1 Try.results44 (ResV.tmp _ rfl) ?_
       refine ⟨?_, by first | exact S.ext | exact S.tl.ext⟩; show Ending.returned (.bool _) = _; first | rw [isName_len (by omega)] | rw [isName_head hb0 (by omega)] | rw [isName_in hb (by assumption)] | rw [isName_yes (by omega) hb0 (by omega) (fun j c hc => hall j c (by (have := (List.getElem?_eq_some_iff.1 hc).1; rw [← ba_size] at this; omega)) hc)]
end Go.Proofs
