/-
  Layer 26 in plain Lean: the document's answer for histories.
-/
import Derived.Test.YticopppiogophaaDoorTp
set_option linter.unusedVariables false
set_option linter.unusedSimpArgs false
namespace Go.TL

/-- what the document says a call of a kind may bear: good, arg, next, answer, is -/
def flagsR (k : Int) (c : GCall) : Bool × Bool × Bool × Bool × Bool :=
  if k ≤ 2 then (decide (c.op = 1 ∨ c.op = 2), decide (c.op = 1), false, decide (c.op = 2) && c.ok, decide (c.op = 2))
  else if k = 3 then (decide (c.op = 3 ∨ c.op = 4), decide (c.op = 3), false, true, false)
  else (decide (c.op = 1 ∨ c.op = 4 ∨ c.op = 5), !decide (c.op = 4), decide (c.op = 5), decide (c.op = 4), decide (c.op = 5))
def rightR (k : Int) (c : GCall) : Bool :=
  if badC c then false else
  let f := flagsR k c
  f.1 && (f.2.1 || decide (c.arg = 0)) && (f.2.2.1 || decide (c.new = 0)) && (f.2.2.2.1 || decide (c.answer = 0)) && (f.2.2.2.2 || !c.ok)
theorem rightR_eq {k : Int} (hk : 1 ≤ k ∧ k ≤ 4) (c : GCall) : rightR k c = rightB k c := by
  unfold rightR rightB
  cases hb : badC c with
  | true => rfl
  | false =>
    simp only [Bool.false_eq_true, if_false, Bool.not_false, Bool.true_and]
    cases c with | mk op arg new answer ok bg en =>
    rcases (show op = 1 ∨ op = 2 ∨ op = 3 ∨ op = 4 ∨ op = 5 ∨ ¬ (op = 1 ∨ op = 2 ∨ op = 3 ∨ op = 4 ∨ op = 5) by omega) with rfl | rfl | rfl | rfl | rfl | ho
    all_goals rcases (show k = 1 ∨ k = 2 ∨ k = 3 ∨ k = 4 by omega) with rfl | rfl | rfl | rfl
    all_goals first
      | (cases ok <;> rw [Bool.eq_iff_iff] <;> simp [flagsR, bareC, call0] <;> done)
      | (cases ok <;> rw [Bool.eq_iff_iff] <;> simp [flagsR, bareC, call0] <;> omega)
      | (simp only [not_or] at ho; obtain ⟨h1, h2, h3, h4, h5⟩ := ho; simp [flagsR, bareC, h1, h2, h3, h4, h5])
/-- what a kind holds, as the document writes it: nothing is nought -/
def norm (k : Int) (R : List Int) : List Int := if k ≤ 2 then R else if R = [] then [0] else R
/-- what is held behind a call, what it answers -/
def DoM (k : Int) (R : List Int) (c : GCall) : List Int × Int × Bool :=
  if k ≤ 2 then ((doesM k R c).1, (doesM k R c).2.answer, (doesM k R c).2.ok)
  else
    let x := (norm k R).headD 0
    if c.op = 3 then ([wr (x + c.arg)], wr (x + c.arg), false)
    else if c.op = 1 then ([c.arg], 0, false)
    else if c.op = 5 then (if x = c.arg then ([c.new], 0, true) else ([x], 0, false))
    else ([x], x, false)
theorem norm_le {k : Int} {R : List Int} (h : k ≤ 2) : norm k R = R := if_pos h
theorem right_op {k : Int} {c : GCall} (hk : 1 ≤ k ∧ k ≤ 4) (h : rightB k c = true) : (k ≤ 2 → c.op = 1 ∨ c.op = 2) ∧ (k = 3 → c.op = 3 ∨ c.op = 4) ∧ (k = 4 → c.op = 1 ∨ c.op = 4 ∨ c.op = 5) := by
  unfold rightB bareC at h
  rw [Bool.and_eq_true] at h
  replace h := h.2
  refine ⟨fun h1 => ?_, fun h1 => ?_, fun h1 => ?_⟩
  · by_cases h2 : c.op = 1 ∨ c.op = 2
    · exact h2
    · rw [if_neg (by omega), if_neg (by omega), if_neg (by omega), if_neg (by omega), if_neg (by omega)] at h; cases h
  · by_cases h2 : c.op = 3 ∨ c.op = 4
    · exact h2
    · rw [if_neg (by omega), if_neg (by omega), if_neg (by omega), if_neg (by omega), if_neg (by omega)] at h; cases h
  · by_cases h2 : c.op = 1 ∨ c.op = 4 ∨ c.op = 5
    · exact h2
    · rw [if_neg (by omega), if_neg (by omega), if_neg (by omega), if_neg (by omega), if_neg (by omega)] at h; cases h
theorem DoM_eq {k : Int} {R : List Int} {c : GCall} (hk : 1 ≤ k ∧ k ≤ 4) (h : rightB k c = true) : DoM k R c = ((doesM k (norm k R) c).1, (doesM k (norm k R) c).2.answer, (doesM k (norm k R) c).2.ok) := by
  have ho := right_op hk h
  unfold DoM
  by_cases h1 : k ≤ 2
  · rw [if_pos h1, norm_le h1]
  · rw [if_neg h1]
    unfold doesM
    simp only [if_neg h1]
    by_cases h3 : c.op = 3
    · simp only [if_pos h3]
    · simp only [if_neg h3]
      by_cases h4 : c.op = 4
      · rw [if_pos h4, if_neg (by omega), if_neg (by omega)]
      · simp only [if_neg h4]
        by_cases h5 : c.op = 1
        · simp only [if_pos h5]
        · simp only [if_neg h5]
          by_cases h6 : c.op = 5
          · simp only [if_pos h6]
            split <;> rfl
          · omega
theorem doesM_same {k : Int} {hs : List Int} {c : GCall} : (doesM k hs c).2 = c ↔ (doesM k hs c).2.answer = c.answer ∧ (doesM k hs c).2.ok = c.ok := by
  have hf : (doesM k hs c).2 = { c with answer := (doesM k hs c).2.answer, ok := (doesM k hs c).2.ok } := by
    unfold doesM
    by_cases h1 : k ≤ 2
    · simp only [if_pos h1]
      (repeat' split) <;> rfl
    · simp only [if_neg h1]
      (repeat' split) <;> rfl
  constructor
  · intro h; rw [h]; exact ⟨rfl, rfl⟩
  · rintro ⟨h1, h2⟩
    rw [hf, h1, h2]
/-- are all done that have an end? -/
def overB (h : List GCall) (d : Nat) : Bool := (List.range h.length).all fun i => match h[i]? with
  | some c => decide (bitN d i = 1) || decide (c.end_ = -1)
  | none => true
def refLoop (rec : Nat → List Int → Been → Option (List Nat) × Been) (k : Int) (h : List GCall) (d : Nat) (R : List Int) : List Nat → Been → Option (List Nat) × Been
  | [], bn => (none, bn ++ [(d, R)])
  | i :: r, bn => match h[i]? with
    | none => refLoop rec k h d R r bn
    | some c =>
      if bitN d i = 1 ∨ lateB h d c = true then refLoop rec k h d R r bn
      else if ¬ c.end_ = -1 ∧ (¬ (DoM k R c).2.1 = c.answer ∨ ¬ (DoM k R c).2.2 = c.ok) then refLoop rec k h d R r bn
      else match rec (d ||| 1 <<< i) (DoM k R c).1 bn with
        | (some l, b2) => (some (i :: l), b2)
        | (none, b2) => refLoop rec k h d R r b2
def refFrom (k : Int) (h : List GCall) : Nat → Nat → List Int → Been → Option (List Nat) × Been
  | 0, _, _, bn => (none, bn)
  | fuel + 1, d, R, bn => if overB h d = true then (some [], bn) else if (d, R) ∈ bn then (none, bn) else refLoop (refFrom k h fuel) k h d R (List.range h.length) bn
section
variable {rec : Nat → List Int → Been → Option (List Nat) × Been} {k : Int} {h : List GCall} {d i : Nat} {R : List Int} {r : List Nat} {bn : Been} {c : GCall}
theorem refLoop_skip (hx : h[i]? = some c) (hb : bitN d i = 1 ∨ lateB h d c = true) : refLoop rec k h d R (i :: r) bn = refLoop rec k h d R r bn := by simp only [refLoop, hx, if_pos hb]
theorem refLoop_ne (hx : h[i]? = some c) (hb : ¬ (bitN d i = 1 ∨ lateB h d c = true)) (h1 : ¬ c.end_ = -1 ∧ (¬ (DoM k R c).2.1 = c.answer ∨ ¬ (DoM k R c).2.2 = c.ok)) : refLoop rec k h d R (i :: r) bn = refLoop rec k h d R r bn := by
  simp only [refLoop, hx, if_neg hb, if_pos h1]
theorem refLoop_yes {l : List Nat} (hx : h[i]? = some c) (hb : ¬ (bitN d i = 1 ∨ lateB h d c = true)) (h1 : ¬ (¬ c.end_ = -1 ∧ (¬ (DoM k R c).2.1 = c.answer ∨ ¬ (DoM k R c).2.2 = c.ok))) (hr : (rec (d ||| 1 <<< i) (DoM k R c).1 bn).1 = some l) : refLoop rec k h d R (i :: r) bn = (some (i :: l), (rec (d ||| 1 <<< i) (DoM k R c).1 bn).2) := by
  simp only [refLoop, hx, if_neg hb, if_neg h1]
  cases e : rec (d ||| 1 <<< i) (DoM k R c).1 bn with
  | mk a b => rw [e] at hr; simp only at hr; subst hr; rfl
theorem refLoop_no (hx : h[i]? = some c) (hb : ¬ (bitN d i = 1 ∨ lateB h d c = true)) (h1 : ¬ (¬ c.end_ = -1 ∧ (¬ (DoM k R c).2.1 = c.answer ∨ ¬ (DoM k R c).2.2 = c.ok))) (hr : (rec (d ||| 1 <<< i) (DoM k R c).1 bn).1 = none) : refLoop rec k h d R (i :: r) bn = refLoop rec k h d R r (rec (d ||| 1 <<< i) (DoM k R c).1 bn).2 := by
  simp only [refLoop, hx, if_neg hb, if_neg h1]
  cases e : rec (d ||| 1 <<< i) (DoM k R c).1 bn with
  | mk a b => rw [e] at hr; simp only at hr; subst hr; rfl
end
theorem must_test {h : List GCall} : ∀ (n : Nat), n ≤ h.length → ∀ i, (mustOf h n).testBit i = true ↔ i < n ∧ ∃ c, h[i]? = some c ∧ ¬ c.end_ = -1
  | 0, _, i => by simp [mustOf]
  | n + 1, hn, i => by
    obtain ⟨c, hc⟩ := at_ex (xs := h) (k := n) (by omega)
    have ih := must_test (h := h) n (by omega) i
    rw [mustOf_succ hc]
    by_cases he : c.end_ = -1
    · rw [if_pos he, ih]
      constructor
      · rintro ⟨h1, h2⟩; exact ⟨by omega, h2⟩
      · rintro ⟨h1, c2, h2, h3⟩
        by_cases hi : i = n
        · subst hi; rw [hc] at h2; cases h2; exact absurd he h3
        · exact ⟨by omega, c2, h2, h3⟩
    · rw [if_neg he]
      have hb := bitN_or (mustOf h n) n i
      rw [bitN_test, bitN_test, ih] at hb
      rw [hb]
      constructor
      · rintro (⟨h1, h2⟩ | rfl)
        · exact ⟨by omega, h2⟩
        · exact ⟨by omega, c, hc, he⟩
      · rintro ⟨h1, c2, h2, h3⟩
        by_cases hi : i = n
        · exact .inr hi
        · exact .inl ⟨by omega, c2, h2, h3⟩
theorem over_iff (h : List GCall) (d : Nat) : overB h d = true ↔ d &&& mustOf h h.length = mustOf h h.length := by
  have hm := must_test (h := h) h.length (Nat.le_refl _)
  constructor
  · intro ho
    refine Nat.eq_of_testBit_eq fun i => ?_
    rw [Nat.testBit_and, Bool.eq_iff_iff, Bool.and_eq_true]
    constructor
    · exact fun h => h.2
    · intro h1
      obtain ⟨h2, c, h3, h4⟩ := (hm i).1 h1
      have := List.all_eq_true.1 ho i (List.mem_range.2 h2)
      simp only [h3, Bool.or_eq_true, decide_eq_true_eq] at this
      rcases this with h5 | h5
      · exact ⟨(bitN_test d i).1 h5, h1⟩
      · exact absurd h5 h4
  · intro he
    refine List.all_eq_true.2 fun i hi => ?_
    have hi := List.mem_range.1 hi
    obtain ⟨c, hc⟩ := at_ex hi
    simp only [hc, Bool.or_eq_true, decide_eq_true_eq]
    by_cases h1 : c.end_ = -1
    · exact .inr h1
    · have h2 := (hm i).2 ⟨hi, c, hc, h1⟩
      rw [← he, Nat.testBit_and, Bool.and_eq_true] at h2
      exact .inl ((bitN_test d i).2 h2.1)
theorem doesM_ne {k : Int} {hs : List Int} {c : GCall} (h : ¬ k ≤ 2) : (doesM k hs c).1 ≠ [] := by
  unfold doesM; rw [if_neg h]
  simp only
  (repeat' split) <;> simp
theorem norm_does {k : Int} {hs : List Int} {c : GCall} : norm k (doesM k hs c).1 = (doesM k hs c).1 := by
  by_cases h : k ≤ 2
  · exact norm_le h
  · unfold norm; rw [if_neg h, if_neg (doesM_ne h)]
section
variable {k : Int} {h : List GCall} (hk : 1 ≤ k ∧ k ≤ 4) (hg : h.all (rightB k) = true)
include hk hg
theorem refLoop_best (fuel d : Nat) (R : List Int) (hu : undone h.length d < fuel + 1)
    (ih : ∀ (d' : Nat) (R' : List Int) (bn : Been), undone h.length d' < fuel → (∀ p ∈ bn, NC k h (mustOf h h.length) (p.1, norm k p.2)) → (refFrom k h fuel d' R' bn).1 = bestF k h (mustOf h h.length) fuel d' (norm k R') ∧ ((refFrom k h fuel d' R' bn).1 = none → ∀ p ∈ (refFrom k h fuel d' R' bn).2, NC k h (mustOf h h.length) (p.1, norm k p.2))) :
    ∀ (r : List Nat) (bn : Been), (∀ i ∈ r, i < h.length) → (∀ p ∈ bn, NC k h (mustOf h h.length) (p.1, norm k p.2)) →
      (refLoop (refFrom k h fuel) k h d R r bn).1 = (r.findSome? fun i => match stepOk k h d (norm k R) i with
        | none => none
        | some c => (bestF k h (mustOf h h.length) fuel (d ||| 1 <<< i) (doesM k (norm k R) c).1).map (i :: ·)) ∧
      ((refLoop (refFrom k h fuel) k h d R r bn).1 = none → ∀ p ∈ (refLoop (refFrom k h fuel) k h d R r bn).2, p = (d, R) ∨ NC k h (mustOf h h.length) (p.1, norm k p.2))
  | [], bn, _, hbn => ⟨rfl, fun _ p hp => by
      rcases List.mem_append.1 hp with hp | hp
      · exact .inr (hbn p hp)
      · exact .inl (by simpa using hp)⟩
  | i :: r, bn, hr, hbn => by
    have hi := hr i List.mem_cons_self
    have hrest := fun bn hbn => refLoop_best fuel d R hu ih r bn (fun j hj => hr j (List.mem_cons_of_mem _ hj)) hbn
    obtain ⟨c, hx⟩ := at_ex hi
    have hright := List.all_eq_true.1 hg c (List.mem_of_getElem? hx)
    have hdo := DoM_eq (R := R) hk hright
    rw [List.findSome?_cons]
    by_cases h1 : bitN d i = 1 ∨ lateB h d c = true
    · rw [refLoop_skip hx h1]
      have : stepOk k h d (norm k R) i = none := by
        simp only [stepOk, hx]
        rcases h1 with h1 | h1
        · rw [if_pos h1]
        · split
          · rfl
          · first | rfl | rw [if_pos h1]
      simp only [this]; exact hrest bn hbn
    · have h1a : ¬ bitN d i = 1 := fun e => h1 (.inl e)
      have h1b : lateB h d c = false := by
        cases e : lateB h d c with
        | false => rfl
        | true => exact absurd (.inr e) h1
      by_cases h3 : ¬ c.end_ = -1 ∧ ¬ (doesM k (norm k R) c).2 = c
      · have h3' : ¬ c.end_ = -1 ∧ (¬ (DoM k R c).2.1 = c.answer ∨ ¬ (DoM k R c).2.2 = c.ok) := by
          refine ⟨h3.1, ?_⟩
          rw [hdo]
          have h4 := h3.2
          rw [doesM_same] at h4
          exact Decidable.not_and_iff_not_or_not.1 h4
        rw [refLoop_ne hx h1 h3']
        have : stepOk k h d (norm k R) i = none := by simp only [stepOk, hx, if_neg h1a, h1b, Bool.false_eq_true, if_false, if_pos h3]
        simp only [this]; exact hrest bn hbn
      · have h3' : ¬ (¬ c.end_ = -1 ∧ (¬ (DoM k R c).2.1 = c.answer ∨ ¬ (DoM k R c).2.2 = c.ok)) := by
          rintro ⟨h4, h5⟩
          rw [hdo] at h5
          refine h3 ⟨h4, fun e => ?_⟩
          obtain ⟨h6, h7⟩ := doesM_same.1 e
          rcases h5 with h5 | h5
          · exact h5 h6
          · exact h5 h7
        have : stepOk k h d (norm k R) i = some c := stepOk_iff.2 ⟨hx, h1a, h1b, h3⟩
        simp only [this]
        have hlt := undone_lt hi h1a
        have hih := ih (d ||| 1 <<< i) (DoM k R c).1 bn (by omega) hbn
        have hn : norm k (DoM k R c).1 = (doesM k (norm k R) c).1 := by rw [hdo]; exact norm_does
        rw [hn] at hih
        cases e : bestF k h (mustOf h h.length) fuel (d ||| 1 <<< i) (doesM k (norm k R) c).1 with
        | some l =>
          rw [e] at hih
          rw [refLoop_yes hx h1 h3' hih.1]
          exact ⟨rfl, fun e => by cases e⟩
        | none =>
          rw [e] at hih
          rw [refLoop_no hx h1 h3' hih.1]
          exact hrest _ (hih.2 hih.1)
theorem refFrom_best : ∀ (fuel d : Nat) (R : List Int) (bn : Been), undone h.length d < fuel → (∀ p ∈ bn, NC k h (mustOf h h.length) (p.1, norm k p.2)) →
    (refFrom k h fuel d R bn).1 = bestF k h (mustOf h h.length) fuel d (norm k R) ∧ ((refFrom k h fuel d R bn).1 = none → ∀ p ∈ (refFrom k h fuel d R bn).2, NC k h (mustOf h h.length) (p.1, norm k p.2))
  | 0, _, _, _, hu, _ => by omega
  | fuel + 1, d, R, bn, hu, hbn => by
    rw [refFrom]
    by_cases h1 : overB h d = true
    · rw [if_pos h1, bestF, if_pos ((over_iff h d).1 h1)]; exact ⟨rfl, fun e => by cases e⟩
    · have h1' : ¬ d &&& mustOf h h.length = mustOf h h.length := fun e => h1 ((over_iff h d).2 e)
      rw [if_neg h1]
      by_cases h2 : (d, R) ∈ bn
      · rw [if_pos h2]
        exact ⟨(hbn _ h2 (fuel + 1) hu).symm, fun _ p hp => hbn p hp⟩
      · rw [if_neg h2]
        have hl := refLoop_best hk hg fuel d R hu (fun d' R' bn' => refFrom_best fuel d' R' bn') (List.range h.length) bn (fun i hi => List.mem_range.1 hi) hbn
        have hb : bestF k h (mustOf h h.length) (fuel + 1) d (norm k R) = (List.range h.length).findSome? fun i => match stepOk k h d (norm k R) i with
            | none => none
            | some c => (bestF k h (mustOf h h.length) fuel (d ||| 1 <<< i) (doesM k (norm k R) c).1).map (i :: ·) := by rw [bestF, if_neg h1']; rfl
        rw [← hb] at hl
        refine ⟨hl.1, fun en p hp => ?_⟩
        rcases hl.2 en p hp with rfl | h4
        · intro g hg2
          rw [bestF_fuel g (fuel + 1) d (norm k R) hg2 hu, ← hl.1, en]
        · exact h4
theorem ref_linO : (refFrom k h (h.length + 1) 0 [] []).1 = linO k h := by
  rw [linO_best, (refFrom_best hk hg (h.length + 1) 0 [] [] (by have := undone_le h.length 0; omega) (fun p hp => by cases hp)).1]
  rfl
end
theorem and_bit (d k : Nat) : d &&& 1 <<< k = 0 ↔ ¬ bitN d k = 1 := by
  rw [Nat.shiftLeft_eq, Nat.one_mul, bitN_test]
  constructor
  · intro h hb
    have h1 : (d &&& 2 ^ k).testBit k = true := by rw [Nat.testBit_and, hb, Nat.testBit_two_pow]; simp
    rw [h, Nat.zero_testBit] at h1; cases h1
  · intro h
    refine Nat.eq_of_testBit_eq fun i => ?_
    rw [Nat.testBit_and, Nat.testBit_two_pow, Nat.zero_testBit]
    by_cases e : k = i
    · subst e; simp [h]
    · simp [e]
theorem overB_step {h : List GCall} {d k : Nat} {x : GCall} (hx : h[k]? = some x) : ((List.range (k + 1)).all fun i => match h[i]? with
  | some c => decide (bitN d i = 1) || decide (c.end_ = -1)
  | none => true) = (((List.range k).all fun i => match h[i]? with
  | some c => decide (bitN d i = 1) || decide (c.end_ = -1)
  | none => true) && (decide (bitN d k = 1) || decide (x.end_ = -1))) := by
  rw [List.range_succ, List.all_append]
  simp [hx]
def overN (h : List GCall) (d k : Nat) : Bool := (List.range k).all fun i => match h[i]? with
  | some c => decide (bitN d i = 1) || decide (c.end_ = -1)
  | none => true
theorem overN_succ {h : List GCall} {d k : Nat} {x : GCall} (hx : h[k]? = some x) : overN h d (k + 1) = (overN h d k && (decide (bitN d k = 1) || decide (x.end_ = -1))) := overB_step hx
theorem overN_all (h : List GCall) (d : Nat) : overN h d h.length = overB h d := rfl
theorem DoM_len {k : Int} {R : List Int} {c : GCall} : (DoM k R c).1.length ≤ R.length + 1 ∧ (2 < k → (DoM k R c).1.length = 1) := by
  unfold DoM
  by_cases h : k ≤ 2
  · rw [if_pos h]
    exact ⟨doesM_len k R c, fun h2 => by omega⟩
  · rw [if_neg h]
    simp only
    (repeat' split) <;> exact ⟨by simp, fun _ => rfl⟩
/-! ### how often the document's search is asked -/
def callsW : Nat → Nat
  | 0 => 1
  | u + 1 => 1 + (u + 1) * callsW u
theorem callsW_mono : ∀ {a b : Nat}, a ≤ b → callsW a ≤ callsW b := by
  have step : ∀ a, callsW a ≤ callsW (a + 1) := fun a => by
    have : 1 * callsW a ≤ (a + 1) * callsW a := Nat.mul_le_mul_right _ (by omega)
    show callsW a ≤ 1 + (a + 1) * callsW a
    omega
  intro a b h
  induction h with
  | refl => exact Nat.le_refl _
  | step _ ih => exact Nat.le_trans ih (step _)
theorem callsW_12 : callsW 12 ≤ 2147483648 := by decide
def cntW (d i V : Nat) : Nat := (List.range i).countP (fun j => decide (¬ bitN d j = 1)) * V
theorem cntW_zero (d V : Nat) : cntW d 0 V = 0 := by simp [cntW]
theorem cntW_done {d i V : Nat} (h : bitN d i = 1) : cntW d (i + 1) V = cntW d i V := by simp [cntW, List.range_succ, h]
theorem cntW_not {d i V : Nat} (h : ¬ bitN d i = 1) : cntW d (i + 1) V = cntW d i V + V := by
  simp only [cntW, List.range_succ, List.countP_append]
  simp [h, Nat.add_mul]
theorem cntW_mono (d V : Nat) : ∀ {i j : Nat}, i ≤ j → cntW d i V ≤ cntW d j V := by
  intro i j h
  induction h with
  | refl => exact Nat.le_refl _
  | @step m _ ih =>
    by_cases hb : bitN d m = 1
    · rw [cntW_done hb]; exact ih
    · rw [cntW_not hb]; omega
theorem cntW_all (n d V : Nat) : cntW d n V = undone n d * V := rfl
theorem callsW_all {n d : Nat} (h : 0 < undone n d) : cntW d n (callsW (undone n d - 1)) + 1 = callsW (undone n d) := by
  rw [cntW_all]
  generalize undone n d = u at h
  cases u with
  | zero => omega
  | succ u => show (u + 1) * callsW (u + 1 - 1) + 1 = 1 + (u + 1) * callsW u; rw [Nat.add_sub_cancel]; omega
theorem undone_pos {n d i : Nat} (hi : i < n) (hb : ¬ bitN d i = 1) : 0 < undone n d := by have := undone_lt hi hb; omega
theorem over_undone {h : List GCall} {d : Nat} (ho : ¬ overB h d = true) : 0 < undone h.length d := by
  have : overB h d = false := by simpa using ho
  rw [overB, List.all_eq_false] at this
  obtain ⟨i, hi, h2⟩ := this
  have hi := List.mem_range.1 hi
  obtain ⟨c, hc⟩ := at_ex hi
  simp only [hc, Bool.or_eq_true, decide_eq_true_eq, not_or] at h2
  exact undone_pos hi h2.1
/-- what has been noted, and where it lies -/
def Memo (bn : Been) (ps : List SlV) (MX : HA) : Prop := ps.length = bn.length ∧ ∀ (j : Nat) (p : Nat × List Int) (q : SlV), bn[j]? = some p → ps[j]? = some q → q.2.1 = p.2.length ∧ Reads MX (tI .i64) q.1 p.2 ∧ p.2.length ≤ 4096
theorem Memo.nil (MX : HA) : Memo [] [] MX := ⟨rfl, fun j p q h => by simp at h⟩
theorem Memo.snoc {bn : Been} {ps : List SlV} {MX X : HA} (m : Memo bn ps MX) {d : Nat} {R : List Int} {a : Option Addr} {cap : Nat} (h : Reads X (tI .i64) a R) (hl : R.length ≤ 4096) : Memo (bn ++ [(d, R)]) (ps ++ [(a, R.length, cap)]) (Bun [X, MX]) := by
  refine ⟨by simp [m.1], fun j p q h1 h2 => ?_⟩
  by_cases hj : j < bn.length
  · rw [List.getElem?_append_left hj] at h1
    rw [List.getElem?_append_left (by rw [m.1]; exact hj)] at h2
    have := m.2 j p q h1 h2
    exact ⟨this.1, this.2.1.bun 1 rfl, this.2.2⟩
  · have hj2 : j = bn.length := by
      have := at_lt h1
      simp at this; omega
    subst hj2
    rw [List.getElem?_append_right (Nat.le_refl _), Nat.sub_self] at h1
    rw [List.getElem?_append_right (by rw [m.1]; exact Nat.le_refl _), m.1, Nat.sub_self] at h2
    simp at h1 h2
    subst h1; subst h2
    exact ⟨rfl, h.bun 0 rfl, hl⟩
theorem Own.one {α : Type} {T : Ty α} {e : TypeId} {b : Nat} {x : α} {h : Hp} (o : Cel b (T.enc x) e h) : Own T e (some ⟨b, 0, none⟩) 1 [x] h := by
  refine ⟨by simp [Ty.all, T.len], .inr ⟨b, [], rfl, ?_, Nat.le_refl _, by simp [maxLen], ?_⟩⟩
  · rw [show h b = _ from o]; simp [Ty.all]
  · simp [Ty.all, T.len]
end Go.TL
