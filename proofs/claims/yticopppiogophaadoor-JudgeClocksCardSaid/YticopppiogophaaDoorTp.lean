/-
  Layer 26 in plain Lean: the search for an order with and without what it has noted; what was done in an order is found.
-/
import Derived.Test.YticopppiogophaaDoorTl
set_option linter.unusedVariables false
set_option linter.unusedSimpArgs false
namespace Go.TL

/-- one step of an order: what may go next -/
def stepOk (k : Int) (h : List GCall) (d : Nat) (hs : List Int) (i : Nat) : Option GCall :=
  match h[i]? with
  | none => none
  | some c => if bitN d i = 1 then none else if lateB h d c then none else if ¬ c.end_ = -1 ∧ ¬ (doesM k hs c).2 = c then none else some c
theorem stepOk_iff {k : Int} {h : List GCall} {d : Nat} {hs : List Int} {i : Nat} {c : GCall} : stepOk k h d hs i = some c ↔ h[i]? = some c ∧ ¬ bitN d i = 1 ∧ lateB h d c = false ∧ ¬ (¬ c.end_ = -1 ∧ ¬ (doesM k hs c).2 = c) := by
  unfold stepOk
  cases hx : h[i]? with
  | none => simp
  | some y =>
    simp only
    by_cases h1 : bitN d i = 1
    · rw [if_pos h1]; simp [h1]
    · rw [if_neg h1]
      by_cases h2 : lateB h d y = true
      · rw [if_pos h2]
        constructor
        · intro e; cases e
        · rintro ⟨e, _, h3, _⟩; cases e; rw [h2] at h3; cases h3
      · rw [if_neg h2]
        by_cases h3 : ¬ y.end_ = -1 ∧ ¬ (doesM k hs y).2 = y
        · rw [if_pos h3]
          constructor
          · intro e; cases e
          · rintro ⟨e, _, _, h4⟩; cases e; exact absurd h3 h4
        · rw [if_neg h3]
          constructor
          · intro e; cases e; exact ⟨rfl, h1, by simpa using h2, h3⟩
          · rintro ⟨e, _⟩; exact e
/-- the least order, found without notes -/
def bestF (k : Int) (h : List GCall) (must : Nat) : Nat → Nat → List Int → Option (List Nat)
  | 0, _, _ => none
  | fuel + 1, d, hs => if d &&& must = must then some [] else (List.range h.length).findSome? fun i => match stepOk k h d hs i with
    | none => none
    | some c => (bestF k h must fuel (d ||| 1 <<< i) (doesM k hs c).1).map (i :: ·)
section
variable {k : Int} {h : List GCall} {must : Nat}
theorem findSome_congr {α β : Type} {f g : α → Option β} : ∀ {l : List α}, (∀ x ∈ l, f x = g x) → l.findSome? f = l.findSome? g
  | [], _ => rfl
  | x :: l, hh => by
    rw [List.findSome?_cons, List.findSome?_cons, hh x List.mem_cons_self, findSome_congr fun y hy => hh y (List.mem_cons_of_mem _ hy)]
theorem bestF_fuel : ∀ (f g d : Nat) (hs : List Int), undone h.length d < f → undone h.length d < g → bestF k h must f d hs = bestF k h must g d hs
  | 0, _, _, _, h1, _ => by omega
  | _, 0, _, _, _, h2 => by omega
  | f + 1, g + 1, d, hs, h1, h2 => by
    rw [bestF, bestF]
    split
    · rfl
    · refine findSome_congr fun i hi => ?_
      cases e : stepOk k h d hs i with
      | none => rfl
      | some c =>
        have e2 := stepOk_iff.1 e
        have := undone_lt (List.mem_range.1 hi) e2.2.1
        simp only
        rw [bestF_fuel f g _ _ (by omega) (by omega)]
/-- it has no order -/
def NC (k : Int) (h : List GCall) (must : Nat) (p : Nat × List Int) : Prop := ∀ g, undone h.length p.1 < g → bestF k h must g p.1 p.2 = none
theorem linLoop_best (fuel : Nat) (d : Nat) (hs : List Int) (hu : undone h.length d < fuel + 1)
    (ih : ∀ (d' : Nat) (hs' : List Int) (bn : Been), undone h.length d' < fuel → (∀ p ∈ bn, undone h.length d' < undone h.length p.1 ∨ NC k h must p) → (linFrom k h must fuel d' hs' bn).1 = bestF k h must fuel d' hs' ∧ ((linFrom k h must fuel d' hs' bn).1 = none → ∀ p ∈ (linFrom k h must fuel d' hs' bn).2, p ∈ bn ∨ NC k h must p)) :
    ∀ (r : List Nat) (bn : Been), (∀ i ∈ r, i < h.length) → (∀ p ∈ bn, undone h.length d ≤ undone h.length p.1 ∨ NC k h must p) →
      (linLoop (linFrom k h must fuel) k h d hs r bn).1 = (r.findSome? fun i => match stepOk k h d hs i with
        | none => none
        | some c => (bestF k h must fuel (d ||| 1 <<< i) (doesM k hs c).1).map (i :: ·)) ∧
      ((linLoop (linFrom k h must fuel) k h d hs r bn).1 = none → ∀ p ∈ (linLoop (linFrom k h must fuel) k h d hs r bn).2, p ∈ bn ∨ NC k h must p)
  | [], bn, _, _ => ⟨rfl, fun _ p hp => .inl hp⟩
  | i :: r, bn, hr, hbn => by
    have hi := hr i List.mem_cons_self
    have hrest := fun bn hbn => linLoop_best fuel d hs hu ih r bn (fun j hj => hr j (List.mem_cons_of_mem _ hj)) hbn
    obtain ⟨c, hx⟩ := at_ex hi
    rw [List.findSome?_cons]
    by_cases h1 : bitN d i = 1
    · rw [linLoop_bit hx h1]
      have : stepOk k h d hs i = none := by simp only [stepOk, hx, if_pos h1]
      simp only [this]; exact hrest bn hbn
    · by_cases h2 : lateB h d c = true
      · rw [linLoop_late hx h1 h2]
        have : stepOk k h d hs i = none := by simp only [stepOk, hx, if_neg h1, if_pos h2]
        simp only [this]; exact hrest bn hbn
      · have h2 : lateB h d c = false := by simpa using h2
        by_cases h3 : ¬ c.end_ = -1 ∧ ¬ (doesM k hs c).2 = c
        · rw [linLoop_ne hx h1 h2 h3.1 h3.2]
          have : stepOk k h d hs i = none := by simp only [stepOk, hx, if_neg h1, h2, Bool.false_eq_true, if_false, if_pos h3]
          simp only [this]; exact hrest bn hbn
        · have : stepOk k h d hs i = some c := stepOk_iff.2 ⟨hx, h1, h2, h3⟩
          simp only [this]
          have hlt := undone_lt hi h1
          have hih := ih (d ||| 1 <<< i) (doesM k hs c).1 bn (by omega) (fun p hp => (hbn p hp).imp (fun q => by omega) (fun q => q))
          cases e : bestF k h must fuel (d ||| 1 <<< i) (doesM k hs c).1 with
          | some l =>
            rw [e] at hih
            rw [linLoop_yes hx h1 h2 h3 hih.1]
            exact ⟨rfl, fun e => by cases e⟩
          | none =>
            rw [e] at hih
            rw [linLoop_no hx h1 h2 h3 hih.1]
            have hnew := hih.2 hih.1
            have hr2 := hrest (linFrom k h must fuel (d ||| 1 <<< i) (doesM k hs c).1 bn).2 (fun p hp => by
              rcases hnew p hp with h4 | h4
              · exact hbn p h4
              · exact .inr h4)
            refine ⟨hr2.1, fun en p hp => ?_⟩
            rcases hr2.2 en p hp with h4 | h4
            · exact hnew p h4
            · exact .inr h4
theorem linFrom_best : ∀ (fuel d : Nat) (hs : List Int) (bn : Been), undone h.length d < fuel → (∀ p ∈ bn, undone h.length d < undone h.length p.1 ∨ NC k h must p) →
    (linFrom k h must fuel d hs bn).1 = bestF k h must fuel d hs ∧ ((linFrom k h must fuel d hs bn).1 = none → ∀ p ∈ (linFrom k h must fuel d hs bn).2, p ∈ bn ∨ NC k h must p)
  | 0, _, _, _, hu, _ => by omega
  | fuel + 1, d, hs, bn, hu, hbn => by
    rw [linFrom]
    by_cases h1 : d &&& must = must
    · rw [if_pos h1, bestF, if_pos h1]; exact ⟨rfl, fun e => by cases e⟩
    · rw [if_neg h1]
      by_cases h2 : (d, hs) ∈ bn
      · rw [if_pos h2]
        rcases hbn _ h2 with h3 | h3
        · exact absurd h3 (by simp)
        · exact ⟨(h3 (fuel + 1) hu).symm, fun _ p hp => .inl hp⟩
      · rw [if_neg h2]
        have hl := linLoop_best (k := k) (h := h) (must := must) fuel d hs hu (fun d' hs' bn' => linFrom_best fuel d' hs' bn') (List.range h.length) ((d, hs) :: bn) (fun i hi => List.mem_range.1 hi) (fun p hp => by
          rcases List.mem_cons.1 hp with rfl | hp
          · exact .inl (Nat.le_refl _)
          · exact (hbn p hp).imp (fun q => by omega) (fun q => q))
        have hb : bestF k h must (fuel + 1) d hs = (List.range h.length).findSome? fun i => match stepOk k h d hs i with
            | none => none
            | some c => (bestF k h must fuel (d ||| 1 <<< i) (doesM k hs c).1).map (i :: ·) := by rw [bestF, if_neg h1]
        rw [← hb] at hl
        refine ⟨hl.1, fun en p hp => ?_⟩
        rcases hl.2 en p hp with h4 | h4
        · rcases List.mem_cons.1 h4 with rfl | h4
          · exact .inr fun g hg => by
              rw [bestF_fuel g (fuel + 1) d hs hg hu, ← hl.1, en]
          · exact .inl h4
        · exact .inr h4
theorem linO_best (k : Int) (h : List GCall) : linO k h = bestF k h (mustOf h h.length) (h.length + 1) 0 (linBegin k) :=
  (linFrom_best _ _ _ _ (by have := undone_le h.length 0; omega) (fun p hp => by cases hp)).1
/-- an order of the calls that are left -/
def okRun (k : Int) (h : List GCall) (must : Nat) : Nat → List Int → List Nat → Prop
  | d, _, [] => d &&& must = must
  | d, hs, i :: r => ∃ c, stepOk k h d hs i = some c ∧ okRun k h must (d ||| 1 <<< i) (doesM k hs c).1 r
theorem best_sound : ∀ (fuel d : Nat) (hs : List Int) (l : List Nat), bestF k h must fuel d hs = some l → okRun k h must d hs l
  | 0, _, _, _, e => by simp [bestF] at e
  | fuel + 1, d, hs, l, e => by
    rw [bestF] at e
    split at e
    · rename_i h1
      simp at e; subst e; exact h1
    · obtain ⟨i, hi, e⟩ := List.exists_of_findSome?_eq_some e
      cases e2 : stepOk k h d hs i with
      | none => rw [e2] at e; cases e
      | some c =>
        rw [e2] at e
        simp only [Option.map_eq_some_iff] at e
        obtain ⟨r, e3, rfl⟩ := e
        exact ⟨c, e2, best_sound fuel _ _ _ e3⟩
theorem best_complete : ∀ (l : List Nat) (fuel d : Nat) (hs : List Int), undone h.length d < fuel → okRun k h must d hs l → (bestF k h must fuel d hs).isSome = true
  | _, 0, _, _, h1, _ => by omega
  | [], fuel + 1, d, hs, _, ho => by rw [bestF, if_pos (show d &&& must = must from ho)]; rfl
  | i :: r, fuel + 1, d, hs, hu, ⟨c, hc, ho⟩ => by
    rw [bestF]
    split
    · rfl
    · rw [List.findSome?_isSome_iff]
      have e2 := stepOk_iff.1 hc
      have hi := at_lt e2.1
      have := undone_lt hi e2.2.1
      refine ⟨i, List.mem_range.2 hi, ?_⟩
      simp only [hc, Option.isSome_map]
      exact best_complete r fuel _ _ (by omega) ho
end
theorem undone_ge (n d i : Nat) : undone n d ≤ undone n (d ||| 1 <<< i) + 1 := by
  unfold undone
  have key : ∀ l : List Nat, l.Nodup → l.countP (fun j => decide (¬ bitN d j = 1)) ≤ l.countP (fun j => decide (¬ bitN (d ||| 1 <<< i) j = 1)) + (if i ∈ l then 1 else 0) := by
    intro l
    induction l with
    | nil => intro _; simp
    | cons a l ih =>
      intro hn
      obtain ⟨h1, h2⟩ := List.nodup_cons.1 hn
      have ih := ih h2
      rw [List.countP_cons, List.countP_cons]
      by_cases ha : i = a
      · subst ha
        rw [if_neg h1] at ih
        simp only [List.mem_cons, true_or, if_true]
        split <;> split <;> omega
      · have hb : (bitN (d ||| 1 <<< i) a = 1) ↔ bitN d a = 1 := by rw [bitN_or]; exact ⟨fun h => h.elim id (fun h => absurd h.symm ha), .inl⟩
        simp only [hb, List.mem_cons, ha, false_or]
        omega
  have := key (List.range n) List.nodup_range
  split at this <;> omega
theorem bitN_ones (n i : Nat) : bitN (2 ^ n - 1) i = 1 ↔ i < n := by
  rw [bitN_test, Nat.testBit_two_pow_sub_one, decide_eq_true_eq]
theorem ones_succ (n : Nat) : (2 ^ n - 1) ||| 1 <<< n = 2 ^ (n + 1) - 1 := by
  refine Nat.eq_of_testBit_eq fun i => ?_
  have h1 := bitN_or (2 ^ n - 1) n i
  rw [bitN_test, bitN_ones] at h1
  have h2 := bitN_ones (n + 1) i
  rw [bitN_test] at h2
  rw [Bool.eq_iff_iff, h1, h2]; omega
theorem mustOf_ones {h : List GCall} (he : ∀ c ∈ h, ¬ c.end_ = -1) : ∀ n, n ≤ h.length → mustOf h n = 2 ^ n - 1
  | 0, _ => rfl
  | n + 1, hn => by
    obtain ⟨c, hc⟩ := at_ex (xs := h) (k := n) (by omega)
    rw [mustOf_succ hc, if_neg (he c (List.mem_of_getElem? hc)), mustOf_ones he n (by omega), ones_succ]
theorem okRun_len {k : Int} {h : List GCall} {n : Nat} : ∀ (l : List Nat) (d : Nat) (hs : List Int), okRun k h (2 ^ n - 1) d hs l → undone n d ≤ l.length
  | [], d, hs, ho => by
    have : undone n d = 0 := by
      unfold undone
      rw [List.countP_eq_zero]
      intro i hi
      have hi := List.mem_range.1 hi
      have h1 : ((d &&& (2 ^ n - 1)).testBit i) = true := by
        have ho : d &&& (2 ^ n - 1) = 2 ^ n - 1 := ho
        rw [ho, ← bitN_test, bitN_ones]; exact hi
      rw [Nat.testBit_and, Bool.and_eq_true] at h1
      rw [decide_eq_true_eq, Decidable.not_not, bitN_test]
      exact h1.1
    omega
  | i :: r, d, hs, ⟨c, _, ho⟩ => by
    have := okRun_len r _ _ ho
    have := undone_ge n d i
    simp only [List.length_cons]; omega
theorem undone_zero (n : Nat) : undone n 0 = n := by
  unfold undone
  have : (List.range n).countP (fun i => decide (¬ bitN 0 i = 1)) = (List.range n).length := by
    rw [List.countP_eq_length]
    intro i _
    simp [bitN]
  rw [this, List.length_range]
/-! ### what was done in an order -/
def tidyM (k : Int) (c : GCall) : GCall :=
  if k ≤ 2 then (if c.op = 1 then ⟨c.op, c.arg, 0, 0, false, 0, 0⟩ else ⟨2, 0, 0, 0, false, 0, 0⟩)
  else if k = 3 then (if c.op = 3 then ⟨c.op, c.arg, 0, 0, false, 0, 0⟩ else ⟨4, 0, 0, 0, false, 0, 0⟩)
  else if c.op = 5 then ⟨c.op, c.arg, c.new, 0, false, 0, 0⟩ else if c.op = 1 then ⟨c.op, c.arg, 0, 0, false, 0, 0⟩ else ⟨4, 0, 0, 0, false, 0, 0⟩
section
variable (k : Int) (sc : List GCall) (ea la : List UInt8)
def hsAt : Nat → List Int
  | 0 => linBegin k
  | j + 1 => (doesM k (hsAt j) (tidyM k (sc.getD j call0))).1
def earlyAt (j : Nat) : Int := 10 * (j : Int) + 5 - min ((ea.getD j 0).toNat : Int) (10 * (j : Int) + 5)
def lateAtN (j : Nat) : Int := 10 * (j : Int) + 5 + ((la.getD j 0).toNat : Int)
def hAt (j : Nat) : GCall := { (doesM k (hsAt k sc j) (tidyM k (sc.getD j call0))).2 with begin_ := earlyAt ea j, end_ := lateAtN la j }
def hist (n : Nat) : List GCall := (List.range n).map (hAt k sc ea la)
end
section
variable {k : Int} {sc : List GCall} {ea la : List UInt8}
theorem hist_len (n : Nat) : (hist k sc ea la n).length = n := by simp [hist]
theorem hist_at {n j : Nat} (h : j < n) : (hist k sc ea la n)[j]? = some (hAt k sc ea la j) := by simp [hist, h]
theorem hist_succ (n : Nat) : hist k sc ea la (n + 1) = hist k sc ea la n ++ [hAt k sc ea la n] := by simp [hist, List.range_succ]
theorem hist_mem {n : Nat} {c : GCall} (h : c ∈ hist k sc ea la n) : ∃ j, j < n ∧ c = hAt k sc ea la j := by
  obtain ⟨j, hj, rfl⟩ := List.mem_map.1 h
  exact ⟨j, List.mem_range.1 hj, rfl⟩
theorem doesM_again (k : Int) (hs : List Int) (c : GCall) (b e : Int) : doesM k hs { (doesM k hs c).2 with begin_ := b, end_ := e } = ((doesM k hs c).1, { (doesM k hs c).2 with begin_ := b, end_ := e }) := by
  cases c with | mk op arg new answer ok bg en =>
  simp only [doesM]
  by_cases h1 : k ≤ 2
  · simp only [if_pos h1]
    by_cases h2 : op = 1
    · simp only [if_pos h2]
    · simp only [if_neg h2]
      by_cases h3 : hs = []
      · simp only [if_pos h3, if_neg h2]
      · simp only [if_neg h3]
        by_cases h4 : k = 1
        · simp only [if_pos h4, if_neg h2]
        · simp only [if_neg h4, if_neg h2]
  · simp only [if_neg h1]
    by_cases h2 : op = 3
    · simp only [if_pos h2]
    · simp only [if_neg h2]
      by_cases h3 : op = 4
      · simp only [if_pos h3, if_neg h2]
      · simp only [if_neg h3]
        by_cases h4 : op = 1
        · simp only [if_pos h4, if_neg h2, if_neg h3]
        · simp only [if_neg h4]
          by_cases h5 : op = 5
          · simp only [if_pos h5]
            by_cases h6 : hs.headD 0 = arg
            · simp only [if_pos h6, if_neg h2, if_neg h3, if_neg h4, if_pos h5]
            · simp only [if_neg h6, if_neg h2, if_neg h3, if_neg h4, if_pos h5]
          · simp only [if_neg h5, if_neg h2, if_neg h3, if_neg h4]
theorem tidy_right (hk : 1 ≤ k ∧ k ≤ 4) (hs : List Int) (c : GCall) (b e : Int) (hb : 0 ≤ b) (he : b ≤ e) : rightB k { (doesM k hs (tidyM k c)).2 with begin_ := b, end_ := e } = true := by
  have bad : ∀ x : GCall, x.begin_ = b → x.end_ = e → badC x = false := fun x h1 h2 => by
    unfold badC
    rw [if_neg (by omega), if_neg (by omega), if_neg (by omega)]
  have fin : ∀ x : GCall, x.begin_ = b → x.end_ = e → bareC k x = some call0 → rightB k x = true := fun x h1 h2 h3 => by
    unfold rightB
    rw [bad x h1 h2, h3]; rfl
  refine fin _ rfl rfl ?_
  by_cases h1 : k ≤ 2
  · by_cases h : c.op = 1
    · have e1 : tidyM k c = ⟨c.op, c.arg, 0, 0, false, 0, 0⟩ := by unfold tidyM; rw [if_pos h1, if_pos h]
      rw [e1, doesM_put (c := ⟨c.op, c.arg, 0, 0, false, 0, 0⟩) h1 h]
      unfold bareC
      rw [if_pos (.inl ⟨h1, h⟩)]; rfl
    · have e1 : tidyM k c = ⟨2, 0, 0, 0, false, 0, 0⟩ := by unfold tidyM; rw [if_pos h1, if_neg h]
      rw [e1]
      by_cases h2 : hs = []
      · rw [doesM_nil h1 (by decide) h2]
        unfold bareC
        rw [if_neg (by simp), if_pos ⟨h1, rfl⟩]; rfl
      · have h3 : 0 < hs.length := List.length_pos_iff.2 h2
        by_cases h4 : k = 1
        · obtain ⟨x, hx⟩ := at_ex (xs := hs) (k := 0) h3
          rw [doesM_queue h1 (by decide) hx h4]
          unfold bareC
          rw [if_neg (by simp), if_pos ⟨h1, rfl⟩]; rfl
        · obtain ⟨x, hx⟩ := at_ex (xs := hs) (k := hs.length - 1) (by omega)
          rw [doesM_stack h1 (by decide) hx h4]
          unfold bareC
          rw [if_neg (by simp), if_pos ⟨h1, rfl⟩]; rfl
  · by_cases h2 : k = 3
    · by_cases h : c.op = 3
      · have e1 : tidyM k c = ⟨c.op, c.arg, 0, 0, false, 0, 0⟩ := by unfold tidyM; rw [if_neg h1, if_pos h2, if_pos h]
        rw [e1]
        simp [doesM, if_neg h1, h, bareC, h2, call0]
      · have e1 : tidyM k c = ⟨4, 0, 0, 0, false, 0, 0⟩ := by unfold tidyM; rw [if_neg h1, if_pos h2, if_neg h]
        rw [e1]
        simp [doesM, if_neg h1, bareC, h2, call0]
    · have h4 : k = 4 := by omega
      by_cases h : c.op = 5
      · have e1 : tidyM k c = ⟨c.op, c.arg, c.new, 0, false, 0, 0⟩ := by unfold tidyM; rw [if_neg h1, if_neg h2, if_pos h]
        rw [e1, h]
        by_cases h6 : hs.headD 0 = c.arg
        · simp only [doesM, if_neg h1, if_neg (show ¬ (5 : Int) = 3 by decide), if_neg (show ¬ (5 : Int) = 4 by decide), if_neg (show ¬ (5 : Int) = 1 by decide), if_true, if_pos h6]
          simp [bareC, h4, call0]
        · simp only [doesM, if_neg h1, if_neg (show ¬ (5 : Int) = 3 by decide), if_neg (show ¬ (5 : Int) = 4 by decide), if_neg (show ¬ (5 : Int) = 1 by decide), if_true, if_neg h6]
          simp [bareC, h4, call0]
      · by_cases h5 : c.op = 1
        · have e1 : tidyM k c = ⟨c.op, c.arg, 0, 0, false, 0, 0⟩ := by unfold tidyM; rw [if_neg h1, if_neg h2, if_neg h, if_pos h5]
          rw [e1, h5]
          simp [doesM, if_neg h1, bareC, h4, call0]
        · have e1 : tidyM k c = ⟨4, 0, 0, 0, false, 0, 0⟩ := by unfold tidyM; rw [if_neg h1, if_neg h2, if_neg h, if_neg h5]
          rw [e1]
          simp [doesM, if_neg h1, bareC, h4, call0]
theorem early_le (j : Nat) : 0 ≤ earlyAt ea j ∧ earlyAt ea j ≤ 10 * (j : Int) + 5 := by unfold earlyAt; omega
theorem late_ge (j : Nat) : 10 * (j : Int) + 5 ≤ lateAtN la j := by unfold lateAtN; omega
theorem hAt_right (hk : 1 ≤ k ∧ k ≤ 4) (j : Nat) : rightB k (hAt k sc ea la j) = true := tidy_right hk _ _ _ _ (early_le j).1 (by have := (early_le (ea := ea) j).2; have := late_ge (la := la) j; omega)
theorem hAt_end (j : Nat) : ¬ (hAt k sc ea la j).end_ = -1 := by have := late_ge (la := la) j; simp only [hAt]; omega
theorem hist_run (n : Nat) : ∀ (m j : Nat), j + m = n → okRun k (hist k sc ea la n) (2 ^ n - 1) (2 ^ j - 1) (hsAt k sc j) ((List.range n).drop j)
  | 0, j, h => by
    have : j = n := by omega
    subst this
    rw [List.drop_eq_nil_of_le (by simp)]
    exact Nat.and_self _
  | m + 1, j, h => by
    have hj : j < n := by omega
    rw [drop_range hj]
    refine ⟨hAt k sc ea la j, stepOk_iff.2 ⟨hist_at hj, fun h => ?_, late_no (n := n) (by rw [hist_len]; exact Nat.le_refl n) (fun i hi => ?_), fun h => h.2 ?_⟩, ?_⟩
    · rw [bitN_ones] at h; omega
    · rw [lateAt_eq (hist_at hi), decide_eq_false_iff_not]
      rintro ⟨h1, _, h3⟩
      have hb : ¬ bitN (2 ^ j - 1) i = 1 := by omega
      rw [bitN_ones] at hb
      have h4 := late_ge (la := la) i
      have h5 := (early_le (ea := ea) j).2
      have h6 : (hAt k sc ea la i).end_ = lateAtN la i := rfl
      have h7 : (hAt k sc ea la j).begin_ = earlyAt ea j := rfl
      omega
    · exact congrArg Prod.snd (doesM_again k (hsAt k sc j) (tidyM k (sc.getD j call0)) (earlyAt ea j) (lateAtN la j))
    · have e : (doesM k (hsAt k sc j) (hAt k sc ea la j)).1 = hsAt k sc (j + 1) := (congrArg Prod.fst (doesM_again k (hsAt k sc j) (tidyM k (sc.getD j call0)) (earlyAt ea j) (lateAtN la j))).trans rfl
      rw [ones_succ, e]
      exact hist_run n m (j + 1) (by omega)
/-- THE LAW: it is found, and what is told is an order of all calls -/
theorem hist_lin (hk : 1 ≤ k ∧ k ≤ 4) {n : Nat} (hn : n ≤ 12) : linE k (hist k sc ea la n) = 0 ∧ linB k (hist k sc ea la n) = true ∧ (linR k (hist k sc ea la n)).length = n ∧ okRun k (hist k sc ea la n) (2 ^ n - 1) 0 (linBegin k) (linR k (hist k sc ea la n)) := by
  have hall : (hist k sc ea la n).all (rightB k) = true := List.all_eq_true.2 fun c hc => by
    obtain ⟨j, _, rfl⟩ := hist_mem hc
    exact hAt_right hk j
  obtain ⟨e1, e2, e3⟩ := lin_good (k := k) (h := hist k sc ea la n) (by omega) (by rw [hist_len]; omega) hall
  have hm : mustOf (hist k sc ea la n) (hist k sc ea la n).length = 2 ^ n - 1 := by
    have := mustOf_ones (h := hist k sc ea la n) (fun c hc => by obtain ⟨j, _, rfl⟩ := hist_mem hc; exact hAt_end j) _ (Nat.le_refl _)
    rw [hist_len] at this ⊢; exact this
  have hb := linO_best k (hist k sc ea la n)
  rw [hm, hist_len] at hb
  have hr := hist_run (k := k) (sc := sc) (ea := ea) (la := la) n n 0 (by omega)
  have hsome := best_complete _ (n + 1) 0 (linBegin k) (by rw [hist_len, undone_zero]; omega) hr
  rw [← hb] at hsome
  obtain ⟨l, hl⟩ := Option.isSome_iff_exists.1 hsome
  have hrun := best_sound _ _ _ _ (hb.symm.trans hl)
  have h1 := okRun_len _ _ _ hrun
  have h2 := linO_len hl
  rw [undone_zero] at h1
  rw [hist_len] at h2
  rw [e2, e3, hl]
  exact ⟨e1, rfl, by simp only [Option.getD_some]; omega, hrun⟩
theorem okRun_cons {must d : Nat} {hs : List Int} {h : List GCall} {l : List Nat} {i : Nat} (hd : l.head? = some i) (ho : okRun k h must d hs l) (he : ∀ c ∈ h, ¬ c.end_ = -1) : ∃ c, h[i]? = some c ∧ ¬ bitN d i = 1 ∧ (∀ j x, h[j]? = some x → ¬ bitN d j = 1 → ¬ x.end_ < c.begin_) ∧ (doesM k hs c).2 = c ∧ okRun k h must (d ||| 1 <<< i) (doesM k hs c).1 (l.drop 1) := by
  cases l with
  | nil => cases hd
  | cons j r =>
    simp at hd; subst hd
    obtain ⟨c, hc, hr⟩ := ho
    obtain ⟨h1, h2, h3, h4⟩ := stepOk_iff.1 hc
    have hce := he c (List.mem_of_getElem? h1)
    refine ⟨c, h1, h2, fun m x hx hb hlt => ?_, ?_, hr⟩
    · have := late_yes (h := h) (d := d) (c := c) (at_lt hx) (by
        rw [lateAt_eq hx, decide_eq_true_eq]
        exact ⟨by have := bitN_cases d m; omega, he x (List.mem_of_getElem? hx), hlt⟩)
      rw [h3] at this; cases this
    · by_cases hh : (doesM k hs c).2 = c
      · exact hh
      · exact absurd ⟨hce, hh⟩ h4
end
section
variable {k : Int} {sc : List GCall} {ea la : List UInt8}
theorem tidy_I64 {c : GCall} (h : I64 c.arg ∧ I64 c.new) : I64 (tidyM k c).arg ∧ I64 (tidyM k c).new := by
  have z : I64 0 := ⟨by decide, by decide⟩
  unfold tidyM
  (repeat' split) <;> exact ⟨by first | exact h.1 | exact z, by first | exact h.2 | exact z⟩
theorem doesM_args (k : Int) (hs : List Int) (c : GCall) : (doesM k hs c).2.arg = c.arg ∧ (doesM k hs c).2.new = c.new := by
  unfold doesM
  by_cases h1 : k ≤ 2
  · simp only [if_pos h1]
    (repeat' split) <;> exact ⟨rfl, rfl⟩
  · simp only [if_neg h1]
    (repeat' split) <;> exact ⟨rfl, rfl⟩
theorem hist_I64 (h : ∀ c ∈ sc, I64 c.arg ∧ I64 c.new) {n : Nat} : ∀ c ∈ hist k sc ea la n, I64 c.arg ∧ I64 c.new := by
  intro c hc
  obtain ⟨j, _, rfl⟩ := hist_mem hc
  have h1 := doesM_args k (hsAt k sc j) (tidyM k (sc.getD j call0))
  have h2 : I64 (sc.getD j call0).arg ∧ I64 (sc.getD j call0).new := by
    rw [List.getD_eq_getElem?_getD]
    cases hx : sc[j]? with
    | none => exact ⟨⟨by decide, by decide⟩, ⟨by decide, by decide⟩⟩
    | some x => exact h x (List.mem_of_getElem? hx)
  have h3 := tidy_I64 (k := k) h2
  simp only [hAt]
  rw [h1.1, h1.2]; exact h3
theorem hsAt_len : ∀ j, (hsAt k sc j).length ≤ j + 1 ∧ (2 < k → (hsAt k sc j).length = 1)
  | 0 => ⟨(linBegin_ok k).1, (linBegin_ok k).2.1⟩
  | j + 1 => by
    have h1 := hsAt_len j
    have h2 := doesM_len k (hsAt k sc j) (tidyM k (sc.getD j call0))
    exact ⟨by simp only [hsAt]; omega, fun hk => doesM_one_len _ _ hk⟩
theorem hsAt_succ {j : Nat} {c : GCall} (h : sc[j]? = some c) : hsAt k sc (j + 1) = (doesM k (hsAt k sc j) (tidyM k c)).1 := by
  simp only [hsAt, List.getD_eq_getElem?_getD, h, Option.getD_some]
theorem hAt_eq {j : Nat} {c : GCall} {x y : UInt8} (h : sc[j]? = some c) (hx : ea[j]? = some x) (hy : la[j]? = some y) :
    hAt k sc ea la j = { (doesM k (hsAt k sc j) (tidyM k c)).2 with begin_ := 10 * (j : Int) + 5 - min (x.toNat : Int) (10 * (j : Int) + 5), end_ := 10 * (j : Int) + 5 + (y.toNat : Int) } := by
  simp only [hAt, earlyAt, lateAtN, List.getD_eq_getElem?_getD, h, hx, hy, Option.getD_some]
end
/-- what has been seen, by bits -/
def seenL (d : Nat) : List Value := (List.range 12).map fun j => .bool (decide (bitN d j = 1))
theorem seenL_len (d : Nat) : (seenL d).length = 12 := by simp [seenL]
theorem seenL_at (d : Nat) {i : Nat} (h : i < 12) : (seenL d)[0 + i * 1]? = some (.bool (decide (bitN d i = 1))) := by rw [Nat.zero_add, Nat.mul_one]; simp [seenL, h]
theorem seenL_zero : List.replicate 12 (Value.bool false) = seenL 0 := by
  refine List.ext_getElem? fun j => ?_
  by_cases h : j < 12
  · have := seenL_at 0 h
    rw [Nat.zero_add, Nat.mul_one] at this
    rw [this, List.getElem?_replicate, if_pos h]; simp [bitN]
  · rw [List.getElem?_eq_none (by simp; omega), List.getElem?_eq_none (by rw [seenL_len]; omega)]
theorem seenL_zero12 : [Value.bool false, .bool false, .bool false, .bool false, .bool false, .bool false, .bool false, .bool false, .bool false, .bool false, .bool false, .bool false] = seenL 0 := seenL_zero
theorem seenL_set (d : Nat) {i : Nat} (h : i < 12) : lset (seenL d) (0 + i * 1) [.bool true] = seenL (d ||| 1 <<< i) := by
  rw [Nat.zero_add, Nat.mul_one]
  have e : lset (seenL d) i [.bool true] = (seenL d).set i (.bool true) := by
    have : i < (seenL d).length := by rw [seenL_len]; exact h
    rw [List.set_eq_take_append_cons_drop, if_pos this]
    simp [lset]
  rw [e]
  refine List.ext_getElem? fun j => ?_
  rw [List.getElem?_set, seenL_len]
  by_cases hj : j < 12
  · have h1 := seenL_at d hj
    have h2 := seenL_at (d ||| 1 <<< i) hj
    rw [Nat.zero_add, Nat.mul_one] at h1 h2
    rw [h1, h2]
    by_cases hij : i = j
    · subst hij
      rw [if_pos rfl, if_pos h]
      rw [decide_eq_true ((bitN_or d i i).2 (.inr rfl))]
    · rw [if_neg hij]
      have : (bitN (d ||| 1 <<< i) j = 1) ↔ bitN d j = 1 := by rw [bitN_or]; exact ⟨fun hh => hh.elim id (fun hh => absurd hh.symm hij), .inl⟩
      simp only [this]
  · rw [if_neg (by omega), List.getElem?_eq_none (by rw [seenL_len]; omega), List.getElem?_eq_none (by rw [seenL_len]; omega)]
end Go.TL
