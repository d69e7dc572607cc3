/-
  What Check lets in: trees that can be walked.
-/
import Derived.Test.YtlnimgpfopaicaaGc
set_option linter.unusedVariables false
set_option linter.unusedSimpArgs false
namespace Go.TL
open Go.RowKit

theorem kidsF_ok {N : Nat} {rec : List GNode → Option (Tr × List GNode)} {nm : Bool} (hf : ∀ l t r, rec l = some (t, r) → l = flat t ++ r) (hr : ∀ l t r, (∀ k ∈ l, k.op = 2 → 0 ≤ k.n ∧ k.n < (N : Int)) → rec l = some (t, r) → okT N t) : ∀ (k : Nat) (l : List GNode) (ts : List Tr) (r : List GNode), (∀ k ∈ l, k.op = 2 → 0 ≤ k.n ∧ k.n < (N : Int)) → kidsF rec nm k l = some (ts, r) → okTs N ts
  | 0, l, ts, r, hl, h => by simp [kidsF] at h; obtain ⟨rfl, rfl⟩ := h; simp [okTs]
  | k + 1, l, ts, r, hl, h => by
    rw [kidsF] at h
    cases e : rec l with
    | none => rw [e] at h; cases h
    | some p =>
      obtain ⟨t, r1⟩ := p
      rw [e] at h
      simp only at h
      split at h
      · cases h
      · cases e2 : kidsF rec nm k r1 with
        | none => rw [e2] at h; cases h
        | some p2 =>
          obtain ⟨ts2, r2⟩ := p2
          rw [e2] at h
          simp only [Option.some.injEq, Prod.mk.injEq] at h
          obtain ⟨rfl, rfl⟩ := h
          rw [okTs]
          refine ⟨hr _ _ _ hl e, kidsF_ok hf hr k r1 ts2 r2 (fun x hx => hl x ?_) e2⟩
          rw [hf _ _ _ e]
          exact List.mem_append_right _ hx
theorem lim_kids {op : Int} {len : Nat} {lo hi : Int} {nm : Bool} (h : lim op len = some (lo, hi, nm)) : (¬ op = 1 → ¬ op = 2 → 1 ≤ lo) ∧ (op = 12 → lo = 3 ∧ hi = 3) := by
  unfold lim at h
  (repeat' split at h) <;> first | (simp only [Option.some.injEq, Prod.mk.injEq] at h; omega) | cases h
theorem growF_ok {N : Nat} : ∀ (fuel : Nat) (l : List GNode) (root : Bool) (t : Tr) (r : List GNode), (∀ k ∈ l, k.op = 2 → 0 ≤ k.n ∧ k.n < (N : Int)) → growF fuel l root = some (t, r) → okT N t
  | 0, l, root, t, r, hl, h => by simp [growF] at h
  | fuel + 1, [], root, t, r, hl, h => by simp [growF] at h
  | fuel + 1, n :: l, root, t, r, hl, h => by
    rw [growF] at h
    split at h
    · cases h
    · rename_i nm hnm
      split at h
      · cases h
      · rename_i ks rest hk
        simp only [Option.some.injEq, Prod.mk.injEq] at h
        obtain ⟨rfl, rfl⟩ := h
        have h1 := (kidsF_flat (fun l t r h => growF_flat fuel l false t r h) _ _ _ _ hk).2.1
        have h2 := kidsF_ok (fun l t r h => growF_flat fuel l false t r h) (fun l t r hl h => growF_ok fuel l false t r hl h) _ _ _ _ (fun x hx => hl x (List.mem_cons_of_mem _ hx)) hk
        rw [okT]
        unfold nodeOk at hnm
        split at hnm
        · cases hnm
        · rename_i lo hi nm2 hlm
          obtain ⟨k1, k2⟩ := lim_kids hlm
          split at hnm
          · cases hnm
          · rename_i hno
            have a1 : ¬ n.kids < lo := fun h => hno (.inl h)
            have a2 : ¬ hi < n.kids := fun h => hno (.inr (.inl h))
            exact ⟨fun h => hl n (List.mem_cons_self ..) h, fun x1 x2 => by have := k1 x1 x2; omega, fun x => by have := k2 x; omega, h2⟩
/-- a let that is sound -/
theorem sound_tree {x : GLet} {n : Nat} {names : ByteArray → Bool} (h : soundM x n names = 0) : ∃ t, growF (x.tree.length + 1) x.tree true = some (t, []) ∧ x.tree = flat t ∧ fitT t ∧ okT n t ∧ isNameM x.name = true ∧ names x.name = false ∧ n < 4096 ∧ ¬ x.at_ < 0 ∧ manyK x = false ∧ refK x n = false ∧ ¬ 64 < (deepM t 0).1 := by
  by_cases h1 : 4096 ≤ n
  · rw [soundM_many h1] at h; cases h
  cases h2 : isNameM x.name with
  | false => rw [soundM_name h1 (.inl h2)] at h; cases h
  | true =>
  cases h3 : names x.name with
  | true => rw [soundM_name h1 (.inr h3)] at h; cases h
  | false =>
  cases hg : growF (x.tree.length + 1) x.tree true with
  | none => rw [soundM_none h1 h2 h3 hg] at h; cases h
  | some p =>
    obtain ⟨t, r⟩ := p
    by_cases h4 : 0 < r.length ∨ x.at_ < 0
    · rw [soundM_rest h1 h2 h3 hg h4] at h; cases h
    cases h5 : manyK x with
    | true => rw [soundM_args h1 h2 h3 hg h4 h5] at h; cases h
    | false =>
    cases h6 : refK x n with
    | true => rw [soundM_ref h1 h2 h3 hg h4 h5 h6] at h; cases h
    | false =>
    rw [soundM_end h1 h2 h3 hg h4 h5 h6] at h
    obtain rfl : r = [] := List.eq_nil_of_length_eq_zero (by omega)
    have hfl := growF_flat _ _ _ _ _ hg
    rw [List.append_nil] at hfl
    refine ⟨t, rfl, hfl, growF_fit _ _ _ _ _ hg, growF_ok _ _ _ _ _ (fun k hk ho => ?_) hg, rfl, rfl, by omega, by omega, rfl, rfl, fun h7 => by rw [if_pos h7] at h; cases h⟩
    unfold refK at h6
    have := List.any_eq_false.1 h6 k hk
    simp only [decide_eq_true_eq] at this
    omega
theorem checkM_lets {f : GFlow} (h : (checkM f).1 = 0) : ∀ (i : Nat) x, f.lets[i]? = some x → soundM x i (namesOf f.lets i) = 0 := by
  intro i x hx
  rw [← badLet_at hx]
  by_cases h0 : badLet f.lets i = 0
  · exact h0
  exfalso
  unfold checkM at h
  cases e : (List.range f.lets.length).find? (fun i => decide (¬ badLet f.lets i = 0)) with
  | none =>
    rw [List.find?_eq_none] at e
    exact e i (List.mem_range.2 (at_lt hx)) (decide_eq_true h0)
  | some j =>
    rw [e] at h
    have := List.find?_some e
    simp only [decide_eq_true_eq] at this
    exact this h
/-- what a flow that is whole has -/
theorem checked {f : GFlow} (h : (checkM f).1 = 0) {i : Nat} {x : GLet} (hx : f.lets[i]? = some x) : ∃ t, x.tree = flat t ∧ fitT t ∧ okT i t := by
  obtain ⟨t, _, h1, h2, h3, _⟩ := sound_tree (checkM_lets h i x hx)
  exact ⟨t, h1, h2, h3⟩
mutual
theorem okT_mono {N M : Nat} (hm : N ≤ M) : ∀ {t : Tr}, okT N t → okT M t
  | .node n ks, h => by
    rw [okT] at h ⊢
    exact ⟨fun x => by have := h.1 x; omega, h.2.1, h.2.2.1, okTs_mono hm h.2.2.2⟩
theorem okTs_mono {N M : Nat} (hm : N ≤ M) : ∀ {ts : List Tr}, okTs N ts → okTs M ts
  | [], _ => by rw [okTs]; trivial
  | t :: ts, h => by
    rw [okTs] at h ⊢
    exact ⟨okT_mono hm h.1, okTs_mono hm h.2⟩
end
/-! ### an outcome depends on what stands below N alone -/
mutual
theorem evalT_congr {N : Nat} {es es' : List GEnd} {m : GMaker} (he : ∀ i, i < N → es.getD i ⟨0, 0⟩ = es'.getD i ⟨0, 0⟩) : ∀ {t : Tr}, okT N t → evalT es m t = evalT es' m t
  | .node n ks, h => by
    rw [okT] at h
    rw [evalT, evalT, evalTs_congr he h.2.2.2]
    unfold evalN
    by_cases h2 : n.op = 2
    · have := h.1 h2
      rw [he n.n.toNat (by omega)]
    · rw [if_neg h2, if_neg h2]
theorem evalTs_congr {N : Nat} {es es' : List GEnd} {m : GMaker} (he : ∀ i, i < N → es.getD i ⟨0, 0⟩ = es'.getD i ⟨0, 0⟩) : ∀ {ts : List Tr}, okTs N ts → evalTs es m ts = evalTs es' m ts
  | [], _ => rfl
  | t :: ts, h => by
    rw [okTs] at h
    rw [evalTs, evalTs, evalT_congr he h.1, evalTs_congr he h.2]
end
/-! ### a let by the ends of those ahead -/
def treeOf (x : GLet) : Tr := match growT x.tree with
  | some (t, _) => t
  | none => .node ⟨0, 0, 0, 0⟩ []
def rootM (x : GLet) : Int := (x.tree.getD 0 ⟨0, 0, 0, 0⟩).op
def badEnds (es : List GEnd) : Bool := es.any (fun e : GEnd => decide (e.kind < 1 ∨ 4 < e.kind))
theorem checked2 {f : GFlow} (h : (checkM f).1 = 0) {i : Nat} {x : GLet} (hx : f.lets[i]? = some x) : x.tree = flat (treeOf x) ∧ fitT (treeOf x) ∧ okT i (treeOf x) := by
  obtain ⟨t, hg, h1, h2, h3, _⟩ := sound_tree (checkM_lets h i x hx)
  have : treeOf x = t := by unfold treeOf growT; rw [hg]
  rw [this]; exact ⟨h1, h2, h3⟩
def argBad (f : GFlow) (n : Int) (es : List GEnd) : Prop := n < 0 ∨ (f.lets.length : Int) ≤ n ∨ (es.length : Int) < n ∨ badEnds (es.take n.toNat) = true
instance (f : GFlow) (n : Int) (es : List GEnd) : Decidable (argBad f n es) := by unfold argBad; infer_instance
def letM (f : GFlow) (n : Int) (m : GMaker) (es : List GEnd) : GEnd × Int :=
  if ¬ (checkM f).1 = 0 then (⟨0, 0⟩, (checkM f).1) else if argBad f n es then (⟨0, 0⟩, 1)
  else match f.lets[n.toNat]? with
    | some x => if rootM x = 17 ∨ rootM x = 18 then (⟨0, 0⟩, 11) else ((evalT es m (treeOf x)).fin, 0)
    | none => (⟨0, 0⟩, 1)
section
variable {f : GFlow} {n : Int} {m : GMaker} {es : List GEnd} {k : Nat} {x : GLet}
theorem letM_err (h : ¬ (checkM f).1 = 0) : letM f n m es = (⟨0, 0⟩, (checkM f).1) := by unfold letM; rw [if_pos h]
theorem letM_arg (h : (checkM f).1 = 0) (h2 : argBad f n es) : letM f n m es = (⟨0, 0⟩, 1) := by unfold letM; rw [if_neg (by simp [h]), if_pos h2]
theorem letM_in (h : (checkM f).1 = 0) (h2 : k < f.lets.length) (h3 : k ≤ es.length) (h4 : badEnds (es.take k) = false) (hx : f.lets[k]? = some x) : letM f (k : Int) m es = if rootM x = 17 ∨ rootM x = 18 then (⟨0, 0⟩, 11) else ((evalT es m (treeOf x)).fin, 0) := by
  unfold letM
  rw [if_neg (by simp [h]), if_neg (by (unfold argBad; rintro (h5 | h5 | h5 | h5) <;> first | omega | (rw [Int.toNat_natCast, h4] at h5; cases h5))), Int.toNat_natCast, hx]
end
theorem rootM_at {x : GLet} {n : GNode} (h : x.tree[0]? = some n) : rootM x = n.op := by unfold rootM; rw [List.getD_eq_getElem?_getD, h]; rfl
/-! ### all lets -/
def glet0 : GLet := ⟨ByteArray.empty, [], 0⟩
def plainL (f : GFlow) (m : GMaker) : Nat → List GEnd
  | 0 => []
  | i + 1 => plainL f m i ++ [(evalT (plainL f m i) m (treeOf (f.lets.getD i glet0))).fin]
theorem plainL_len (f : GFlow) (m : GMaker) : ∀ i, (plainL f m i).length = i
  | 0 => rfl
  | i + 1 => by rw [plainL, List.length_append, plainL_len f m i]; rfl
theorem plainL_succ {f : GFlow} {m : GMaker} {i : Nat} {x : GLet} (hx : f.lets[i]? = some x) : plainL f m (i + 1) = plainL f m i ++ [(evalT (plainL f m i) m (treeOf x)).fin] := by
  rw [plainL, List.getD_eq_getElem?_getD, hx]; rfl
def odd (x : GLet) : Bool := decide (rootM x = 17 ∨ rootM x = 18)
def plainM (f : GFlow) (m : GMaker) : List GEnd × Int := if ¬ (checkM f).1 = 0 then ([], (checkM f).1) else if f.lets.any odd = true then ([], 11) else (plainL f m f.lets.length, 0)
theorem plainM_err {f : GFlow} {m : GMaker} (h : ¬ (checkM f).1 = 0) : plainM f m = ([], (checkM f).1) := by unfold plainM; rw [if_pos h]
theorem plainM_odd {f : GFlow} {m : GMaker} (h : (checkM f).1 = 0) (h2 : f.lets.any odd = true) : plainM f m = ([], 11) := by unfold plainM; rw [if_neg (by simp [h]), if_pos h2]
theorem plainM_ok {f : GFlow} {m : GMaker} (h : (checkM f).1 = 0) (h2 : f.lets.any odd = false) : plainM f m = (plainL f m f.lets.length, 0) := by unfold plainM; rw [if_neg (by simp [h]), if_neg (by simp [h2])]
end Go.TL
