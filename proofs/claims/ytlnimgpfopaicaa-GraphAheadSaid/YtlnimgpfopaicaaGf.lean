/-
  What needs, levels and fits come to, in plain Lean.
-/
import Derived.Test.YtlnimgpfopaicaaGd
import Derived.Lib.SlicesCompact
set_option linter.unusedVariables false
set_option linter.unusedSimpArgs false
namespace Go.TL
open Go.RowKit

/-! ### rows that rise -/
theorem pw_lt_ext {a b : List Int} (ha : a.Pairwise (· < ·)) (hb : b.Pairwise (· < ·)) (h : ∀ x, x ∈ a ↔ x ∈ b) : a = b :=
  List.Perm.eq_of_pairwise (le := (· < ·)) (fun x y _ _ h1 h2 => by omega) ha hb ((List.perm_ext_iff_of_nodup (ha.imp Int.ne_of_lt) (hb.imp Int.ne_of_lt)).2 h)
theorem sort_pw (zs : List Int) : (zs.mergeSort fun x y => decide (x ≤ y)).Pairwise (· ≤ ·) :=
  (List.pairwise_mergeSort (le := fun x y : Int => decide (x ≤ y)) (fun a b c h1 h2 => by simp only [decide_eq_true_eq] at h1 h2 ⊢; omega) (fun a b => by simp only [Bool.or_eq_true, decide_eq_true_eq]; omega) zs).imp (by intro a b h; simpa using h)
theorem sorted_get {zs : List Int} (hs : zs.Pairwise (· ≤ ·)) {i j : Nat} (hij : i ≤ j) (hj : j < zs.length) : zs.toArray[i]! ≤ zs.toArray[j]! := by
  rw [getElem!_pos _ i (by simp; omega), getElem!_pos _ j (by simpa using hj)]
  simp only [List.getElem_toArray]
  rcases Nat.lt_or_ge i j with h | h
  · exact List.pairwise_iff_getElem.1 hs i j (by omega) hj h
  · have : i = j := by omega
    subst this; exact Int.le_refl _
theorem compact_pw {zs : List Int} (hs : zs.Pairwise (· ≤ ·)) : (Lib.compact zs).Pairwise (· < ·) := by
  unfold Lib.compact Lib.compactUpTo
  rw [List.pairwise_map, List.pairwise_filter]
  have h0 : (List.range zs.length).Pairwise (· < ·) := List.pairwise_lt_range
  have h1 : (List.range zs.length).Pairwise (fun i j => i < j ∧ j < zs.length) := by
    rw [List.pairwise_iff_getElem]
    intro i j hi hj hij
    simp at hi hj ⊢; omega
  refine h1.imp fun {i j} hij ki kj => ?_
  have hne : ¬ (zs.toArray[j]! = zs.toArray[j - 1]!) := by
    unfold Lib.keeps at kj
    simp only [decide_eq_true_eq] at kj
    rcases kj with kj | kj
    · omega
    · exact kj
  have a1 := sorted_get hs (show i ≤ j - 1 by omega) (by omega)
  have a2 := sorted_get hs (show j - 1 ≤ j by omega) hij.2
  omega
theorem compact_mem {zs : List Int} (x : Int) : x ∈ Lib.compact zs ↔ x ∈ zs := by
  unfold Lib.compact Lib.compactUpTo
  rw [List.mem_map]
  constructor
  · rintro ⟨i, hi, rfl⟩
    have := List.mem_range.1 (List.mem_filter.1 hi).1
    rw [getElem!_pos _ i (by simpa using this)]
    simp
  · intro hx
    obtain ⟨i, hi⟩ := List.getElem?_of_mem hx
    have key : ∀ i : Nat, zs[i]? = some x → ∃ a, a ∈ List.filter (Lib.keeps zs.toArray) (List.range zs.length) ∧ zs.toArray[a]! = x := by
      intro i
      induction i with
      | zero =>
        intro hi
        have hl := (List.getElem?_eq_some_iff.1 hi).1
        exact ⟨0, List.mem_filter.2 ⟨List.mem_range.2 hl, by simp [Lib.keeps]⟩, by rw [getElem!_pos _ 0 (by simpa using hl)]; simpa using (List.getElem?_eq_some_iff.1 hi).2⟩
      | succ i ih =>
        intro hi
        have hl := (List.getElem?_eq_some_iff.1 hi).1
        have hv : zs.toArray[i + 1]! = x := by rw [getElem!_pos _ (i + 1) (by simpa using hl)]; simpa using (List.getElem?_eq_some_iff.1 hi).2
        by_cases hk : zs.toArray[i + 1]! = zs.toArray[i]!
        · refine ih ?_
          rw [hv, getElem!_pos _ i (by simp; omega)] at hk
          rw [List.getElem?_eq_getElem (by omega)]
          simpa using hk.symm
        · exact ⟨i + 1, List.mem_filter.2 ⟨List.mem_range.2 hl, by unfold Lib.keeps; simp only [decide_eq_true_eq, Nat.add_sub_cancel]; exact .inr hk⟩, hv⟩
    exact key i hi
/-! ### what a let needs -/
def namesL (t : List GNode) : List Int := (t.filter fun k => decide (k.op = 2)).map fun k => k.n
def sortC (zs : List Int) : List Int := Lib.compact (zs.mergeSort fun x y => decide (x ≤ y))
def needL (x : GLet) (N : Nat) : List Int := if rootM x = 18 then [] else ((List.range N).filter fun i : Nat => (namesL x.tree).contains (i : Int)).map fun i : Nat => (i : Int)
theorem range_int_pw (p : Nat → Bool) (N : Nat) : (((List.range N).filter p).map fun i : Nat => (i : Int)).Pairwise (· < ·) := by
  rw [List.pairwise_map, List.pairwise_filter]
  exact List.pairwise_lt_range.imp fun {a b} h _ _ => by omega
theorem needL_pw (x : GLet) (N : Nat) : (needL x N).Pairwise (· < ·) := by
  unfold needL
  split
  · exact List.Pairwise.nil
  · exact range_int_pw _ N
theorem needL_mem {x : GLet} {N : Nat} {i : Int} : i ∈ needL x N ↔ ¬ rootM x = 18 ∧ 0 ≤ i ∧ i < N ∧ i ∈ namesL x.tree := by
  unfold needL
  split
  · simp_all
  · rename_i h
    rw [List.mem_map]
    constructor
    · rintro ⟨j, hj, rfl⟩
      obtain ⟨h1, h2⟩ := List.mem_filter.1 hj
      have := List.mem_range.1 h1
      exact ⟨h, by omega, by omega, by simpa using h2⟩
    · rintro ⟨_, h1, h2, h3⟩
      obtain ⟨j, rfl⟩ := Int.eq_ofNat_of_zero_le h1
      exact ⟨j, List.mem_filter.2 ⟨List.mem_range.2 (by omega), by simpa using h3⟩, rfl⟩
/-- the names of a let, sorted, each once -/
theorem sortC_need {x : GLet} {N : Nat} (hr : ¬ rootM x = 18) (hb : ∀ i ∈ namesL x.tree, 0 ≤ i ∧ i < (N : Int)) : sortC (namesL x.tree) = needL x N := by
  refine pw_lt_ext (compact_pw (sort_pw _)) (needL_pw x N) fun i => ?_
  unfold sortC
  rw [compact_mem, List.mem_mergeSort, needL_mem]
  constructor
  · intro h; exact ⟨hr, (hb i h).1, (hb i h).2, h⟩
  · rintro ⟨_, _, _, h⟩; exact h
theorem needL_cancel {x : GLet} {N : Nat} (hr : rootM x = 18) : needL x N = [] := by unfold needL; rw [if_pos hr]
theorem needL_bd {x : GLet} {N : Nat} {i : Int} (h : i ∈ needL x N) : 0 ≤ i ∧ i < N := by
  rw [needL_mem] at h; omega
theorem needL_len (x : GLet) (N : Nat) : (needL x N).length ≤ N := by
  unfold needL
  split
  · simp
  · rw [List.length_map]
    exact Nat.le_trans (List.length_filter_le _ _) (by simp)
/-- the names that stand in a let that is sound -/
theorem names_bd {f : GFlow} (h : (checkM f).1 = 0) {i : Nat} {x : GLet} (hx : f.lets[i]? = some x) : ∀ k ∈ namesL x.tree, 0 ≤ k ∧ k < (i : Int) := by
  intro k hk
  obtain ⟨t, _, _, _, _, _, _, _, _, _, h6, _⟩ := sound_tree (checkM_lets h i x hx)
  unfold namesL at hk
  obtain ⟨n, hn, rfl⟩ := List.mem_map.1 hk
  obtain ⟨hn1, hn2⟩ := List.mem_filter.1 hn
  have h7 := List.any_eq_false.1 h6 n hn1
  simp only [decide_eq_true_eq] at h7 hn2
  omega
theorem namesL_len (t : List GNode) : (namesL t).length ≤ t.length := by
  unfold namesL
  rw [List.length_map]
  exact List.length_filter_le _ _
theorem namesL_yes {t : List GNode} {i : Nat} {n : GNode} (h : t[i]? = some n) (ho : n.op = 2) : namesL (t.take (i + 1)) = namesL (t.take i) ++ [n.n] := by
  unfold namesL
  rw [take_succ_at h, List.filter_append, List.map_append]
  simp [ho]
theorem namesL_no {t : List GNode} {i : Nat} {n : GNode} (h : t[i]? = some n) (ho : ¬ n.op = 2) : namesL (t.take (i + 1)) = namesL (t.take i) := by
  unfold namesL
  rw [take_succ_at h, List.filter_append, List.map_append]
  simp [ho]
/-! ### Needs, Users -/
def needsM (f : GFlow) (n : Int) : List Int := if ¬ (checkM f).1 = 0 ∨ n < 0 ∨ (f.lets.length : Int) ≤ n then [] else match f.lets[n.toNat]? with
  | some x => needL x n.toNat
  | none => []
def usersTo (ls : List GLet) (n : Int) (i : Nat) : List Int := ((List.range i).filter fun j => (needL (ls.getD j glet0) j).contains n).map fun j : Nat => (j : Int)
def usersM (f : GFlow) (n : Int) : List Int := if ¬ (checkM f).1 = 0 ∨ n < 0 ∨ (f.lets.length : Int) ≤ n then [] else usersTo f.lets n f.lets.length
theorem usersTo_succ {ls : List GLet} {n : Int} {i : Nat} {x : GLet} (hx : ls[i]? = some x) : usersTo ls n (i + 1) = usersTo ls n i ++ (if (needL x i).contains n = true then [(i : Int)] else []) := by
  unfold usersTo
  rw [List.range_succ, List.filter_append, List.map_append]
  congr 1
  rw [List.filter_cons, List.getD_eq_getElem?_getD, hx]
  simp only [Option.getD_some]
  split <;> simp
theorem usersTo_len (ls : List GLet) (n : Int) (i : Nat) : (usersTo ls n i).length ≤ i := by
  unfold usersTo
  rw [List.length_map]
  exact Nat.le_trans (List.length_filter_le _ _) (by simp)
/-! ### Levels -/
def mostOf (lv : Int → Int) (l : List Int) : Int := l.foldl (fun a k => max a (lv k + 1)) 0
def levL (ls : List GLet) : Nat → List Int
  | 0 => []
  | i + 1 => levL ls i ++ [mostOf (fun k => (levL ls i).getD k.toNat 0) (needL (ls.getD i glet0) i)]
theorem levL_len (ls : List GLet) : ∀ i, (levL ls i).length = i
  | 0 => rfl
  | i + 1 => by rw [levL, List.length_append, levL_len ls i]; rfl
theorem levL_pre (ls : List GLet) {i j : Nat} (h : i ≤ j) : ∃ r, levL ls j = levL ls i ++ r := by
  induction j with
  | zero => obtain rfl : i = 0 := by omega
            exact ⟨[], rfl⟩
  | succ j ih =>
    by_cases e : i = j + 1
    · subst e; exact ⟨[], (List.append_nil _).symm⟩
    · obtain ⟨r, hr⟩ := ih (by omega)
      exact ⟨r ++ _, by rw [levL, hr, List.append_assoc]⟩
/-- the level of a let -/
def levM (ls : List GLet) (i : Nat) : Int := (levL ls (i + 1)).getD i 0
theorem levL_at (ls : List GLet) {i j : Nat} (h : i < j) : (levL ls j)[i]? = some (levM ls i) := by
  obtain ⟨r, hr⟩ := levL_pre ls (show i + 1 ≤ j by omega)
  unfold levM
  have h1 := levL_len ls (i + 1)
  rw [hr, List.getElem?_append_left (by omega), List.getD_eq_getElem?_getD, List.getElem?_eq_getElem (by omega)]
  rfl
theorem levM_eq {ls : List GLet} {i : Nat} {x : GLet} (hx : ls[i]? = some x) : levM ls i = mostOf (fun k => levM ls k.toNat) (needL x i) := by
  unfold levM
  rw [levL, List.getD_eq_getElem?_getD, List.getElem?_append_right (by rw [levL_len]; exact Nat.le_refl _), levL_len, Nat.sub_self, List.getD_eq_getElem?_getD, hx]
  show mostOf _ (needL x i) = _
  unfold mostOf
  have key : ∀ (l : List Int) (a : Int), (∀ k ∈ l, 0 ≤ k ∧ k < (i : Int)) → l.foldl (fun a k => max a ((levL ls i).getD k.toNat 0 + 1)) a = l.foldl (fun a k => max a (levM ls k.toNat + 1)) a := by
    intro l
    induction l with
    | nil => intro a _; rfl
    | cons k l ih =>
      intro a hl
      rw [List.foldl_cons, List.foldl_cons, ih _ (fun j hj => hl j (List.mem_cons_of_mem _ hj))]
      have := hl k (List.mem_cons_self ..)
      rw [List.getD_eq_getElem?_getD, levL_at ls (show k.toNat < i by omega)]
      rfl
  exact key _ 0 (fun k hk => needL_bd hk)
theorem mostOf_snoc {lv : Int → Int} {l : List Int} {j : Nat} {k : Int} (h : l[j]? = some k) : mostOf lv (l.take (j + 1)) = max (mostOf lv (l.take j)) (lv k + 1) := by
  unfold mostOf
  rw [take_succ_at h, List.foldl_append]
  rfl
theorem mostOf_bd {lv : Int → Int} {B : Int} : ∀ (l : List Int), (∀ k ∈ l, 0 ≤ lv k ∧ lv k + 1 ≤ B) → 0 ≤ B → 0 ≤ mostOf lv l ∧ mostOf lv l ≤ B := by
  intro l hl hB
  unfold mostOf
  have key : ∀ (l : List Int) (a : Int), 0 ≤ a → a ≤ B → (∀ k ∈ l, 0 ≤ lv k ∧ lv k + 1 ≤ B) → 0 ≤ l.foldl (fun a k => max a (lv k + 1)) a ∧ l.foldl (fun a k => max a (lv k + 1)) a ≤ B := by
    intro l
    induction l with
    | nil => intro a h1 h2 _; exact ⟨h1, h2⟩
    | cons k l ih =>
      intro a h1 h2 h3
      have := h3 k (List.mem_cons_self ..)
      exact ih (max a (lv k + 1)) (by omega) (by omega) fun j hj => h3 j (List.mem_cons_of_mem _ hj)
  exact key l 0 (by omega) hB hl
theorem levM_bd (ls : List GLet) : ∀ i, i < ls.length → 0 ≤ levM ls i ∧ levM ls i ≤ (i : Int) := by
  intro i
  induction i using Nat.strongRecOn with
  | ind i ih =>
    intro hi
    rw [levM_eq (List.getElem?_eq_getElem hi)]
    refine mostOf_bd _ (fun k hk => ?_) (by omega)
    have hb := needL_bd hk
    have := ih k.toNat (by omega) (by omega)
    omega
def levelsM (f : GFlow) : List Int × Int := if ¬ (checkM f).1 = 0 then ([], (checkM f).1) else (levL f.lets f.lets.length, 0)
theorem levelsM_err {f : GFlow} (h : ¬ (checkM f).1 = 0) : levelsM f = ([], (checkM f).1) := by unfold levelsM; rw [if_pos h]
theorem levelsM_ok {f : GFlow} (h : (checkM f).1 = 0) : levelsM f = (levL f.lets f.lets.length, 0) := by unfold levelsM; rw [if_neg (by simp [h])]
/-! ### Fits -/
def one1 : GEnd := ⟨1, 1⟩
def hitB (ls : List GLet) (es : List GEnd) (n : Nat) (i : Nat) : Bool := match ls[i]? with
  | some y => decide (rootM y = 18 ∧ (y.tree.getD 1 ⟨0, 0, 0, 0⟩).n = (n : Int) ∧ es.getD i ⟨0, 0⟩ = one1)
  | none => false
def hitsTo (ls : List GLet) (es : List GEnd) (n : Nat) (i : Nat) : Nat := ((List.range i).filter (hitB ls es n)).length
theorem hitsTo_succ (ls : List GLet) (es : List GEnd) (n i : Nat) : hitsTo ls es n (i + 1) = hitsTo ls es n i + (if hitB ls es n i = true then 1 else 0) := by
  unfold hitsTo
  rw [List.range_succ, List.filter_append, List.length_append, List.filter_cons]
  split <;> simp
theorem hitsTo_le (ls : List GLet) (es : List GEnd) (n i : Nat) : hitsTo ls es n i ≤ i := by
  unfold hitsTo
  exact Nat.le_trans (List.length_filter_le _ _) (by simp)
def aimM (x : GLet) : Int := (x.tree.getD 1 ⟨0, 0, 0, 0⟩).n
def fitM (ls : List GLet) (n : Nat) (m : GMaker) (es : List GEnd) : Bool := match ls[n]? with
  | none => false
  | some x =>
    let e := es.getD n ⟨0, 0⟩
    if e = ⟨4, (n : Int)⟩ then decide (hitsTo ls es n ls.length = 1)
    else if rootM x = 17 then (needL x n).any (fun k => decide (es.getD k.toNat ⟨0, 0⟩ = e))
    else if rootM x = 18 then decide (e = ⟨1, 0⟩ ∨ e = one1 ∧ es.getD (aimM x).toNat ⟨0, 0⟩ = ⟨4, aimM x⟩)
    else decide ((evalT es m (treeOf x)).fin = e)
def fitsM (f : GFlow) (m : GMaker) (es : List GEnd) : Int × Int :=
  if ¬ (checkM f).1 = 0 then checkM f else if ¬ es.length = f.lets.length ∨ badEnds es = true then (1, 0)
  else match (List.range f.lets.length).find? (fun i => !fitM f.lets i m es) with
    | some i => (30, (i : Int))
    | none => (0, 0)
section
variable {f : GFlow} {m : GMaker} {es : List GEnd}
theorem fitsM_err (h : ¬ (checkM f).1 = 0) : fitsM f m es = checkM f := by unfold fitsM; rw [if_pos h]
theorem fitsM_arg (h : (checkM f).1 = 0) (h2 : ¬ es.length = f.lets.length ∨ badEnds es = true) : fitsM f m es = (1, 0) := by unfold fitsM; rw [if_neg (by simp [h]), if_pos h2]
theorem fitsM_bad (h : (checkM f).1 = 0) (h2 : es.length = f.lets.length) (h3 : badEnds es = false) {i : Nat} (hi : i < f.lets.length) (hb : ∀ j, j < i → fitM f.lets j m es = true) (hn : fitM f.lets i m es = false) : fitsM f m es = (30, (i : Int)) := by
  unfold fitsM
  rw [if_neg (by simp [h]), if_neg (by simp [h2, h3]), find_at hi (by simp [hn]) (fun j hj => by simp [hb j hj])]
theorem fitsM_ok (h : (checkM f).1 = 0) (h2 : es.length = f.lets.length) (h3 : badEnds es = false) (hb : ∀ j, j < f.lets.length → fitM f.lets j m es = true) : fitsM f m es = (0, 0) := by
  unfold fitsM
  rw [if_neg (by simp [h]), if_neg (by simp [h2, h3]), find_no (fun j hj => by simp [hb j hj])]
end
end Go.TL
