/-
  The plain law of GraphAhead: levels, needs and users; a flow's beginning under other names.
-/
import Derived.Test.YtlnimgpfopaicaaGk
set_option linter.unusedVariables false
set_option linter.unusedSimpArgs false
namespace Go.TL
open Go.RowKit

/-! ### levels, needs, users -/
theorem mostOf_ge {lv : Int → Int} {l : List Int} {k : Int} (hk : k ∈ l) : lv k + 1 ≤ mostOf lv l := by
  unfold mostOf
  have key : ∀ (l : List Int) (a : Int), a ≤ l.foldl (fun a k => max a (lv k + 1)) a ∧ ∀ k ∈ l, lv k + 1 ≤ l.foldl (fun a k => max a (lv k + 1)) a := by
    intro l
    induction l with
    | nil => intro a; exact ⟨Int.le_refl _, fun k hk => by cases hk⟩
    | cons x l ih =>
      intro a
      obtain ⟨h1, h2⟩ := ih (max a (lv x + 1))
      refine ⟨Int.le_trans (Int.le_max_left _ _) h1, fun k hk => ?_⟩
      rcases List.mem_cons.1 hk with rfl | hk
      · exact Int.le_trans (Int.le_max_right _ _) h1
      · exact h2 k hk
  exact (key l 0).2 k hk
theorem mostOf_hit {lv : Int → Int} : ∀ (l : List Int), l = [] ∧ mostOf lv l = 0 ∨ mostOf lv l = 0 ∨ ∃ k ∈ l, lv k + 1 = mostOf lv l := by
  intro l
  unfold mostOf
  have key : ∀ (l : List Int) (a : Int), l.foldl (fun a k => max a (lv k + 1)) a = a ∨ ∃ k ∈ l, lv k + 1 = l.foldl (fun a k => max a (lv k + 1)) a := by
    intro l
    induction l with
    | nil => intro a; exact .inl rfl
    | cons x l ih =>
      intro a
      rcases ih (max a (lv x + 1)) with h | ⟨k, hk, h⟩
      · rcases Int.le_total a (lv x + 1) with h2 | h2
        · right
          exact ⟨x, List.mem_cons_self .., by rw [List.foldl_cons, h]; exact (Int.max_eq_right h2).symm⟩
        · left
          rw [List.foldl_cons, h]; exact Int.max_eq_left h2
      · exact .inr ⟨k, List.mem_cons_of_mem _ hk, h⟩
  rcases key l 0 with h | h
  · exact .inr (.inl h)
  · exact .inr (.inr h)
def belowB (lv : Int → Int) (li : Int) (l : List Int) (k : Nat) : Bool := (decide (li = 0) && decide (l.length = 0)) || (l.take k).any (fun x => decide (lv x = li - 1))
theorem belowB_zero (lv : Int → Int) (li : Int) (l : List Int) : belowB lv li l 0 = (decide (li = 0) && decide (l.length = 0)) := by simp [belowB]
theorem belowB_succ {lv : Int → Int} {li : Int} {l : List Int} {k : Nat} {x : Int} (hx : l[k]? = some x) : belowB lv li l (k + 1) = (belowB lv li l k || decide (lv x = li - 1)) := by
  unfold belowB
  rw [take_succ_at hx, List.any_append]
  simp only [List.any_cons, List.any_nil, Bool.or_false, Bool.or_assoc]
section
variable {f : GFlow} (hck : (checkM f).1 = 0) {i : Nat} {x : GLet} (hx : f.lets[i]? = some x)
include hx
def lvF (f : GFlow) (k : Int) : Int := levM f.lets k.toNat
theorem lev_most : levM f.lets i = mostOf (lvF f) (needL x i) := levM_eq hx
theorem below_end : belowB (lvF f) (levM f.lets i) (needL x i) (needL x i).length = true := by
  have hl := at_lt hx
  unfold belowB
  rw [List.take_length, Bool.or_eq_true]
  rcases mostOf_hit (lv := lvF f) (needL x i) with ⟨h1, h2⟩ | h | ⟨k, hk, h⟩
  · left
    rw [lev_most hx, h2, h1]; rfl
  · cases hn : needL x i with
    | nil =>
      left
      rw [lev_most hx, h]; rfl
    | cons a r =>
      have ha : a ∈ needL x i := by rw [hn]; exact List.mem_cons_self ..
      have h1 := mostOf_ge (lv := lvF f) ha
      have hb := needL_bd ha
      have h2 := levM_bd f.lets a.toNat (by omega)
      unfold lvF at h1
      rw [show (fun k : Int => levM f.lets k.toNat) = lvF f from rfl, h] at h1
      omega
  · right
    rw [List.any_eq_true]
    refine ⟨k, hk, decide_eq_true ?_⟩
    rw [lev_most hx]; omega
theorem need_low {k : Int} (hk : k ∈ needL x i) : lvF f k < levM f.lets i := by
  have := mostOf_ge (lv := lvF f) hk
  rw [lev_most hx]; omega
theorem users_has {k : Int} (hk : k ∈ needL x i) : (usersTo f.lets k f.lets.length).contains (i : Int) = true := by
  have hl := at_lt hx
  unfold usersTo
  rw [List.contains_iff_mem, List.mem_map]
  refine ⟨i, List.mem_filter.2 ⟨List.mem_range.2 hl, ?_⟩, rfl⟩
  rw [List.getD_eq_getElem?_getD, hx]
  simpa using hk
end
theorem need_rise {x : GLet} {N : Nat} {k : Nat} {a b : Int} (ha : (needL x N)[k]? = some a) (hb : (needL x N)[k + 1]? = some b) : a < b := by
  have h := List.pairwise_iff_getElem.1 (needL_pw x N) k (k + 1) (at_lt ha) (at_lt hb) (by omega)
  rw [(List.getElem?_eq_some_iff.1 ha).2, (List.getElem?_eq_some_iff.1 hb).2] at h
  exact h
theorem levelsM_cases (f : GFlow) : ∃ l e, (levelsM f).1 = l ∧ (levelsM f).2 = e ∧ (¬ e = 0 → (plainM f gm0).2 = e ∧ ∀ m, (plainM f m).2 = e) ∧ (e = 0 → (checkM f).1 = 0 ∧ l = levL f.lets f.lets.length) := by
  refine ⟨_, _, rfl, rfl, fun h => ?_, fun h => ?_⟩
  · by_cases hc : (checkM f).1 = 0
    · rw [levelsM_ok hc] at h; exact absurd rfl h
    · rw [levelsM_err hc]
      exact ⟨by rw [plainM_err hc], fun m => by rw [plainM_err hc]⟩
  · by_cases hc : (checkM f).1 = 0
    · exact ⟨hc, by rw [levelsM_ok hc]⟩
    · rw [levelsM_err hc] at h; exact absurd h hc
/-! ### other names -/
def nm1 (n : Nat) : UInt8 := UInt8.ofNat (97 + n)
theorem nm1_nat {n : Nat} (h : n < 26) : (nm1 n).toNat = 97 + n := by unfold nm1; rw [UInt8.toNat_ofNat']; omega
def nameL (i : Nat) : List UInt8 := [nm1 (16 + i % 9)] ++ [95] ++ [nm1 (i / 9 % 26)] ++ [nm1 (i / 234 % 26)]
def nameG (i : Nat) : ByteArray := ⟨(nameL i).toArray⟩
theorem nameG_inj {i j : Nat} (hi : i < 6084) (hj : j < 6084) (h : nameG i = nameG j) : i = j := by
  have h0 : nameL i = nameL j := by
    have := congrArg (fun b : ByteArray => b.data.toList) h
    exact this
  have h1 : nm1 (16 + i % 9) = nm1 (16 + j % 9) := by
    have := congrArg (fun l : List UInt8 => l[0]?) h0
    exact Option.some.inj this
  have h2 : nm1 (i / 9 % 26) = nm1 (j / 9 % 26) := by
    have := congrArg (fun l : List UInt8 => l[2]?) h0
    exact Option.some.inj this
  have h3 : nm1 (i / 234 % 26) = nm1 (j / 234 % 26) := by
    have := congrArg (fun l : List UInt8 => l[3]?) h0
    exact Option.some.inj this
  have k1 := congrArg UInt8.toNat h1
  have k2 := congrArg UInt8.toNat h2
  have k3 := congrArg UInt8.toNat h3
  rw [nm1_nat (by omega), nm1_nat (by omega)] at k1 k2 k3
  omega
theorem insideB_nm {n : Nat} (h : n < 26) : insideB (nm1 n) = true := by
  unfold insideB
  rw [nm1_nat h]
  exact decide_eq_true (by omega)
theorem nameG_data (i : Nat) : (nameG i).data.toList = nameL i := rfl
theorem nameG_words (i : Nat) : wordsM (nameG i) = none := by
  unfold wordsM mset nameG nameL
  simp
theorem nameG_ok (i : Nat) : isNameM (nameG i) = true := by
  have hs : (nameG i).size = 4 := rfl
  rw [isName_yes (b := nm1 (16 + i % 9)) (by omega) rfl (by rw [nm1_nat (by omega)]; omega) (fun j c hc => ?_), nameG_words]
  · rfl
  · rw [nameG_data] at hc
    have hm := List.mem_of_getElem? hc
    unfold nameL at hm
    simp only [List.cons_append, List.nil_append, List.mem_cons, List.not_mem_nil, or_false] at hm
    rcases hm with e | e | e | e <;> rw [e]
    · exact insideB_nm (by omega)
    · decide
    · exact insideB_nm (by omega)
    · exact insideB_nm (by omega)
def ren (ls : List GLet) (i : Nat) : List GLet := ls.mapIdx fun j x => if j < i then ⟨nameG j, x.tree, x.at_⟩ else x
theorem ren_zero (ls : List GLet) : ren ls 0 = ls := by
  unfold ren
  apply List.ext_getElem?
  intro j
  rw [List.getElem?_mapIdx]
  cases ls[j]? <;> simp
theorem ren_len (ls : List GLet) (i : Nat) : (ren ls i).length = ls.length := by unfold ren; rw [List.length_mapIdx]
theorem ren_at {ls : List GLet} {i j : Nat} {x : GLet} (hx : ls[j]? = some x) : (ren ls i)[j]? = some (if j < i then ⟨nameG j, x.tree, x.at_⟩ else x) := by
  unfold ren
  rw [List.getElem?_mapIdx, hx]; rfl
theorem ren_succ {ls : List GLet} {i : Nat} {x : GLet} (hx : (ren ls i)[i]? = some x) : (ren ls i).set i ⟨nameG i, x.tree, x.at_⟩ = ren ls (i + 1) := by
  have hl : i < ls.length := by have := at_lt hx; rwa [ren_len] at this
  obtain ⟨y, hy⟩ := at_ex hl
  rw [ren_at hy, if_neg (by omega)] at hx
  cases hx
  apply List.ext_getElem?
  intro j
  by_cases hj : j < ls.length
  · obtain ⟨z, hz⟩ := at_ex hj
    by_cases e : i = j
    · subst e
      rw [hy] at hz; cases hz
      rw [List.getElem?_set_self (by rw [ren_len]; exact hl), ren_at hy, if_pos (by omega)]
    · rw [List.getElem?_set_ne e, ren_at hz, ren_at hz]
      by_cases h1 : j < i
      · rw [if_pos h1, if_pos (by omega)]
      · rw [if_neg h1, if_neg (by omega)]
  · rw [List.getElem?_eq_none (by rw [List.length_set, ren_len]; omega), List.getElem?_eq_none (by rw [ren_len]; omega)]
/-- the beginning of a flow, its lets renamed -/
def renF (f : GFlow) (n : Nat) : GFlow := ⟨ren (f.lets.take n) n, []⟩
section
variable {f : GFlow} {n : Nat}
theorem renF_at {i : Nat} {x : GLet} (hx : f.lets[i]? = some x) (hi : i < n) : (renF f n).lets[i]? = some ⟨nameG i, x.tree, x.at_⟩ := by
  unfold renF
  rw [ren_at (by rw [List.getElem?_take, if_pos hi]; exact hx), if_pos hi]
theorem renF_len (hn : n ≤ f.lets.length) : (renF f n).lets.length = n := by
  unfold renF
  rw [ren_len, List.length_take]; omega
theorem renF_names (hn : n ≤ f.lets.length) (h6 : n ≤ 6084) {i : Nat} (hi : i < n) : namesOf (renF f n).lets i (nameG i) = false := by
  unfold namesOf
  refine any_none fun j y hy => ?_
  rw [List.getElem?_take] at hy
  split at hy
  · rename_i hj
    obtain ⟨x, hx⟩ := at_ex (xs := f.lets) (k := j) (by omega)
    rw [renF_at hx (by omega)] at hy
    cases hy
    refine decide_eq_false fun e => ?_
    have := nameG_inj (by omega) (by omega) e
    omega
  · cases hy
theorem renF_check (hck : (checkM f).1 = 0) (hn : n ≤ f.lets.length) (h6 : n ≤ 6084) : (checkM (renF f n)).1 = 0 := by
  rw [checkM_ok (fun j hj => ?_) (fun j hj => ?_)]
  · rw [renF_len hn] at hj
    obtain ⟨x, hx⟩ := at_ex (xs := f.lets) (k := j) (by omega)
    rw [badLet_at (renF_at hx hj)]
    obtain ⟨t, hg, h1, h2, h3, h4, h5, h7, h8, h9, h10, h11⟩ := sound_tree (checkM_lets hck j x hx)
    have hm : manyK (⟨nameG j, x.tree, x.at_⟩ : GLet) = false := h9
    have hr : refK (⟨nameG j, x.tree, x.at_⟩ : GLet) j = false := h10
    rw [soundM_end (x := ⟨nameG j, x.tree, x.at_⟩) (t := t) (r := []) (by omega) (nameG_ok j) (renF_names hn h6 hj) hg (by simp; omega) hm hr, if_neg h11]
  · simp [renF] at hj
theorem renF_plainL (m : GMaker) (hn : n ≤ f.lets.length) : ∀ i, i ≤ n → plainL (renF f n) m i = plainL f m i
  | 0, _ => rfl
  | i + 1, hi => by
    obtain ⟨x, hx⟩ := at_ex (xs := f.lets) (k := i) (by omega)
    rw [plainL_succ hx, plainL_succ (renF_at hx (by omega)), renF_plainL m hn i (by omega)]
    rfl
theorem renF_odd (hodd : f.lets.any odd = false) (hn : n ≤ f.lets.length) : (renF f n).lets.any odd = false := by
  refine any_none fun j y hy => ?_
  have hj := at_lt hy
  rw [renF_len hn] at hj
  obtain ⟨x, hx⟩ := at_ex (xs := f.lets) (k := j) (by omega)
  rw [renF_at hx hj] at hy
  cases hy
  exact (show odd x = false by
    have := List.any_eq_false.1 hodd x (List.mem_of_getElem? hx)
    simpa using this)
theorem renF_plain {m : GMaker} {l : List GEnd} (h : OneL f m l) (hn : n ≤ l.length) (h6 : n ≤ 6084) : plainM (renF f n) m = (l.take n, 0) := by
  have hl := h.len
  rw [plainM_ok (renF_check h.ck (by omega) h6) (renF_odd h.odd (by omega)), renF_len (by omega), renF_plainL m (by omega) n (Nat.le_refl _), h.eq, plainL_take (by omega)]
theorem renF_plain1 {m : GMaker} {l : List GEnd} (h : OneL f m l) (hn : n ≤ l.length) (h6 : n ≤ 6084) : (plainM (renF f n) m).1 = l.take n := by rw [renF_plain h hn h6]
theorem renF_plain2 {m : GMaker} {l : List GEnd} (h : OneL f m l) (hn : n ≤ l.length) (h6 : n ≤ 6084) : (plainM (renF f n) m).2 = 0 := by rw [renF_plain h hn h6]
end
end Go.TL
