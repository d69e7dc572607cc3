/-
  Layer 26 in plain Lean: ahead orders the entries of any log.
-/
import Derived.Test.YticopppiogophaaDoorTl
set_option linter.unusedVariables false
set_option linter.unusedSimpArgs false
namespace Go.TL

def cS (l : List Access) (k : Nat) : CS := (crun (l.take k)).1
theorem cS_succ {l : List Access} {k : Nat} {x : Access} (h : l[k]? = some x) : cS l (k + 1) = cstep (cS l k) x := by
  unfold cS; rw [take_succ_at h, crun_snoc]
theorem clks_get {l : List Access} {k : Nat} {x : Access} (h : l[k]? = some x) : (clks l)[k]? = some (cOut (cS l k) x) := by
  revert k x
  refine snoc_ind (p := fun l => ∀ {k : Nat} {x : Access}, l[k]? = some x → (clks l)[k]? = some (cOut (cS l k) x)) (fun {k x} h => by simp at h) (fun l a ih k x h => ?_) l
  have hlen := clks_len l
  have e : clks (l ++ [a]) = clks l ++ [cOut (crun l).1 a] := by unfold clks; rw [crun_snoc]
  rw [e]
  by_cases hk : k < l.length
  · rw [List.getElem?_append_left (by omega)]
    rw [List.getElem?_append_left hk] at h
    rw [ih h]
    unfold cS
    rw [List.take_append_of_le_length (by omega)]
  · have hk2 : k < l.length + 1 := by have := at_lt h; simpa using this
    have hk3 : k = l.length := by omega
    subst hk3
    rw [List.getElem?_append_right (by omega)] at h ⊢
    rw [hlen]
    simp only [Nat.sub_self, List.getElem?_cons_zero, Option.some.injEq] at h ⊢
    subst h
    unfold cS
    rw [List.take_left]
theorem clkAt_eq {l : List Access} {k : Nat} {x : Access} (h : l[k]? = some x) : clkAt l k = cOut (cS l k) x := by
  have h1 := clks_at (at_lt h)
  rw [clks_get h] at h1
  exact (Option.some.inj h1).symm
def cnt (l : List Access) (t k : Nat) : Int := ((l.take k).countP fun x => decide (x.thread.toNat = t) : Nat)
theorem cnt_succ {l : List Access} {t k : Nat} {x : Access} (h : l[k]? = some x) : cnt l t (k + 1) = cnt l t k + if x.thread.toNat = t then 1 else 0 := by
  unfold cnt
  rw [take_succ_at h, List.countP_append, List.countP_cons]
  by_cases e : x.thread.toNat = t <;> simp [e]
theorem cnt_mono {l : List Access} {t j k : Nat} (h : j ≤ k) : cnt l t j ≤ cnt l t k := by
  unfold cnt
  have : (l.take j).countP (fun x => decide (x.thread.toNat = t)) ≤ (l.take k).countP (fun x => decide (x.thread.toNat = t)) := by
    apply List.Sublist.countP_le
    rw [show l.take j = (l.take k).take j by rw [List.take_take, Nat.min_eq_left h]]
    exact List.take_sublist _ _
  omega
theorem cnt_nn (l : List Access) (t k : Nat) : 0 ≤ cnt l t k := by unfold cnt; omega
/-- no clock is ahead of the counts, and a thread's own is its count -/
def I1 (l : List Access) (k : Nat) : Prop := (∀ i t, (cS l k).T i t ≤ cnt l t k) ∧ (∀ t, (cS l k).T t t = cnt l t k) ∧ ∀ c d, (cS l k).m c = some d → ∀ t, d t ≤ cnt l t k
theorem I1.m0 {l : List Access} {k : Nat} (h : I1 l k) (c : Int) (t : Nat) : ((cS l k).m c).getD clock0 t ≤ cnt l t k := by
  cases e : (cS l k).m c with
  | none => simp only [Option.getD_none, clock0]; exact cnt_nn _ _ _
  | some d => exact h.2.2 c d e t
theorem I1.t1 {l : List Access} {k : Nat} (h : I1 l k) (x : Access) : (∀ i t, cT1 (cS l k) x i t ≤ cnt l t k) ∧ ∀ t, cT1 (cS l k) x t t = cnt l t k := by
  have hm := h.m0 x.cell
  constructor
  · intro i t
    unfold cT1
    split
    · unfold updT
      split
      · simp only [cmax]; have := h.1 x.thread.toNat t; have := hm t; omega
      · exact h.1 i t
    · exact h.1 i t
  · intro t
    unfold cT1
    split
    · unfold updT
      split
      · rename_i e
        subst e
        simp only [cmax]; have := h.2.1 x.thread.toNat; have := hm x.thread.toNat; omega
      · exact h.2.1 t
    · exact h.2.1 t
theorem I1.t2 {l : List Access} {k : Nat} (h : I1 l k) {x : Access} (hx : l[k]? = some x) : (∀ i t, cT2 (cS l k) x i t ≤ cnt l t (k + 1)) ∧ ∀ t, cT2 (cS l k) x t t = cnt l t (k + 1) := by
  obtain ⟨h1, h2⟩ := h.t1 x
  constructor
  · intro i t
    rw [cnt_succ hx]
    unfold cT2 updT
    split
    · simp only [cbump]
      have := h1 x.thread.toNat t
      split
      · rename_i e; rw [if_pos e.symm]; omega
      · split <;> omega
    · have := h1 i t
      split <;> omega
  · intro t
    rw [cnt_succ hx]
    unfold cT2 updT
    split
    · rename_i e
      subst e
      simp only [cbump, if_true]
      have := h2 x.thread.toNat
      omega
    · rename_i e
      rw [if_neg (fun e2 => e e2.symm)]
      have := h2 t
      omega
theorem I1.step {l : List Access} {k : Nat} (h : I1 l k) {x : Access} (hx : l[k]? = some x) : I1 l (k + 1) := by
  obtain ⟨h1, h2⟩ := h.t2 hx
  unfold I1
  rw [cS_succ hx]
  refine ⟨fun i t => ?_, fun t => ?_, fun c d hd t => ?_⟩
  · show cT3 (cS l k) x i t ≤ _
    unfold cT3
    split
    · unfold updT
      split
      · simp only [cmax, cOut]; have := h1 x.now.toNat t; have := h1 x.thread.toNat t; omega
      · exact h1 i t
    · exact h1 i t
  · show cT3 (cS l k) x t t = _
    unfold cT3
    split
    · unfold updT
      split
      · rename_i e
        subst e
        simp only [cmax, cOut]; have := h2 x.now.toNat; have := h1 x.thread.toNat x.now.toNat; omega
      · exact h2 t
    · exact h2 t
  · have hd : cM (cS l k) x c = some d := hd
    unfold cM at hd
    split at hd
    · unfold mset at hd
      split at hd
      · cases hd; exact h1 _ t
      · have := h.2.2 c d hd t; have := cnt_mono (l := l) (t := t) (show k ≤ k + 1 by omega); omega
    · have := h.2.2 c d hd t; have := cnt_mono (l := l) (t := t) (show k ≤ k + 1 by omega); omega
theorem I1.all (l : List Access) : ∀ k, k ≤ l.length → I1 l k
  | 0, _ => ⟨fun i t => by simp [cS, crun, cs0, clock0, cnt], fun t => by simp [cS, crun, cs0, clock0, cnt], fun c d h => by simp [cS, crun, cs0] at h⟩
  | k + 1, h => (I1.all l k (by omega)).step (List.getElem?_eq_getElem (by omega : k < l.length))
theorem clkAt_own {l : List Access} {k : Nat} {x : Access} (hx : l[k]? = some x) : clkAt l k x.thread.toNat = cnt l x.thread.toNat (k + 1) := by
  rw [clkAt_eq hx]; exact ((I1.all l k (Nat.le_of_lt (at_lt hx))).t2 hx).2 _
theorem clkAt_le {l : List Access} {k : Nat} {x : Access} (hx : l[k]? = some x) (t : Nat) : clkAt l k t ≤ cnt l t (k + 1) := by
  rw [clkAt_eq hx]; exact ((I1.all l k (Nat.le_of_lt (at_lt hx))).t2 hx).1 _ _
/-! ### what is ahead by one number is ahead by all -/
def Gd (l : List Access) (a : Nat) (y : Access) (v : Clk) : Prop := clkAt l a y.thread.toNat ≤ v y.thread.toNat → ∀ t, clkAt l a t ≤ v t
theorem Gd.max {l : List Access} {a : Nat} {y : Access} {u v : Clk} (hu : Gd l a y u) (hv : Gd l a y v) : Gd l a y (cmax u v) := by
  intro h t
  simp only [cmax] at h ⊢
  by_cases h1 : clkAt l a y.thread.toNat ≤ u y.thread.toNat
  · have := hu h1 t; omega
  · have := hv (by omega) t; omega
theorem clkAt_nn (l : List Access) (k t : Nat) : 0 ≤ clkAt l k t := by
  by_cases h : k < l.length
  · obtain ⟨x, hx⟩ := at_ex h
    rw [clkAt_eq hx]
    have hb := crun_bd (l.take k)
    exact (hb.t2 (by omega) x _ t).1
  · unfold clkAt
    rw [List.getD_eq_getElem?_getD, List.getElem?_eq_none (by rw [clks_len]; omega)]
    simp [clock0]
theorem clkAt_pos {l : List Access} {a : Nat} {y : Access} (hy : l[a]? = some y) : 0 < clkAt l a y.thread.toNat := by
  rw [clkAt_own hy, cnt_succ hy, if_pos rfl]
  have := cnt_nn l y.thread.toNat a
  omega
theorem Gd.zero {l : List Access} {a : Nat} {y : Access} (hy : l[a]? = some y) : Gd l a y clock0 := by
  intro h t
  have := clkAt_pos hy
  simp only [clock0] at h
  omega
def I2 (l : List Access) (a : Nat) (y : Access) (k : Nat) : Prop := (∀ i, Gd l a y ((cS l k).T i)) ∧ ∀ c, Gd l a y (((cS l k).m c).getD clock0)
theorem I2.t2 {l : List Access} {a k : Nat} {y x : Access} (hy : l[a]? = some y) (hx : l[k]? = some x) (h : I2 l a y k) : ∀ i, Gd l a y (cT2 (cS l k) x i) := by
  have i1 := I1.all l k (Nat.le_of_lt (at_lt hx))
  obtain ⟨b1, b2⟩ := i1.t1 x
  have h1 : ∀ i, Gd l a y (cT1 (cS l k) x i) := by
    intro i
    unfold cT1
    split
    · unfold updT
      split
      · exact (h.1 _).max (h.2 _)
      · exact h.1 i
    · exact h.1 i
  intro i
  unfold cT2 updT
  split
  · intro hv t
    by_cases e : x.thread.toNat = y.thread.toNat
    · -- an entry of the same thread
      simp only [cbump] at hv ⊢
      rw [e] at hv ⊢
      simp only [if_true] at hv
      by_cases hh : clkAt l a y.thread.toNat ≤ cT1 (cS l k) x y.thread.toNat y.thread.toNat
      · have hg := h1 y.thread.toNat hh t
        split <;> omega
      · -- it is the entry itself
        have hown := clkAt_own hy
        have hc := b2 y.thread.toNat
        have hka : k = a := by
          rcases Nat.lt_trichotomy k a with hlt | heq | hgt
          · have m1 : cnt l y.thread.toNat (k + 1) ≤ cnt l y.thread.toNat a := cnt_mono (by omega)
            rw [cnt_succ hx, if_pos e] at m1
            rw [cnt_succ hy, if_pos rfl] at hown
            omega
          · exact heq
          · have m1 : cnt l y.thread.toNat (a + 1) ≤ cnt l y.thread.toNat k := cnt_mono (by omega)
            omega
        subst hka
        have hxy : x = y := Option.some.inj (hx.symm.trans hy)
        subst hxy
        rw [clkAt_eq hx]
        unfold cOut cT2 updT
        rw [if_pos rfl]
        simp only [cbump]
        exact Int.le_refl _
    · simp only [cbump] at hv ⊢
      rw [if_neg (fun e2 => e e2.symm)] at hv
      have hg := h1 _ hv t
      split <;> omega
  · exact h1 i
theorem I2.step {l : List Access} {a k : Nat} {y x : Access} (hy : l[a]? = some y) (hx : l[k]? = some x) (h : I2 l a y k) : I2 l a y (k + 1) := by
  have h2 := h.t2 hy hx
  unfold I2
  rw [cS_succ hx]
  refine ⟨fun i => ?_, fun c => ?_⟩
  · show Gd l a y (cT3 (cS l k) x i)
    unfold cT3
    split
    · unfold updT
      split
      · exact (h2 _).max (h2 _)
      · exact h2 i
    · exact h2 i
  · show Gd l a y ((cM (cS l k) x c).getD clock0)
    unfold cM
    split
    · unfold mset
      split
      · exact h2 _
      · exact h.2 c
    · exact h.2 c
theorem I2.all {l : List Access} {a : Nat} {y : Access} (hy : l[a]? = some y) : ∀ k, k ≤ l.length → I2 l a y k
  | 0, _ => ⟨fun i => Gd.zero hy, fun c => Gd.zero hy⟩
  | k + 1, h => (I2.all hy k (by omega)).step hy (List.getElem?_eq_getElem (by omega : k < l.length))
theorem ahd_all {l : List Access} {a b : Nat} {x y : Access} (hy : l[a]? = some y) (hx : l[b]? = some x) (h : ahd l a b = true) (t : Nat) : clkAt l a t ≤ clkAt l b t := by
  rw [ahd_eq hy, decide_eq_true_eq] at h
  have := (I2.all hy b (Nat.le_of_lt (at_lt hx))).t2 hy hx x.thread.toNat
  rw [clkAt_eq hx] at h ⊢
  exact this h t
/-! ### the order -/
theorem ahd_lt {l : List Access} {a b : Nat} (ha : a < l.length) (hb : b < l.length) (h : ahd l a b = true) : a ≤ b := by
  obtain ⟨y, hy⟩ := at_ex ha
  obtain ⟨x, hx⟩ := at_ex hb
  rw [ahd_eq hy, decide_eq_true_eq, clkAt_own hy] at h
  have h2 := clkAt_le hx y.thread.toNat
  rcases Nat.lt_or_ge b a with hlt | hge
  · have m1 : cnt l y.thread.toNat (b + 1) ≤ cnt l y.thread.toNat a := cnt_mono (by omega)
    rw [cnt_succ hy, if_pos rfl] at h
    omega
  · exact hge
theorem ahd_thread {l : List Access} {a b : Nat} {x y : Access} (hy : l[a]? = some y) (hx : l[b]? = some x) (h : a ≤ b) (e : y.thread = x.thread) : ahd l a b = true := by
  rw [ahd_eq hy, decide_eq_true_eq, clkAt_own hy, e, clkAt_own hx]
  exact cnt_mono (by omega)
theorem ahd_seen {l : List Access} {a : Nat} {x y : Access} (hy : l[a]? = some y) (hx : l[a + 1]? = some x) (h1 : y.op = 2) (h2 : x.op = 1) (e : y.cell = x.cell) : ahd l a (a + 1) = true := by
  rw [ahd_eq hy, decide_eq_true_eq, clkAt_eq hx]
  have hm : (cS l (a + 1)).m x.cell = some (clkAt l a) := by
    rw [cS_succ hy, clkAt_eq hy]
    show cM (cS l a) y x.cell = _
    rw [cM1 _ _ (.inl h1), mset, if_pos e.symm]
  have ht : cT1 (cS l (a + 1)) x x.thread.toNat = cmax ((cS l (a + 1)).T x.thread.toNat) (clkAt l a) := by
    unfold cT1
    rw [if_pos (by simp [takesB, h2]), updT, if_pos rfl, hm]; rfl
  unfold cOut cT2
  rw [updT, if_pos rfl]
  simp only [cbump, ht, cmax]
  split <;> omega
theorem ahd_trans {l : List Access} {a b c : Nat} (ha : a < l.length) (hb : b < l.length) (hc : c < l.length) (h1 : ahd l a b = true) (h2 : ahd l b c = true) : ahd l a c = true := by
  obtain ⟨y, hy⟩ := at_ex ha
  obtain ⟨x, hx⟩ := at_ex hb
  obtain ⟨z, hz⟩ := at_ex hc
  have k1 := ahd_all hy hx h1 y.thread.toNat
  have k2 := ahd_all hx hz h2 y.thread.toNat
  rw [ahd_eq hy, decide_eq_true_eq]
  omega
/-! ### the table of the law -/
def matL (M : Nat → Nat → Bool) : List Value := (List.range 1600).map fun i => Value.bool (M (i / 40) (i % 40))
theorem matL_len (M : Nat → Nat → Bool) : (matL M).length = 1600 := by simp [matL]
theorem matL_at (M : Nat → Nat → Bool) {i j : Nat} (hi : i < 40) (hj : j < 40) : (matL M)[0 + i * 40 + j * 1]? = some (.bool (M i j)) := by
  have h1 : (0 + i * 40 + j * 1) / 40 = i := by omega
  have h2 : (0 + i * 40 + j * 1) % 40 = j := by omega
  have h3 : 0 + i * 40 + j * 1 < 1600 := by omega
  unfold matL
  rw [List.getElem?_map, List.getElem?_range h3]
  simp only [Option.map_some, h1, h2]
theorem matL_congr {M N : Nat → Nat → Bool} (h : ∀ i j, i < 40 → j < 40 → M i j = N i j) : matL M = matL N := by
  unfold matL
  apply List.map_congr_left
  intro i hi
  have := List.mem_range.1 hi
  rw [h (i / 40) (i % 40) (by omega) (by omega)]
theorem matL_zero : matL (fun _ _ => false) = List.replicate 1600 (.bool false) := by
  unfold matL; rw [List.map_const']; simp
theorem matL_set (M : Nat → Nat → Bool) {i j : Nat} (b : Bool) (hi : i < 40) (hj : j < 40) : lset (matL M) (0 + i * 40 + j * 1) [.bool b] = matL (fun x y => if x = i ∧ y = j then b else M x y) := by
  apply List.ext_getElem?
  intro k
  rw [lset_get (by rw [matL_len]; simp; omega)]
  simp only [List.length_singleton]
  unfold matL
  rw [List.getElem?_map, List.getElem?_map]
  by_cases hk : k < 1600
  · rw [List.getElem?_range hk]
    simp only [Option.map_some]
    by_cases c1 : k < 0 + i * 40 + j * 1
    · rw [if_pos c1, if_neg (by omega)]
    · rw [if_neg c1]
      by_cases c2 : k < 0 + i * 40 + j * 1 + 1
      · have e : k = 0 + i * 40 + j * 1 := by omega
        subst e
        rw [if_pos c2, if_pos (by omega), Nat.sub_self]; rfl
      · rw [if_neg c2, if_neg (by omega)]
  · rw [List.getElem?_eq_none (by simpa using hk)]
    simp only [Option.map_none]
    rw [if_neg (by omega), if_neg (by omega)]
def oB (l : List Access) (i j : Nat) : Bool := decide (i ≠ j) && ahd l i j
def ordM (l : List Access) (a b : Nat) : Nat → Nat → Bool := fun i j => decide (i < a ∨ (i = a ∧ j < b)) && oB l i j
theorem ordM_set (l : List Access) (a b : Nat) {x : Bool} (hx : x = oB l a b) (ha : a < 40) (hb : b < 40) : lset (matL (ordM l a b)) (0 + a * 40 + b * 1) [.bool x] = matL (ordM l a (b + 1)) := by
  rw [matL_set _ _ ha hb]
  apply matL_congr
  intro i j _ _
  unfold ordM
  by_cases h : i = a ∧ j = b
  · rw [if_pos h, h.1, h.2, hx, decide_eq_true (show a < a ∨ (a = a ∧ b < b + 1) by omega), Bool.true_and]
  · rw [if_neg h]
    congr 1
    rw [decide_eq_decide]
    omega
theorem ordM_row (l : List Access) (a : Nat) {n : Nat} (hn : ∀ j, n ≤ j → j < 40 → oB l a j = false) : matL (ordM l a n) = matL (ordM l (a + 1) 0) := by
  apply matL_congr
  intro i j hi hj
  unfold ordM
  by_cases h : i = a ∧ n ≤ j
  · rw [h.1, hn j h.2 hj, Bool.and_false, Bool.and_false]
  · congr 1
    rw [decide_eq_decide]
    omega
theorem ordM_zero (l : List Access) : matL (ordM l 0 0) = List.replicate 1600 (.bool false) := by
  rw [← matL_zero]
  apply matL_congr
  intro i j _ _
  unfold ordM
  rw [decide_eq_false (by omega)]; rfl
theorem ahead_cases {l : List Access} {i j : Nat} (hi : i < l.length) (hj : j < l.length) : (aheadE l i j = 0 ∧ aheadB l i j = oB l i j) ∨ (aheadE l i j = 31 ∧ aheadB l i j = false) := by
  have hr : (0 : Int) ≤ (i : Int) ∧ (i : Int) < l.length ∧ (0 : Int) ≤ (j : Int) ∧ (j : Int) < l.length := by omega
  cases hm : mayOk l with
  | true =>
    refine .inl ⟨?_, ?_⟩
    · unfold aheadE; rw [hm, if_pos rfl, if_pos hr]
    · unfold aheadB oB
      rw [hm, decide_eq_true hr, Bool.true_and, Bool.true_and]
      congr 1
      rw [decide_eq_decide]; omega
  | false =>
    refine .inr ⟨?_, ?_⟩
    · unfold aheadE; rw [hm]; rfl
    · unfold aheadB; rw [hm]; rfl
theorem oB_lt {l : List Access} {i j : Nat} (hi : i < l.length) (hj : j < l.length) (h : oB l i j = true) : i < j := by
  unfold oB at h
  simp only [Bool.and_eq_true, decide_eq_true_eq] at h
  have := ahd_lt hi hj h.2
  omega
theorem oB_thread {l : List Access} {i j : Nat} {x y : Access} (hy : l[i]? = some y) (hx : l[j]? = some x) (h : i < j) (e : y.thread = x.thread) : oB l i j = true := by
  unfold oB
  rw [ahd_thread hy hx (by omega) e, decide_eq_true (show i ≠ j by omega)]; rfl
theorem oB_seen {l : List Access} {i : Nat} {x y : Access} (hy : l[i]? = some y) (hx : l[i + 1]? = some x) (h1 : y.op = 2) (h2 : x.op = 1) (e : y.cell = x.cell) : oB l i (i + 1) = true := by
  unfold oB
  rw [ahd_seen hy hx h1 h2 e, decide_eq_true (show i ≠ i + 1 by omega)]; rfl
theorem oB_trans {l : List Access} {a b c : Nat} (ha : a < l.length) (hb : b < l.length) (hc : c < l.length) (h1 : oB l a b = true) (h2 : oB l b c = true) : oB l a c = true := by
  have k1 := oB_lt ha hb h1
  have k2 := oB_lt hb hc h2
  unfold oB at *
  simp only [Bool.and_eq_true, decide_eq_true_eq] at h1 h2 ⊢
  exact ⟨by omega, ahd_trans ha hb hc h1.2 h2.2⟩
theorem oB_out {l : List Access} {a j : Nat} (ha : a < l.length) (hj : l.length ≤ j) : oB l a j = false := by
  obtain ⟨y, hy⟩ := at_ex ha
  have h1 := clkAt_pos hy
  have h2 : clkAt l j = clock0 := by
    unfold clkAt
    rw [List.getD_eq_getElem?_getD, List.getElem?_eq_none (by rw [clks_len]; omega)]; rfl
  unfold oB
  rw [ahd_eq hy, h2, decide_eq_false (show ¬ clkAt l a y.thread.toNat ≤ clock0 y.thread.toNat by simp only [clock0]; omega), Bool.and_false]
theorem ordM_trans {l : List Access} {n i j k : Nat} (hn : n = l.length) (hi : i < n) (hj : j < n) (hk : k < n) (h1 : ordM l n 0 i j = true) (h2 : ordM l n 0 j k = true) : ordM l n 0 i k = true := by
  subst hn
  unfold ordM at *
  simp only [Bool.and_eq_true, decide_eq_true_eq] at h1 h2 ⊢
  exact ⟨by omega, oB_trans hi hj hk h1.2 h2.2⟩
end Go.TL
