/-
  Rows by the number, marks, lists that are gone on with and read as before.
-/
import Derived.Test.YtlnimgpfopaicaaTh
set_option linter.unusedVariables false
set_option linter.unusedSimpArgs false
namespace Go.TL
open Go.RowKit

/-! ### so many owned things, by the number -/
def Rws (A : Nat → HA) (k : Nat) : HA := Bun ((List.range k).map A)
def RwsX (A : Nat → HA) (k n : Nat) : HA := Bun (((List.range k).erase n).map A)
theorem range_perm {k n : Nat} (h : n < k) : (List.range k).Perm (n :: (List.range k).erase n) := List.perm_cons_erase (List.mem_range.2 h)
theorem Sat.rwsOpen {w0 w : World} {L : List HA} {A : Nat → HA} {k n : Nat} (S : Sat w0 w (Rws A k :: L)) (h : n < k) : Sat w0 w (A n :: RwsX A k n :: L) := by
  have S1 := S.unbun.perm (((range_perm h).map A).append_right L)
  have S2 : Sat w0 w (A n :: (((List.range k).erase n).map A ++ L)) := S1
  have S3 := S2.perm (L' := ((List.range k).erase n).map A ++ (A n :: L)) (List.perm_middle.symm)
  exact S3.bun.pk (.cons 1 rfl (.cons 0 rfl (.refl _)))
theorem Sat.rwsClose {w0 w : World} {L : List HA} {A A' : Nat → HA} {k n : Nat} (S : Sat w0 w (A' n :: RwsX A k n :: L)) (h : n < k) (he : ∀ j, j < k → j ≠ n → A' j = A j) : Sat w0 w (Rws A' k :: L) := by
  have e : ((List.range k).erase n).map A = ((List.range k).erase n).map A' := List.map_congr_left fun j hj => by
    have h1 : j ∈ List.range k := List.mem_of_mem_erase hj
    have h2 : j ≠ n := fun e => by
      subst e
      exact (List.nodup_range.not_mem_erase) hj
    exact (he j (List.mem_range.1 h1) h2).symm
  unfold RwsX at S
  rw [e] at S
  have S1 := (S.pk (.cons 1 rfl (.refl _)) : Sat w0 w (Bun (((List.range k).erase n).map A') :: A' n :: L)).unbun
  have S2 := S1.perm (L' := A' n :: (((List.range k).erase n).map A' ++ L)) List.perm_middle
  have S3 := S2.perm (L' := (List.range k).map A' ++ L) (((range_perm h).map A').symm.append_right L)
  exact S3.bun
theorem Sat.rwsEq {w0 w : World} {L : List HA} {A A' : Nat → HA} {k : Nat} (S : Sat w0 w (Rws A k :: L)) (he : ∀ j, j < k → A' j = A j) : Sat w0 w (Rws A' k :: L) := by
  have e : Rws A k = Rws A' k := by
    unfold Rws
    congr 1
    exact List.map_congr_left fun j hj => (he j (List.mem_range.1 hj)).symm
  rw [e] at S; exact S
theorem Reads.rws {α : Type} {T : Ty α} {A : Nat → HA} {k n : Nat} {a : Option Addr} {xs : List α} (h : n < k) (hr : Reads (A n) T a xs) : Reads (Rws A k) T a xs := hr.bun n (by simp [h])
theorem Sat.rwsNil {w0 w : World} {L : List HA} (A : Nat → HA) (S : Sat w0 w L) : Sat w0 w (Rws A 0 :: L) := S.bun (M := [])
/-! ### gone on with -/
/-- read in what is owned: in the row that is gone on with, or in what was left behind -/
def Seen {α : Type} (T : Ty α) (a : Option Addr) (xs : List α) (M : HA) (b : Option Addr) (zs : List α) : Prop := (b = a ∧ ∃ k, zs = xs.take k) ∨ Reads M T b zs
theorem Seen.self {α : Type} {T : Ty α} {a : Option Addr} {xs : List α} {M : HA} : Seen T a xs M a xs := .inl ⟨rfl, xs.length, by simp⟩
theorem Seen.reads {α : Type} {T : Ty α} {e : TypeId} {a b : Option Addr} {cap : Nat} {xs zs : List α} {M : HA} (h : Seen T a xs M b zs) : Reads (Bun [Own T e a cap xs, M]) T b zs := by
  rcases h with ⟨rfl, k, rfl⟩ | h
  · exact ((Reads.own T e b cap xs).take k).bun 0 rfl
  · exact h.bun 1 rfl
theorem Sat.appendKeep {P : Program} {w0 w : World} {L : List HA} {α : Type} {T : Ty α} {t e : TypeId} {bytes : Nat} {a : Option Addr} {cap : Nat} {xs ys : List α} {M : HA} (hT : SlT P t e T.n bytes) (S : Sat w0 w (Own T e a cap xs :: M :: L)) (b : Option Addr) (c : Nat) (hr : Rd T w b ys) (hy : ys ≠ [])
    (hb : (xs.length + ys.length) * bytes ≤ 140737488355328) (hm : xs.length + ys.length ≤ maxLen) (ty : TypeId) :
    ∃ a' cap' M' w', (Builtin.append_ #[t, t] ty #[.slice a xs.length cap, .slice b ys.length c]).run P w = .ok (.slice a' (xs.length + ys.length) cap') w' ∧ Sat w0 w' (Own T e a' cap' (xs ++ ys) :: M' :: L) ∧ ∀ b zs, Seen T a xs M b zs → Seen T a' (xs ++ ys) M' b zs := by
  by_cases hroom : xs.length + ys.length ≤ cap
  · obtain ⟨a', cap', w', hrun, hS, _, hin⟩ := S.append hT 0 rfl b c hr hb hm ty
    obtain ⟨rfl, rfl⟩ := hin hroom
    refine ⟨_, _, M, w', hrun, hS, fun b zs h => ?_⟩
    rcases h with ⟨rfl, k, rfl⟩ | h
    · refine .inl ⟨rfl, min k xs.length, ?_⟩
      rw [List.take_append_of_le_length (Nat.min_le_right _ _), List.take_eq_take_min]
    · exact .inr h
  · have hl := S.ownLen 0 rfl
    obtain ⟨a', cap', w', hrun, hS, _⟩ := S.appendGrow hT (S.rd 0 rfl) hl.1 (by omega) (fun e => (hl.2.2.2 e).2) b c hr hy hb hm ty
    refine ⟨_, _, Bun [Own T e a cap xs, M], w', hrun, ?_, fun b zs h => .inr h.reads⟩
    have S1 : Sat w0 w' ([Own T e a cap xs, M] ++ (Own T e a' cap' (xs ++ ys) :: L)) := hS.pk (.cons 1 rfl (.cons 1 rfl (.refl _)))
    exact S1.bun.pk (.cons 1 rfl (.refl _))
section
variable {P : Program} {f : Fm} {w w0 : World} {L : List HA} {K : Value → World → Prop} {Qp : List PanicEntry → World → Prop} {d : Option Nat} {ty : TypeId} {pos : String} {aft : Array Edge} {g : Option (Nat × Bool)}
theorem O.appendKeep {α : Type} {T : Ty α} {t e : TypeId} {bytes : Nat} {a b : Option Addr} {cap c n m : Nat} {xs ys : List α} {M : HA} {X Y : Operand} (hT : SlT P t e T.n bytes) (S : Sat w0 w (Own T e a cap xs :: M :: L)) (hx : ev f X = .slice a n cap) (hn : n = xs.length) (hy : ev f Y = .slice b m c) (hr : Rd T w b ys) (hm : m = ys.length) (hy0 : ys ≠ [])
    (hb : (xs.length + ys.length) * bytes ≤ 140737488355328) (hl : xs.length + ys.length ≤ maxLen)
    (h : ∀ a' cap' M' w', Sat w0 w' (Own T e a' cap' (xs ++ ys) :: M' :: L) → (∀ b zs, Seen T a xs M b zs → Seen T a' (xs ++ ys) M' b zs) → K (.slice a' (xs ++ ys).length cap') w') : OpK P ⟨d, .call { callee := .builtin .append, args := #[X, Y], argTypes := #[t, t] }, ty, pos, aft, g⟩ f w K Qp := by
  subst hn; subst hm
  obtain ⟨a', cap', M', w', hrun, hS, hk⟩ := S.appendKeep hT b c hr hy0 hb hl ty
  refine OpK.val (v := .slice a' (xs.length + ys.length) cap') (w' := w') ?_ (by have := h a' cap' M' w' hS hk; simpa using this)
  simp [execOp, resolve, invoke, builtin, hx, hy, hrun]
end
/-! ### marks -/
def numM (n i : Nat) : Int := 1048576 * (n : Int) + (i : Int) + 1
def mkInts (n i : Nat) : Int := numM n i
def mkLongs (n i : Nat) : Int := numM n i
/-- m marks of the list n, from the place i on -/
def mks {α : Type} (mk : Nat → α) (i m : Nat) : List α := (List.range m).map fun j => mk (i + j)
theorem mks_len {α : Type} (mk : Nat → α) (i m : Nat) : (mks mk i m).length = m := by simp [mks]
theorem mks_at {α : Type} {mk : Nat → α} {i m j : Nat} (h : j < m) : (mks mk i m)[j]? = some (mk (i + j)) := by simp [mks, h]
theorem mks_succ {α : Type} (mk : Nat → α) (i m : Nat) : mks mk i (m + 1) = mks mk i m ++ [mk (i + m)] := by simp [mks, List.range_succ]
theorem mks_at0 {α : Type} {mk : Nat → α} {m j : Nat} (h : j < m) : (mks mk 0 m)[j]? = some (mk j) := by rw [mks_at h, Nat.zero_add]
theorem mks_succ0 {α : Type} (mk : Nat → α) (m : Nat) : mks mk 0 (m + 1) = mks mk 0 m ++ [mk m] := by rw [mks_succ, Nat.zero_add]
/-- the first i elements are marks, the rest as it was -/
def midL {α : Type} (mk : Nat → α) (xs : List α) (i : Nat) : List α := mks mk 0 i ++ xs.drop i
theorem midL_len {α : Type} (mk : Nat → α) {xs : List α} {i : Nat} (h : i ≤ xs.length) : (midL mk xs i).length = xs.length := by
  rw [midL, List.length_append, mks_len, List.length_drop]; omega
theorem midL_zero {α : Type} (mk : Nat → α) (xs : List α) : midL mk xs 0 = xs := by simp [midL, mks]
theorem midL_end {α : Type} (mk : Nat → α) (xs : List α) : midL mk xs xs.length = mks mk 0 xs.length := by simp [midL]
theorem midL_set {α : Type} (mk : Nat → α) {xs : List α} {i : Nat} (h : i < xs.length) : (midL mk xs i).set i (mk i) = midL mk xs (i + 1) := by
  unfold midL
  rw [List.set_append_right _ _ (by rw [mks_len]; exact Nat.le_refl _), mks_len, Nat.sub_self, List.drop_eq_getElem_cons h, List.set_cons_zero, mks_succ0]
  simp
/-- slices as elements -/
def tSl : Ty SlV := ⟨1, fun p => [vSl p], fun _ => rfl, fun x u hu => by simp at hu; subst hu; rfl⟩
/-- what a list of lists of answers comes to, written full and gone on with -/
structure Grown {α : Type} (T : Ty α) (mk : Nat → Nat → α) (ps : List SlV) (N : Nat → Nat) (Z : Nat → HA) (one more : List SlV) (k : Nat) : Prop where
  own : ∀ j, j < k → Reads (Z j) T (ps.getD j sl0).1 (mks (mk j) 0 (N j))
  oneL : one.length = k
  moreL : more.length = k
  oneR : ∀ j, j < k → ∃ a c, one[j]? = some (a, N j + 1, c) ∧ Reads (Z j) T a (mks (mk j) 0 (N j + 1))
  moreR : ∀ j, j < k → ∃ a c, more[j]? = some (a, N j + 70, c) ∧ Reads (Z j) T a (mks (mk j) 0 (N j + 70))
theorem Grown.nil {α : Type} (T : Ty α) (mk : Nat → Nat → α) (ps : List SlV) (N : Nat → Nat) (Z : Nat → HA) : Grown T mk ps N Z [] [] 0 :=
  ⟨fun j h => by omega, rfl, rfl, fun j h => by omega, fun j h => by omega⟩
theorem Grown.snoc {α : Type} {T : Ty α} {mk : Nat → Nat → α} {ps : List SlV} {N : Nat → Nat} {Z : Nat → HA} {one more : List SlV} {k : Nat} (G : Grown T mk ps N Z one more k) {e : TypeId} {a o : Option Addr} {cap oc : Nat} {M : HA}
    (h0 : Seen T a (mks (mk k) 0 (N k + 70)) M (ps.getD k sl0).1 (mks (mk k) 0 (N k))) (h1 : Seen T a (mks (mk k) 0 (N k + 70)) M o (mks (mk k) 0 (N k + 1))) :
    Grown T mk ps N (fun j => if j = k then Bun [Own T e a cap (mks (mk k) 0 (N k + 70)), M] else Z j) (one ++ [(o, N k + 1, oc)]) (more ++ [(a, N k + 70, cap)]) (k + 1) := by
  refine ⟨fun j h => ?_, by simp [G.oneL], by simp [G.moreL], fun j h => ?_, fun j h => ?_⟩
  · by_cases e : j = k
    · subst e; simp only [if_true]; exact h0.reads
    · simp only [if_neg e]; exact G.own j (by omega)
  · by_cases e : j = k
    · subst e
      refine ⟨o, oc, by rw [← G.oneL]; simp, ?_⟩
      simp only [if_true]; exact h1.reads
    · obtain ⟨a', c', h2, h3⟩ := G.oneR j (by omega)
      refine ⟨a', c', by rw [List.getElem?_append_left (by rw [G.oneL]; omega)]; exact h2, ?_⟩
      simp only [if_neg e]; exact h3
  · by_cases e : j = k
    · subst e
      refine ⟨a, cap, by rw [← G.moreL]; simp, ?_⟩
      simp only [if_true]; exact Seen.self.reads
    · obtain ⟨a', c', h2, h3⟩ := G.moreR j (by omega)
      refine ⟨a', c', by rw [List.getElem?_append_left (by rw [G.moreL]; omega)]; exact h2, ?_⟩
      simp only [if_neg e]; exact h3
/-! ### the three turns over a list of lists -/
section
variable {α : Type} {T : Ty α} {e : TypeId} {ps : List SlV} {w0 w : World} {L : List HA} {mk : Nat → Nat → α} {N : Nat → Nat} {fs : Nat → List α} {k n : Nat} {pa : Option Addr} {pl pc : Nat}
def ARow (T : Ty α) (e : TypeId) (ps : List SlV) (g : Nat → List α) (j : Nat) : HA := Own T e (ps.getD j sl0).1 (ps.getD j sl0).2.2 (g j)
def wr1 (mk : Nat → Nat → α) (N : Nat → Nat) (fs : Nat → List α) (n : Nat) : Nat → List α := fun j => if j < n then mks (mk j) 0 (N j) else fs j
theorem wr1_zero : wr1 mk N fs 0 = fs := funext fun j => by simp [wr1]
theorem wr1_self : wr1 mk N fs n n = fs n := by simp [wr1]
theorem Sat.arOpen {g : Nat → List α} (S : Sat w0 w (Rws (ARow T e ps g) k :: L)) (hn : n < k) (hpD : ps.getD n sl0 = (pa, pl, pc)) : Sat w0 w (Own T e pa pc (g n) :: RwsX (ARow T e ps g) k n :: L) := by
  have h := S.rwsOpen hn
  have e1 : ARow T e ps g n = Own T e pa pc (g n) := by simp only [ARow, hpD]
  rw [e1] at h; exact h
theorem Sat.arClose {g g' : Nat → List α} {xs : List α} (S : Sat w0 w (Own T e pa pc xs :: RwsX (ARow T e ps g) k n :: L)) (hn : n < k) (hpD : ps.getD n sl0 = (pa, pl, pc)) (h1 : g' n = xs) (h2 : ∀ j, j ≠ n → g' j = g j) : Sat w0 w (Rws (ARow T e ps g') k :: L) := by
  refine Sat.rwsClose (A := ARow T e ps g) (n := n) ?_ hn fun j _ hj => by simp only [ARow, h2 j hj]
  have e1 : ARow T e ps g' n = Own T e pa pc xs := by simp only [ARow, hpD, h1]
  rw [e1]; exact S
theorem Sat.wr1Close {xs : List α} (S : Sat w0 w (Own T e pa pc xs :: RwsX (ARow T e ps (wr1 mk N fs n)) k n :: L)) (hn : n < k) (hpD : ps.getD n sl0 = (pa, pl, pc)) (h1 : xs = mks (mk n) 0 (N n)) : Sat w0 w (Rws (ARow T e ps (wr1 mk N fs (n + 1))) k :: L) :=
  S.arClose hn hpD (by rw [h1]; simp [wr1]) fun j hj => by
    simp only [wr1]
    by_cases h : j < n
    · rw [if_pos h, if_pos (by omega)]
    · rw [if_neg h, if_neg (by omega)]
def AMix (Z A : Nat → HA) (n : Nat) : Nat → HA := fun j => if j < n then Z j else A j
abbrev AM (T : Ty α) (e : TypeId) (ps : List SlV) (mk : Nat → Nat → α) (N : Nat → Nat) : Nat → HA := ARow T e ps (fun j => mks (mk j) 0 (N j))
theorem Sat.mixStart (Z : Nat → HA) (S : Sat w0 w (Rws (ARow T e ps (wr1 mk N fs k)) k :: L)) : Sat w0 w (Rws (AMix Z (AM T e ps mk N) 0) k :: L) :=
  S.rwsEq fun j hj => by simp only [AMix, Nat.not_lt_zero, if_false, ARow, wr1, if_pos hj]
theorem Sat.mixOpen {Z : Nat → HA} (S : Sat w0 w (Rws (AMix Z (AM T e ps mk N) n) k :: L)) (hn : n < k) (hpD : ps.getD n sl0 = (pa, pl, pc)) : Sat w0 w (Own T e pa pc (mks (mk n) 0 (N n)) :: RwsX (AMix Z (AM T e ps mk N) n) k n :: L) := by
  have h := S.rwsOpen hn
  have e1 : AMix Z (AM T e ps mk N) n n = Own T e pa pc (mks (mk n) 0 (N n)) := by simp only [AMix, Nat.lt_irrefl, if_false, ARow, hpD]
  rw [e1] at h; exact h
theorem Sat.mixClose {Z A : Nat → HA} {X M : HA} (S : Sat w0 w (X :: M :: RwsX (AMix Z A n) k n :: L)) (hn : n < k) : Sat w0 w (Rws (AMix (fun j => if j = n then Bun [X, M] else Z j) A (n + 1)) k :: L) := by
  have S1 : Sat w0 w ([X, M] ++ (RwsX (AMix Z A n) k n :: L)) := S
  refine Sat.rwsClose (A := AMix Z A n) (n := n) ?_ hn fun j _ hj => ?_
  · have e1 : AMix (fun j => if j = n then Bun [X, M] else Z j) A (n + 1) n = Bun [X, M] := by simp [AMix]
    rw [e1]; exact S1.bun
  · simp only [AMix, if_neg hj]
    by_cases h : j < n
    · rw [if_pos h, if_pos (by omega)]
    · rw [if_neg h, if_neg (by omega)]
theorem Reads.mix {Z A : Nat → HA} {a : Option Addr} {xs : List α} (h : n < k) (hr : Reads (Z n) T a xs) : Reads (Rws (AMix Z A k) k) T a xs := by
  refine Reads.rws h ?_
  have e1 : AMix Z A k n = Z n := by simp only [AMix, if_pos h]
  rw [e1]; exact hr
end
/-- Nat and Int rows lie alike -/
theorem own_tN (e : TypeId) (a : Option Addr) (cap : Nat) (xs : List Nat) : Own tN e a cap xs = Own (tI .i64) e a cap (xs.map (fun x : Nat => (x : Int))) := by
  have h : tN.all xs = (tI .i64).all (xs.map (fun x : Nat => (x : Int))) := by
    simp only [Ty.all, List.flatMap_map]; rfl
  unfold Own
  rw [h, List.length_map]; rfl
theorem getD_at {α : Type} {l : List α} {n : Nat} {x d : α} (h : l[n]? = some x) : l.getD n d = x := by rw [List.getD_eq_getElem?_getD, h]; rfl
/-! ### lists with marks behind them -/
section
variable {α : Type}
def wideL (mk : Nat → α) (z : α) (xs : List α) (i : Nat) : List α := (xs ++ mks mk xs.length 64).take i ++ List.replicate (xs.length + 64 - i) z
theorem wideL_len (mk : Nat → α) (z : α) (xs : List α) {i : Nat} (h : i ≤ xs.length + 64) : (wideL mk z xs i).length = xs.length + 64 := by
  rw [wideL, List.length_append, List.length_take, List.length_append, mks_len, List.length_replicate]; omega
theorem wideL_zero (mk : Nat → α) (z : α) (xs : List α) : wideL mk z xs 0 = List.replicate (xs.length + 64) z := by simp [wideL]
theorem wideL_end (mk : Nat → α) (z : α) (xs : List α) : wideL mk z xs (xs.length + 64) = xs ++ mks mk xs.length 64 := by
  rw [wideL, List.take_of_length_le (by rw [List.length_append, mks_len]; exact Nat.le_refl _)]; simp
theorem wideL_step {mk : Nat → α} {z : α} {xs : List α} {i : Nat} {x : α} (hi : i < xs.length + 64) (hx : (xs ++ mks mk xs.length 64)[i]? = some x) : (wideL mk z xs i).set i x = wideL mk z xs (i + 1) := by
  have hl : ((xs ++ mks mk xs.length 64).take i).length = i := by rw [List.length_take, List.length_append, mks_len]; omega
  unfold wideL
  rw [List.set_append_right _ _ (by rw [hl]; exact Nat.le_refl _), hl, Nat.sub_self, take_succ_at hx]
  have : xs.length + 64 - i = (xs.length + 64 - (i + 1)) + 1 := by omega
  rw [this, List.replicate_succ, List.set_cons_zero]
  simp
theorem wideL_in {mk : Nat → α} (z : α) (xs : List α) {i : Nat} {x : α} (hx : xs[i]? = some x) : (wideL mk z xs i).set i x = wideL mk z xs (i + 1) := by
  have := at_lt hx
  exact wideL_step (by omega) (by rw [List.getElem?_append_left this]; exact hx)
theorem wideL_out {mk : Nat → α} (z : α) (xs : List α) {i : Nat} (h0 : xs.length ≤ i) (h1 : i < xs.length + 64) : (wideL mk z xs i).set i (mk i) = wideL mk z xs (i + 1) :=
  wideL_step h1 (by
    rw [List.getElem?_append_right h0, mks_at (by omega)]
    congr 2; omega)
end
theorem lset_at {hdr : List Value} {i : Nat} {u v : Value} (hh : hdr[i]? = some u) : lset hdr (0 + i) [v] = hdr.set i v := by
  have hi := (List.getElem?_eq_some_iff.1 hh).1
  rw [Nat.zero_add, List.set_eq_take_append_cons_drop, if_pos hi]
  simp [lset]
/-- two rows as a list of lists -/
theorem Sat.rows2 {α : Type} {T : Ty α} {e : TypeId} {w0 w : World} {L : List HA} {a1 a2 : Option Addr} {n1 n2 c1 c2 : Nat} {xs1 xs2 : List α} (S : Sat w0 w (Own T e a1 c1 xs1 :: Own T e a2 c2 xs2 :: L)) : Sat w0 w (Rws (ARow T e [((a1, n1, c1) : SlV), (a2, n2, c2)] (fun j => if j = 0 then xs1 else xs2)) 2 :: L) :=
  (show Sat w0 w ([Own T e a1 c1 xs1, Own T e a2 c2 xs2] ++ L) from S).bun
theorem Rd.toI {w : World} {a : Option Addr} {xs : List Nat} (h : Rd tN w a xs) : Rd (tI .i64) w a (xs.map (fun x : Nat => (x : Int))) := by
  refine ⟨fun hl => h.1 (by simpa using hl), fun i x hx j c hc => ?_⟩
  rw [List.getElem?_map] at hx
  cases e : xs[i]? with
  | none => rw [e] at hx; cases hx
  | some y =>
    rw [e] at hx
    simp at hx; subst hx
    exact h.2 i y e j c hc
theorem map_nat_inj {xs ys : List Nat} : xs.map (fun x : Nat => (x : Int)) = ys.map (fun x : Nat => (x : Int)) ↔ xs = ys :=
  ⟨fun h => (List.map_inj_right (f := fun x : Nat => (x : Int)) (fun a b e => Int.ofNat.inj e)).1 h, fun h => by rw [h]⟩
end Go.TL
