/-
  Layer 26 in plain Lean: lists of lists of answers, marked with rows of their own.
-/
import Derived.Test.YticopppiogophaaDoorTv
import Derived.Test.YticopppiogophaaDoorTr
set_option linter.unusedVariables false
set_option linter.unusedSimpArgs false
namespace Go.TL

def upd2 (mk : Nat → Nat → SlV) (n i : Nat) (q : SlV) : Nat → Nat → SlV := fun j k => if j = n ∧ k = i then q else mk j k
theorem upd2_same (mk : Nat → Nat → SlV) (n i : Nat) (q : SlV) : upd2 mk n i q n i = q := by simp [upd2]
theorem upd2_ne {mk : Nat → Nat → SlV} {n i : Nat} {q : SlV} {j k : Nat} (h : ¬ (j = n ∧ k = i)) : upd2 mk n i q j k = mk j k := by simp only [upd2, if_neg h]
theorem mks_upd2 {mk : Nat → Nat → SlV} {n i : Nat} {q : SlV} {j m : Nat} (h : j ≠ n ∨ m ≤ i) : mks (upd2 mk n i q j) 0 m = mks (mk j) 0 m := by
  unfold mks
  refine List.map_congr_left fun k hk => ?_
  have := List.mem_range.1 hk
  exact upd2_ne (by omega)
theorem mks_upd2_snoc (mk : Nat → Nat → SlV) (n i : Nat) (q : SlV) : mks (mk n) 0 i ++ [q] = mks (upd2 mk n i q n) 0 (i + 1) := by
  rw [mks_succ0, mks_upd2 (.inr (Nat.le_refl i)), upd2_same]
theorem midL_upd2 {mk : Nat → Nat → SlV} {n i : Nat} {q : SlV} {xs : List SlV} (h : i < xs.length) : (midL (mk n) xs i).set i q = midL (upd2 mk n i q n) xs (i + 1) := by
  rw [← midL_set _ h, upd2_same]
  have : midL (upd2 mk n i q n) xs i = midL (mk n) xs i := by unfold midL; rw [mks_upd2 (.inr (Nat.le_refl i))]
  rw [this]
theorem wr1_upd2 {mk : Nat → Nat → SlV} {n i : Nat} {q : SlV} {N : Nat → Nat} {fs : Nat → List SlV} : wr1 (upd2 mk n i q) N fs n = wr1 mk N fs n := by
  funext j
  unfold wr1
  by_cases h : j < n
  · rw [if_pos h, if_pos h, mks_upd2 (.inl (by omega))]
  · rw [if_neg h, if_neg h]
theorem AM_upd2 {T : Ty SlV} {e : TypeId} {ps : List SlV} {mk : Nat → Nat → SlV} {n i : Nat} {q : SlV} {N : Nat → Nat} (h : N n ≤ i) : AM T e ps (upd2 mk n i q) N = AM T e ps mk N := by
  unfold AM
  congr 1
  funext j
  by_cases hj : j = n
  · subst hj; exact mks_upd2 (.inr h)
  · exact mks_upd2 (.inl hj)
theorem Grown.upd2 {T : Ty SlV} {mk : Nat → Nat → SlV} {ps : List SlV} {N : Nat → Nat} {Z : Nat → HA} {one more : List SlV} {n i : Nat} {q : SlV} (G : Grown T mk ps N Z one more n) : Grown T (upd2 mk n i q) ps N Z one more n :=
  ⟨fun j h => by rw [mks_upd2 (.inl (by omega))]; exact G.own j h, G.oneL, G.moreL, fun j h => by rw [mks_upd2 (.inl (by omega))]; exact G.oneR j h, fun j h => by rw [mks_upd2 (.inl (by omega))]; exact G.moreR j h⟩
theorem HasRow.upd2 {mk : Nat → Nat → SlV} {n i : Nat} {e : TypeId} {b : Nat} {P : HA} {j k : Nat} (h : ¬ (j = n ∧ k = i) → HasRow P (mk j k) [numM j k]) : HasRow (Bun [Own (tI .i64) e (some ⟨b, 0, none⟩) 1 [numM n i], P]) (upd2 mk n i (some ⟨b, 0, none⟩, 1, 1) j k) [numM j k] := by
  by_cases hh : j = n ∧ k = i
  · obtain ⟨rfl, rfl⟩ := hh
    rw [upd2_same]; exact HasRow.own1 rfl
  · rw [upd2_ne hh]; exact (h hh).up
/-- Own rows of one length, as a list of lists of owned rows -/
theorem Sat.cel1 {w0 w : World} {L : List HA} {b : Nat} {e : TypeId} {x : Int} (S : Sat w0 w (Cel b [.int .i64 x] e :: L)) : Sat w0 w (Own (tI .i64) e (some ⟨b, 0, none⟩) 1 [x] :: L) :=
  S.imp 0 rfl (fun _ o => Own.one (T := tI .i64) (x := x) o)
/-- Own rows gather -/
theorem Sat.rwsSnoc {w0 w : World} {L : List HA} {A : Nat → HA} {k : Nat} (S : Sat w0 w (A k :: Rws A k :: L)) : Sat w0 w (Rws A (k + 1) :: L) := by
  have S1 : Sat w0 w (Bun ((List.range k).map A) :: A k :: L) := S.pk (.cons 1 rfl (.refl _))
  have S2 := S1.unbun
  have S3 : Sat w0 w (((List.range k).map A ++ [A k]) ++ L) := by rw [List.append_assoc]; exact S2
  have e : (List.range k).map A ++ [A k] = (List.range (k + 1)).map A := by simp [List.range_succ]
  rw [e] at S3
  exact S3.bun
theorem ARow_ext {T : Ty Int} {e : TypeId} {ps qs : List SlV} {g : Nat → List Int} {k : Nat} (h : ∀ j, j < k → ps.getD j sl0 = qs.getD j sl0) : Rws (ARow T e ps g) k = Rws (ARow T e qs g) k := by
  unfold Rws
  congr 1
  exact List.map_congr_left fun j hj => by
    have := h j (List.mem_range.1 hj)
    simp only [ARow, this]
theorem Sat.arSnoc {w0 w : World} {L : List HA} {T : Ty Int} {e : TypeId} {ps : List SlV} {g : Nat → List Int} {a : Option Addr} {n c : Nat} (S : Sat w0 w (Own T e a c (g ps.length) :: Rws (ARow T e ps g) ps.length :: L)) : Sat w0 w (Rws (ARow T e (ps ++ [(a, n, c)]) g) (ps ++ [(a, n, c)]).length :: L) := by
  have hg : ∀ j, j < ps.length → ps.getD j sl0 = (ps ++ [((a, n, c) : SlV)]).getD j sl0 := fun j hj => by
    rw [List.getD_eq_getElem?_getD, List.getD_eq_getElem?_getD, List.getElem?_append_left hj]
  have hk : (ps ++ [((a, n, c) : SlV)]).getD ps.length sl0 = (a, n, c) := by
    rw [List.getD_eq_getElem?_getD, List.getElem?_append_right (Nat.le_refl _)]; simp
  rw [ARow_ext hg] at S
  rw [List.length_append, List.length_singleton]
  refine Sat.rwsSnoc ?_
  have e1 : ARow T e (ps ++ [((a, n, c) : SlV)]) g ps.length = Own T e a c (g ps.length) := by simp only [ARow, hk]
  rw [e1]; exact S
theorem Sat.arNil {w0 w : World} {L : List HA} {T : Ty Int} {e : TypeId} {g : Nat → List Int} (S : Sat w0 w L) : Sat w0 w (Rws (ARow T e [] g) ([] : List SlV).length :: L) := S.bun (M := [])
/-- two lists of owned rows as one -/
theorem Rws_append {A B : Nat → HA} {k m : Nat} {w0 w : World} {L : List HA} (S : Sat w0 w (Rws A k :: Rws B m :: L)) : Sat w0 w (Rws (fun j => if j < k then A j else B (j - k)) (k + m) :: L) := by
  have S1 : Sat w0 w ((List.range k).map A ++ (Rws B m :: L)) := S.unbun
  have S2 : Sat w0 w (Rws B m :: ((List.range k).map A ++ L)) := S1.perm List.perm_middle
  have S3 : Sat w0 w ((List.range m).map B ++ ((List.range k).map A ++ L)) := S2.unbun
  have S4 : Sat w0 w (((List.range k).map A ++ (List.range m).map B) ++ L) := S3.perm (by
    rw [← List.append_assoc]; exact List.Perm.append_right _ List.perm_append_comm)
  have e : (List.range k).map A ++ (List.range m).map B = (List.range (k + m)).map (fun j => if j < k then A j else B (j - k)) := by
    rw [List.range_add, List.map_append]
    congr 1
    · exact List.map_congr_left fun j hj => by simp only [if_pos (List.mem_range.1 hj)]
    · rw [List.map_map]
      refine List.map_congr_left fun j _ => ?_
      simp only [Function.comp]
      rw [if_neg (by omega)]
      congr 1; omega
  rw [e] at S4
  exact S4.bun
theorem Sat.rwsTake {w0 w : World} {L : List HA} {A : Nat → HA} {k m : Nat} (S : Sat w0 w (Rws A k :: L)) (h : m ≤ k) : Sat w0 w (Rws A m :: L) := by
  have e : (List.range k).map A = (List.range m).map A ++ (List.range (k - m)).map (fun j => A (m + j)) := by
    have : k = m + (k - m) := by omega
    conv => lhs; rw [this, List.range_add, List.map_append]
    simp
  have S1 := S.unbun
  rw [e] at S1
  have S2 : Sat w0 w ((List.range (k - m)).map (fun j => A (m + j)) ++ ((List.range m).map A ++ L)) := S1.perm (by
    rw [← List.append_assoc]; exact List.Perm.append_right _ List.perm_append_comm)
  exact (S2.bun.tl).bun
/-- the first so many of two lists of rows -/
theorem Sat.rowsBoth {w0 w : World} {L : List HA} {T : Ty Int} {e : TypeId} {ps qs : List SlV} {f : Nat → List Int} (m : Nat) (hm : m ≤ ps.length + qs.length) (S : Sat w0 w (Rws (ARow T e ps f) ps.length :: Rws (ARow T e qs f) qs.length :: L)) :
    Sat w0 w (Rws (ARow T e ((ps ++ qs).take m) (fun j => if j < ps.length then f j else f (j - ps.length))) ((ps ++ qs).take m).length :: L) := by
  have S1 := (Rws_append S).rwsTake hm
  have hl : ((ps ++ qs).take m).length = m := by rw [List.length_take, List.length_append]; omega
  rw [hl]
  have e1 : Rws (fun j => if j < ps.length then ARow T e ps f j else ARow T e qs f (j - ps.length)) m = Rws (ARow T e ((ps ++ qs).take m) (fun j => if j < ps.length then f j else f (j - ps.length))) m := by
    unfold Rws
    congr 1
    refine List.map_congr_left fun j hj => ?_
    have hjm := List.mem_range.1 hj
    simp only [ARow, List.getD_eq_getElem?_getD, List.getElem?_take, if_pos hjm]
    by_cases h : j < ps.length
    · simp only [if_pos h, List.getElem?_append_left h]
    · simp only [if_neg h]
      rw [List.getElem?_append_right (by omega)]
  rw [e1] at S1; exact S1
theorem take_add {α : Type} (ps qs : List α) (m : Nat) : (ps.take m ++ qs.take m).take m = (ps ++ qs).take m := by
  rw [List.take_append, List.take_append, List.length_take, List.take_take, List.take_take, Nat.min_self]
  by_cases h : ps.length ≤ m
  · rw [Nat.min_eq_right h]; congr 2; omega
  · rw [show min m ps.length = m by omega]
    have : m - ps.length = 0 := by omega
    rw [this, Nat.sub_self]
    simp
section
variable {P : Program} {f : Fm} {w : World} {d : Option Nat} {ty : TypeId} {pos : String} {aft : Array Edge} {g : Option (Nat × Bool)}
theorem Y.sliceAr {t e : TypeId} {m sz : Nat} {X H M : Operand} {a : Addr} {h : Nat} {k k' : IntKind} (hu : P.underlying t = some (.array m e)) (hs : ∀ w, (sizeOf e).run P w = .ok sz w) (hx : ev f X = .pointer (some a)) (hh : ev f H = .int k (h : Int)) (hm : ev f M = .int k' (h : Int)) (hc : h ≤ m) : Yl P ⟨d, .slice t X none (some H) (some M), ty, pos, aft, g⟩ f w (.slice (some a) h h) := by
  unfold Yl
  have ha : a.add 0 = a := rfl
  simp [execOp, hx, hm, hh, Instr.sliceAt, run_underlying hu, Instr.sliceBounds, Instr.sliceBound, asIntOf, hc, hs w, Instr.sureAddr, ha]
end
theorem clk_rd {w0 w : World} {L : List HA} {b : Nat} {e : TypeId} {c : Clk} {n : Nat} (S : Sat w0 w L) (i : Nat) (hi : L[i]? = some (Cel b (clkL 64 c) e)) (hn : n ≤ 64) : Rd (tI .i64) w (some ⟨b, 0, none⟩) (rowN n c) := by
  refine ⟨fun _ => rfl, fun k x hx j v hv => ?_⟩
  have hk : k < n := by have := at_lt hx; rw [rowN_len] at this; exact this
  rw [rowN_at c hk] at hx
  cases hx
  have hj : j = 0 := by
    have := at_lt hv
    simp [tI] at this; exact this
  subst hj
  have hv2 : Value.int .i64 (c k) = v := by simpa [tI] using hv
  subst hv2
  have h1 : (tI .i64).n = 1 := rfl
  simp only [el, Option.getD_some, addLit, Nat.zero_add, h1, Nat.mul_one, Nat.add_zero]
  exact S.cell i hi k (clkL_at c (by omega))
theorem take_snoc400 {α : Type} (A : List α) (q : α) (m : Nat) : (A ++ [q]).take m = if (A.take m).length < m then A.take m ++ [q] else A.take m := by
  rw [List.length_take]
  by_cases h : A.length < m
  · rw [if_pos (by omega), List.take_of_length_le (by simp; omega), List.take_of_length_le (by omega)]
  · rw [if_neg (by omega), List.take_append_of_le_length (by omega)]
theorem take_more {α : Type} (A B : List α) (m i : Nat) (h : B.length ≤ i ∨ m ≤ i) : (A ++ B.take i).take m = (A ++ B).take m := by
  rcases h with h | h
  · rw [List.take_of_length_le h]
  · rw [List.take_append, List.take_append, List.take_take]
    congr 2; omega
theorem set_same {l : List Value} {i : Nat} {v : Value} (h : l[i]? = some v) : l.set i v = l := by
  refine List.ext_getElem? fun j => ?_
  rw [List.getElem?_set]
  by_cases e : i = j
  · subst e
    have := at_lt h
    rw [if_pos rfl, if_pos this, h]
  · rw [if_neg e]
def clksP (l : List Access) : Nat := if mayOk l then l.length else 0
def clksR (l : List Access) (j : Nat) : List Int := rowN (mayN l).toNat (clkAt l j)
theorem clksR_len (l : List Access) (j : Nat) : (clksR l j).length = (mayN l).toNat := rowN_len _ _
theorem mayN_64 (l : List Access) : (mayN l).toNat ≤ 64 := by
  cases h : mayOk l with
  | true => have := mayN_bd h; omega
  | false => unfold mayN; rw [h]; simp
theorem clk_one (c : Clk) : (clkL 64 c).all Value.oneCell' = true := List.all_eq_true.2 fun u hu => tClock.one c u hu
theorem lset_clk (c : Clk) : lset (List.replicate 64 (Value.int .i64 0)) 0 (clkL 64 c) = clkL 64 c := by
  unfold lset
  rw [List.take_zero, List.nil_append, List.drop_eq_nil_of_le (by rw [clkL_len, List.length_replicate]; exact Nat.le_refl _), List.append_nil]
theorem ar_reads {T : Ty Int} {e : TypeId} {xs : List SlV} {g : Nat → List Int} {j : Nat} {p : SlV} (h : xs[j]? = some p) : Reads (Rws (ARow T e xs g) xs.length) T p.1 (g j) := by
  refine Reads.rws (at_lt h) ?_
  unfold ARow
  rw [getD_at h]
  exact Reads.own _ _ _ _ _
theorem ints_take {xs ys : List SlV} : ((([] : List SlV) ++ xs).take 400 ++ ys).take 400 = (xs ++ ys).take (min 400 (xs.length + ys.length)) := by
  rw [List.nil_append]
  have h1 : (xs.take 400 ++ ys).take 400 = (xs ++ ys).take 400 := by
    rw [List.take_append, List.take_append, List.take_take, Nat.min_self, List.length_take]
    by_cases h : xs.length ≤ 400
    · rw [Nat.min_eq_right h]
    · rw [show 400 - min 400 xs.length = 0 by omega, show 400 - xs.length = 0 by omega]
  rw [h1, List.take_eq_take_min, List.length_append]
theorem ints_ok {xs ys : List SlV} {n m : Nat} {f : Nat → List Int} (hx : ∀ q ∈ xs, q.2.1 = n) (hy : ∀ q ∈ ys, q.2.1 = n) (hf : ∀ j, (f j).length = n) (hn : n ≤ 1048576) : ∀ j, j < ((xs ++ ys).take m).length → (((xs ++ ys).take m).getD j sl0).2.1 = (fun _ => n) j ∧ ((fun j => if j < xs.length then f j else f (j - xs.length)) j).length = (fun _ => n) j ∧ (fun _ => n) j ≤ 1048576 := by
  intro j hj
  obtain ⟨q, hq⟩ := at_ex hj
  refine ⟨?_, ?_, hn⟩
  · rw [getD_at hq]
    have := List.mem_of_mem_take (List.mem_of_getElem? hq)
    rcases List.mem_append.1 this with h | h
    · exact hx q h
    · exact hy q h
  · simp only
    split <;> exact hf _
end Go.TL
