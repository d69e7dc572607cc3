/-
  A library of this claim: a row of numbers of its own that begins somewhere in its block, and may be cut at both ends.
-/
import Derived.Test.YtlnimgpfopaicaaTs
set_option linter.unusedVariables false
set_option linter.unusedSimpArgs false
namespace Go.TL
open Go.RowKit

def Sub (e : TypeId) (a : Option Addr) (cap : Nat) (xs : List Int) : HA := fun h => (a = none ∧ cap = 0 ∧ xs = []) ∨
  ∃ (g off : Nat) (cs : List Value), a = some ⟨g, off, none⟩ ∧ h g = some (.cells cs.toArray e (0, 0)) ∧ xs.length ≤ cap ∧ cap ≤ maxLen ∧ off + cap ≤ cs.length ∧ (cs.drop off).take xs.length = xs.map (fun x => Value.int .i64 x)
theorem tI_all (k : IntKind) : ∀ xs : List Int, (tI k).all xs = xs.map (fun x => Value.int k x)
  | [] => rfl
  | x :: r => by
    show [Value.int k x] ++ (tI k).all r = _
    rw [tI_all k r]; rfl
theorem Sub.own {e : TypeId} {a : Option Addr} {cap : Nat} {xs : List Int} {h : Hp} (o : Own (tI .i64) e a cap xs h) : Sub e a cap xs h := by
  obtain ⟨hl, ⟨h1, h2, h3⟩ | ⟨g, sp, rfl, hg, h1, h2, h3⟩⟩ := o
  · exact .inl ⟨h1, h2, List.eq_nil_of_length_eq_zero h3⟩
  · refine .inr ⟨g, 0, _, rfl, hg, h1, h2, ?_, ?_⟩
    · have h4 : cap * 1 ≤ _ := h3
      omega
    · rw [List.drop_zero, tI_all]
      have : xs.length = (xs.map (fun x => Value.int .i64 x)).length := by simp
      rw [this, List.take_left]
theorem Sub.one {e : TypeId} {b : Nat} {x : Int} {h : Hp} (o : Cel b [.int .i64 x] e h) : Sub e (some ⟨b, 0, none⟩) 1 [x] h :=
  .inr ⟨b, 0, _, rfl, o, Nat.le_refl _, by simp [maxLen], by simp, rfl⟩
theorem Sub.drop1 {e : TypeId} {a : Option Addr} {cap : Nat} {xs : List Int} {h : Hp} (o : Sub e a cap xs h) (hx : xs ≠ []) : Sub e (sla a 1 cap 1) (cap - 1) (xs.drop 1) h := by
  have hpos : 0 < xs.length := List.length_pos_iff.2 hx
  rcases o with ⟨_, _, rfl⟩ | ⟨g, off, cs, rfl, hg, h1, h2, h3, h4⟩
  · exact absurd rfl hx
  · unfold sla
    by_cases hc : cap = 1
    · rw [if_pos hc]
      refine .inr ⟨g, off, cs, rfl, hg, by rw [List.length_drop]; omega, by omega, by omega, ?_⟩
      have : xs.length = 1 := by omega
      have e1 : xs.drop 1 = [] := List.drop_eq_nil_of_le (by omega)
      rw [e1]; rfl
    · rw [if_neg hc]
      refine .inr ⟨g, off + 1, cs, by simp [addLit], hg, by rw [List.length_drop]; omega, by omega, by omega, ?_⟩
      rw [List.map_drop, ← h4, List.length_drop, List.drop_take, List.drop_drop]
theorem Sub.take {e : TypeId} {a : Option Addr} {cap : Nat} {xs : List Int} {h : Hp} (o : Sub e a cap xs h) (k : Nat) : Sub e a cap (xs.take k) h := by
  rcases o with ⟨h1, h2, rfl⟩ | ⟨g, off, cs, rfl, hg, h1, h2, h3, h4⟩
  · exact .inl ⟨h1, h2, by simp⟩
  · refine .inr ⟨g, off, cs, rfl, hg, by rw [List.length_take]; omega, h2, h3, ?_⟩
    rw [List.map_take, ← h4, List.take_take, List.length_take]
theorem Reads.sub (e : TypeId) (a : Option Addr) (cap : Nat) (xs : List Int) : Reads (Sub e a cap xs) (tI .i64) a xs := fun w h hx m => by
  rcases hx with ⟨h1, h2, rfl⟩ | ⟨g, off, cs, rfl, hg, h1, h2, h3, h4⟩
  · exact Rd.nil _ _ _
  · have hw := m _ _ hg
    refine ⟨fun _ => rfl, fun i x hi j c hc => ?_⟩
    have hj : j = 0 := by
      have := (List.getElem?_eq_some_iff.1 hc).1
      simp [tI] at this; omega
    subst hj
    simp [tI] at hc
    subst hc
    have hil := (List.getElem?_eq_some_iff.1 hi).1
    have e1 : (xs.map (fun x => Value.int .i64 x))[i]? = some (.int .i64 x) := by rw [List.getElem?_map, hi]; rfl
    rw [← h4, List.getElem?_take, if_pos hil, List.getElem?_drop] at e1
    simp only [el, Option.getD_some]
    show w.cell? ((Addr.add ⟨g, off, none⟩ (i * 1)).add 0) = _
    rw [addAdd', Nat.mul_one, Nat.add_zero]
    simp only [addLit, World.cell?, hw, Option.isSome_none, Bool.false_eq_true, if_false, List.getElem?_toArray]
    exact e1
theorem Sat.subLen {w0 w : World} {L : List HA} {e : TypeId} {a : Option Addr} {cap : Nat} {xs : List Int} (S : Sat w0 w L) (i : Nat) (hi : L[i]? = some (Sub e a cap xs)) : xs.length ≤ cap ∧ cap ≤ maxLen :=
  S.fact i hi fun x hx => by
    rcases hx with ⟨h1, h2, rfl⟩ | ⟨g, off, cs, rfl, hg, h1, h2, h3, h4⟩
    · exact ⟨by simp, by rw [h2]; exact Nat.zero_le _⟩
    · exact ⟨h1, h2⟩
theorem Sat.appendSub {P : Program} {w0 w : World} {L : List HA} {t e : TypeId} {a : Option Addr} {cap : Nat} {xs : List Int} {y : Int} (hT : SlT P t e 1 8) (S : Sat w0 w L) (i : Nat) (hi : L[i]? = some (Sub e a cap xs)) (b : Option Addr) (c : Nat) (hr : Rd (tI .i64) w b [y])
    (hm : xs.length ≤ 4096) (ty : TypeId) :
    ∃ a' cap' w', (Builtin.append_ #[t, t] ty #[.slice a xs.length cap, .slice b 1 c]).run P w = .ok (.slice a' (xs.length + 1) cap') w' ∧ Sat w0 w' (L.set i (Sub e a' cap' (xs ++ [y]))) := by
  obtain ⟨ii, z, h2, h3, h4, h5, h6, h7⟩ := hT.info
  have hlen := S.subLen i hi
  obtain ⟨bd, rfl⟩ := Option.isSome_iff_exists.1 (hr.1 (by simp))
  have hcy := Rd.cells (T := tI .i64) Nat.one_pos hr
  have hsrc : Src P ii.size t (.slice (some bd) 1 c) 1 [.int .i64 y] w := Src.ofSlice w hT.under bd 1 c [.int .i64 y] (by rw [h4]; rfl) (by simpa [tI_all] using hcy) (fun u hu => by simp at hu; subst hu; rfl)
  by_cases hroom : xs.length + 1 ≤ cap
  · have hv : ∃ (g off : Nat) (cs : List Value), a = some ⟨g, off, none⟩ ∧ w.heap[g]? = some (.cells cs.toArray e (0, 0)) ∧ off + cap ≤ cs.length ∧ (cs.drop off).take xs.length = xs.map (fun x => Value.int .i64 x) := S.view i hi fun x hx m => by
      rcases hx with ⟨h1, h2, rfl⟩ | ⟨g, off, cs, rfl, hg, h1, h2, h3, h4⟩
      · simp at hroom; omega
      · exact ⟨g, off, cs, rfl, (m _ _ hg).2, h3, h4⟩
    obtain ⟨g, off, cs, rfl, hg, hoc, htk⟩ := hv
    have hin : off + xs.length < cs.length := by omega
    have hrun := run_append_room_src (P := P) w t t ty e ii hT.under h2 g off xs.length cap (.slice (some bd) 1 c) 1 [.int .i64 y] hsrc hroom
      (fun j hj => by
        simp at hj; subst hj
        simp only [World.cell?, hg, h4, Nat.mul_one, Nat.add_zero, Option.isSome_none, Bool.false_eq_true, if_false, List.getElem?_toArray]
        rw [List.getElem?_eq_getElem hin]; rfl)
      (fun j hj => by simp [World.frozen?, hg])
    refine ⟨_, _, _, hrun, ?_⟩
    have e1 : w.setCells g (off + xs.length * ii.size) [.int .i64 y] = { w with heap := w.heap.setIfInBounds g (.cells (cs.set (off + xs.length) (.int .i64 y)).toArray e (0, 0)) } := by
      show w.setCell ⟨g, off + xs.length * ii.size, none⟩ (.int .i64 y) = _
      rw [h4, Nat.mul_one, setCell_heap w g _ _ _ _ _ hg]
      simp
    rw [e1]
    have hgl : g < w.heap.size := (Array.getElem?_eq_some_iff.1 hg).1
    refine S.focus i hi fun h1 a1 m => ⟨fun x => bif Nat.beq x g then some (.cells (cs.set (off + xs.length) (.int .i64 y)).toArray e (0, 0)) else none, ?_, fun x o hx => ?_, rfl, rfl, rfl, by simp, fun x hx hn => ?_⟩
    · refine .inr ⟨g, off, cs.set (off + xs.length) (.int .i64 y), rfl, by simp, by simp; omega, hlen.2, by simpa using hoc, ?_⟩
      apply List.ext_getElem?
      intro j
      rw [List.getElem?_take, List.getElem?_map, List.length_append, List.length_singleton]
      by_cases hj : j < xs.length
      · rw [if_pos (by omega), List.getElem?_drop, List.getElem?_set_ne (by omega), List.getElem?_append_left hj]
        have := congrArg (fun l => l[j]?) htk
        simp only [List.getElem?_take, if_pos hj, List.getElem?_drop, List.getElem?_map] at this
        exact this
      · by_cases hj2 : j = xs.length
        · subst hj2
          rw [if_pos (by omega), List.getElem?_drop, List.getElem?_set_self (by omega), List.getElem?_append_right (by omega)]
          simp
        · rw [if_neg (by omega), List.getElem?_eq_none (by simp; omega)]; rfl
    · cases e2 : Nat.beq x g with
      | false => simp only [e2, cond_false] at hx; cases hx
      | true =>
        simp only [e2, cond_true, Option.some.injEq] at hx
        have := Nat.eq_of_beq_eq_true e2
        subst hx; subst this
        refine ⟨by simp [hgl], .inl ?_⟩
        rcases a1 with ⟨h8, _⟩ | ⟨g', off', cs', h8, hg', _⟩
        · cases h8
        · cases h8; rw [hg']; simp
    · show (w.heap.setIfInBounds g _)[x]? = _
      rw [Array.getElem?_setIfInBounds_ne]
      intro e2
      subst e2
      rcases a1 with ⟨h8, _⟩ | ⟨g', off', cs', h8, hg', _⟩
      · cases h8
      · cases h8; rw [hg'] at hn; cases hn
  · have hold : (Builtin.firstCells ii.size xs.length (.slice a xs.length cap)).run P w.drew = .ok (xs.map (fun x => Value.int .i64 x)).toArray w.drew := by
      have hrd := S.reads i hi (Reads.sub e a cap xs)
      cases a with
      | none =>
        have := hrd.isNil rfl
        subst this
        exact run_firstCells_none w.drew ii.size 0 0 cap
      | some ad =>
        refine run_firstCells_some w.drew ii.size xs.length ad xs.length cap _ (by rw [h4]; simp) ?_
        rw [← tI_all]
        exact Rd.cells (T := tI .i64) (w := w) Nat.one_pos hrd
    have hrun := run_append_grow_src (P := P) w t t ty e ii z hT.under h2 h3 a xs.length cap _ hold (.slice (some bd) 1 c) 1 [.int .i64 y] hsrc (by omega) (by omega) (by rw [h5]; exact growslice_fits (by omega) (by omega))
    refine ⟨_, _, _, hrun, ?_⟩
    have hmx : xs.length + 1 ≤ maxLen := by simp only [maxLen]; omega
    have hge := grownCap_ge w (xs.length + 1) cap e
    have hcm := grownCap_le_maxLen w (xs.length + 1) cap e hmx
    have hz := size_zeroCells z.cells (grownCap w (xs.length + 1) cap e - (xs.length + 1))
    rw [h6] at hz
    refine S.focus i hi fun h1 a1 m => ⟨fun x => bif Nat.beq x w.heap.size then some (.cells ((xs.map (fun x => Value.int .i64 x) ++ [Value.int .i64 y]).toArray ++ Builtin.zeroCells z.cells (grownCap w (xs.length + 1) cap e - (xs.length + 1))) e (0, 0)) else none, ?_, fun x o hx => ?_, rfl, rfl, rfl, ?_, fun x hx _ => ?_⟩
    · refine .inr ⟨w.heap.size, 0, xs.map (fun x => Value.int .i64 x) ++ [Value.int .i64 y] ++ (Builtin.zeroCells z.cells (grownCap w (xs.length + 1) cap e - (xs.length + 1))).toList, rfl, by simp, by simp; exact hge, hcm, ?_, ?_⟩
      · have hz' : (Builtin.zeroCells z.cells (grownCap w (xs.length + 1) cap e - (xs.length + 1))).toList.length = grownCap w (xs.length + 1) cap e - (xs.length + 1) := by rw [Array.length_toList, hz, Nat.mul_one]
        rw [List.length_append, List.length_append, List.length_map, hz']
        simp only [List.length_singleton]; omega
      · rw [List.drop_zero, show (xs ++ [y]).length = (xs.map (fun x => Value.int .i64 x) ++ [Value.int .i64 y]).length by simp, List.take_left]; simp
    · cases e2 : Nat.beq x w.heap.size with
      | false => simp only [e2, cond_false] at hx; cases hx
      | true =>
        simp only [e2, cond_true, Option.some.injEq] at hx
        have := Nat.eq_of_beq_eq_true e2
        subst hx; subst this
        exact ⟨by show (w.heap.push _)[w.heap.size]? = _; simp, .inr (Nat.le_refl _)⟩
    · show w.heap.size ≤ (w.heap.push _).size; simp
    · show (w.heap.push _)[x]? = _
      rw [Array.getElem?_push, if_neg (by omega)]
section
variable {P : Program} {f : Fm} {w w0 : World} {L : List HA} {K : Value → World → Prop} {Qp : List PanicEntry → World → Prop} {d : Option Nat} {ty : TypeId} {pos : String} {aft : Array Edge} {g : Option (Nat × Bool)}
theorem O.appendSub {t e : TypeId} {a b : Option Addr} {cap c n : Nat} {xs : List Int} {y : Int} {X Y : Operand} (i : Nat) (hT : SlT P t e 1 8) (S : Sat w0 w L) (hx : ev f X = .slice a n cap) (hi : L[i]? = some (Sub e a cap xs)) (hn : n = xs.length) (hy : ev f Y = .slice b 1 c) (hr : Rd (tI .i64) w b [y]) (hm : xs.length ≤ 4096)
    (h : ∀ a' cap' w', Sat w0 w' (L.set i (Sub e a' cap' (xs ++ [y]))) → K (.slice a' (xs ++ [y]).length cap') w') : OpK P ⟨d, .call { callee := .builtin .append, args := #[X, Y], argTypes := #[t, t] }, ty, pos, aft, g⟩ f w K Qp := by
  subst hn
  obtain ⟨a', cap', w', hrun, hS⟩ := S.appendSub hT i hi b c hr hm ty
  refine OpK.val (v := .slice a' (xs.length + 1) cap') (w' := w') ?_ (by have := h a' cap' w' hS; simpa using this)
  simp [execOp, resolve, invoke, builtin, hx, hy, hrun]
end
end Go.TL
