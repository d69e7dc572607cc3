/-
  Rows of ints that the library sorts: its contract's words (Holds, putRow, ahead, grow) turned into owned rows.
-/
import Derived.Test.YtlnimgpfopaicaaGf
import Derived.Sort.Row
import Derived.Sort.Grow
import Derived.Lib.RowBridge
set_option linter.unusedVariables false
set_option linter.unusedSimpArgs false
namespace Go.TL
open Go.RowKit Go.Sort

theorem all_ints (zs : List Int) : (tI .i64).all zs = zs.map (Value.int .i64) := tI_all .i64 zs
theorem putCells_ints (zs ys : List Int) (sp : List Value) (h : ys.length = zs.length) : putCells (Value.int .i64) 0 ys.toArray (zs.map (Value.int .i64) ++ sp).toArray = (ys.map (Value.int .i64) ++ sp).toArray := by
  apply Array.ext_getElem?
  intro k
  simp only [putCells, Array.getElem?_mapIdx, List.getElem?_toArray, List.size_toArray, Nat.zero_le, true_and, Nat.zero_add, Nat.sub_zero]
  by_cases hk : k < ys.length
  · rw [List.getElem?_append_left (by simp; omega), List.getElem?_append_left (by simp; omega)]
    simp only [List.getElem?_map, List.getElem?_eq_getElem (show k < zs.length by omega), List.getElem?_eq_getElem hk, Option.map_some, if_pos hk]
    congr 2
    rw [getElem!_pos _ k (by simpa using hk)]
    simp
  · rw [List.getElem?_append_right (by simp; omega), List.getElem?_append_right (by simp; omega)]
    simp only [List.length_map, h, if_neg hk]
    have h3 : ¬ k < zs.length := by omega
    cases sp[k - zs.length]? with
    | none => rfl
    | some v => simp [h3]
theorem Ext.grow (w : World) (os : Array Obj) : Ext w (Go.Sort.grow w os) := by
  refine ⟨rfl, rfl, rfl, ?_, fun k hk => ?_⟩
  · simp [Go.Sort.grow]
  · simp [Go.Sort.grow, Array.getElem?_append_left hk]
/-- an owned row's block, opened -/
theorem Sat.openInts {w0 w : World} {L : List HA} {e : TypeId} {g cap : Nat} {zs : List Int} (S : Sat w0 w (Own (tI .i64) e (some ⟨g, 0, none⟩) cap zs :: L)) : ∃ sp : List Value, zs.length ≤ cap ∧ cap ≤ maxLen ∧ cap ≤ (zs.map (Value.int .i64) ++ sp).length ∧ Sat w0 w (Cel g (zs.map (Value.int .i64) ++ sp) e :: L) := by
  have h1 : Sat w0 w ((fun x => ∃ sp : List Value, (fun x => (zs.length ≤ cap ∧ cap ≤ maxLen ∧ cap ≤ (zs.map (Value.int .i64) ++ sp).length) ∧ Cel g (zs.map (Value.int .i64) ++ sp) e x) x) :: L) :=
    S.imp 0 rfl fun x hx => by
      obtain ⟨hl, hx | ⟨g', sp, e1, h1, h2, h3, h4⟩⟩ := hx
      · cases hx.1
      · cases e1
        rw [all_ints] at h1 h4
        exact ⟨sp, ⟨h2, h3, by simpa [tI] using h4⟩, h1⟩
  obtain ⟨sp, h2⟩ := h1.ex
  obtain ⟨a, b, c⟩ := h2.fact 0 rfl fun x hx => hx.1
  exact ⟨sp, a, b, c, h2.imp 0 rfl fun x hx => hx.2⟩
theorem Sat.shutInts {w0 w : World} {L : List HA} {e : TypeId} {g cap : Nat} {zs : List Int} {sp : List Value} (h1 : zs.length ≤ cap) (h2 : cap ≤ maxLen) (h3 : cap ≤ (zs.map (Value.int .i64) ++ sp).length) (S : Sat w0 w (Cel g (zs.map (Value.int .i64) ++ sp) e :: L)) : Sat w0 w (Own (tI .i64) e (some ⟨g, 0, none⟩) cap zs :: L) :=
  S.imp 0 rfl fun x hx => ⟨by rw [Ty.all_len], .inr ⟨g, sp, rfl, by rw [all_ints]; exact hx, h1, h2, by rw [all_ints]; simpa [tI] using h3⟩⟩
theorem Sat.putInts0 {w0 w : World} {L : List HA} {e : TypeId} {g cap n : Nat} {zs ys : List Int} (S : Sat w0 w (Own (tI .i64) e (some ⟨g, 0, none⟩) cap zs :: L)) (h : ys.length = zs.length) : Sat w0 (putRow (Value.int .i64) (Go.Sort.ahead w n) g 0 ys.toArray) (Own (tI .i64) e (some ⟨g, 0, none⟩) cap ys :: L) := by
  obtain ⟨sp, h1, h2, h3, S⟩ := S.openInts
  have hb := (S.blk 0 rfl).1
  refine Sat.shutInts (sp := sp) (by omega) h2 (by simpa [h] using h3) ?_
  have S2 := (S.drewN n).setBlk 0 rfl (o' := .cells (ys.map (Value.int .i64) ++ sp).toArray e (0, 0))
  have : putRow (Value.int .i64) (Go.Sort.ahead w n) g 0 ys.toArray = { w.drewN n with heap := (w.drewN n).heap.setIfInBounds g (.cells (ys.map (Value.int .i64) ++ sp).toArray e (0, 0)) } := by
    unfold putRow mapBlock
    show World.mk .. = World.mk ..
    congr 1
    apply Array.ext_getElem?
    intro i
    by_cases hi : i = g
    · subst hi
      have hlt := (Array.getElem?_eq_some_iff.1 hb).1
      show ((w.heap.modify i _))[i]? = (w.heap.setIfInBounds i _)[i]?
      simp only [Array.getElem?_modify, hb, Array.getElem?_setIfInBounds_self_of_lt hlt, if_true, Option.map_some, onCells, putCells_ints zs ys sp h]
    · show ((w.heap.modify g _))[i]? = (w.heap.setIfInBounds g _)[i]?
      simp [Array.getElem?_modify, Array.getElem?_setIfInBounds_ne (Ne.symm hi), Ne.symm hi]
  rw [this]
  exact S2
theorem Sat.putInts {w0 w : World} {L : List HA} {e : TypeId} {g cap n : Nat} {zs ys : List Int} {os : Array Obj} (S : Sat w0 w (Own (tI .i64) e (some ⟨g, 0, none⟩) cap zs :: L)) (h : ys.length = zs.length) : Sat w0 (Go.Sort.grow (putRow (Value.int .i64) (Go.Sort.ahead w n) g 0 ys.toArray) os) (Own (tI .i64) e (some ⟨g, 0, none⟩) cap ys :: L) := Sat.keep (S.putInts0 h) (Ext.grow _ os)
theorem Sat.holdsInts {w0 w : World} {L : List HA} {e : TypeId} {g cap : Nat} {zs : List Int} (S : Sat w0 w (Own (tI .i64) e (some ⟨g, 0, none⟩) cap zs :: L)) : Holds (Value.int .i64) w g 0 zs.toArray ∧ g < w.heap.size := by
  obtain ⟨sp, h1, h2, h3, S⟩ := S.openInts
  have hb := (S.blk 0 rfl).1
  refine ⟨fun j hj => ⟨?_, ?_⟩, (Array.getElem?_eq_some_iff.1 hb).1⟩
  · have hj' : j < zs.length := by simpa using hj
    rw [Nat.zero_add]
    refine blk_cell hb j ?_
    rw [List.getElem?_append_left (by simpa using hj'), List.getElem?_map, List.getElem?_eq_getElem hj', getElem!_pos _ j hj]
    simp
  · simp [World.frozen?, hb]
/-- a row that is cut down to what stands at its head, no room behind it -/
theorem Sat.clip {w0 w : World} {L : List HA} {α : Type} {T : Ty α} {e : TypeId} {a : Option Addr} {cap k : Nat} {xs ys : List α} (S : Sat w0 w (Own T e a cap (xs ++ ys) :: L)) (hk : k = xs.length) : Sat w0 w (Own T e a k xs :: L) :=
  S.imp 0 rfl fun x hx => by
    subst hk
    obtain ⟨hl, ⟨h1, h2, h3⟩ | ⟨g, sp, rfl, hg, h1, h2, h3⟩⟩ := hx
    · rw [List.length_append] at h3
      have : xs = [] := List.eq_nil_of_length_eq_zero (by omega)
      subst this
      exact ⟨by simp [Ty.all], .inl ⟨h1, rfl, rfl⟩⟩
    · rw [List.length_append] at h1
      refine ⟨by rw [T.all_len], .inr ⟨g, T.all ys ++ sp, rfl, by rw [← List.append_assoc, ← T.all_append]; exact hg, Nat.le_refl _, by omega, ?_⟩⟩
      rw [List.length_append, T.all_len]; omega
end Go.TL
