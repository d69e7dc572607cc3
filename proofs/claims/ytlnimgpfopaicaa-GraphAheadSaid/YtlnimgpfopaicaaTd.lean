/-
  A library of this claim: structs held against one another, slices that are made and cut, arrays, maps, function values.
-/
import Derived.Test.YtlnimgpfopaicaaTc
set_option linter.unusedVariables false
set_option linter.unusedSimpArgs false
namespace Go.TL
open Go.RowKit

/-! ### '==' on flat structs -/
def EqT {α : Type} [DecidableEq α] (P : Program) (t : TypeId) (T : Ty α) : Prop := P.eqGuardType P.depth t = false ∧ ∀ x y w, (Op.equalIn 10000 t (.agg (T.enc x).toArray) (.agg (T.enc y).toArray)).run P w = .ok (decide (x = y)) w
theorem run_part1 {P : Program} {w : World} {t : TypeId} (h : SzT P t 1 false) (cs : Array Value) (off : Nat) (v : Value) (hv : cs[off]? = some v) : (part t cs off).run P w = .ok v w := by
  simp [part, (h w).1, hv]
theorem eqF_step {P : Program} {w : World} {d : Nat} {xs ys : Array Value} {f : Field} {fs : List Field} {a b : Value} {p q : Bool} (hn : f.name ≠ "_") (hz : SzT P f.type 1 false) (ha : xs[f.offset]? = some a) (hb : ys[f.offset]? = some b) (hab : (Op.equalIn d f.type a b).run P w = .ok p w) (hr : (Op.eqFields d xs ys fs).run P w = .ok q w) :
    (Op.eqFields d xs ys (f :: fs)).run P w = .ok (p && q) w := by
  simp only [Op.eqFields, if_pos hn, Sem.run_bind, run_part1 hz xs _ a ha, run_part1 hz ys _ b hb, Result.andThen_ok, hab]
  cases p <;> simp [hr]

section
variable {P : Program} {f : Fm} {w w0 : World} {L : List HA} {K : Value → World → Prop} {Qp : List PanicEntry → World → Prop} {d : Option Nat} {ty : TypeId} {pos : String} {aft : Array Edge} {g : Option (Nat × Bool)}
theorem Y.eqlA {α : Type} [DecidableEq α] {T : Ty α} {x y : α} {X Y : Operand} {t t' : TypeId} (hE : EqT P t T) (hx : ev f X = .agg (T.enc x).toArray) (hy : ev f Y = .agg (T.enc y).toArray) : Yl P ⟨d, .binOp .eql t X Y t', ty, pos, aft, g⟩ f w (.bool (decide (x = y))) := by
  unfold Yl
  simp [execOp, hx, hy, run_eqGuard_agg w .eql t X Y _ _ hE.1, run_eql_struct, hE.2]
theorem Y.neqA {α : Type} [DecidableEq α] {T : Ty α} {x y : α} {X Y : Operand} {t t' : TypeId} (hE : EqT P t T) (hx : ev f X = .agg (T.enc x).toArray) (hy : ev f Y = .agg (T.enc y).toArray) : Yl P ⟨d, .binOp .neq t X Y t', ty, pos, aft, g⟩ f w (.bool (!decide (x = y))) := by
  unfold Yl
  simp [execOp, hx, hy, run_eqGuard_agg w .neq t X Y _ _ hE.1, run_neq_struct, hE.2]

/-! ### slices: make, cut, against nil -/
@[irreducible] def sla (a : Option Addr) (l cap n : Nat) : Option Addr := if cap = l then a else a.map (·.add (l * n))
theorem addAdd (a : Addr) (i j : Nat) (h : a.spot = none) : (a.add i).add j = a.add (i + j) := by
  obtain ⟨b, o, s⟩ := a
  simp at h; subst h
  simp [addLit, Nat.add_assoc]
theorem Rd.pre {α : Type} {T : Ty α} {a : Option Addr} {xs ys : List α} (h : Rd T w a (xs ++ ys)) : Rd T w a xs := by
  refine ⟨fun hp => h.1 (by rw [List.length_append]; omega), fun i x hx j c hc => h.2 i x ?_ j c hc⟩
  rw [List.getElem?_append_left (List.getElem?_eq_some_iff.1 hx).1]; exact hx
theorem Rd.take {α : Type} {T : Ty α} {a : Option Addr} {xs : List α} (h : Rd T w a xs) (k : Nat) : Rd T w a (xs.take k) := by
  rw [← List.take_append_drop k xs] at h
  exact h.pre
theorem Y.sliceH {t e : TypeId} {n bytes : Nat} {X H : Operand} {a : Option Addr} {len cap h : Nat} {k : IntKind} (hT : SlT P t e n bytes) (hx : ev f X = .slice a len cap) (hh : ev f H = .int k (h : Int)) (hc : h ≤ cap) : Yl P ⟨d, .slice t X none (some H) none, ty, pos, aft, g⟩ f w (.slice a h cap) := by
  obtain ⟨ii, z, h2, h3, h4, h5, _⟩ := hT.info
  unfold Yl
  have hc' : (0 : Int) ≤ (h : Int) ∧ (h : Int) ≤ (cap : Int) := ⟨by omega, by omega⟩
  have ha : (a.map fun x => x.add 0) = a := by cases a <;> rfl
  simp [execOp, hx, hh, Instr.sliceAt, Instr.slice, run_underlying hT.under, Instr.sliceBounds, Instr.sliceBound, asIntOf, hc, sizeOf, typeInfo, h2, ha]
theorem Y.sliceL {t e : TypeId} {n bytes : Nat} {X H : Operand} {a : Option Addr} {len cap l : Nat} {k : IntKind} (hT : SlT P t e n bytes) (hx : ev f X = .slice a len cap) (hh : ev f H = .int k (l : Int)) (hc : l ≤ len) : Yl P ⟨d, .slice t X (some H) none none, ty, pos, aft, g⟩ f w (.slice (sla a l cap n) (len - l) (cap - l)) := by
  obtain ⟨ii, z, h2, h3, h4, h5, _⟩ := hT.info
  unfold Yl
  simp [execOp, hx, hh, Instr.sliceAt, Instr.slice, run_underlying hT.under, Instr.sliceBounds, Instr.sliceBound, asIntOf, hc, sizeOf, typeInfo, h2, h4, sla]
theorem Y.sliceLH {t e : TypeId} {n bytes : Nat} {X I H : Operand} {a : Option Addr} {len cap l h : Nat} {k k' : IntKind} (hT : SlT P t e n bytes) (hx : ev f X = .slice a len cap) (hl : ev f I = .int k (l : Int)) (hh : ev f H = .int k' (h : Int)) (h1 : l ≤ h) (hc : h ≤ cap) : Yl P ⟨d, .slice t X (some I) (some H) none, ty, pos, aft, g⟩ f w (.slice (sla a l cap n) (h - l) (cap - l)) := by
  obtain ⟨ii, z, h2, h3, h4, h5, _⟩ := hT.info
  unfold Yl
  simp [execOp, hx, hl, hh, Instr.sliceAt, Instr.slice, run_underlying hT.under, Instr.sliceBounds, Instr.sliceBound, asIntOf, h1, hc, sizeOf, typeInfo, h2, h4, sla]
theorem Y.sliceHM {t e : TypeId} {n bytes : Nat} {X H M : Operand} {a : Option Addr} {len cap h m : Nat} {k k' : IntKind} (hT : SlT P t e n bytes) (hx : ev f X = .slice a len cap) (hh : ev f H = .int k (h : Int)) (hm : ev f M = .int k' (m : Int)) (h1 : h ≤ m) (hc : m ≤ cap) : Yl P ⟨d, .slice t X none (some H) (some M), ty, pos, aft, g⟩ f w (.slice a h m) := by
  obtain ⟨ii, z, h2, h3, h4, h5, _⟩ := hT.info
  unfold Yl
  have ha : (a.map fun x => x.add 0) = a := by cases a <;> rfl
  simp [execOp, hx, hm, hh, Instr.sliceAt, Instr.slice, run_underlying hT.under, Instr.sliceBounds, Instr.sliceBound, asIntOf, h1, hc, sizeOf, typeInfo, h2, ha]
theorem run_equal_sliceR {t e : TypeId} (hu : P.underlying t = some (.slice e)) (a : Option Addr) (n c : Nat) : (Op.equal t (.slice a n c) (.slice none 0 0)).run P w = .ok a.isNone w := by
  show (Op.equalIn (9999 + 1) t _ _).run P w = _
  unfold Op.equalIn
  cases a <;> simp [run_underlying hu]
theorem Y.eqNilS {t e : TypeId} {X Y : Operand} {t' : TypeId} {a : Option Addr} {n c : Nat} (hu : P.underlying t = some (.slice e)) (hx : ev f X = .slice a n c) (hy : ev f Y = .slice none 0 0) : Yl P ⟨d, .binOp .eql t X Y t', ty, pos, aft, g⟩ f w (.bool a.isNone) := by
  unfold Yl; simp [execOp, hx, hy, eqGuard, binOp, run_equal_sliceR hu]
theorem Y.neNilS {t e : TypeId} {X Y : Operand} {t' : TypeId} {a : Option Addr} {n c : Nat} (hu : P.underlying t = some (.slice e)) (hx : ev f X = .slice a n c) (hy : ev f Y = .slice none 0 0) : Yl P ⟨d, .binOp .neq t X Y t', ty, pos, aft, g⟩ f w (.bool (!a.isNone)) := by
  unfold Yl; simp [execOp, hx, hy, eqGuard, binOp, run_equal_sliceR hu]

theorem madeAll {α : Type} (T : Ty α) (z : α) (zc : Array Value) (hz : zc = (T.enc z).toArray) (c : Nat) (h0 : 0 < T.n) : (madeCells zc (c * T.n)).toList = T.all (List.replicate c z) := by
  apply List.ext_getElem?
  intro j
  have hl : (T.all (List.replicate c z)).length = c * T.n := by rw [T.all_len, List.length_replicate]
  by_cases hj : j < c * T.n
  · have hq : j / T.n < c := (Nat.div_lt_iff_lt_mul h0).2 hj
    have hm : j % T.n < T.n := Nat.mod_lt _ h0
    have e1 : (List.replicate c z)[j / T.n]? = some z := by simp [hq]
    have e2 : (T.enc z)[j % T.n]? = some ((T.enc z)[j % T.n]'(by rw [T.len]; exact hm)) := List.getElem?_eq_getElem _
    have e3 := Ty.all_at T _ _ _ e1 _ _ e2
    have e4 : j / T.n * T.n + j % T.n = j := by rw [Nat.mul_comm]; exact Nat.div_add_mod j T.n
    rw [e4] at e3
    rw [e3]
    subst hz
    have hs : (T.enc z).length = T.n := T.len z
    simp [madeCells, hj, hs, hm]
  · rw [List.getElem?_eq_none (by rw [Array.length_toList, size_madeCells]; omega), List.getElem?_eq_none (by omega)]
theorem O.makeSlice {α : Type} {T : Ty α} {t e : TypeId} {bytes : Nat} {X Y : Operand} {k k' : IntKind} {l c : Nat} (z : α) (hT : SlT P t e T.n bytes) (hz : ∃ i zv, P.info? e = some i ∧ i.zero = some zv ∧ zv.cells = (T.enc z).toArray) (S : Sat w0 w L) (hx : ev f X = .int k (l : Int)) (hy : ev f Y = .int k' (c : Int)) (hlc : l ≤ c) (hb : bytes * c ≤ 281474976710656) (hm : c ≤ maxLen)
    (h : ∀ b w', Sat w0 w' (Own T e (some ⟨b, 0, none⟩) c (List.replicate l z) :: L) → K (.slice (some ⟨b, 0, none⟩) l c) w') : OpK P ⟨d, .makeSlice t X Y, ty, pos, aft, g⟩ f w K Qp := by
  obtain ⟨ii, zv', h2, h3, h4, h5, _⟩ := hT.info
  obtain ⟨ii', zv, g2, g3, g4⟩ := hz
  rw [h2] at g2; cases g2
  have hmm : c ≤ 9223372036854775807 := by simp only [maxLen] at hm; omega
  have hr := run_make (P := P) w t e ii zv hT.under h2 g3 k k' l c (by omega) (by omega) (by rw [h5, ← Int.natCast_mul]; omega) (by omega)
  simp only [Int.toNat_natCast, h4] at hr
  refine OpK.val (v := .slice (some ⟨w.heap.size, 0, none⟩) l c) (w' := w.alloc (.cells (madeCells zv.cells (c * T.n)) e)) (by simp [execOp, hx, hy, hr]) (h _ _ ?_)
  have ha := madeAll T z zv.cells g4 c hT.pos
  refine (S.alloc (.cells (madeCells zv.cells (c * T.n)) e (0, 0))).imp (A' := Own T e (some ⟨w.heap.size, 0, none⟩) c (List.replicate l z)) 0 rfl fun x hx => ⟨by rw [T.all_len], .inr ⟨w.heap.size, T.all (List.replicate (c - l) z), rfl, ?_, by simpa using hlc, hm, ?_⟩⟩
  · have e1 : T.all (List.replicate l z) ++ T.all (List.replicate (c - l) z) = T.all (List.replicate c z) := by
      rw [← T.all_append]; congr 1
      rw [List.replicate_append_replicate]; congr 1; omega
    rw [e1, ← ha, Array.toArray_toList]; exact hx
  · refine Nat.le_of_eq (Eq.symm ?_)
    rw [← T.all_append, T.all_len]; simp; congr 1; omega

/-! ### arrays in a block -/
def ArT (P : Program) (t : TypeId) (n e sz : Nat) : Prop := P.underlying t = some (.array n e) ∧ ∀ w, (sizeOf e).run P w = .ok sz w
theorem Y.ixA {t : TypeId} {n e sz : Nat} {X I : Operand} {k : IntKind} {b off : Nat} {i : Int} (hA : ArT P t n e sz) (hx : ev f X = .pointer (some ⟨b, off, none⟩)) (hi : ev f I = .int k i) (h0 : 0 ≤ i) (h1 : i < n) : Yl P ⟨d, .indexAddr t X I, ty, pos, aft, g⟩ f w (.pointer (some ⟨b, off + i.toNat * sz, none⟩)) := by
  unfold Yl
  simp [execOp, hx, hi, Instr.indexAt, asIntOf, run_underlying hA.1, Instr.sureAddr, h0, h1, hA.2 w, addLit]
theorem Ty.all_win {α : Type} (T : Ty α) {xs : List α} {i : Nat} {x : α} (h : xs[i]? = some x) : ((T.all xs).drop (i * T.n)).take T.n = T.enc x := by
  have hl := (List.getElem?_eq_some_iff.1 h).1
  have e : T.all xs = T.all (xs.take i) ++ (T.enc x ++ T.all (xs.drop (i + 1))) := by
    rw [← T.all_one x, ← T.all_append, ← T.all_append]
    congr 1
    have := (List.getElem?_eq_some_iff.1 h).2
    rw [← this]
    simp
  have h1 : (T.all (xs.take i)).length = i * T.n := by rw [T.all_len, List.length_take, Nat.min_eq_left (by omega)]
  rw [e, ← h1, List.drop_left, ← T.len x, List.take_left]
theorem Ty.all_put {α : Type} (T : Ty α) {xs : List α} {i : Nat} (y : α) (h : i < xs.length) : lset (T.all xs) (i * T.n) (T.enc y) = T.all (xs.set i y) := by
  have := T.all_set xs i y [] h
  simpa using this
end
end Go.TL
