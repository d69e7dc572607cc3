/-
  A library of this claim: one lemma for each kind of operation, over owned memory.
-/
import Derived.Test.YtlnimgpfopaicaaTb
set_option linter.unusedVariables false
set_option linter.unusedSimpArgs false
namespace Go.TL
open Go.RowKit

/-! ### Types -/
/-- How a value of a type lies in cells. -/
structure Ty (α : Type) where
  n : Nat
  enc : α → List Value
  len : ∀ x, (enc x).length = n
  one : ∀ x, ∀ u ∈ enc x, u.oneCell' = true
def Ty.all {α : Type} (T : Ty α) (xs : List α) : List Value := xs.flatMap T.enc
theorem Ty.all_len {α : Type} (T : Ty α) (xs : List α) : (T.all xs).length = xs.length * T.n := by
  induction xs with
  | nil => simp [Ty.all]
  | cons x xs ih => simp only [Ty.all, List.flatMap_cons, List.length_append, List.length_cons, T.len] at ih ⊢; rw [ih, Nat.add_mul]; omega
theorem Ty.all_append {α : Type} (T : Ty α) (xs ys : List α) : T.all (xs ++ ys) = T.all xs ++ T.all ys := by simp [Ty.all]
theorem Ty.all_one {α : Type} (T : Ty α) (x : α) : T.all [x] = T.enc x := by simp [Ty.all]
theorem Ty.all_at {α : Type} (T : Ty α) : ∀ (xs : List α) (i : Nat) (x : α), xs[i]? = some x → ∀ j c, (T.enc x)[j]? = some c → (T.all xs)[i * T.n + j]? = some c := by
  intro xs
  induction xs with
  | nil => intro i x hx; simp at hx
  | cons y xs ih =>
    intro i x hx j c hc
    cases i with
    | zero =>
      simp at hx; subst hx
      simp only [Ty.all, List.flatMap_cons, Nat.zero_mul, Nat.zero_add]
      rw [List.getElem?_append_left (by have := (List.getElem?_eq_some_iff.1 hc).1; exact this)]
      exact hc
    | succ i =>
      have := ih i x (by simpa using hx) j c hc
      simp only [Ty.all, List.flatMap_cons] at this ⊢
      rw [List.getElem?_append_right (by rw [T.len, Nat.add_mul]; omega), T.len, ← this]
      congr 1
      rw [Nat.add_mul]; omega
theorem Ty.all_set {α : Type} (T : Ty α) : ∀ (xs : List α) (i : Nat) (y : α) (r : List Value), i < xs.length → lset (T.all xs ++ r) (i * T.n) (T.enc y) = T.all (xs.set i y) ++ r := by
  intro xs
  induction xs with
  | nil => intro i y r h; simp at h
  | cons x xs ih =>
    intro i y r h
    cases i with
    | zero =>
      simp only [lset, Ty.all, List.flatMap_cons, Nat.zero_mul, List.take_zero, List.nil_append, List.set_cons_zero, Nat.zero_add, T.len, List.append_assoc]
      congr 1
      have := T.len x
      rw [← this, List.drop_append]
      simp
    | succ i =>
      have h' : i < xs.length := by simpa using h
      have := ih i y r h'
      simp only [lset, Ty.all, List.flatMap_cons, List.set_cons_succ, T.len, List.append_assoc] at this ⊢
      rw [show (i + 1) * T.n = (T.enc x).length + i * T.n by rw [T.len, Nat.add_mul]; omega]
      rw [show (T.enc x).length + i * T.n + T.n = (T.enc x).length + (i * T.n + T.n) by omega]
      rw [List.take_append, List.drop_append]
      simp only [Nat.add_sub_cancel_left]
      rw [List.take_of_length_le (by omega), List.drop_eq_nil_of_le (by omega), List.nil_append, List.append_assoc, this]

def tI (k : IntKind) : Ty Int := ⟨1, fun x => [.int k x], fun _ => rfl, fun x u hu => by simp at hu; subst hu; rfl⟩
def tN : Ty Nat := ⟨1, fun x => [.int .i64 (x : Int)], fun _ => rfl, fun x u hu => by simp at hu; subst hu; rfl⟩
def tB : Ty Bool := ⟨1, fun x => [.bool x], fun _ => rfl, fun x u hu => by simp at hu; subst hu; rfl⟩
def tS : Ty ByteArray := ⟨1, fun x => [.string x], fun _ => rfl, fun x u hu => by simp at hu; subst hu; rfl⟩

def SzT (P : Program) (t : TypeId) (n : Nat) (agg : Bool) : Prop := ∀ w, (isAgg t).run P w = .ok agg w ∧ (sizeOf t).run P w = .ok n w
def ZeroT (P : Program) (t : TypeId) (z : Value) (zc : List Value) : Prop := (∀ w, (zeroValue t).run P w = .ok z w) ∧ z.cells = zc.toArray
def FieldOff (P : Program) (s : TypeId) (k off : Nat) : Prop := ∀ a w, (Instr.fieldAt s (.pointer (some a)) k).run P w = .ok (.pointer (some (a.add off))) w
structure SlT (P : Program) (t e : TypeId) (n bytes : Nat) : Prop where
  under : P.underlying t = some (.slice e)
  info : ∃ i z, P.info? e = some i ∧ i.zero = some z ∧ i.size = n ∧ i.bytes = bytes ∧ z.cells.size = n ∧ z.cells.toList.all Value.oneCell' = true
  pos : 0 < n
def CallF (P : Program) (g : FuncId) : Prop := ∀ args w, (callFunc g args).run P w = .ok (.enter g args) w

theorem loadVar_one {P : Program} {w : World} {t : TypeId} {a : Addr} {v : Value} (h : SzT P t 1 false) (hc : w.cell? a = some v) : (loadVar t a).run P w = .ok v w := by
  simp [loadVar, (h w).1, hc]
theorem loadVar_agg {P : Program} {w : World} {t : TypeId} {a : Addr} {n : Nat} (vs : List Value) (h : SzT P t n true) (hl : vs.length = n) (hc : ∀ j v, vs[j]? = some v → w.cell? (a.add j) = some v) : (loadVar t a).run P w = .ok (.agg vs.toArray) w := by
  have := run_loadCells_list (P := P) w a vs hc
  rw [hl] at this
  simp [loadVar, (h w).1, (h w).2, this]
theorem storeVar_blk {P : Program} {w : World} {t : TypeId} {b off n : Nat} {v : Value} {vs cs : List Value} {e : TypeId} {agg : Bool} (h : SzT P t n agg) (hv : v.cells = vs.toArray) (hl : vs.length = n) (h1 : ∀ u ∈ vs, u.oneCell' = true)
    (hb : w.heap[b]? = some (.cells cs.toArray e (0, 0))) (hf : off + n ≤ cs.length) : (storeVar t ⟨b, off, none⟩ v).run P w = .ok () (w.setRow b (lset cs off vs).toArray) := by
  have := run_storeCells_at P b off e vs 0 cs.toArray w hb (by simpa [hl] using hf) h1
  simp only [Nat.add_zero] at this
  simp [storeVar, hv, (h w).2, hl, this, lset]

theorem Sat.setRow {w0 w : World} {L : List HA} {b : Nat} {cs cs' : List Value} {e : TypeId} (h : Sat w0 w L) (i : Nat) (hi : L[i]? = some (Cel b cs e)) : Sat w0 (w.setRow b cs'.toArray) (L.set i (Cel b cs' e)) := by
  have hb := (h.blk i hi).1
  have : w.setRow b cs'.toArray = { w with heap := w.heap.setIfInBounds b (.cells cs'.toArray e (0, 0)) } := by
    unfold World.setRow
    congr 1
    apply Array.ext_getElem?
    intro i
    by_cases hi : i = b
    · subst hi
      have hlt := (Array.getElem?_eq_some_iff.1 hb).1
      simp [Array.getElem?_modify, hb, Array.getElem?_setIfInBounds_self_of_lt hlt]
    · simp [Array.getElem?_modify, Array.getElem?_setIfInBounds_ne (Ne.symm hi), Ne.symm hi]
  rw [this]
  exact h.setBlk i hi

/-! ### Slices -/
@[irreducible] def el (a : Option Addr) (i n : Nat) : Addr := (a.getD default).add (i * n)
/-- the slice with this head reads as xs -/
def Rd {α : Type} (T : Ty α) (w : World) (a : Option Addr) (xs : List α) : Prop :=
  (0 < xs.length → a.isSome = true) ∧ ∀ (i : Nat) (x : α), xs[i]? = some x → ∀ j c, (T.enc x)[j]? = some c → w.cell? ((el a i T.n).add j) = some c
theorem Rd.nil {α : Type} (T : Ty α) (w : World) (a : Option Addr) : Rd T w a ([] : List α) := ⟨fun h => by simp at h, fun i x h => by simp at h⟩
theorem Rd.ext {α : Type} {T : Ty α} {w w' : World} {a : Option Addr} {xs : List α} (h : Rd T w a xs) (e : Ext w w') : Rd T w' a xs := ⟨h.1, fun i x hx j c hc => e.cell (h.2 i x hx j c hc)⟩

/-- a row of n elements of its own, with room behind it -/
def OwnC (a : Option Addr) (cap : Nat) (e : TypeId) (n : Nat) (len : Nat) (xs : List Value) : HA := fun h => xs.length = len * n ∧
  ((a = none ∧ cap = 0 ∧ len = 0) ∨ ∃ g sp, a = some ⟨g, 0, none⟩ ∧ h g = some (.cells (xs ++ sp).toArray e (0, 0)) ∧ len ≤ cap ∧ cap ≤ maxLen ∧ cap * n ≤ (xs ++ sp).length)
def Own {α : Type} (T : Ty α) (e : TypeId) (a : Option Addr) (cap : Nat) (xs : List α) : HA := OwnC a cap e T.n xs.length (T.all xs)

theorem Own.nil {α : Type} (T : Ty α) (e : TypeId) (h : Hp) : Own T e none 0 ([] : List α) h := ⟨by simp [Ty.all], .inl ⟨rfl, rfl, rfl⟩⟩
theorem Sat.nilOwn {w0 w : World} {L : List HA} {α : Type} (h : Sat w0 w L) (T : Ty α) (e : TypeId) : Sat w0 w (Own T e none 0 ([] : List α) :: L) := by
  obtain ⟨e0, x, s, m⟩ := h
  exact ⟨e0, x, ⟨fun _ => none, x, Own.nil T e _, s, fun _ => .inl rfl, (fun _ _ e => by cases e), Sb.refl _⟩, m⟩

theorem add_zero (b : Addr) : b.add 0 = b := rfl
theorem addLit (g o j : Nat) : (⟨g, o, none⟩ : Addr).add j = ⟨g, o + j, none⟩ := by unfold Addr.add; split <;> simp_all

theorem Sat.rd {w0 w : World} {L : List HA} {α : Type} {T : Ty α} {e : TypeId} {a : Option Addr} {cap : Nat} {xs : List α} (h : Sat w0 w L) (i : Nat) (hi : L[i]? = some (Own T e a cap xs)) : Rd T w a xs :=
  h.view i hi fun x hx m => by
    obtain ⟨hl, hx | ⟨g, sp, rfl, hg, h1, h2, h3⟩⟩ := hx
    · have : xs = [] := List.eq_nil_of_length_eq_zero hx.2.2
      subst this; exact Rd.nil _ _ _
    · refine ⟨fun _ => rfl, fun k y hy j c hc => ?_⟩
      have := (m g _ hg).2
      have hc2 := Ty.all_at T xs k y hy j c hc
      simp only [el, Option.getD_some, addLit, Nat.zero_add]
      simp only [World.cell?, this]
      simp only [Option.isSome_none, Bool.false_eq_true, if_false, List.getElem?_toArray]
      rw [List.getElem?_append_left (List.getElem?_eq_some_iff.1 hc2).1]
      exact hc2
theorem Sat.ownLen {w0 w : World} {L : List HA} {α : Type} {T : Ty α} {e : TypeId} {a : Option Addr} {cap : Nat} {xs : List α} (h : Sat w0 w L) (i : Nat) (hi : L[i]? = some (Own T e a cap xs)) : xs.length ≤ cap ∧ cap ≤ maxLen ∧ (0 < cap → ∃ g, a = some ⟨g, 0, none⟩) ∧ (a = none → xs = [] ∧ cap = 0) :=
  h.view i hi fun x hx m => by
    obtain ⟨hl, hx | ⟨g, sp, rfl, hg, h1, h2, h3⟩⟩ := hx
    · exact ⟨by omega, by rw [hx.2.1]; exact Nat.zero_le _, fun h => by omega, fun _ => ⟨List.eq_nil_of_length_eq_zero hx.2.2, hx.2.1⟩⟩
    · exact ⟨h1, h2, fun _ => ⟨g, rfl⟩, fun h => by cases h⟩

theorem loadRd1 {P : Program} {w : World} {α : Type} {T : Ty α} {t : TypeId} {a : Option Addr} {xs : List α} {i : Nat} {x : α} {c : Value} (h : SzT P t 1 false) (hr : Rd T w a xs) (hx : xs[i]? = some x) (he : T.enc x = [c]) : (loadVar t (el a i T.n)).run P w = .ok c w :=
  loadVar_one h (by have := hr.2 i x hx 0 c (by rw [he]; rfl); exact this)
theorem loadRdN {P : Program} {w : World} {α : Type} {T : Ty α} {t : TypeId} {a : Option Addr} {xs : List α} {i : Nat} {x : α} (h : SzT P t T.n true) (hr : Rd T w a xs) (hx : xs[i]? = some x) : (loadVar t (el a i T.n)).run P w = .ok (.agg (T.enc x).toArray) w :=
  loadVar_agg _ h (T.len x) (hr.2 i x hx)
theorem loadRdF {P : Program} {w : World} {α : Type} {T : Ty α} {t : TypeId} {a : Option Addr} {xs : List α} {i j : Nat} {x : α} {c : Value} (h : SzT P t 1 false) (hr : Rd T w a xs) (hx : xs[i]? = some x) (hc : (T.enc x)[j]? = some c) : (loadVar t ((el a i T.n).add j)).run P w = .ok c w :=
  loadVar_one h (hr.2 i x hx j c hc)
theorem loadS1 {P : Program} {w w0 : World} {L : List HA} {t : TypeId} {b off : Nat} {cs : List Value} {e : TypeId} {fr : Nat × Nat} {v : Value} (h : SzT P t 1 false) (S : Sat w0 w L) (i : Nat) (hi : L[i]? = some (Blk b (.cells cs.toArray e fr))) (hv : cs[off]? = some v) : (loadVar t ⟨b, off, none⟩).run P w = .ok v w :=
  loadVar_one h (S.cell i hi off hv)
theorem loadSN {P : Program} {w w0 : World} {L : List HA} {t : TypeId} {b off n : Nat} {cs vs : List Value} {e : TypeId} {fr : Nat × Nat} (h : SzT P t n true) (S : Sat w0 w L) (i : Nat) (hi : L[i]? = some (Blk b (.cells cs.toArray e fr))) (hv : (cs.drop off).take n = vs) (hl : vs.length = n) : (loadVar t ⟨b, off, none⟩).run P w = .ok (.agg vs.toArray) w :=
  loadVar_agg _ h hl fun j v hj => by
    rw [addLit]
    refine S.cell i hi _ ?_
    subst hv
    have := (List.getElem?_eq_some_iff.1 hj).1
    rw [List.getElem?_take] at hj
    split at hj
    · rw [List.getElem?_drop] at hj; exact hj
    · cases hj

def slB (P : Program) (t e : TypeId) (n bytes : Nat) : Bool := match P.underlying t with
  | some (.slice e') => Nat.beq e' e && (match P.info? e with
    | some i => (match i.zero with
      | some z => Nat.beq i.size n && Nat.beq i.bytes bytes && Nat.beq z.cells.size n && z.cells.toList.all Value.oneCell' && Nat.blt 0 n
      | none => false)
    | none => false)
  | _ => false
theorem SlT.ofB {P : Program} {t e : TypeId} {n bytes : Nat} (h : slB P t e n bytes = true) : SlT P t e n bytes := by
  unfold slB at h
  split at h
  · rename_i e' hu
    rw [Bool.and_eq_true] at h
    have he := Nat.eq_of_beq_eq_true h.1
    subst he
    have h2 := h.2
    split at h2
    · rename_i i hi
      split at h2
      · rename_i z hz
        simp only [Bool.and_eq_true] at h2
        exact ⟨hu, ⟨i, z, hi, hz, Nat.eq_of_beq_eq_true h2.1.1.1.1, Nat.eq_of_beq_eq_true h2.1.1.1.2, Nat.eq_of_beq_eq_true h2.1.1.2, h2.1.2⟩, by simpa [Nat.blt_eq] using h2.2⟩
      · cases h2
    · cases h2
  · cases h

/-! ### The operations -/
section
variable {P : Program} {f : Fm} {w w0 : World} {L : List HA} {K : Value → World → Prop} {Qp : List PanicEntry → World → Prop} {d : Option Nat} {ty : TypeId} {pos : String} {aft : Array Edge} {g : Option (Nat × Bool)}

theorem OpK.val {o : Oper} {v : Value} {w' : World} (h : (execOp (ev f) o).run P w = .ok (.value v) w') (hk : K v w') : OpK P o f w K Qp := by unfold OpK; rw [h]; exact hk
theorem OpK.skip {o : Oper} {w' : World} (h : (execOp (ev f) o).run P w = .ok .skip w') (hk : K undef w') : OpK P o f w K Qp := by unfold OpK; rw [h]; exact hk

theorem Y.move {X : Operand} {v : Value} (hx : ev f X = v) : Yl P ⟨d, .move X, ty, pos, aft, g⟩ f w v := (by unfold Yl; simp [execOp, hx])
theorem Y.assign {X : Operand} {v : Value} (hx : ev f X = v) : Yl P ⟨d, .assign X, ty, pos, aft, g⟩ f w v := (by unfold Yl; simp [execOp, hx])
theorem Y.pick {C A B : Operand} {b : Bool} {u v : Value} (hc : ev f C = .bool b) (ha : ev f A = u) (hb : ev f B = v) : Yl P ⟨d, .pick C A B, ty, pos, aft, g⟩ f w (bif b then u else v) := (by unfold Yl; cases b <;> simp [execOp, hc, ha, hb, asBool])
theorem Y.pickT {C A B : Operand} {u : Value} (hc : ev f C = .bool true) (ha : ev f A = u) : Yl P ⟨d, .pick C A B, ty, pos, aft, g⟩ f w u := Y.pick hc ha rfl
theorem Y.pickF {C A B : Operand} {u : Value} (hc : ev f C = .bool false) (hb : ev f B = u) : Yl P ⟨d, .pick C A B, ty, pos, aft, g⟩ f w u := Y.pick hc rfl hb
theorem Y.nilP {X : Operand} {a : Addr} (hx : ev f X = .pointer (some a)) : Yl P ⟨d, .nilCheck X, ty, pos, aft, g⟩ f w (.pointer (some a)) := (by unfold Yl; simp [execOp, hx])
theorem Y.extract {X : Operand} {i : Nat} {vs : Array Value} {v : Value} (hx : ev f X = .tuple vs) (hv : vs[i]? = some v) : Yl P ⟨d, .extract X i, ty, pos, aft, g⟩ f w v := (by unfold Yl; simp [execOp, hx, Instr.extract, hv])
theorem Y.makeFunc {fn : Fn} {A B : List Operand} {as bs : List Value} (ha : A.map (ev f) = as) (hb : B.map (ev f) = bs) : Yl P ⟨d, .makeFunc fn A.toArray B.toArray, ty, pos, aft, g⟩ f w (.func fn as.toArray bs.toArray) := (by unfold Yl; simp [execOp, ha, hb, Instr.makeFunc])
-- numbers
theorem Y.add {X Y : Operand} {t t' : TypeId} {k : IntKind} {x y : Int} (hx : ev f X = .int k x) (hy : ev f Y = .int k y) : Yl P ⟨d, .binOp .add t X Y t', ty, pos, aft, g⟩ f w (.int k (k.wrap (x + y))) := (by unfold Yl; simp [execOp, hx, hy, binOp, Op.intArith, eqGuard])
theorem Y.sub {X Y : Operand} {t t' : TypeId} {k : IntKind} {x y : Int} (hx : ev f X = .int k x) (hy : ev f Y = .int k y) : Yl P ⟨d, .binOp .sub t X Y t', ty, pos, aft, g⟩ f w (.int k (k.wrap (x - y))) := (by unfold Yl; simp [execOp, hx, hy, binOp, Op.intArith, eqGuard])
theorem Y.mul {X Y : Operand} {t t' : TypeId} {k : IntKind} {x y : Int} (hx : ev f X = .int k x) (hy : ev f Y = .int k y) : Yl P ⟨d, .binOp .mul t X Y t', ty, pos, aft, g⟩ f w (.int k (k.wrap (x * y))) := (by unfold Yl; simp [execOp, hx, hy, binOp, Op.intArith, eqGuard])
theorem wrap_id {k : IntKind} {x : Int} (h0 : k.min ≤ x) (h1 : x ≤ k.max) : k.wrap x = x := by
  cases k <;> simp [IntKind.min, IntKind.max, IntKind.signed, IntKind.bits, IntKind.wrap] at * <;> omega
theorem wrap64_id {x : Int} (h : -9223372036854775808 ≤ x ∧ x ≤ 9223372036854775807) : IntKind.i64.wrap x = x := wrap_id (k := .i64) (by simp [IntKind.min, IntKind.signed, IntKind.bits]; omega) (by simp [IntKind.max, IntKind.signed, IntKind.bits]; omega)
theorem Y.addI {X Y : Operand} {t t' : TypeId} {x y : Int} (hx : ev f X = .int .i64 x) (hy : ev f Y = .int .i64 y) (hb : -9223372036854775808 ≤ x + y ∧ x + y ≤ 9223372036854775807) : Yl P ⟨d, .binOp .add t X Y t', ty, pos, aft, g⟩ f w (.int .i64 (x + y)) := by rw [← wrap64_id hb]; exact TL.Y.add hx hy
theorem Y.subI {X Y : Operand} {t t' : TypeId} {x y : Int} (hx : ev f X = .int .i64 x) (hy : ev f Y = .int .i64 y) (hb : -9223372036854775808 ≤ x - y ∧ x - y ≤ 9223372036854775807) : Yl P ⟨d, .binOp .sub t X Y t', ty, pos, aft, g⟩ f w (.int .i64 (x - y)) := by rw [← wrap64_id hb]; exact TL.Y.sub hx hy
theorem Y.mulI {X Y : Operand} {t t' : TypeId} {x y : Int} (hx : ev f X = .int .i64 x) (hy : ev f Y = .int .i64 y) (hb : -9223372036854775808 ≤ x * y ∧ x * y ≤ 9223372036854775807) : Yl P ⟨d, .binOp .mul t X Y t', ty, pos, aft, g⟩ f w (.int .i64 (x * y)) := by rw [← wrap64_id hb]; exact TL.Y.mul hx hy
theorem Y.neg {X : Operand} {t : TypeId} {k : IntKind} {x : Int} (hx : ev f X = .int k x) : Yl P ⟨d, .unOp .neg t X, ty, pos, aft, g⟩ f w (.int k (k.wrap (0 - x))) := (by unfold Yl; simp [execOp, hx, Op.unary, Op.intArith])
theorem Y.not {X : Operand} {t : TypeId} {b : Bool} (hx : ev f X = .bool b) : Yl P ⟨d, .unOp .not t X, ty, pos, aft, g⟩ f w (.bool (!b)) := (by unfold Yl; simp [execOp, hx, Op.unary])
theorem Y.lss {X Y : Operand} {t t' : TypeId} {k : IntKind} {x y : Int} (hx : ev f X = .int k x) (hy : ev f Y = .int k y) : Yl P ⟨d, .binOp .lss t X Y t', ty, pos, aft, g⟩ f w (.bool (decide (x < y))) := (by unfold Yl; simp [execOp, hx, hy, binOp, Op.intCmp, eqGuard])
theorem Y.leq {X Y : Operand} {t t' : TypeId} {k : IntKind} {x y : Int} (hx : ev f X = .int k x) (hy : ev f Y = .int k y) : Yl P ⟨d, .binOp .leq t X Y t', ty, pos, aft, g⟩ f w (.bool (decide (x ≤ y))) := (by unfold Yl; simp [execOp, hx, hy, binOp, Op.intCmp, eqGuard])
theorem Y.gtr {X Y : Operand} {t t' : TypeId} {k : IntKind} {x y : Int} (hx : ev f X = .int k x) (hy : ev f Y = .int k y) : Yl P ⟨d, .binOp .gtr t X Y t', ty, pos, aft, g⟩ f w (.bool (decide (y < x))) := (by unfold Yl; simp [execOp, hx, hy, binOp, Op.intCmp, eqGuard])
theorem Y.geq {X Y : Operand} {t t' : TypeId} {k : IntKind} {x y : Int} (hx : ev f X = .int k x) (hy : ev f Y = .int k y) : Yl P ⟨d, .binOp .geq t X Y t', ty, pos, aft, g⟩ f w (.bool (decide (y ≤ x))) := (by unfold Yl; simp [execOp, hx, hy, binOp, Op.intCmp, eqGuard])
theorem Y.eql {X Y : Operand} {t t' : TypeId} {k : IntKind} {x y : Int} (hx : ev f X = .int k x) (hy : ev f Y = .int k y) : Yl P ⟨d, .binOp .eql t X Y t', ty, pos, aft, g⟩ f w (.bool (decide (x = y))) := (by unfold Yl; simp [execOp, hx, hy, binOp, Op.intCmp, eqGuard]; try rfl)
theorem Y.neq {X Y : Operand} {t t' : TypeId} {k : IntKind} {x y : Int} (hx : ev f X = .int k x) (hy : ev f Y = .int k y) : Yl P ⟨d, .binOp .neq t X Y t', ty, pos, aft, g⟩ f w (.bool (!decide (x = y))) := (by unfold Yl; simp [execOp, hx, hy, binOp, Op.intCmp, eqGuard]; try rfl)
theorem run_equal_bool {P : Program} {w : World} {t : TypeId} (hu : P.underlying t = some .bool) (x y : Bool) : (Op.equal t (.bool x) (.bool y)).run P w = .ok (x == y) w := by
  show (Op.equalIn (9999 + 1) t (.bool x) (.bool y)).run P w = _
  unfold Op.equalIn
  simp [run_underlying hu]
theorem Y.eqlB {X Y : Operand} {t t' : TypeId} {x y : Bool} (hu : P.underlying t = some .bool) (hx : ev f X = .bool x) (hy : ev f Y = .bool y) : Yl P ⟨d, .binOp .eql t X Y t', ty, pos, aft, g⟩ f w (.bool (x == y)) := (by unfold Yl; simp [execOp, hx, hy, binOp, run_equal_bool hu, eqGuard]; try rfl)
theorem Y.neqB {X Y : Operand} {t t' : TypeId} {x y : Bool} (hu : P.underlying t = some .bool) (hx : ev f X = .bool x) (hy : ev f Y = .bool y) : Yl P ⟨d, .binOp .neq t X Y t', ty, pos, aft, g⟩ f w (.bool (!(x == y))) := (by unfold Yl; simp [execOp, hx, hy, binOp, run_equal_bool hu, eqGuard]; try rfl)
theorem Y.conv {X : Operand} {s t : TypeId} {k k' : IntKind} {x : Int} (hs : ∃ u, P.underlying s = some u) (hu : P.underlying t = some (.int k)) (hx : ev f X = .int k' x) : Yl P ⟨d, .convert s t X, ty, pos, aft, g⟩ f w (.int k (k.wrap x)) := by
  obtain ⟨u, hs⟩ := hs
  unfold Yl; simp [execOp, hx, convert, run_underlying hs, run_underlying hu, Conv.intToInt]

-- memory of its own
theorem O.alloc {t : TypeId} {z : Value} {zc : List Value} (hz : ZeroT P t z zc) (S : Sat w0 w L) (h : ∀ b w', Sat w0 w' (Cel b zc t :: L) → K (.pointer (some ⟨b, 0, none⟩)) w') : OpK P ⟨d, .alloc t, ty, pos, aft, g⟩ f w K Qp := by
  refine OpK.val (v := .pointer (some ⟨w.heap.size, 0, none⟩)) (w' := w.alloc (.cells zc.toArray t (0, 0))) ?_ (h _ _ (S.alloc _))
  simp [execOp, Instr.alloc, hz.1 w, newVar, newRow, hz.2]; try rfl
theorem O.box {t : TypeId} {X : Operand} {v : Value} {cs : List Value} (hx : ev f X = v) (hc : v.cells = cs.toArray) (S : Sat w0 w L) (h : ∀ b w', Sat w0 w' (Cel b cs t :: L) → K (.pointer (some ⟨b, 0, none⟩)) w') : OpK P ⟨d, .box t X, ty, pos, aft, g⟩ f w K Qp := by
  refine OpK.val (v := .pointer (some ⟨w.heap.size, 0, none⟩)) (w' := w.alloc (.cells cs.toArray t (0, 0))) ?_ (h _ _ (S.alloc _))
  simp [execOp, Instr.box, hx, newVar, newRow, hc]; try rfl
theorem Y.build {t : TypeId} {ps : List (Nat × Operand)} {vs : List (Nat × Value)} {v : Value} (hp : (ps.map fun p => (p.1, ev f p.2)) = vs) (hb : ∀ w, (Instr.build t vs.toArray).run P w = .ok v w) : Yl P ⟨d, .build t ps.toArray, ty, pos, aft, g⟩ f w v := (by unfold Yl; simp only [execOp, List.map_toArray, hp, Sem.run_bind, hb w, Result.andThen_ok, Sem.run_pure])
theorem O.buildSlice {t e : TypeId} {n : Nat} {ps : List (Nat × Operand)} {vs : List (Nat × Value)} {cs : List Value} (hp : (ps.map fun p => (p.1, ev f p.2)) = vs) (hb : ∀ w, (Instr.buildSlice t n vs.toArray).run P w = .ok (.slice (some ⟨w.heap.size, 0, none⟩) n n) (w.alloc (.cells cs.toArray e (0, 0)))) (S : Sat w0 w L)
    (h : ∀ b w', Sat w0 w' (Cel b cs e :: L) → K (.slice (some ⟨b, 0, none⟩) n n) w') : OpK P ⟨d, .buildSlice t n ps.toArray, ty, pos, aft, g⟩ f w K Qp :=
  OpK.val (v := .slice (some ⟨w.heap.size, 0, none⟩) n n) (w' := w.alloc (.cells cs.toArray e (0, 0))) (by simp only [execOp, List.map_toArray, hp, Sem.run_bind, hb w, Result.andThen_ok, Sem.run_pure]) (h _ _ (S.alloc _))
theorem Y.load {t : TypeId} {X : Operand} {a : Addr} {v : Value} (hx : ev f X = .pointer (some a)) (hl : (loadVar t a).run P w = .ok v w) : Yl P ⟨d, .load t X, ty, pos, aft, g⟩ f w v := (by unfold Yl; simp [execOp, hx, Instr.loadAt, Instr.sureAddr, hl])
theorem O.store {t : TypeId} {X Y : Operand} {b off n : Nat} {v : Value} {vs cs : List Value} {e : TypeId} {agg : Bool} (i : Nat) (S : Sat w0 w L) (hx : ev f X = .pointer (some ⟨b, off, none⟩)) (hi : L[i]? = some (Cel b cs e)) (hy : ev f Y = v) (hs : SzT P t n agg) (hv : v.cells = vs.toArray) (hl : vs.length = n) (h1 : vs.all Value.oneCell' = true)
    (hf : Nat.ble (off + n) cs.length = true) (h : ∀ w', Sat w0 w' (L.set i (Cel b (lset cs off vs) e)) → K undef w') : OpK P ⟨d, .store t X Y, ty, pos, aft, g⟩ f w K Qp := by
  have hst := storeVar_blk (P := P) hs hv hl (fun u hu => List.all_eq_true.1 h1 u hu) (S.blk i hi).1 (by simpa [Nat.ble_eq] using hf)
  refine OpK.skip (w' := w.setRow b (lset cs off vs).toArray) (by simp [execOp, hx, hy, Instr.storeAt, Instr.sureAddr, hst]) (h _ (S.setRow i hi))
theorem Y.fieldB {s : TypeId} {X : Operand} {k fo b off : Nat} (hF : FieldOff P s k fo) (hx : ev f X = .pointer (some ⟨b, off, none⟩)) : Yl P ⟨d, .fieldAddr s X k, ty, pos, aft, g⟩ f w (.pointer (some ⟨b, off + fo, none⟩)) := (by unfold Yl; simp [execOp, hx, hF _ w, addLit])
theorem Y.fieldE {s : TypeId} {X : Operand} {k fo : Nat} {a : Addr} (hF : FieldOff P s k fo) (hx : ev f X = .pointer (some a)) : Yl P ⟨d, .fieldAddr s X k, ty, pos, aft, g⟩ f w (.pointer (some (a.add fo))) := (by unfold Yl; simp [execOp, hx, hF _ w])
theorem Y.len {t t' : TypeId} {X : Operand} {e : TypeId} {a : Option Addr} {n c : Nat} (hu : P.underlying t = some (.slice e)) (hx : ev f X = .slice a n c) : Yl P ⟨d, .call { callee := .builtin .len, args := #[X], argTypes := #[t] }, ty, pos, aft, g⟩ f w (.int .i64 n) := (by unfold Yl; simp [execOp, resolve, invoke, builtin, hx, Builtin.len_, run_underlying hu, goInt])
theorem Y.cap {t t' : TypeId} {X : Operand} {e : TypeId} {a : Option Addr} {n c : Nat} (hu : P.underlying t = some (.slice e)) (hx : ev f X = .slice a n c) : Yl P ⟨d, .call { callee := .builtin .cap, args := #[X], argTypes := #[t] }, ty, pos, aft, g⟩ f w (.int .i64 c) := (by unfold Yl; simp [execOp, resolve, invoke, builtin, hx, Builtin.cap_, run_underlying hu, goInt])
theorem Y.lenS {t : TypeId} {X : Operand} {s : ByteArray} (hu : P.underlying t = some .string) (hx : ev f X = .string s) : Yl P ⟨d, .call { callee := .builtin .len, args := #[X], argTypes := #[t] }, ty, pos, aft, g⟩ f w (.int .i64 s.size) := (by unfold Yl; simp [execOp, resolve, invoke, builtin, hx, Builtin.len_, run_underlying hu, goInt])
theorem Y.max2 {X Y : Operand} {ts : Array TypeId} {k : IntKind} {x y : Int} (hx : ev f X = .int k x) (hy : ev f Y = .int k y) : Yl P ⟨d, .call { callee := .builtin .max, args := #[X, Y], argTypes := ts }, ty, pos, aft, g⟩ f w (.int k (max x y)) := (by unfold Yl; rw [show max x y = (if y > x then y else x) by omega]; simp [execOp, resolve, invoke, builtin, hx, hy, Builtin.max_, Builtin.max2, List.foldlM])
theorem Y.min2 {X Y : Operand} {ts : Array TypeId} {k : IntKind} {x y : Int} (hx : ev f X = .int k x) (hy : ev f Y = .int k y) : Yl P ⟨d, .call { callee := .builtin .min, args := #[X, Y], argTypes := ts }, ty, pos, aft, g⟩ f w (.int k (min x y)) := (by unfold Yl; rw [show min x y = (if y < x then y else x) by omega]; simp [execOp, resolve, invoke, builtin, hx, hy, Builtin.min_, Builtin.min2, List.foldlM])
/-- the address of an element of a slice -/
theorem Y.ixN {t e : TypeId} {n bytes : Nat} {X I : Operand} {k : IntKind} {a : Option Addr} {len c i : Nat} (hT : SlT P t e n bytes) (hx : ev f X = .slice a len c) (hi : ev f I = .int k (i : Int)) (ha : a.isSome = true) (h1 : i < len) : Yl P ⟨d, .indexAddr t X I, ty, pos, aft, g⟩ f w (.pointer (some (el a i n))) := by
  obtain ⟨ii, z, h2, h3, h4, h5, _⟩ := hT.info
  obtain ⟨ad, rfl⟩ := Option.isSome_iff_exists.1 ha
  unfold Yl
  simp [execOp, hx, hi, Instr.indexAt, asIntOf, run_underlying hT.under, h1, sizeOf, typeInfo, h2, h4, el]
theorem Y.ix {t e : TypeId} {n bytes : Nat} {X I : Operand} {k : IntKind} {a : Option Addr} {len c : Nat} {i : Int} (hT : SlT P t e n bytes) (hx : ev f X = .slice a len c) (hi : ev f I = .int k i) (ha : a.isSome = true) (h0 : 0 ≤ i) (h1 : i < len) : Yl P ⟨d, .indexAddr t X I, ty, pos, aft, g⟩ f w (.pointer (some (el a i.toNat n))) :=
  Y.ixN (i := i.toNat) hT hx (by rw [hi]; congr 1; omega) ha (by omega)
/-- a call of a Go function -/
theorem O.call {F : FuncId} {as : List Operand} {ts : Array TypeId} {args : List Value} {R : Ending → World → Prop} (hF : CallF P F) (ha : as.map (ev f) = args) (hC : Calls P F args.toArray w R) (h : ∀ e w', R e w' → ∃ v, e = .returned v ∧ K v w') : OpK P ⟨d, .call { callee := .value (.func F), args := as.toArray, argTypes := ts }, ty, pos, aft, g⟩ f w K Qp := by
  have hr : (execOp (ev f) ⟨d, .call { callee := .value (.func F), args := as.toArray, argTypes := ts }, ty, pos, aft, g⟩).run P w = .ok (.enter F args.toArray) w := by
    simp [execOp, resolve, ev, Deferred.ofValue, invoke, ha, hF args.toArray w]
  unfold OpK
  rw [hr]
  exact hC.mono fun e w' he => by obtain ⟨v, rfl, hk⟩ := h e w' he; exact hk
/-- a store into an element of a slice of its own -/
theorem O.storeEl {α : Type} {T : Ty α} {t e : TypeId} {X Y : Operand} {a : Option Addr} {cap k : Nat} {xs : List α} {v : Value} {agg : Bool} (i : Nat) (y : α) (S : Sat w0 w L) (hx : ev f X = .pointer (some (el a k T.n))) (hi : L[i]? = some (Own T e a cap xs)) (hk : k < xs.length) (hy : ev f Y = v) (hs : SzT P t T.n agg) (hv : v.cells = (T.enc y).toArray)
    (h : ∀ w', Sat w0 w' (L.set i (Own T e a cap (xs.set k y))) → K undef w') : OpK P ⟨d, .store t X Y, ty, pos, aft, g⟩ f w K Qp := by
  obtain ⟨gg, sp, ha, hg, h9, h10, h11⟩ := S.view i hi (p := ∃ gg sp, a = some ⟨gg, 0, none⟩ ∧ w.heap[gg]? = some (.cells (T.all xs ++ sp).toArray e (0, 0)) ∧ xs.length ≤ cap ∧ cap ≤ maxLen ∧ cap * T.n ≤ (T.all xs ++ sp).length) fun x hx m => by
    obtain ⟨hl, hx | ⟨g', sp, h8, hg, h9, h10, h11⟩⟩ := hx
    · omega
    · exact ⟨g', sp, h8, (m _ _ hg).2, h9, h10, h11⟩
  subst ha
  have hfit : k * T.n + T.n ≤ (T.all xs ++ sp).length := by
    have h1 : (k + 1) * T.n ≤ xs.length * T.n := Nat.mul_le_mul_right _ hk
    rw [List.length_append, T.all_len]
    rw [Nat.add_mul] at h1
    omega
  have hst := storeVar_blk (P := P) (b := gg) (off := k * T.n) hs hv (T.len y) (T.one y) hg hfit
  rw [Ty.all_set T xs k y sp hk] at hst
  refine OpK.skip (w' := w.setRow gg (T.all (xs.set k y) ++ sp).toArray) (by simp [execOp, hx, hy, Instr.storeAt, Instr.sureAddr, el, addLit, hst]) (h _ ?_)
  refine S.focus i hi fun h1 a1 m => ⟨fun x => bif Nat.beq x gg then some (.cells (T.all (xs.set k y) ++ sp).toArray e (0, 0)) else none, ?_, fun x o hx => ?_, rfl, rfl, rfl, by simp [World.setRow], fun x hx hn => ?_⟩
  · refine ⟨by rw [T.all_len], .inr ⟨gg, sp, rfl, by simp, by rw [List.length_set]; exact h9, h10, ?_⟩⟩
    rw [List.length_append, T.all_len] at h11 ⊢; rw [List.length_set]; exact h11
  · cases e : Nat.beq x gg with
    | false => simp only [e, cond_false] at hx; cases hx
    | true =>
      simp only [e, cond_true, Option.some.injEq] at hx
      have := Nat.eq_of_beq_eq_true e
      subst hx; subst this
      refine ⟨setRow_heap w x _ _ _ _ hg, .inl ?_⟩
      obtain ⟨hl, hx | ⟨g', sp', h8, hg', _⟩⟩ := a1
      · cases hx.1
      · cases h8; rw [hg']; simp
  · refine setRow_other w gg x _ fun e => ?_
    subst e
    obtain ⟨hl, hx | ⟨g', sp', h8, hg', _⟩⟩ := a1
    · cases hx.1
    · cases h8; rw [hg'] at hn; cases hn
end
/-- one element that was laid in a block of its own -/
theorem Sat.rd1 {w0 w : World} {L : List HA} {α : Type} {T : Ty α} {b : Nat} {e : TypeId} {x : α} (h : Sat w0 w L) (i : Nat) (hi : L[i]? = some (Cel b (T.enc x) e)) : Rd T w (some ⟨b, 0, none⟩) [x] := by
  refine ⟨fun _ => rfl, fun k y hy j c hc => ?_⟩
  obtain rfl : k = 0 := by
    have := (List.getElem?_eq_some_iff.1 hy).1
    simp at this; omega
  simp at hy; subst hy
  simp only [el, Option.getD_some, Nat.zero_mul, add_zero, addLit, Nat.zero_add]
  exact h.cell i hi j hc
/-- an element laid in a block: what 'append(l, x)' hands on -/
theorem fill_one : ∀ (l : List Value) (k : Nat) (c : List Value), k + l.length ≤ c.length → (List.foldl (fun (cs : Array Value) (x : Value × Nat) => cs.setIfInBounds (0 + x.2) x.1) c.toArray (l.zipIdx k)).toList = c.take k ++ l ++ c.drop (k + l.length)
  | [], k, c, _ => by simp
  | u :: l, k, c, hk => by
    simp only [List.length_cons] at hk
    simp only [List.zipIdx_cons, List.foldl_cons, Nat.zero_add]
    have := fill_one l (k + 1) (c.set k u) (by simp; omega)
    simp only [Nat.zero_add] at this
    rw [show c.toArray.setIfInBounds k u = (c.set k u).toArray by simp, this]
    simp only [List.length_cons]
    have hk' : k < c.length := by omega
    rw [List.set_eq_take_append_cons_drop, if_pos hk']
    have e1 : (c.take k).length = k := by simp; omega
    rw [List.take_append, e1]
    rw [List.take_of_length_le (by omega), show k + 1 - k = 1 by omega]
    simp only [List.take_succ_cons, List.take_zero, List.append_assoc, List.cons_append, List.nil_append]
    congr 3
    rw [List.drop_append, List.drop_eq_nil_of_le (by omega), e1, List.nil_append, show k + 1 + l.length - k = (l.length) + 1 by omega, List.drop_succ_cons, List.drop_drop]
    congr 1; omega
theorem fill_whole (c : Array Value) (cs : List Value) (h : c.size = cs.length) : cs.toArray.zipIdx.foldl (fun (cs : Array Value) (x : Value × Nat) => cs.setIfInBounds (0 + x.2) x.1) c = cs.toArray := by
  have h0 := fill_one cs 0 c.toList (by simp [h])
  apply Array.ext'
  rw [← Array.foldl_toList, Array.toList_zipIdx]
  rw [Array.toArray_toList] at h0
  rw [h0]
  simp [h]
/-- an element laid in a block: what 'append(l, x)' hands on -/
theorem buildOne {P : Program} {t e : TypeId} {n bytes : Nat} (hT : SlT P t e n bytes) (hn : n ≤ 16777216) {v : Value} {cs : List Value} (hv : v.cells = cs.toArray) (hl : cs.length = n) : ∀ w, (Instr.buildSlice t 1 [(0, v)].toArray).run P w = .ok (.slice (some ⟨w.heap.size, 0, none⟩) ((1 : Nat)) ((1 : Nat))) (w.alloc (.cells cs.toArray e (0, 0))) := by
  intro w
  obtain ⟨ii, z, h2, h3, h4, h5, h6, h7⟩ := hT.info
  have hpos := hT.pos
  have hsz : v.cells.size = n := by rw [hv]; simpa using hl
  have h1 : ¬ (16777216 < n) := by omega
  have h0 : n ≠ 0 := by omega
  have hz := fill_whole ((Array.range n).map (z.cells[· % z.cells.size]!)) cs (by simp [hl])
  have hf : Instr.fill (fun i => some (i * n, n)) ((Array.range (1 * n)).map (z.cells[· % z.cells.size]!)) [(0, v)] = some cs.toArray := by
    unfold Instr.fill
    simp only [Nat.zero_mul, Nat.zero_add, Nat.one_mul]
    rw [if_neg (by simp [hsz]), hv]
    unfold Instr.fill
    exact congrArg some (by simpa only [Nat.zero_add] using hz)
  simp only [Instr.buildSlice, Sem.run_bind, run_underlying hT.under, Result.andThen_ok, sizeOf, typeInfo, run_program, h2, Sem.run_pure, h4, Nat.one_mul, Sem.run_ite, zeroValue, h3]
  rw [if_neg (by omega), if_neg (by omega)]
  try simp only [Result.andThen_ok, List.toList_toArray]
  rw [Nat.one_mul] at hf
  rw [hf]
  rfl

/-- append of elements that lie somewhere -/
theorem Sat.append {P : Program} {w0 w : World} {L : List HA} {α : Type} {T : Ty α} {t e : TypeId} {bytes : Nat} {a : Option Addr} {cap : Nat} {xs ys : List α} (hT : SlT P t e T.n bytes) (S : Sat w0 w L) (i : Nat) (hi : L[i]? = some (Own T e a cap xs)) (b : Option Addr) (c : Nat) (hr : Rd T w b ys)
    (hb : (xs.length + ys.length) * bytes ≤ 140737488355328) (hm : xs.length + ys.length ≤ maxLen) (ty : TypeId) :
    ∃ a' cap' w', (Builtin.append_ #[t, t] ty #[.slice a xs.length cap, .slice b ys.length c]).run P w = .ok (.slice a' (xs.length + ys.length) cap') w' ∧ Sat w0 w' (L.set i (Own T e a' cap' (xs ++ ys))) ∧ (a' = none ↔ a = none ∧ ys = []) ∧ (xs.length + ys.length ≤ cap → a' = a ∧ cap' = cap) := by
  obtain ⟨ii, z, h2, h3, h4, h5, h6, h7⟩ := hT.info
  have hsm : ((xs.length + ys.length : Nat) : Int) ≤ 9223372036854775807 := by simp only [maxLen] at hm; omega
  have hn := hT.pos
  have hall := T.all_len
  have hyc : ∀ (ad : Addr), b = some ad → ∀ j v, (T.all ys)[j]? = some v → w.cell? (ad.add j) = some v := by
    intro ad hb j v hj
    have hjl := (List.getElem?_eq_some_iff.1 hj).1
    rw [hall] at hjl
    have hq : j / T.n < ys.length := (Nat.div_lt_iff_lt_mul hn).2 hjl
    have hmod : j % T.n < T.n := Nat.mod_lt _ hn
    have e1 : ys[j / T.n]? = some ys[j / T.n] := List.getElem?_eq_getElem hq
    have e2 : (T.enc ys[j / T.n])[j % T.n]? = some ((T.enc ys[j / T.n])[j % T.n]'(by rw [T.len]; exact hmod)) := List.getElem?_eq_getElem _
    have e3 := Ty.all_at T ys _ _ e1 _ _ e2
    have e4 : j / T.n * T.n + j % T.n = j := by rw [Nat.mul_comm]; exact Nat.div_add_mod j T.n
    rw [e4, hj] at e3
    have e5 := hr.2 _ _ e1 _ _ e2
    rw [← Option.some.inj e3] at e5
    rw [← e5]
    congr 1
    subst hb
    simp only [el, Option.getD_some]
    unfold Addr.add
    by_cases q0 : j / T.n * T.n = 0 <;> by_cases r0 : j % T.n = 0 <;> by_cases j0 : j = 0 <;> simp [q0, r0, j0] <;> omega
  have hone : ∀ u ∈ T.all ys, u.oneCell' = true := by
    intro u hu
    obtain ⟨y, _, hu⟩ := List.mem_flatMap.1 hu
    exact T.one y u hu
  by_cases hy : ys = []
  · subst hy
    refine ⟨a, cap, w, ?_, ?_, by simp, fun _ => ⟨rfl, rfl⟩⟩
    · have hl0 := (S.ownLen i hi).1
      have : (Builtin.append_ #[t, t] ty #[.slice a xs.length cap, .slice b 0 c]).run P w = .ok (.slice a xs.length cap) w := by
        cases a <;> cases b <;> simp [Builtin.append_, run_underlying hT.under, sizeOf, typeInfo, h2, Builtin.lenOf, hl0, Builtin.firstCells, loadCells, loadCellsFrom, storeCells]
      simpa using this
    · have := S.imp (A' := Own T e a cap (xs ++ [])) i hi (fun x hx => by simpa using hx)
      exact this
  · have hpos : 0 < ys.length := List.length_pos_iff.2 hy
    obtain ⟨bd, rfl⟩ := Option.isSome_iff_exists.1 (hr.1 hpos)
    have hc := hyc bd rfl
    have hlen2 : (T.all (xs ++ ys)).length = (xs.length + ys.length) * T.n := by rw [hall, List.length_append]
    have grow : ∀ (old : Nat) (w1 : World), w1 = w.drew.alloc (.cells ((T.all xs).toArray ++ (T.all ys).toArray ++ Builtin.zeroCells z.cells (grownCap w (xs.length + ys.length) old e - (xs.length + ys.length))) e) →
        Sat w0 w1 (L.set i (Own T e (some ⟨w.heap.size, 0, none⟩) (grownCap w (xs.length + ys.length) old e) (xs ++ ys))) := by
      intro old w1 e1
      subst e1
      have hge := grownCap_ge w (xs.length + ys.length) old e
      have hcm := grownCap_le_maxLen w (xs.length + ys.length) old e hm
      refine S.focus i hi fun h1 a1 m => ⟨fun x => bif Nat.beq x w.heap.size then some (.cells ((T.all xs).toArray ++ (T.all ys).toArray ++ Builtin.zeroCells z.cells (grownCap w (xs.length + ys.length) old e - (xs.length + ys.length))) e (0, 0)) else none, ?_, fun x o hx => ?_, rfl, rfl, rfl, ?_, fun x hx _ => ?_⟩
      · refine ⟨by rw [hlen2, List.length_append], .inr ⟨w.heap.size, (Builtin.zeroCells z.cells (grownCap w (xs.length + ys.length) old e - (xs.length + ys.length))).toList, rfl, ?_, ?_, hcm, ?_⟩⟩
        · simp [Ty.all_append]
        · rw [List.length_append]; exact hge
        · have hz := size_zeroCells z.cells (grownCap w (xs.length + ys.length) old e - (xs.length + ys.length))
          rw [h6, ← Array.length_toList] at hz
          refine Nat.le_of_eq (Eq.symm ?_)
          rw [List.length_append, hlen2, hz, ← Nat.add_mul]
          congr 1; omega
      · cases e : Nat.beq x w.heap.size with
        | false => simp only [e, cond_false] at hx; cases hx
        | true =>
          simp only [e, cond_true, Option.some.injEq] at hx
          have := Nat.eq_of_beq_eq_true e
          subst hx; subst this
          exact ⟨by show (w.heap.push _)[w.heap.size]? = _; simp, .inr (Nat.le_refl _)⟩
      · show w.heap.size ≤ (w.heap.push _).size; simp
      · show (w.heap.push _)[x]? = _
        rw [Array.getElem?_push, if_neg (by omega)]
    by_cases hroom : xs.length + ys.length ≤ cap
    · -- in place
      have hown := S.ownLen i hi
      obtain ⟨gg, rfl⟩ := hown.2.2.1 (by omega)
      have hv : ∃ sp, w.heap[gg]? = some (.cells (T.all xs ++ sp).toArray e (0, 0)) ∧ cap * T.n ≤ (T.all xs ++ sp).length := S.view i hi fun x hx m => by
        obtain ⟨hl, hx | ⟨g', sp, h8, hg, h9, h10, h11⟩⟩ := hx
        · cases hx.1
        · cases h8
          exact ⟨sp, (m _ _ hg).2, h11⟩
      obtain ⟨sp, hg, hsp⟩ := hv
      have hmul : (xs.length + ys.length) * T.n ≤ cap * T.n := Nat.mul_le_mul_right _ hroom
      have hfit : xs.length * ii.size + (T.all ys).length ≤ (T.all xs ++ sp).toArray.size := by
        rw [h4, hall, List.size_toArray, ← Nat.add_mul]; exact Nat.le_trans hmul hsp
      have hrun := run_append_room (P := P) w t ty e ii hT.under h2 gg xs.length cap (T.all xs ++ sp).toArray hg bd ys.length c (T.all ys) (by rw [hall, h4]) hc hone hroom hfit
      refine ⟨_, _, _, hrun, ?_, by simp [hy], fun _ => ⟨rfl, rfl⟩⟩
      have htk : (T.all xs ++ sp).toArray.toList.take (xs.length * ii.size) ++ T.all ys ++ (T.all xs ++ sp).toArray.toList.drop (xs.length * ii.size + (T.all ys).length) = T.all (xs ++ ys) ++ sp.drop (T.all ys).length := by
        rw [h4, ← hall xs, Ty.all_append]
        simp [List.take_append, List.drop_append]
      rw [htk]
      have hlsp : (T.all (xs ++ ys) ++ sp.drop (T.all ys).length).length ≥ cap * T.n := by
        simp only [List.length_append, List.length_drop, hall] at hsp ⊢
        rw [Nat.add_mul]
        rw [Nat.add_mul] at hmul
        omega
      refine S.focus i hi fun h1 a1 m => ⟨fun x => bif Nat.beq x gg then some (.cells (T.all (xs ++ ys) ++ sp.drop (T.all ys).length).toArray e (0, 0)) else none, ?_, fun x o hx => ?_, rfl, rfl, rfl, by simp [World.setRow], fun x hx hn => ?_⟩
      · exact ⟨by rw [hlen2, List.length_append], .inr ⟨gg, _, rfl, by simp, by rw [List.length_append]; exact hroom, hown.2.1, hlsp⟩⟩
      · cases e : Nat.beq x gg with
        | false => simp only [e, cond_false] at hx; cases hx
        | true =>
          simp only [e, cond_true, Option.some.injEq] at hx
          have := Nat.eq_of_beq_eq_true e
          subst hx; subst this
          refine ⟨setRow_heap w x _ _ _ _ hg, .inl ?_⟩
          obtain ⟨hl, hx | ⟨g', sp', h8, hg', _⟩⟩ := a1
          · cases hx.1
          · cases h8; rw [hg']; simp
      · refine setRow_other w gg x _ fun e => ?_
        subst e
        obtain ⟨hl, hx | ⟨g', sp', h8, hg', _⟩⟩ := a1
        · cases hx.1
        · cases h8; rw [hg'] at hn; cases hn
    · cases a with
      | none =>
        have hx := (S.ownLen i hi).2.2.2 rfl
        obtain ⟨rfl, rfl⟩ := hx
        have hrun := run_append_nil (P := P) w t ty e ii z hT.under h2 h3 bd ys.length c (T.all ys) (by rw [hall, h4]) hc hpos (by simpa using hsm) (by rw [h5]; simp only [List.length_nil, Nat.zero_add] at hb; omega)
        refine ⟨_, _, _, ?_, grow 0 _ rfl, by simp [hy], fun h => absurd h hroom⟩
        simpa [Ty.all] using hrun
      | some ad =>
        have hx := S.ownLen i hi
        have hold : ∃ gg, ad = ⟨gg, 0, none⟩ ∧ ∀ j v, (T.all xs)[j]? = some v → w.cell? (ad.add j) = some v := S.view i hi fun x hx m => by
          obtain ⟨hl, hx | ⟨g', sp, h8, hg, h9, h10, h11⟩⟩ := hx
          · cases hx.1
          · cases h8
            refine ⟨g', rfl, fun j v hj => ?_⟩
            simp only [addLit, Nat.zero_add, World.cell?, (m _ _ hg).2, Option.isSome_none, Bool.false_eq_true, if_false, List.getElem?_toArray]
            rw [List.getElem?_append_left (List.getElem?_eq_some_iff.1 hj).1]; exact hj
        obtain ⟨gg, rfl, hold⟩ := hold
        have hrun := run_append_grow (P := P) w t ty e ii z hT.under h2 h3 ⟨gg, 0, none⟩ xs.length cap (T.all xs) (by rw [hall, h4]) hold bd ys.length c (T.all ys) (by rw [hall, h4]) hc (by omega) hsm (by rw [h5]; exact growslice_fits (by omega) hb)
        exact ⟨_, _, _, hrun, grow cap _ rfl, by simp, fun h => absurd h hroom⟩

section
variable {P : Program} {f : Fm} {w w0 : World} {L : List HA} {K : Value → World → Prop} {Qp : List PanicEntry → World → Prop} {d : Option Nat} {ty : TypeId} {pos : String} {aft : Array Edge} {g : Option (Nat × Bool)}
theorem O.append {α : Type} {T : Ty α} {t e : TypeId} {bytes : Nat} {a b : Option Addr} {cap c n m : Nat} {xs ys : List α} {X Y : Operand} (i : Nat) (hT : SlT P t e T.n bytes) (S : Sat w0 w L) (hx : ev f X = .slice a n cap) (hi : L[i]? = some (Own T e a cap xs)) (hn : n = xs.length) (hy : ev f Y = .slice b m c) (hr : Rd T w b ys) (hm : m = ys.length)
    (hb : (xs.length + ys.length) * bytes ≤ 140737488355328) (hl : xs.length + ys.length ≤ maxLen)
    (h : ∀ a' cap' w', Sat w0 w' (L.set i (Own T e a' cap' (xs ++ ys))) → (a' = none ↔ a = none ∧ ys = []) → K (.slice a' (xs ++ ys).length cap') w') : OpK P ⟨d, .call { callee := .builtin .append, args := #[X, Y], argTypes := #[t, t] }, ty, pos, aft, g⟩ f w K Qp := by
  subst hn; subst hm
  obtain ⟨a', cap', w', hrun, hS, hnil, _⟩ := S.append hT i hi b c hr hb hl ty
  refine OpK.val (v := .slice a' (xs.length + ys.length) cap') (w' := w') ?_ (by have := h a' cap' w' hS hnil; simpa using this)
  simp [execOp, resolve, invoke, builtin, hx, hy, hrun]
end
end Go.TL
