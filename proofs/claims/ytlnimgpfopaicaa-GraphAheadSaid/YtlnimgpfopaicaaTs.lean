/-
  A library of this claim: bytes, strings and builders of strings.
-/
import Derived.Test.YtlnimgpfopaicaaTg
import Derived.Lib.AppendStr
import Derived.Lib.Builder
import Derived.Lib.UnsafeStr
import Derived.Deep.AppendSrc
import Derived.Laws.Externs
set_option linter.unusedVariables false
set_option linter.unusedSimpArgs false
namespace Go.TL
open Go.RowKit

def tU : Ty UInt8 := ⟨1, fun b => [.int .u8 (b.toNat : Int)], fun _ => rfl, fun x u hu => by simp at hu; subst hu; rfl⟩
theorem tU_all (l : List UInt8) : tU.all l = Lib.byteCells l := by
  induction l with
  | nil => rfl
  | cons b r ih =>
    show [Value.int .u8 (b.toNat : Int)] ++ tU.all r = _
    rw [ih]; rfl
theorem bytes_cells (l : List UInt8) : Go.byteCells ⟨l.toArray⟩ = Lib.byteCells l := rfl
theorem bytes_size (l : List UInt8) : (⟨l.toArray⟩ : ByteArray).size = l.length := by
  show l.toArray.size = _
  simp
theorem Sat.appendStr {P : Program} {w0 w : World} {L : List HA} {t u e : TypeId} {a : Option Addr} {cap : Nat} {xs ys : List UInt8} (hT : SlT P t e 1 1) (hu : P.underlying u = some .string) (S : Sat w0 w L) (i : Nat) (hi : L[i]? = some (Own tU e a cap xs))
    (hm : xs.length + ys.length ≤ 140737488355328) (ty : TypeId) :
    ∃ a' cap' w', (Builtin.append_ #[t, u] ty #[.slice a xs.length cap, .string ⟨ys.toArray⟩]).run P w = .ok (.slice a' (xs.length + ys.length) cap') w' ∧ Sat w0 w' (L.set i (Own tU e a' cap' (xs ++ ys))) := by
  obtain ⟨ii, z, h2, h3, h4, h5, h6, h7⟩ := hT.info
  have hsm : ((xs.length + ys.length : Nat) : Int) ≤ 9223372036854775807 := by omega
  have hmx : xs.length + ys.length ≤ maxLen := by simp only [maxLen]; omega
  have hall := tU.all_len
  have hz1 : tU.n = 1 := rfl
  have hlen2 : (tU.all (xs ++ ys)).length = (xs.length + ys.length) * tU.n := by rw [hall, List.length_append]
  have hsz := bytes_size ys
  have hyl : (tU.all ys).length = ys.length := by rw [hall, hz1, Nat.mul_one]
  have hxl : (tU.all xs).length = xs.length := by rw [hall, hz1, Nat.mul_one]
  have hown := S.ownLen i hi
  by_cases hroom : xs.length + ys.length ≤ cap
  · cases a with
    | none =>
      obtain ⟨rfl, rfl⟩ := hown.2.2.2 rfl
      have hy : ys = [] := by
        cases ys with
        | nil => rfl
        | cons y r => simp at hroom
      subst hy
      refine ⟨none, 0, w, ?_, ?_⟩
      · have hsrc := Src.ofString (P := P) w hu ⟨([] : List UInt8).toArray⟩
        simp [Builtin.append_, run_underlying hT.under, run_underlying hu, sizeOf, typeInfo, h2, Builtin.lenOf, Builtin.firstCells]
        rfl
      · have := S.imp (A' := Own tU e none 0 ([] ++ [])) i hi (fun x hx => by simpa using hx)
        exact this
    | some ad =>
      have hv : ∃ gg sp, ad = ⟨gg, 0, none⟩ ∧ w.heap[gg]? = some (.cells (tU.all xs ++ sp).toArray e (0, 0)) ∧ cap * tU.n ≤ (tU.all xs ++ sp).length := S.view i hi fun x hx m => by
        obtain ⟨hl, hx | ⟨g', sp, h8, hg, h9, h10, h11⟩⟩ := hx
        · cases hx.1
        · cases h8
          exact ⟨g', sp, rfl, (m _ _ hg).2, h11⟩
      obtain ⟨gg, sp, rfl, hg, hsp⟩ := hv
      rw [hz1, Nat.mul_one] at hsp
      have hrun := Lib.run_append_room_string (P := P) w t u ty e ii hT.under hu h2 h4 gg xs.length cap (tU.all xs ++ sp).toArray hg ⟨ys.toArray⟩ (by rw [hsz]; exact hroom) (by rw [hsz, List.size_toArray]; exact Nat.le_trans hroom hsp)
      rw [hsz] at hrun
      refine ⟨_, _, _, hrun, ?_⟩
      have htk : (tU.all xs ++ sp).toArray.toList.take xs.length ++ Lib.strCells ⟨ys.toArray⟩ ++ (tU.all xs ++ sp).toArray.toList.drop (xs.length + ys.length) = tU.all (xs ++ ys) ++ sp.drop ys.length := by
        have e1 : Lib.strCells ⟨ys.toArray⟩ = tU.all ys := (tU_all ys).symm
        rw [e1, Ty.all_append]
        simp only [List.toList_toArray]
        rw [← hxl]
        simp [List.take_append, List.drop_append]
      rw [htk]
      have hlsp : (tU.all (xs ++ ys) ++ sp.drop ys.length).length ≥ cap * tU.n := by
        simp only [List.length_append, List.length_drop, hlen2] at hsp ⊢
        rw [hz1, Nat.mul_one, Nat.mul_one]
        omega
      refine S.focus i hi fun h1 a1 m => ⟨fun x => bif Nat.beq x gg then some (.cells (tU.all (xs ++ ys) ++ sp.drop ys.length).toArray e (0, 0)) else none, ?_, fun x o hx => ?_, rfl, rfl, rfl, by simp [World.setRow], fun x hx hn => ?_⟩
      · exact ⟨by rw [hlen2, List.length_append], .inr ⟨gg, _, rfl, by simp, by rw [List.length_append]; exact hroom, hown.2.1, hlsp⟩⟩
      · cases e : Nat.beq x gg with
        | false => simp only [e, cond_false] at hx; cases hx
        | true =>
          simp only [e, cond_true, Option.some.injEq] at hx
          have := Nat.eq_of_beq_eq_true e
          subst hx; subst this
          refine ⟨setRow_heap w x _ _ _ _ hg, .inl ?_⟩
          obtain ⟨hl, hx | ⟨g', sp', h8, hg', _⟩⟩ := a1
          · cases hx.1
          · cases h8; rw [hg']; simp
      · refine setRow_other w gg x _ fun e => ?_
        subst e
        obtain ⟨hl, hx | ⟨g', sp', h8, hg', _⟩⟩ := a1
        · cases hx.1
        · cases h8; rw [hg'] at hn; cases hn
  · have hold : (Builtin.firstCells ii.size xs.length (.slice a xs.length cap)).run P w.drew = .ok (tU.all xs).toArray w.drew := by
      cases a with
      | none =>
        obtain ⟨rfl, rfl⟩ := hown.2.2.2 rfl
        exact run_firstCells_none w.drew ii.size 0 0 0
      | some ad =>
        have hx := S.rd i hi
        exact run_firstCells_some w.drew ii.size xs.length ad xs.length cap (tU.all xs) (by rw [hall, h4]; rfl) (Rd.cells (T := tU) (w := w) Nat.one_pos hx)
    have hsrc := Src.ofString (P := P) w hu ⟨ys.toArray⟩
    rw [hsz] at hsrc
    have hsrc : Src P ii.size u (.string ⟨ys.toArray⟩) ys.length (tU.all ys) w := by rw [h4, tU_all]; exact hsrc
    have hrun := run_append_grow_src (P := P) w t u ty e ii z hT.under h2 h3 a xs.length cap (tU.all xs) hold (.string ⟨ys.toArray⟩) ys.length (tU.all ys) hsrc (by omega) hsm (by rw [h5]; exact growslice_fits (by omega) (by omega))
    refine ⟨_, _, _, hrun, ?_⟩
    have hge := grownCap_ge w (xs.length + ys.length) cap e
    have hcm := grownCap_le_maxLen w (xs.length + ys.length) cap e hmx
    refine S.focus i hi fun h1 a1 m => ⟨fun x => bif Nat.beq x w.heap.size then some (.cells ((tU.all xs ++ tU.all ys).toArray ++ Builtin.zeroCells z.cells (grownCap w (xs.length + ys.length) cap e - (xs.length + ys.length))) e (0, 0)) else none, ?_, fun x o hx => ?_, rfl, rfl, rfl, ?_, fun x hx _ => ?_⟩
    · refine ⟨by rw [hlen2, List.length_append], .inr ⟨w.heap.size, (Builtin.zeroCells z.cells (grownCap w (xs.length + ys.length) cap e - (xs.length + ys.length))).toList, rfl, ?_, ?_, hcm, ?_⟩⟩
      · simp [Ty.all_append]
      · rw [List.length_append]; exact hge
      · have hz := size_zeroCells z.cells (grownCap w (xs.length + ys.length) cap e - (xs.length + ys.length))
        rw [h6, ← Array.length_toList] at hz
        rw [List.length_append, hlen2, hz, hz1, Nat.mul_one, Nat.mul_one, Nat.mul_one]
        omega
    · cases e : Nat.beq x w.heap.size with
      | false => simp only [e, cond_false] at hx; cases hx
      | true =>
        simp only [e, cond_true, Option.some.injEq] at hx
        have := Nat.eq_of_beq_eq_true e
        subst hx; subst this
        exact ⟨by show (w.heap.push _)[w.heap.size]? = _; simp, .inr (Nat.le_refl _)⟩
    · show w.heap.size ≤ (w.heap.push _).size; simp
    · show (w.heap.push _)[x]? = _
      rw [Array.getElem?_push, if_neg (by omega)]

section
variable {P : Program} {f : Fm} {w w0 : World} {L : List HA} {K : Value → World → Prop} {Qp : List PanicEntry → World → Prop} {d : Option Nat} {ty : TypeId} {pos : String} {aft : Array Edge} {g : Option (Nat × Bool)}
theorem O.appendStr {t u e : TypeId} {a : Option Addr} {cap n : Nat} {xs ys : List UInt8} {X Y : Operand} (i : Nat) (hT : SlT P t e 1 1) (hu : P.underlying u = some .string) (S : Sat w0 w L) (hx : ev f X = .slice a n cap) (hi : L[i]? = some (Own tU e a cap xs)) (hn : n = xs.length) (hy : ev f Y = .string ⟨ys.toArray⟩)
    (hm : xs.length + ys.length ≤ 140737488355328)
    (h : ∀ a' cap' w', Sat w0 w' (L.set i (Own tU e a' cap' (xs ++ ys))) → K (.slice a' (xs ++ ys).length cap') w') : OpK P ⟨d, .call { callee := .builtin .append, args := #[X, Y], argTypes := #[t, u] }, ty, pos, aft, g⟩ f w K Qp := by
  subst hn
  obtain ⟨a', cap', w', hrun, hS⟩ := S.appendStr hT hu i hi hm ty
  refine OpK.val (v := .slice a' (xs.length + ys.length) cap') (w' := w') ?_ (by have := h a' cap' w' hS; simpa using this)
  simp [execOp, resolve, invoke, builtin, hx, hy, hrun]
theorem bytes_append (a b : List UInt8) : (⟨a.toArray⟩ : ByteArray) ++ ⟨b.toArray⟩ = ⟨(a ++ b).toArray⟩ := by
  apply ByteArray.ext
  simp
theorem Y.addS {X Y : Operand} {t t' : TypeId} {a b : List UInt8} (hx : ev f X = .string ⟨a.toArray⟩) (hy : ev f Y = .string ⟨b.toArray⟩) (hb : a.length + b.length ≤ 9223372036854775807) : Yl P ⟨d, .binOp .add t X Y t', ty, pos, aft, g⟩ f w (.string ⟨(a ++ b).toArray⟩) := by
  rw [← bytes_append]
  unfold Yl
  simp [execOp, hx, hy, binOp, eqGuard, Op.stringOp, bytes_size]
  omega
theorem run_equal_ptr0 {t e : TypeId} (hu : P.underlying t = some (.pointer e)) (p : Option Addr) : (Op.equal t (.pointer p) (.pointer none)).run P w = .ok p.isNone w := by
  show (Op.equalIn (9999 + 1) t _ _).run P w = _
  unfold Op.equalIn
  cases p <;> simp [run_underlying hu]
theorem Y.eqNilP {t t' e : TypeId} {X Y : Operand} {p : Option Addr} (hu : P.underlying t = some (.pointer e)) (hx : ev f X = .pointer p) (hy : ev f Y = .pointer none) : Yl P ⟨d, .binOp .eql t X Y t', ty, pos, aft, g⟩ f w (.bool p.isNone) := by
  unfold Yl; simp [execOp, hx, hy, eqGuard, binOp, run_equal_ptr0 hu]
theorem Y.neNilP {t t' e : TypeId} {X Y : Operand} {p : Option Addr} (hu : P.underlying t = some (.pointer e)) (hx : ev f X = .pointer p) (hy : ev f Y = .pointer none) : Yl P ⟨d, .binOp .neq t X Y t', ty, pos, aft, g⟩ f w (.bool (!p.isNone)) := by
  unfold Yl; simp [execOp, hx, hy, eqGuard, binOp, run_equal_ptr0 hu]
theorem Y.nePtrSame {t t' e : TypeId} {j : TypeInfo} {X Y : Operand} {a : Addr} (hu : P.underlying t = some (.pointer e)) (hj : P.info? e = some j) (hx : ev f X = .pointer (some a)) (hy : ev f Y = .pointer (some a)) : Yl P ⟨d, .binOp .neq t X Y t', ty, pos, aft, g⟩ f w (.bool false) := by
  have := Lib.run_neq_ptr_same (P := P) w a hu hj
  unfold Yl
  simp only [execOp, hx, hy, Sem.run_bind, eqGuard]
  simp [this]
theorem Y.convR {s t : TypeId} {X : Operand} {u v : Value} (hx : ev f X = u) (hr : (convert s t u).run P w = .ok v w) : Yl P ⟨d, .convert s t X, ty, pos, aft, g⟩ f w v := by
  unfold Yl
  simp [execOp, hx, hr]
theorem Y.callExt {F : FuncId} {fn : Func} {e : Array Value → Sem Value} {as : List Operand} {ts : Array TypeId} {args : List Value} {v : Value} (hf : P.funcs[F]? = some fn) (hname : (fn.name == "runtime.NumGoroutine") = false) (hb : fn.body.isNone = true) (hn : Extern.findNext fn = none) (he : Extern.find fn = some e)
    (ha : as.map (ev f) = args) (hr : (e args.toArray).run P w = .ok v w) : Yl P ⟨d, .call { callee := .value (.func F), args := as.toArray, argTypes := ts }, ty, pos, aft, g⟩ f w v := by
  have := run_callFunc_extern hf hname hb hn he args.toArray w
  unfold Yl
  simp [execOp, resolve, ev, Deferred.ofValue, invoke, ha, this, hr]
end
end Go.TL
