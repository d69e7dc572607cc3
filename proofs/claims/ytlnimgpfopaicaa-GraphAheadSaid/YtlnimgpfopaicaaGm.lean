/-
  A field of an element is written; whole numbers that are divided; runes.
-/
import Derived.Test.YtlnimgpfopaicaaGl
set_option linter.unusedVariables false
set_option linter.unusedSimpArgs false
namespace Go.TL
open Go.RowKit

theorem lset_get (l : List Value) (off : Nat) (vs : List Value) (h : off + vs.length ≤ l.length) (m : Nat) : (lset l off vs)[m]? = if m < off then l[m]? else if m < off + vs.length then vs[m - off]? else l[m]? := by
  unfold lset
  by_cases h1 : m < off
  · rw [if_pos h1, List.append_assoc, List.getElem?_append_left (by rw [List.length_take]; omega), List.getElem?_take, if_pos h1]
  · rw [if_neg h1]
    by_cases h2 : m < off + vs.length
    · rw [if_pos h2, List.append_assoc, List.getElem?_append_right (by rw [List.length_take]; omega), List.length_take, Nat.min_eq_left (by omega), List.getElem?_append_left (by omega)]
    · rw [if_neg h2, List.getElem?_append_right (by rw [List.length_append, List.length_take]; omega), List.length_append, List.length_take, Nat.min_eq_left (by omega), List.getElem?_drop]
      congr 1; omega
theorem Ty.all_setF {α : Type} (T : Ty α) {xs : List α} {k j : Nat} {x y : α} {v : Value} (r : List Value) (hx : xs[k]? = some x) (hj : j < T.n) (hy : T.enc y = (T.enc x).set j v) : lset (T.all xs ++ r) (k * T.n + j) [v] = T.all (xs.set k y) ++ r := by
  have hk := at_lt hx
  have hfit : k * T.n + T.n ≤ (T.all xs ++ r).length := by
    have h1 : (k + 1) * T.n ≤ xs.length * T.n := Nat.mul_le_mul_right _ hk
    rw [List.length_append, T.all_len]
    rw [Nat.add_mul] at h1
    omega
  rw [← Ty.all_set T xs k y r hk]
  have hlx := T.len x
  have hly := T.len y
  apply List.ext_getElem?
  intro m
  rw [lset_get _ _ _ (by rw [List.length_singleton]; omega), lset_get _ _ _ (by rw [hly]; exact hfit), hly]
  simp only [List.length_singleton]
  by_cases h1 : m < k * T.n
  · rw [if_pos (by omega), if_pos h1]
  · rw [if_neg h1]
    by_cases h2 : m < k * T.n + T.n
    · rw [if_pos h2, hy]
      by_cases h3 : m = k * T.n + j
      · subst h3
        rw [if_neg (by omega), if_pos (by omega), Nat.sub_self, Nat.add_sub_cancel_left, List.getElem?_set_self (by omega)]
        rfl
      · rw [List.getElem?_set_ne (by omega)]
        have hin : (T.enc x)[m - k * T.n]? = (T.all xs ++ r)[m]? := by
          obtain ⟨c, hc⟩ := at_ex (xs := T.enc x) (k := m - k * T.n) (by omega)
          have := T.all_at xs k x hx (m - k * T.n) c hc
          rw [hc, List.getElem?_append_left (by rw [T.all_len]; have : (k + 1) * T.n ≤ xs.length * T.n := Nat.mul_le_mul_right _ hk; rw [Nat.add_mul] at this; omega)]
          rw [show k * T.n + (m - k * T.n) = m by omega] at this
          exact this.symm
        by_cases h4 : m < k * T.n + j
        · rw [if_pos h4, hin]
        · rw [if_neg h4, if_neg (by omega), hin]
    · rw [if_neg h2, if_neg (by omega), if_neg (by omega)]
section
variable {P : Program} {f : Fm} {w w0 : World} {L : List HA} {K : Value → World → Prop} {Qp : List PanicEntry → World → Prop} {d : Option Nat} {ty : TypeId} {pos : String} {aft : Array Edge} {g : Option (Nat × Bool)}
/-- a store into one cell of an element of a slice of its own -/
theorem O.storeFld {α : Type} {T : Ty α} {t e : TypeId} {X Y : Operand} {a : Option Addr} {cap k j : Nat} {xs : List α} {x : α} {v : Value} (i : Nat) (y : α) (S : Sat w0 w L) (hx : ev f X = .pointer (some ((el a k T.n).add j))) (hi : L[i]? = some (Own T e a cap xs)) (hk : xs[k]? = some x) (hj : j < T.n) (hy : ev f Y = v) (hs : SzT P t 1 false) (hv : v.cells = #[v]) (h1 : v.oneCell' = true) (he : T.enc y = (T.enc x).set j v)
    (h : ∀ w', Sat w0 w' (L.set i (Own T e a cap (xs.set k y))) → K undef w') : OpK P ⟨d, .store t X Y, ty, pos, aft, g⟩ f w K Qp := by
  have hkl := at_lt hk
  obtain ⟨gg, sp, ha, hg, h9, h10, h11⟩ := S.view i hi (p := ∃ gg sp, a = some ⟨gg, 0, none⟩ ∧ w.heap[gg]? = some (.cells (T.all xs ++ sp).toArray e (0, 0)) ∧ xs.length ≤ cap ∧ cap ≤ maxLen ∧ cap * T.n ≤ (T.all xs ++ sp).length) fun x hx m => by
    obtain ⟨hl, hx | ⟨g', sp, h8, hg, h9, h10, h11⟩⟩ := hx
    · omega
    · exact ⟨g', sp, h8, (m _ _ hg).2, h9, h10, h11⟩
  subst ha
  have hfit : k * T.n + j + 1 ≤ (T.all xs ++ sp).length := by
    have h1 : (k + 1) * T.n ≤ xs.length * T.n := Nat.mul_le_mul_right _ hkl
    rw [List.length_append, T.all_len]
    rw [Nat.add_mul] at h1
    omega
  have hst := storeVar_blk (P := P) (b := gg) (off := k * T.n + j) hs (vs := [v]) hv rfl (fun u hu => by simp at hu; rw [hu]; exact h1) hg hfit
  rw [Ty.all_setF T sp hk hj he] at hst
  refine OpK.skip (w' := w.setRow gg (T.all (xs.set k y) ++ sp).toArray) (by simp [execOp, hx, hy, Instr.storeAt, Instr.sureAddr, el, addLit, hst]) (h _ ?_)
  refine S.focus i hi fun h1 a1 m => ⟨fun x => bif Nat.beq x gg then some (.cells (T.all (xs.set k y) ++ sp).toArray e (0, 0)) else none, ?_, fun x o hx => ?_, rfl, rfl, rfl, by simp [World.setRow], fun x hx hn => ?_⟩
  · refine ⟨by rw [T.all_len], .inr ⟨gg, sp, rfl, by simp, by rw [List.length_set]; exact h9, h10, ?_⟩⟩
    rw [List.length_append, T.all_len] at h11 ⊢; rw [List.length_set]; exact h11
  · cases e : Nat.beq x gg with
    | false => simp only [e, cond_false] at hx; cases hx
    | true =>
      simp only [e, cond_true, Option.some.injEq] at hx
      have := Nat.eq_of_beq_eq_true e
      subst hx; subst this
      refine ⟨setRow_heap w x _ _ _ _ hg, .inl ?_⟩
      obtain ⟨hl, hx | ⟨g', sp', h8, hg', _⟩⟩ := a1
      · cases hx.1
      · cases h8; rw [hg']; simp
  · refine setRow_other w gg x _ fun e => ?_
    subst e
    obtain ⟨hl, hx | ⟨g', sp', h8, hg', _⟩⟩ := a1
    · cases hx.1
    · cases h8; rw [hg'] at hn; cases hn
theorem Y.remN {X Y : Operand} {t t' : TypeId} {k : IntKind} {x y : Nat} (hx : ev f X = .int k (x : Int)) (hy : ev f Y = .int k (y : Int)) (h0 : 0 < y) : Yl P ⟨d, .binOp .rem t X Y t', ty, pos, aft, g⟩ f w (.int k ((x % y : Nat) : Int)) := by
  have h1 : ¬ ((y : Int) = 0) := by omega
  have h2 : (x : Int).tmod (y : Int) = ((x % y : Nat) : Int) := rfl
  unfold Yl; simp only [execOp, hx, hy, binOp, Op.intDiv, eqGuard, h1, h2]; simp
theorem Y.quoN {X Y : Operand} {t t' : TypeId} {x y : Nat} (hx : ev f X = .int .i64 (x : Int)) (hy : ev f Y = .int .i64 (y : Int)) (h0 : 0 < y) (hb : x ≤ 9223372036854775807) : Yl P ⟨d, .binOp .quo t X Y t', ty, pos, aft, g⟩ f w (.int .i64 ((x / y : Nat) : Int)) := by
  have h1 : ¬ ((y : Int) = 0) := by omega
  have h2 : (x : Int).tdiv (y : Int) = ((x / y : Nat) : Int) := rfl
  have h3 : x / y ≤ x := Nat.div_le_self ..
  have h5 : ∀ q : Nat, q ≤ x → IntKind.i64.wrap (q : Int) = (q : Int) := fun q hq => wrap64_id (by omega)
  have h4 := h5 _ h3
  unfold Yl; simp only [execOp, hx, hy, binOp, Op.intDiv, eqGuard, h1, h2, h4]; simp
theorem Y.convI32z {X : Operand} {s t : TypeId} {k' : IntKind} {x : Int} (z : Int) (hs : ∃ u, P.underlying s = some u) (hu : P.underlying t = some (.int .i32)) (hx : ev f X = .int k' x) (hz : z = x) (hb : 0 ≤ x ∧ x ≤ 2147483647) : Yl P ⟨d, .convert s t X, ty, pos, aft, g⟩ f w (.int .i32 z) := by
  subst hz
  have : IntKind.i32.wrap z = z := wrap_id (by simp [IntKind.min, IntKind.signed, IntKind.bits]; omega) (by simp [IntKind.max, IntKind.signed, IntKind.bits]; omega)
  have h2 := TL.Y.conv (d := d) (ty := ty) (pos := pos) (aft := aft) (g := g) (w := w) hs hu hx
  rw [this] at h2
  exact h2
theorem Y.convI32 {X : Operand} {s t : TypeId} {k' : IntKind} {x : Int} (hs : ∃ u, P.underlying s = some u) (hu : P.underlying t = some (.int .i32)) (hx : ev f X = .int k' x) (hb : 0 ≤ x ∧ x ≤ 2147483647) : Yl P ⟨d, .convert s t X, ty, pos, aft, g⟩ f w (.int .i32 x) := by
  have : IntKind.i32.wrap x = x := wrap_id (by simp [IntKind.min, IntKind.signed, IntKind.bits]; omega) (by simp [IntKind.max, IntKind.signed, IntKind.bits]; omega)
  conv => rhs; rw [← this]
  exact TL.Y.conv hs hu hx
end
theorem RawOk.take {w : World} {raws : List RLet} {ls : List GLet} (h : RawOk w raws ls) (k : Nat) : RawOk w (raws.take k) (ls.take k) := by
  refine ⟨by simp [h.1], fun j r x h1 h2 => ?_⟩
  rw [List.getElem?_take] at h1 h2
  split at h1
  · rw [if_pos (by assumption)] at h2; exact h.2 j r x h1 h2
  · cases h1
theorem rdRen {w : World} {f : GFlow} {k c : Nat} {a : Option Addr} {ra : List RLet} (h1 : Rd tRLet w a ra) (h2 : RawOk w ra (ren (f.lets.take k) k)) (h3 : ra.length ≤ c) (hs : Small f) : RdFlow w ⟨a, c, none, 0⟩ (renF f k) := by
  have hl : (renF f k).lets.length = (f.lets.take k).length := ren_len _ _
  have hl2 : (f.lets.take k).length ≤ f.lets.length := by rw [List.length_take]; omega
  have h4 := hs.ln
  refine ⟨⟨ra, h1, h2⟩, Rd.nil _ _ _, ?_, Nat.le_refl _, by omega, by simp [renF], fun i x hx => ?_⟩
  · have := h2.1
    show (ren (f.lets.take k) k).length ≤ c
    omega
  · have hi := at_lt hx
    obtain ⟨y, hy⟩ := at_ex (xs := f.lets.take k) (k := i) (by omega)
    have := ren_at (i := k) hy
    rw [show (renF f k).lets = ren (f.lets.take k) k from rfl, this] at hx
    rw [List.getElem?_take] at hy
    split at hy
    · have h5 := hs.tn i y hy
      have h6 := Option.some.inj hx
      split at h6
      · subst h6; exact h5
      · subst h6; exact h5
    · cases hy
end Go.TL
