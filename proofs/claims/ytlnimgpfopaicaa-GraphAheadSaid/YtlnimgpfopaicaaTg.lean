/-
  A library of this claim: bits of numbers; rows that are read alone; appending to a row that is full.
-/
import Derived.Test.YtlnimgpfopaicaaTf
set_option linter.unusedVariables false
set_option linter.unusedSimpArgs false
namespace Go.TL
open Go.RowKit

section
variable {P : Program} {f : Fm} {w w0 : World} {L : List HA} {K : Value → World → Prop} {Qp : List PanicEntry → World → Prop} {d : Option Nat} {ty : TypeId} {pos : String} {aft : Array Edge} {g : Option (Nat × Bool)}
theorem ofInt_nat {x : Nat} (h : x < 9223372036854775808) : (BitVec.ofInt 64 (x : Int)).toNat = x := by
  rw [BitVec.toNat_ofInt]; omega
theorem Y.andN {X Y : Operand} {t t' : TypeId} {x y : Nat} (hx : ev f X = .int .i64 (x : Int)) (hy : ev f Y = .int .i64 (y : Int)) (h1 : x < 9223372036854775808) (h2 : y < 9223372036854775808) : Yl P ⟨d, .binOp .and t X Y t', ty, pos, aft, g⟩ f w (.int .i64 ((x &&& y : Nat) : Int)) := by
  have hle : x &&& y ≤ x := Nat.and_le_left
  have h3 : IntKind.i64.wrap ((BitVec.ofInt 64 (x : Int) &&& BitVec.ofInt 64 (y : Int)).toNat : Int) = ((x &&& y : Nat) : Int) := by
    rw [BitVec.toNat_and, ofInt_nat h1, ofInt_nat h2]
    exact wrap64_id (by omega)
  rw [← h3]
  unfold Yl
  simp [execOp, hx, hy, binOp, Op.intBits, eqGuard]
  rfl
theorem Y.orN {X Y : Operand} {t t' : TypeId} {x y : Nat} (hx : ev f X = .int .i64 (x : Int)) (hy : ev f Y = .int .i64 (y : Int)) (h1 : x < 9223372036854775808) (h2 : y < 9223372036854775808) : Yl P ⟨d, .binOp .or t X Y t', ty, pos, aft, g⟩ f w (.int .i64 ((x ||| y : Nat) : Int)) := by
  have hle : x ||| y < 2 ^ 63 := Nat.or_lt_two_pow (by omega) (by omega)
  have h3 : IntKind.i64.wrap ((BitVec.ofInt 64 (x : Int) ||| BitVec.ofInt 64 (y : Int)).toNat : Int) = ((x ||| y : Nat) : Int) := by
    rw [BitVec.toNat_or, ofInt_nat h1, ofInt_nat h2]
    exact wrap64_id (by omega)
  rw [← h3]
  unfold Yl
  simp [execOp, hx, hy, binOp, Op.intBits, eqGuard]
  rfl
theorem Y.shrN {X Y : Operand} {t t' : TypeId} {k : IntKind} {x y : Nat} (hx : ev f X = .int .i64 (x : Int)) (hy : ev f Y = .int k (y : Int)) (h1 : y ≤ 64) : Yl P ⟨d, .binOp .shr t X Y t', ty, pos, aft, g⟩ f w (.int .i64 ((x >>> y : Nat) : Int)) := by
  have h2 : min ((y : Int).toNat) IntKind.i64.bits = y := by
    show min ((y : Int).toNat) 64 = y
    omega
  have h3 : ((x >>> y : Nat) : Int) = (x : Int).fdiv (2 ^ (min ((y : Int).toNat) IntKind.i64.bits)) := by
    rw [h2, Nat.shiftRight_eq_div_pow, Int.fdiv_eq_ediv_of_nonneg _ (by exact Int.le_of_lt (Int.pow_pos (by decide)))]
    simp
  have h4 : min y IntKind.i64.bits = y := by
    show min y 64 = y
    omega
  rw [h3]
  unfold Yl
  simp [execOp, hx, hy, binOp, Op.shift, eqGuard]
  try rw [h4, Int.fdiv_eq_ediv_of_nonneg _ (by exact Int.le_of_lt (Int.pow_pos (by decide)))]
theorem Y.shlN {X Y : Operand} {t t' : TypeId} {k : IntKind} {x y : Nat} (hx : ev f X = .int .i64 (x : Int)) (hy : ev f Y = .int k (y : Int)) (h1 : y ≤ 64) (hb : x <<< y < 9223372036854775808) : Yl P ⟨d, .binOp .shl t X Y t', ty, pos, aft, g⟩ f w (.int .i64 ((x <<< y : Nat) : Int)) := by
  have h2 : min ((y : Int).toNat) IntKind.i64.bits = y := by
    show min ((y : Int).toNat) 64 = y
    omega
  have h3 : ((x <<< y : Nat) : Int) = IntKind.i64.wrap ((x : Int) * 2 ^ (min ((y : Int).toNat) IntKind.i64.bits)) := by
    have e : ((x <<< y : Nat) : Int) = (x : Int) * 2 ^ y := by rw [Nat.shiftLeft_eq]; simp
    rw [h2, ← e]
    generalize x <<< y = z at hb
    exact (wrap64_id (by omega)).symm
  have h4 : min y IntKind.i64.bits = y := by
    show min y 64 = y
    omega
  rw [h3]
  unfold Yl
  simp [execOp, hx, hy, binOp, Op.shift, eqGuard]
  try rw [h4]
end

theorem Sat.emptyOwn {w0 w : World} {L : List HA} {α : Type} {b : Nat} {e : TypeId} (S : Sat w0 w (Cel b [] e :: L)) (T : Ty α) : Sat w0 w (Own T e (some ⟨b, 0, none⟩) 0 ([] : List α) :: L) :=
  S.imp 0 rfl fun x hx => ⟨by simp [Ty.all], .inr ⟨b, [], rfl, hx, Nat.le_refl _, Nat.zero_le _, by simp [Ty.all]⟩⟩
theorem Rd.isNil {α : Type} {T : Ty α} {w : World} {a : Option Addr} {xs : List α} (h : Rd T w a xs) (hn : a.isNone = true) : xs = [] := by
  cases xs with
  | nil => rfl
  | cons x r =>
    have := h.1 (by simp)
    cases a <;> simp_all
theorem addAdd' (a : Addr) (i j : Nat) : (a.add i).add j = a.add (i + j) := by
  unfold Addr.add
  by_cases h1 : i = 0 <;> by_cases h2 : j = 0 <;> simp [h1, h2, Nat.add_assoc]
theorem Rd.drop {α : Type} {T : Ty α} {w : World} {a : Option Addr} {xs : List α} (h : Rd T w a xs) (l cap : Nat) (hc : xs.length ≤ cap) : Rd T w (sla a l cap T.n) (xs.drop l) := by
  by_cases e : cap = l
  · rw [List.drop_eq_nil_of_le (by omega)]; exact Rd.nil _ _ _
  · unfold sla
    rw [if_neg e]
    cases a with
    | none =>
      have hx := h.isNil rfl
      subst hx
      rw [List.drop_nil]; exact Rd.nil _ _ _
    | some ad =>
      refine ⟨fun _ => rfl, fun i x hx j c hc => ?_⟩
      rw [List.getElem?_drop] at hx
      have := h.2 (l + i) x hx j c hc
      simp only [el, Option.getD_some, Option.map_some] at this ⊢
      rw [addAdd'] at this
      rw [addAdd', addAdd', ← Nat.add_assoc, ← Nat.add_mul]; exact this
theorem Y.subN {P : Program} {f : Fm} {w : World} {d : Option Nat} {ty : TypeId} {pos : String} {aft : Array Edge} {g : Option (Nat × Bool)} {X Y : Operand} {t t' : TypeId} {x y : Nat} (hx : ev f X = .int .i64 (x : Int)) (hy : ev f Y = .int .i64 (y : Int)) (h : y ≤ x) (hb : x ≤ 9223372036854775807) : Yl P ⟨d, .binOp .sub t X Y t', ty, pos, aft, g⟩ f w (.int .i64 ((x - y : Nat) : Int)) := by
  have e : ((x - y : Nat) : Int) = (x : Int) - (y : Int) := by omega
  rw [e]
  exact TL.Y.subI hx hy (by omega)
theorem Y.ixNB {P : Program} {f : Fm} {w : World} {d : Option Nat} {ty : TypeId} {pos : String} {aft : Array Edge} {g : Option (Nat × Bool)} {t e : TypeId} {n bytes : Nat} {X I : Operand} {k : IntKind} {b len c i : Nat} (hT : SlT P t e n bytes) (hx : ev f X = .slice (some ⟨b, 0, none⟩) len c) (hi : ev f I = .int k (i : Int)) (h1 : i < len) : Yl P ⟨d, .indexAddr t X I, ty, pos, aft, g⟩ f w (.pointer (some ⟨b, i * n, none⟩)) := by
  have := Y.ixN (P := P) (w := w) (d := d) (ty := ty) (pos := pos) (aft := aft) (g := g) hT hx hi rfl h1
  have e1 : el (some ⟨b, 0, none⟩) i n = ⟨b, i * n, none⟩ := by simp only [el, Option.getD_some, addLit, Nat.zero_add]
  rw [e1] at this
  exact this
theorem Y.conv64 {P : Program} {f : Fm} {w : World} {d : Option Nat} {ty : TypeId} {pos : String} {aft : Array Edge} {g : Option (Nat × Bool)} {X : Operand} {s t : TypeId} {k' : IntKind} {x : Int} (hs : ∃ u, P.underlying s = some u) (hu : P.underlying t = some (.int .i64)) (hx : ev f X = .int k' x) (hb : -9223372036854775808 ≤ x ∧ x ≤ 9223372036854775807) : Yl P ⟨d, .convert s t X, ty, pos, aft, g⟩ f w (.int .i64 x) := by
  have h := TL.Y.conv (w := w) (d := d) (ty := ty) (pos := pos) (aft := aft) (g := g) hs hu hx
  rw [wrap64_id hb] at h; exact h
/-- where X holds, the row reads as xs -/
def Reads {α : Type} (X : HA) (T : Ty α) (a : Option Addr) (xs : List α) : Prop := ∀ (w : World) (h : Hp), X h → (∀ b o, h b = some o → w.heap[b]? = some o) → Rd T w a xs
theorem Sat.reads {α : Type} {w0 w : World} {L : List HA} {X : HA} {T : Ty α} {a : Option Addr} {xs : List α} (S : Sat w0 w L) (i : Nat) (hi : L[i]? = some X) (hr : Reads X T a xs) : Rd T w a xs :=
  S.view i hi fun x hx m => hr w x hx fun b o ho => (m b o ho).2
theorem Reads.nil {α : Type} (X : HA) (T : Ty α) (a : Option Addr) : Reads X T a ([] : List α) := fun w _ _ _ => Rd.nil T w a
theorem Reads.own {α : Type} (T : Ty α) (e : TypeId) (a : Option Addr) (cap : Nat) (xs : List α) : Reads (Own T e a cap xs) T a xs := fun w h hx m => by
  obtain ⟨hl, hx | ⟨g, sp, rfl, hg, h1, h2, h3⟩⟩ := hx
  · have : xs = [] := List.eq_nil_of_length_eq_zero hx.2.2
    subst this; exact Rd.nil _ _ _
  · have S : Sat w w [] := Sat.refl w
    have hw := m _ _ hg
    refine ⟨fun _ => rfl, fun i x hx j c hc => ?_⟩
    have e1 := Ty.all_at T xs i x hx j c hc
    simp only [el, Option.getD_some, addLit, Nat.zero_add]
    show World.cell? w _ = _
    simp only [World.cell?, hw, Option.isSome_none, Bool.false_eq_true, if_false, List.getElem?_toArray]
    rw [List.getElem?_append_left (List.getElem?_eq_some_iff.1 e1).1]; exact e1
theorem Reads.one {α : Type} {T : Ty α} {b : Nat} {e : TypeId} (x : α) : Reads (Cel b (T.enc x) e) T (some ⟨b, 0, none⟩) [x] := fun w h hx m => by
  have hw := m _ _ (show h b = _ from hx)
  refine ⟨fun _ => rfl, fun k y hy j c hc => ?_⟩
  obtain rfl : k = 0 := by
    have := (List.getElem?_eq_some_iff.1 hy).1
    simp at this; omega
  simp at hy; subst hy
  simp only [el, Option.getD_some, Nat.zero_mul, addLit, Nat.zero_add]
  simp only [World.cell?, hw, Option.isSome_none, Bool.false_eq_true, if_false, List.getElem?_toArray]
  exact hc
theorem Reads.all {α : Type} {T : Ty α} {b : Nat} {e : TypeId} (xs : List α) : Reads (Cel b (T.all xs) e) T (some ⟨b, 0, none⟩) xs := fun w h hx m => by
  have hw := m _ _ (show h b = _ from hx)
  refine ⟨fun _ => rfl, fun k y hy j c hc => ?_⟩
  have e1 := Ty.all_at T xs k y hy j c hc
  simp only [el, Option.getD_some, addLit, Nat.zero_add]
  simp only [World.cell?, hw, Option.isSome_none, Bool.false_eq_true, if_false, List.getElem?_toArray]
  exact e1
theorem Reads.bun {α : Type} {X : HA} {T : Ty α} {a : Option Addr} {xs : List α} (h : Reads X T a xs) (i : Nat) {M : List HA} (hi : M[i]? = some X) : Reads (Bun M) T a xs := fun w x hx m => by
  obtain ⟨h1, h2, p, _, _, s1, _⟩ := star.at i hx hi
  exact h w h1 p fun b o ho => m b o (s1 b o ho)
theorem Reads.take {α : Type} {X : HA} {T : Ty α} {a : Option Addr} {xs : List α} (h : Reads X T a xs) (k : Nat) : Reads X T a (xs.take k) := fun w x hx m => (h w x hx m).take k
theorem Reads.drop {α : Type} {X : HA} {T : Ty α} {a : Option Addr} {xs : List α} (h : Reads X T a xs) (l cap : Nat) (hc : xs.length ≤ cap) : Reads X T (sla a l cap T.n) (xs.drop l) := fun w x hx m => (h w x hx m).drop l cap hc
theorem Rd.cells {α : Type} {T : Ty α} {w : World} {ad : Addr} {ys : List α} (hn : 0 < T.n) (hr : Rd T w (some ad) ys) : ∀ j v, (T.all ys)[j]? = some v → w.cell? (ad.add j) = some v := by
  intro j v hj
  have hjl := (List.getElem?_eq_some_iff.1 hj).1
  rw [T.all_len] at hjl
  have hq : j / T.n < ys.length := (Nat.div_lt_iff_lt_mul hn).2 hjl
  have hmod : j % T.n < T.n := Nat.mod_lt _ hn
  have e1 : ys[j / T.n]? = some ys[j / T.n] := List.getElem?_eq_getElem hq
  have e2 : (T.enc ys[j / T.n])[j % T.n]? = some ((T.enc ys[j / T.n])[j % T.n]'(by rw [T.len]; exact hmod)) := List.getElem?_eq_getElem _
  have e3 := Ty.all_at T ys _ _ e1 _ _ e2
  have e4 : j / T.n * T.n + j % T.n = j := by rw [Nat.mul_comm]; exact Nat.div_add_mod j T.n
  rw [e4, hj] at e3
  have e5 := hr.2 _ _ e1 _ _ e2
  rw [← Option.some.inj e3] at e5
  rw [← e5]
  congr 1
  simp only [el, Option.getD_some]
  unfold Addr.add
  by_cases q0 : j / T.n * T.n = 0 <;> by_cases r0 : j % T.n = 0 <;> by_cases j0 : j = 0 <;> simp [q0, r0, j0] <;> omega
/-- appending to a row that has no room: a row of its own -/
theorem Sat.appendGrow {P : Program} {w0 w : World} {L : List HA} {α : Type} {T : Ty α} {t e : TypeId} {bytes : Nat} {a : Option Addr} {cap : Nat} {xs ys : List α} (hT : SlT P t e T.n bytes) (S : Sat w0 w L) (hx : Rd T w a xs) (hc1 : xs.length ≤ cap) (hc2 : cap < xs.length + ys.length) (hcn : a = none → cap = 0) (b : Option Addr) (c : Nat) (hr : Rd T w b ys) (hy : ys ≠ [])
    (hb : (xs.length + ys.length) * bytes ≤ 140737488355328) (hm : xs.length + ys.length ≤ maxLen) (ty : TypeId) :
    ∃ a' cap' w', (Builtin.append_ #[t, t] ty #[.slice a xs.length cap, .slice b ys.length c]).run P w = .ok (.slice a' (xs.length + ys.length) cap') w' ∧ Sat w0 w' (Own T e a' cap' (xs ++ ys) :: L) ∧ a' ≠ none := by
  obtain ⟨ii, z, h2, h3, h4, h5, h6, h7⟩ := hT.info
  have hsm : ((xs.length + ys.length : Nat) : Int) ≤ 9223372036854775807 := by simp only [maxLen] at hm; omega
  have hn := hT.pos
  have hall := T.all_len
  have hpos : 0 < ys.length := List.length_pos_iff.2 hy
  obtain ⟨bd, rfl⟩ := Option.isSome_iff_exists.1 (hr.1 hpos)
  have hc := Rd.cells hn hr
  have hone : ∀ u ∈ T.all ys, u.oneCell' = true := by
    intro u hu
    obtain ⟨y, _, hu⟩ := List.mem_flatMap.1 hu
    exact T.one y u hu
  have hlen2 : (T.all (xs ++ ys)).length = (xs.length + ys.length) * T.n := by rw [hall, List.length_append]
  have grow : ∀ (old : Nat) (w1 : World), w1 = w.drew.alloc (.cells ((T.all xs).toArray ++ (T.all ys).toArray ++ Builtin.zeroCells z.cells (grownCap w (xs.length + ys.length) old e - (xs.length + ys.length))) e) →
      Sat w0 w1 (Own T e (some ⟨w.heap.size, 0, none⟩) (grownCap w (xs.length + ys.length) old e) (xs ++ ys) :: L) := by
    intro old w1 e1
    subst e1
    have hge := grownCap_ge w (xs.length + ys.length) old e
    have hcm := grownCap_le_maxLen w (xs.length + ys.length) old e hm
    refine (S.drew.alloc _).imp 0 rfl fun x hx => ?_
    refine ⟨by rw [hlen2, List.length_append], .inr ⟨w.heap.size, (Builtin.zeroCells z.cells (grownCap w (xs.length + ys.length) old e - (xs.length + ys.length))).toList, rfl, ?_, ?_, hcm, ?_⟩⟩
    · rw [show x w.heap.size = _ from hx]; simp [Ty.all_append]
    · rw [List.length_append]; exact hge
    · have hz := size_zeroCells z.cells (grownCap w (xs.length + ys.length) old e - (xs.length + ys.length))
      rw [h6, ← Array.length_toList] at hz
      refine Nat.le_of_eq (Eq.symm ?_)
      rw [List.length_append, hlen2, hz, ← Nat.add_mul]
      congr 1; omega
  cases a with
  | none =>
    have hxn : xs = [] := by
      cases xs with
      | nil => rfl
      | cons x r => have := hx.1 (by simp); cases this
    subst hxn; obtain rfl := hcn rfl
    have hrun := run_append_nil (P := P) w t ty e ii z hT.under h2 h3 bd ys.length c (T.all ys) (by rw [hall, h4]) hc hpos (by simpa using hsm) (by rw [h5]; simp only [List.length_nil, Nat.zero_add] at hb; omega)
    refine ⟨_, _, _, ?_, grow 0 _ rfl, by simp⟩
    simpa [Ty.all] using hrun
  | some ad =>
    have hrun := run_append_grow (P := P) w t ty e ii z hT.under h2 h3 ad xs.length cap (T.all xs) (by rw [hall, h4]) (Rd.cells hn hx) bd ys.length c (T.all ys) (by rw [hall, h4]) hc (by omega) hsm (by rw [h5]; exact growslice_fits (by omega) hb)
    exact ⟨_, _, _, hrun, grow cap _ rfl, by simp⟩
theorem Sat.appendFull {P : Program} {w0 w : World} {L : List HA} {α : Type} {T : Ty α} {t e : TypeId} {bytes : Nat} {a : Option Addr} {cap : Nat} {xs ys : List α} (hT : SlT P t e T.n bytes) (S : Sat w0 w L) (hx : Rd T w a xs) (hc0 : cap = xs.length) (b : Option Addr) (c : Nat) (hr : Rd T w b ys) (hy : ys ≠ [])
    (hb : (xs.length + ys.length) * bytes ≤ 140737488355328) (hm : xs.length + ys.length ≤ maxLen) (ty : TypeId) :
    ∃ a' cap' w', (Builtin.append_ #[t, t] ty #[.slice a xs.length cap, .slice b ys.length c]).run P w = .ok (.slice a' (xs.length + ys.length) cap') w' ∧ Sat w0 w' (Own T e a' cap' (xs ++ ys) :: L) ∧ a' ≠ none := by
  have hpos : 0 < ys.length := List.length_pos_iff.2 hy
  refine S.appendGrow hT hx (by omega) (by omega) (fun e => ?_) b c hr hy hb hm ty
  subst e
  rw [hc0]
  cases xs with
  | nil => rfl
  | cons x r => have := hx.1 (by simp); cases this
section
variable {P : Program} {f : Fm} {w w0 : World} {L : List HA} {K : Value → World → Prop} {Qp : List PanicEntry → World → Prop} {d : Option Nat} {ty : TypeId} {pos : String} {aft : Array Edge} {g : Option (Nat × Bool)}
theorem O.appendFull {α : Type} {T : Ty α} {t e : TypeId} {bytes : Nat} {a b : Option Addr} {cap c n m : Nat} {xs ys : List α} {X Y : Operand} (hT : SlT P t e T.n bytes) (S : Sat w0 w L) (hx : ev f X = .slice a n cap) (hrx : Rd T w a xs) (hn : n = xs.length) (hc : cap = xs.length) (hy : ev f Y = .slice b m c) (hr : Rd T w b ys) (hm : m = ys.length) (hy0 : ys ≠ [])
    (hb : (xs.length + ys.length) * bytes ≤ 140737488355328) (hl : xs.length + ys.length ≤ maxLen)
    (h : ∀ a' cap' w', Sat w0 w' (Own T e a' cap' (xs ++ ys) :: L) → K (.slice a' (xs ++ ys).length cap') w') : OpK P ⟨d, .call { callee := .builtin .append, args := #[X, Y], argTypes := #[t, t] }, ty, pos, aft, g⟩ f w K Qp := by
  subst hn; subst hm
  obtain ⟨a', cap', w', hrun, hS, hnil⟩ := S.appendFull hT hrx hc b c hr hy0 hb hl ty
  refine OpK.val (v := .slice a' (xs.length + ys.length) cap') (w' := w') ?_ (by have := h a' cap' w' hS; simpa using this)
  simp [execOp, resolve, invoke, builtin, hx, hy, hrun]
end
theorem retB {b c : Bool} (h : b = c) : Ending.returned (.bool b) = .returned (.bool c) := by rw [h]
theorem retI {k : IntKind} {b c : Int} (h : b = c) : Ending.returned (.int k b) = .returned (.int k c) := by rw [h]
theorem at_ex {α : Type} {xs : List α} {k : Nat} (h : k < xs.length) : ∃ x, xs[k]? = some x := ⟨xs[k], List.getElem?_eq_getElem h⟩
theorem take_succ_at {α : Type} {xs : List α} {k : Nat} {x : α} (h : xs[k]? = some x) : xs.take (k + 1) = xs.take k ++ [x] := by
  rw [List.take_add_one, h]; rfl
theorem at_lt {α : Type} {xs : List α} {k : Nat} {x : α} (h : xs[k]? = some x) : k < xs.length := (List.getElem?_eq_some_iff.1 h).1
def I64 (x : Int) : Prop := -9223372036854775808 ≤ x ∧ x ≤ 9223372036854775807
theorem Q1 {p : Prop} [Decidable p] : (decide p = true) = p := decide_eq_true_eq
theorem Q2 {p : Prop} [Decidable p] : (decide p = false) ↔ ¬ p := decide_eq_false_iff_not
theorem Q3 {b : Bool} : ((!b) = true) = (b = false) := Bool.not_eq_true' b
theorem Q4 {b : Bool} : ((!b) = false) = (b = true) := Bool.not_eq_false' b
theorem Q5 {a b : Bool} : ((a && b) = true) = (a = true ∧ b = true) := Bool.and_eq_true a b
theorem Q6 {a b : Bool} : ((a || b) = true) = (a = true ∨ b = true) := Bool.or_eq_true a b
theorem Q7 {a b : Bool} : ((a && b) = false) ↔ (a = false ∨ b = false) := Bool.and_eq_false_iff
theorem Q8 {a b : Bool} : ((a || b) = false) ↔ (a = false ∧ b = false) := Bool.or_eq_false_iff
theorem Q9 : (!true) = false := Bool.not_true
theorem Qa : (!false) = true := Bool.not_false
end Go.TL
