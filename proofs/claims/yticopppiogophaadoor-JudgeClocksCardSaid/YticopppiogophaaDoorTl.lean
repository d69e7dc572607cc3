/-
  Layer 26 in plain Lean: histories of calls.
-/
import Derived.Test.YticopppiogophaaDoorTj
import Derived.Test.YticopppiogophaaDoorTs
import Derived.Lib.ItoaLen
import Derived.Lib.AppendIntMem
set_option linter.unusedVariables false
set_option linter.unusedSimpArgs false
namespace Go.TL
open Go.RowKit

theorem Ext.grow (w : World) (k : Nat) (os : Array Obj) : Ext w (Go.Sort.grow (w.drewN k) os) := Lib.below_grow w.heap.size w (Nat.le_refl _) k os

/-! ### numerals -/
def dval (l : List UInt8) : Nat := l.foldl (fun a b => a * 10 + (b.toNat - 48)) 0
theorem dig_nat {r : Nat} (h : r < 10) : (UInt8.ofNat (48 + r)).toNat = 48 + r := by
  simp [UInt8.toNat_ofNat']; omega
theorem dval_dec (u : Nat) : dval (Lib.decDigits u) = u := by
  induction u using Nat.strongRecOn with
  | _ u ih =>
    rw [Lib.decDigits]
    by_cases h : u < 10
    · rw [dif_pos h]
      simp only [dval, List.foldl_cons, List.foldl_nil, dig_nat h]; omega
    · rw [dif_neg h]
      have := ih (u / 10) (by omega)
      unfold dval at this ⊢
      rw [List.foldl_append, this]
      simp only [List.foldl_cons, List.foldl_nil, dig_nat (Nat.mod_lt u (by decide : 0 < 10))]; omega
theorem dec_range (u : Nat) : ∀ b ∈ Lib.decDigits u, 48 ≤ b.toNat ∧ b.toNat ≤ 57 := by
  induction u using Nat.strongRecOn with
  | _ u ih =>
    rw [Lib.decDigits]
    intro b hb
    by_cases h : u < 10
    · rw [dif_pos h] at hb
      simp only [List.mem_singleton] at hb
      subst hb; rw [dig_nat h]; omega
    · rw [dif_neg h] at hb
      rcases List.mem_append.1 hb with h1 | h1
      · exact ih (u / 10) (by omega) b h1
      · simp only [List.mem_singleton] at h1
        subst h1
        have := Nat.mod_lt u (by decide : 0 < 10)
        rw [dig_nat this]; omega
theorem dec_inj {u v : Nat} (h : Lib.decDigits u = Lib.decDigits v) : u = v := by rw [← dval_dec u, h, dval_dec]
theorem dec_ne {u : Nat} : Lib.decDigits u ≠ [] := by
  intro h
  have := Lib.decDigits_length u
  rw [h] at this
  have := Lib.nDigits_pos u
  simp at *; omega
theorem itoa_inj {n m : Int} (h : Lib.itoa n = Lib.itoa m) : n = m := by
  have neg : ∀ u v : Nat, (45 : UInt8) :: Lib.decDigits u ≠ Lib.decDigits v := fun u v e => by
    have := dec_range v 45 (by rw [← e]; exact List.mem_cons_self)
    have e2 : (45 : UInt8).toNat = 45 := rfl
    omega
  unfold Lib.itoa at h
  by_cases h1 : n < 0 <;> by_cases h2 : m < 0
  · rw [if_pos h1, if_pos h2] at h
    have := dec_inj (List.cons.inj h).2
    omega
  · rw [if_pos h1, if_neg h2] at h; exact absurd h (neg _ _)
  · rw [if_neg h1, if_pos h2] at h; exact absurd h.symm (neg _ _)
  · rw [if_neg h1, if_neg h2] at h
    have := dec_inj h
    omega
theorem itoa_no32 (n : Int) : (32 : UInt8) ∉ Lib.itoa n := by
  intro h
  have e2 : (32 : UInt8).toNat = 32 := rfl
  unfold Lib.itoa at h
  split at h
  · rcases List.mem_cons.1 h with h | h
    · exact absurd h (by decide)
    · have := dec_range _ _ h; omega
  · have := dec_range _ _ h; omega
def keyR (holds : List Int) : List UInt8 := holds.flatMap fun x => 32 :: Lib.itoa x
def keyL (done : Int) (holds : List Int) : List UInt8 := Lib.itoa done ++ keyR holds
theorem split32 : ∀ {l l' r r' : List UInt8}, (32 : UInt8) ∉ l → (32 : UInt8) ∉ l' → (r = [] ∨ ∃ s, r = 32 :: s) → (r' = [] ∨ ∃ s, r' = 32 :: s) → l ++ r = l' ++ r' → l = l' ∧ r = r'
  | [], [], r, r', _, _, _, _, h => ⟨rfl, h⟩
  | [], b :: l', r, r', _, h2, h3, _, h => by
    rcases h3 with rfl | ⟨s, rfl⟩
    · simp at h
    · simp only [List.nil_append, List.cons_append, List.cons.injEq] at h
      exact absurd (h.1 ▸ List.mem_cons_self) h2
  | b :: l, [], r, r', h1, _, _, h4, h => by
    rcases h4 with rfl | ⟨s, rfl⟩
    · simp at h
    · simp only [List.nil_append, List.cons_append, List.cons.injEq] at h
      exact absurd (h.1 ▸ List.mem_cons_self) h1
  | b :: l, b' :: l', r, r', h1, h2, h3, h4, h => by
    simp only [List.cons_append, List.cons.injEq] at h
    obtain ⟨e1, e2⟩ := split32 (fun m => h1 (List.mem_cons_of_mem _ m)) (fun m => h2 (List.mem_cons_of_mem _ m)) h3 h4 h.2
    exact ⟨by rw [h.1, e1], e2⟩
theorem keyR_head : ∀ (hs : List Int), keyR hs = [] ∨ ∃ s, keyR hs = 32 :: s
  | [] => .inl rfl
  | x :: r => .inr ⟨_, rfl⟩
theorem keyR_inj : ∀ {a b : List Int}, keyR a = keyR b → a = b
  | [], [], _ => rfl
  | [], y :: b, h => by simp [keyR] at h
  | x :: a, [], h => by simp [keyR] at h
  | x :: a, y :: b, h => by
    have h : 32 :: (Lib.itoa x ++ keyR a) = 32 :: (Lib.itoa y ++ keyR b) := h
    obtain ⟨e1, e2⟩ := split32 (itoa_no32 x) (itoa_no32 y) (keyR_head a) (keyR_head b) (List.cons.inj h).2
    rw [itoa_inj e1, keyR_inj e2]
theorem keyL_inj {d d' : Int} {a b : List Int} (h : keyL d a = keyL d' b) : d = d' ∧ a = b := by
  obtain ⟨e1, e2⟩ := split32 (itoa_no32 d) (itoa_no32 d') (keyR_head a) (keyR_head b) h
  exact ⟨itoa_inj e1, keyR_inj e2⟩
theorem itoa_len {n : Int} (h : I64 n) : (Lib.itoa n).length ≤ 21 := Lib.itoa_length_le n h.1 h.2
theorem keyR_len : ∀ {hs : List Int}, (∀ x ∈ hs, I64 x) → (keyR hs).length ≤ 22 * hs.length
  | [], _ => by simp [keyR]
  | x :: r, h => by
    have h1 := itoa_len (h x List.mem_cons_self)
    have h2 := keyR_len (hs := r) fun y hy => h y (List.mem_cons_of_mem _ hy)
    have e : keyR (x :: r) = 32 :: (Lib.itoa x ++ keyR r) := rfl
    rw [e]
    simp only [List.length_cons, List.length_append]; omega
theorem keyR_snoc (hs : List Int) (x : Int) : keyR (hs ++ [x]) = keyR hs ++ (32 :: Lib.itoa x) := by simp [keyR]
/-! ### calls -/
def call0 : GCall := ⟨0, 0, 0, 0, false, 0, 0⟩
def badC (c : GCall) : Bool := if c.begin_ < 0 then true else if ¬ c.end_ = -1 ∧ c.end_ < c.begin_ then true else if c.end_ = -1 then (if ¬ c.answer = 0 then true else c.ok) else false
/-- what is left of a call beside what its kind may bear -/
def bareC (k : Int) (c : GCall) : Option GCall :=
  if (k ≤ 2 ∧ c.op = 1) ∨ (k = 4 ∧ c.op = 1) then some ⟨0, 0, c.new, c.answer, c.ok, 0, 0⟩
  else if k ≤ 2 ∧ c.op = 2 then (if c.ok then some ⟨0, c.arg, c.new, 0, false, 0, 0⟩ else some ⟨0, c.arg, c.new, c.answer, c.ok, 0, 0⟩)
  else if k = 3 ∧ c.op = 3 then some ⟨0, 0, c.new, 0, c.ok, 0, 0⟩
  else if 3 ≤ k ∧ c.op = 4 then some ⟨0, c.arg, c.new, 0, c.ok, 0, 0⟩
  else if k = 4 ∧ c.op = 5 then some ⟨0, 0, 0, c.answer, false, 0, 0⟩
  else none
def rightB (k : Int) (c : GCall) : Bool := !badC c && (match bareC k c with
  | some b => decide (b = call0)
  | none => false)
def bitN (d i : Nat) : Nat := (d >>> i) &&& 1
def lateAt (h : List GCall) (d : Nat) (c : GCall) (i : Nat) : Bool := match h[i]? with
  | some x => decide (bitN d i = 0 ∧ ¬ x.end_ = -1 ∧ x.end_ < c.begin_)
  | none => false
def lateB (h : List GCall) (d : Nat) (c : GCall) : Bool := (List.range h.length).any (lateAt h d c)
theorem late_no {h : List GCall} {d : Nat} {c : GCall} {n : Nat} (hn : h.length ≤ n) (hf : ∀ j, j < n → lateAt h d c j = false) : lateB h d c = false := by
  rw [lateB, List.any_eq_false]
  intro j hj
  rw [hf j (by have := List.mem_range.1 hj; omega)]; decide
theorem late_yes {h : List GCall} {d : Nat} {c : GCall} {j : Nat} (hj : j < h.length) (hf : lateAt h d c j = true) : lateB h d c = true :=
  List.any_eq_true.2 ⟨j, List.mem_range.2 hj, hf⟩
theorem lateAt_eq {h : List GCall} {d : Nat} {c x : GCall} {i : Nat} (hx : h[i]? = some x) : lateAt h d c i = decide (bitN d i = 0 ∧ ¬ x.end_ = -1 ∧ x.end_ < c.begin_) := by simp [lateAt, hx]
def wr (x : Int) : Int := IntKind.i64.wrap x
def doesM (k : Int) (hs : List Int) (c : GCall) : List Int × GCall :=
  if k ≤ 2 then
    if c.op = 1 then (hs ++ [c.arg], { c with answer := 0, ok := false })
    else if hs = [] then (hs, { c with answer := 0, ok := false })
    else if k = 1 then (hs.drop 1, { c with answer := hs.headD 0, ok := true })
    else (hs.take (hs.length - 1), { c with answer := hs.getLastD 0, ok := true })
  else
    let x := hs.headD 0
    if c.op = 3 then ([wr (x + c.arg)], { c with answer := wr (x + c.arg), ok := false })
    else if c.op = 4 then ([x], { c with answer := x, ok := false })
    else if c.op = 1 then ([c.arg], { c with answer := 0, ok := false })
    else if c.op = 5 then (if x = c.arg then ([c.new], { c with answer := 0, ok := true }) else ([x], { c with answer := 0, ok := false }))
    else ([x], { c with answer := 0, ok := false })
theorem doesM_put {k : Int} {hs : List Int} {c : GCall} (h : k ≤ 2) (h1 : c.op = 1) : doesM k hs c = (hs ++ [c.arg], { c with answer := 0, ok := false }) := by unfold doesM; rw [if_pos h, if_pos h1]
theorem doesM_nil {k : Int} {hs : List Int} {c : GCall} (h : k ≤ 2) (h1 : ¬ c.op = 1) (h2 : hs = []) : doesM k hs c = (hs, { c with answer := 0, ok := false }) := by unfold doesM; rw [if_pos h, if_neg h1, if_pos h2]
theorem doesM_queue {k : Int} {hs : List Int} {c : GCall} {x : Int} (h : k ≤ 2) (h1 : ¬ c.op = 1) (h2 : hs[0]? = some x) (h3 : k = 1) : doesM k hs c = (hs.drop 1, { c with answer := x, ok := true }) := by
  unfold doesM
  rw [if_pos h, if_neg h1, if_neg (fun e => by rw [e] at h2; cases h2), if_pos h3]
  cases hs with
  | nil => cases h2
  | cons y r => simp at h2; subst h2; rfl
theorem doesM_stack {k : Int} {hs : List Int} {c : GCall} {x : Int} (h : k ≤ 2) (h1 : ¬ c.op = 1) (h2 : hs[hs.length - 1]? = some x) (h3 : ¬ k = 1) : doesM k hs c = (hs.take (hs.length - 1), { c with answer := x, ok := true }) := by
  unfold doesM
  rw [if_pos h, if_neg h1, if_neg (fun e => by rw [e] at h2; cases h2), if_neg h3]
  have : hs.getLastD 0 = x := by rw [← List.getLast?_eq_getElem?] at h2; rw [List.getLastD_eq_getLast?, h2]; rfl
  rw [this]
theorem doesM_one {k : Int} {hs : List Int} {c : GCall} {x : Int} (h : ¬ k ≤ 2) (h2 : hs[0]? = some x) : doesM k hs c = (if c.op = 3 then ([wr (x + c.arg)], { c with answer := wr (x + c.arg), ok := false })
    else if c.op = 4 then ([x], { c with answer := x, ok := false })
    else if c.op = 1 then ([c.arg], { c with answer := 0, ok := false })
    else if c.op = 5 then (if x = c.arg then ([c.new], { c with answer := 0, ok := true }) else ([x], { c with answer := 0, ok := false }))
    else ([x], { c with answer := 0, ok := false })) := by
  have : hs.headD 0 = x := by
    cases hs with
    | nil => cases h2
    | cons y r => simp at h2; subst h2; rfl
  unfold doesM; rw [if_neg h, this]
abbrev Been := List (Nat × List Int)
def linLoop (rec : Nat → List Int → Been → Option (List Nat) × Been) (k : Int) (h : List GCall) (d : Nat) (hs : List Int) : List Nat → Been → Option (List Nat) × Been
  | [], bn => (none, bn)
  | i :: r, bn => match h[i]? with
    | none => linLoop rec k h d hs r bn
    | some c =>
      if bitN d i = 1 then linLoop rec k h d hs r bn
      else if lateB h d c then linLoop rec k h d hs r bn
      else if ¬ c.end_ = -1 ∧ ¬ (doesM k hs c).2 = c then linLoop rec k h d hs r bn
      else match rec (d ||| 1 <<< i) (doesM k hs c).1 bn with
        | (some l, b2) => (some (i :: l), b2)
        | (none, b2) => linLoop rec k h d hs r b2
def linFrom (k : Int) (h : List GCall) (must : Nat) : Nat → Nat → List Int → Been → Option (List Nat) × Been
  | 0, _, _, bn => (none, bn)
  | fuel + 1, d, hs, bn => if d &&& must = must then (some [], bn) else if (d, hs) ∈ bn then (none, bn) else linLoop (linFrom k h must fuel) k h d hs (List.range h.length) ((d, hs) :: bn)
def mustOf (h : List GCall) (n : Nat) : Nat := (List.range n).foldl (fun m i => match h[i]? with
  | some c => if c.end_ = -1 then m else m ||| 1 <<< i
  | none => m) 0
def linBegin (k : Int) : List Int := if k ≤ 2 then [] else [0]
/-- what Linear answers -/
def linO (k : Int) (h : List GCall) : Option (List Nat) := (linFrom k h (mustOf h h.length) (h.length + 1) 0 (linBegin k) []).1
def linE (k : Int) (h : List GCall) : Int := if k < 1 ∨ 4 < k then 1 else if 12 < h.length then 33 else if h.all (rightB k) then 0 else 32
def linB (k : Int) (h : List GCall) : Bool := decide (linE k h = 0) && (linO k h).isSome
def linR (k : Int) (h : List GCall) : List Nat := if linE k h = 0 then (linO k h).getD [] else []
/-- the map of what has been -/
def beenM (bn : Been) : ByteArray → Option Bool := fun s => bif bn.any (fun p => decide ((⟨(keyL p.1 p.2).toArray⟩ : ByteArray) = s)) then some true else none
theorem key_bytes_inj {a b : List UInt8} (h : (⟨a.toArray⟩ : ByteArray) = ⟨b.toArray⟩) : a = b := by
  have := congrArg (fun x => x.data.toList) h
  simpa using this
theorem beenM_at (bn : Been) (d : Nat) (hs : List Int) : (beenM bn ⟨(keyL d hs).toArray⟩).getD false = decide ((d, hs) ∈ bn) := by
  have e : bn.any (fun p => decide ((⟨(keyL p.1 p.2).toArray⟩ : ByteArray) = ⟨(keyL d hs).toArray⟩)) = decide ((d, hs) ∈ bn) := by
    rw [Bool.eq_iff_iff, List.any_eq_true, decide_eq_true_eq]
    constructor
    · rintro ⟨p, hp, h2⟩
      obtain ⟨e1, e2⟩ := keyL_inj (key_bytes_inj (of_decide_eq_true h2))
      have : p = (d, hs) := by
        obtain ⟨p1, p2⟩ := p
        simp only at e1 e2
        rw [e2, Int.ofNat.inj e1]
      rw [← this]; exact hp
    · intro h
      exact ⟨_, h, decide_eq_true rfl⟩
  unfold beenM
  rw [e]
  by_cases h : (d, hs) ∈ bn <;> simp [h]
theorem beenM_add (bn : Been) (d : Nat) (hs : List Int) : mset (beenM bn) ⟨(keyL d hs).toArray⟩ true = beenM ((d, hs) :: bn) := by
  funext s
  unfold mset beenM
  simp only [List.any_cons]
  by_cases h : s = ⟨(keyL d hs).toArray⟩
  · subst h; simp
  · have : decide ((⟨(keyL d hs).toArray⟩ : ByteArray) = s) = false := decide_eq_false fun e => h e.symm
    simp only [if_neg h, this, Bool.false_or]
theorem wr_I64 (x : Int) : I64 (wr x) := by
  unfold I64 wr
  have h1 : IntKind.i64.min ≤ IntKind.i64.wrap x ∧ IntKind.i64.wrap x ≤ IntKind.i64.max := by
    simp [IntKind.min, IntKind.max, IntKind.signed, IntKind.bits, IntKind.wrap]; omega
  simpa [IntKind.min, IntKind.max, IntKind.signed, IntKind.bits] using h1
theorem doesM_len (k : Int) (hs : List Int) (c : GCall) : (doesM k hs c).1.length ≤ hs.length + 1 := by
  unfold doesM
  repeat' split
  all_goals first | (simp; done) | (simp; omega) | (simp only []; split <;> simp)
theorem doesM_one_len {k : Int} (hs : List Int) (c : GCall) (hk : 2 < k) : (doesM k hs c).1.length = 1 := by
  unfold doesM
  rw [if_neg (by omega)]
  simp only
  repeat' split
  all_goals rfl
theorem headD_mem {α : Type} {l : List α} {d : α} (h : l ≠ []) : l.headD d ∈ l := by
  cases l with
  | nil => exact absurd rfl h
  | cons x r => simp
theorem doesM_I64 {k : Int} {hs : List Int} {c : GCall} (h : ∀ x ∈ hs, I64 x) (h1 : I64 c.arg) (h2 : I64 c.new) (hne : 2 < k → hs.length = 1) : ∀ x ∈ (doesM k hs c).1, I64 x := by
  intro x hx
  unfold doesM at hx
  split at hx
  · split at hx
    · rcases List.mem_append.1 hx with hx | hx
      · exact h x hx
      · simp at hx; rw [hx]; exact h1
    · split at hx
      · exact h x hx
      · split at hx
        · exact h x (List.mem_of_mem_drop hx)
        · exact h x (List.mem_of_mem_take hx)
  · have hh : I64 (hs.headD 0) := h _ (headD_mem (fun e => by have := hne (by omega); rw [e] at this; cases this))
    simp only at hx
    split at hx
    · simp at hx; rw [hx]; exact wr_I64 _
    · split at hx
      · simp only [List.mem_singleton] at hx; rw [hx]; exact hh
      · split at hx
        · simp at hx; rw [hx]; exact h1
        · split at hx
          · split at hx
            · simp at hx; rw [hx]; exact h2
            · simp only [List.mem_singleton] at hx; rw [hx]; exact hh
          · simp only [List.mem_singleton] at hx; rw [hx]; exact hh
theorem bitN_cases (d i : Nat) : bitN d i = 0 ∨ bitN d i = 1 := by
  unfold bitN; rw [Nat.and_one_is_mod]; omega
theorem bitN_test (d i : Nat) : bitN d i = 1 ↔ d.testBit i = true := by
  rw [Nat.testBit_eq_decide_div_mod_eq, bitN, Nat.and_one_is_mod, Nat.shiftRight_eq_div_pow]; simp
theorem bitN_or (d i j : Nat) : bitN (d ||| 1 <<< i) j = 1 ↔ (bitN d j = 1 ∨ j = i) := by
  simp only [bitN_test, Nat.testBit_or, Nat.shiftLeft_eq, Nat.one_mul, Nat.testBit_two_pow, Bool.or_eq_true, decide_eq_true_eq]
  constructor <;> rintro (h | h) <;> first | exact .inl h | exact .inr h.symm
def undone (n d : Nat) : Nat := (List.range n).countP fun i => decide (¬ bitN d i = 1)
theorem undone_lt {n d i : Nat} (hi : i < n) (hb : ¬ bitN d i = 1) : undone n (d ||| 1 <<< i) + 1 ≤ undone n d := by
  unfold undone
  have hl : ∀ l : List Nat, l.countP (fun j => decide (¬ bitN (d ||| 1 <<< i) j = 1)) ≤ l.countP (fun j => decide (¬ bitN d j = 1)) := fun l =>
    List.countP_mono_left fun j _ h => by
      simp only [decide_eq_true_eq, bitN_or] at h ⊢
      exact fun h2 => h (.inl h2)
  have hm : i ∈ List.range n := List.mem_range.2 hi
  obtain ⟨a, b, hab⟩ := List.append_of_mem hm
  rw [hab, List.countP_append, List.countP_append, List.countP_cons, List.countP_cons]
  have h1 := hl a
  have h2 := hl b
  have e1 : decide (¬ bitN (d ||| 1 <<< i) i = 1) = false := decide_eq_false (fun h => h ((bitN_or d i i).2 (.inr rfl)))
  have e2 : decide (¬ bitN d i = 1) = true := decide_eq_true hb
  rw [e1, e2]
  simp only [Bool.false_eq_true, if_false, if_true]
  omega
theorem undone_le (n d : Nat) : undone n d ≤ n := by
  have := List.countP_le_length (p := fun i => decide (¬ bitN d i = 1)) (l := List.range n)
  simpa [undone] using this
theorem or_lt {d i n : Nat} (hd : d < 2 ^ n) (hi : i < n) : d ||| 1 <<< i < 2 ^ n := by
  refine Nat.or_lt_two_pow hd ?_
  rw [Nat.shiftLeft_eq, Nat.one_mul]
  exact Nat.pow_lt_pow_right (by decide) hi
theorem drop_range {n i : Nat} (h : i < n) : (List.range n).drop i = i :: (List.range n).drop (i + 1) := by
  have : (List.range n)[i]? = some i := by simp [h]
  rw [List.drop_eq_getElem_cons (by simpa using h)]; simp
section
variable {rec : Nat → List Int → Been → Option (List Nat) × Been} {k : Int} {h : List GCall} {d i : Nat} {hs : List Int} {r : List Nat} {bn : Been} {c : GCall}
theorem linLoop_bit (hx : h[i]? = some c) (hb : bitN d i = 1) : linLoop rec k h d hs (i :: r) bn = linLoop rec k h d hs r bn := by simp only [linLoop, hx, if_pos hb]
theorem linLoop_late (hx : h[i]? = some c) (hb : ¬ bitN d i = 1) (hl : lateB h d c = true) : linLoop rec k h d hs (i :: r) bn = linLoop rec k h d hs r bn := by simp only [linLoop, hx, if_neg hb, hl, if_true]
theorem linLoop_ne (hx : h[i]? = some c) (hb : ¬ bitN d i = 1) (hl : lateB h d c = false) (h1 : ¬ c.end_ = -1) (h2 : ¬ (doesM k hs c).2 = c) : linLoop rec k h d hs (i :: r) bn = linLoop rec k h d hs r bn := by
  simp only [linLoop, hx, if_neg hb, hl, Bool.false_eq_true, if_false, if_pos (And.intro h1 h2)]
theorem linLoop_yes {l : List Nat} (hx : h[i]? = some c) (hb : ¬ bitN d i = 1) (hl : lateB h d c = false) (h1 : ¬ (¬ c.end_ = -1 ∧ ¬ (doesM k hs c).2 = c)) (hr : (rec (d ||| 1 <<< i) (doesM k hs c).1 bn).1 = some l) : linLoop rec k h d hs (i :: r) bn = (some (i :: l), (rec (d ||| 1 <<< i) (doesM k hs c).1 bn).2) := by
  simp only [linLoop, hx, if_neg hb, hl, Bool.false_eq_true, if_false, if_neg h1]
  cases e : rec (d ||| 1 <<< i) (doesM k hs c).1 bn with
  | mk a b => rw [e] at hr; simp only at hr; subst hr; rfl
theorem linLoop_no (hx : h[i]? = some c) (hb : ¬ bitN d i = 1) (hl : lateB h d c = false) (h1 : ¬ (¬ c.end_ = -1 ∧ ¬ (doesM k hs c).2 = c)) (hr : (rec (d ||| 1 <<< i) (doesM k hs c).1 bn).1 = none) : linLoop rec k h d hs (i :: r) bn = linLoop rec k h d hs r (rec (d ||| 1 <<< i) (doesM k hs c).1 bn).2 := by
  simp only [linLoop, hx, if_neg hb, hl, Bool.false_eq_true, if_false, if_neg h1]
  cases e : rec (d ||| 1 <<< i) (doesM k hs c).1 bn with
  | mk a b => rw [e] at hr; simp only at hr; subst hr; rfl
end
theorem Sat.shrink {α : Type} {w0 w : World} {L : List HA} {T : Ty α} {e : TypeId} {a : Option Addr} {cap : Nat} {xs : List α} {y : α} (S : Sat w0 w L) (i : Nat) (hi : L[i]? = some (Own T e a cap (xs ++ [y]))) : Sat w0 w (L.set i (Own T e a cap xs)) :=
  S.imp i hi fun x hx => by
    obtain ⟨hl, hx | ⟨g, sp, rfl, hg, h1, h2, h3⟩⟩ := hx
    · have := hx.2.2; simp at this
    · refine ⟨T.all_len xs, .inr ⟨g, T.enc y ++ sp, rfl, ?_, by simp at h1; omega, h2, ?_⟩⟩
      · rw [hg, Ty.all_append]; simp [Ty.all]
      · rw [Ty.all_append] at h3; simp [Ty.all] at h3 ⊢; omega
theorem mustOf_succ {h : List GCall} {i : Nat} {c : GCall} (hx : h[i]? = some c) : mustOf h (i + 1) = if c.end_ = -1 then mustOf h i else mustOf h i ||| 1 <<< i := by
  unfold mustOf
  rw [List.range_succ, List.foldl_append]
  simp [hx]
theorem mustOf_lt (h : List GCall) : ∀ n, n ≤ 12 → mustOf h n < 4096
  | 0, _ => by (show 0 < 4096; decide)
  | n + 1, hn => by
    have ih := mustOf_lt h n (by omega)
    cases hx : h[n]? with
    | none =>
      have : mustOf h (n + 1) = mustOf h n := by
        unfold mustOf
        rw [List.range_succ, List.foldl_append]
        simp [hx]
      rw [this]; exact ih
    | some c =>
      rw [mustOf_succ hx]
      split
      · exact ih
      · exact or_lt (n := 12) ih (by omega)
theorem linLoop_len {rec : Nat → List Int → Been → Option (List Nat) × Been} {k : Int} {h : List GCall} {d : Nat} {hs : List Int} (hr : ∀ d' hs' bn' l', (rec d' hs' bn').1 = some l' → l'.length ≤ undone h.length d') :
    ∀ (r : List Nat) (bn : Been) (l : List Nat), (linLoop rec k h d hs r bn).1 = some l → l.length ≤ undone h.length d
  | [], bn, l, e => by simp [linLoop] at e
  | i :: r, bn, l, e => by
    cases hx : h[i]? with
    | none => simp only [linLoop, hx] at e; exact linLoop_len hr r bn l e
    | some c =>
      have hi := at_lt hx
      simp only [linLoop, hx] at e
      split at e
      · exact linLoop_len hr r bn l e
      · rename_i hb
        split at e
        · exact linLoop_len hr r bn l e
        · split at e
          · exact linLoop_len hr r bn l e
          · cases e2 : rec (d ||| 1 <<< i) (doesM k hs c).1 bn with
            | mk o b2 =>
              rw [e2] at e
              cases o with
              | none => exact linLoop_len hr r b2 l e
              | some l2 =>
                simp only [Option.some.injEq] at e
                subst e
                have h1 := hr _ _ _ _ (by rw [e2])
                have h2 := undone_lt hi hb
                simp only [List.length_cons]; omega
theorem linFrom_len {k : Int} {h : List GCall} {must : Nat} : ∀ (fuel d : Nat) (hs : List Int) (bn : Been) (l : List Nat), (linFrom k h must fuel d hs bn).1 = some l → l.length ≤ undone h.length d
  | 0, d, hs, bn, l, e => by simp [linFrom] at e
  | fuel + 1, d, hs, bn, l, e => by
    rw [linFrom] at e
    split at e
    · simp at e; subst e; simp
    · split at e
      · simp at e
      · exact linLoop_len (fun d' hs' bn' l' h => linFrom_len fuel d' hs' bn' l' h) _ _ _ e
theorem linO_len {k : Int} {h : List GCall} {l : List Nat} (e : linO k h = some l) : l.length ≤ h.length := by
  have := linFrom_len _ _ _ _ _ e
  have := undone_le h.length 0
  omega
theorem linBegin_ok (k : Int) : (linBegin k).length ≤ 1 ∧ (2 < k → (linBegin k).length = 1) ∧ ∀ x ∈ linBegin k, I64 x := by
  unfold linBegin
  split
  · exact ⟨by simp, fun h => by omega, fun x h => by simp at h⟩
  · exact ⟨by simp, fun h => rfl, fun x h => by simp at h; subst h; exact ⟨by decide, by decide⟩⟩
theorem lin_arg {k : Int} {h : List GCall} (e : k < 1 ∨ 4 < k) : linE k h = 1 ∧ linB k h = false ∧ linR k h = [] := by
  have h1 : linE k h = 1 := if_pos e
  refine ⟨h1, ?_, ?_⟩
  · unfold linB; rw [h1]; rfl
  · unfold linR; rw [h1]; rfl
theorem lin_long {k : Int} {h : List GCall} (e : ¬(k < 1 ∨ 4 < k)) (e2 : 12 < h.length) : linE k h = 33 ∧ linB k h = false ∧ linR k h = [] := by
  have h1 : linE k h = 33 := by unfold linE; rw [if_neg e, if_pos e2]
  refine ⟨h1, ?_, ?_⟩
  · unfold linB; rw [h1]; rfl
  · unfold linR; rw [h1]; rfl
theorem lin_bad {k : Int} {h : List GCall} {c : GCall} (e : ¬(k < 1 ∨ 4 < k)) (e2 : ¬ 12 < h.length) (hc : c ∈ h) (e3 : rightB k c = false) : linE k h = 32 ∧ linB k h = false ∧ linR k h = [] := by
  have ha : ¬ h.all (rightB k) = true := fun hh => by
    have := List.all_eq_true.1 hh c hc
    rw [e3] at this; cases this
  have h1 : linE k h = 32 := by unfold linE; rw [if_neg e, if_neg e2, if_neg ha]
  refine ⟨h1, ?_, ?_⟩
  · unfold linB; rw [h1]; rfl
  · unfold linR; rw [h1]; rfl
theorem lin_good {k : Int} {h : List GCall} (e : ¬(k < 1 ∨ 4 < k)) (e2 : ¬ 12 < h.length) (e3 : h.all (rightB k) = true) : linE k h = 0 ∧ linB k h = (linO k h).isSome ∧ linR k h = (linO k h).getD [] := by
  have h1 : linE k h = 0 := by unfold linE; rw [if_neg e, if_neg e2, if_pos e3]
  refine ⟨h1, ?_, ?_⟩
  · unfold linB; rw [h1]; rfl
  · unfold linR; rw [h1]; rfl
def livesL : List Access := [⟨0, 8, -1, 5, 1, 0, 0, false⟩, ⟨1, 1, 0, 0, 0, 0, 0, false⟩, ⟨1, 8, -1, 5, 0, 0, 0, false⟩]
def livesM : List Access := [⟨0, 8, -1, 5, 1, 0, 0, false⟩, ⟨0, 2, 0, 0, 0, 0, 0, false⟩, ⟨1, 1, 0, 0, 0, 0, 0, false⟩, ⟨1, 8, -1, 5, 0, 0, 0, false⟩]
def livesH (ans : Int) : List GCall := [⟨1, 7, 0, 0, false, 0, 1⟩, ⟨2, 0, 0, ans, true, 2, 3⟩]
theorem livesL_r : racesR livesL = [⟨0, 2⟩] ∧ mayE livesL = 0 := ⟨by kernel_rfl, by kernel_rfl⟩
theorem livesM_r : racesR livesM = [] ∧ mayE livesM = 0 := ⟨by kernel_rfl, by kernel_rfl⟩
theorem livesH7 : linR 1 (livesH 7) = [0, 1] ∧ linB 1 (livesH 7) = true ∧ linE 1 (livesH 7) = 0 := ⟨by kernel_rfl, by kernel_rfl, by kernel_rfl⟩
theorem livesH8 : linB 1 (livesH 8) = false ∧ linE 1 (livesH 8) = 0 ∧ linR 1 (livesH 8) = [] := ⟨by kernel_rfl, by kernel_rfl, by kernel_rfl⟩
theorem linR_len (k : Int) (h : List GCall) : (linR k h).length ≤ 12 := by
  unfold linR
  by_cases e : linE k h = 0
  · rw [if_pos e]
    have hl : h.length ≤ 12 := by
      unfold linE at e
      by_cases h1 : k < 1 ∨ 4 < k
      · rw [if_pos h1] at e; omega
      · rw [if_neg h1] at e
        by_cases h2 : 12 < h.length
        · rw [if_pos h2] at e; omega
        · omega
    cases e2 : linO k h with
    | none => simp
    | some l => have := linO_len e2; simp only [Option.getD_some]; omega
  · rw [if_neg e]; simp
end Go.TL
