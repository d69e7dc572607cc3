/-
  A library of this claim: the frame of a call as a function of slots, and the rules of a walk over it.
-/
import Derived.WalkKit
import Derived.OrdersHeld
import Derived.KernelRfl
set_option linter.unusedVariables false
namespace Go.TL

abbrev Fm := Nat → Value
def up (f : Fm) (d : Nat) (v : Value) : Fm := fun t => bif Nat.beq t d then v else f t
def upo (f : Fm) (d : Option Nat) (v : Value) : Fm := match d with
  | some d => up f d v
  | none => f
def ev (f : Fm) : Operand → Value
  | .tmp t => f t
  | .const v => v
  | .global g => .pointer (some ⟨g, 0, none⟩)
  | .func n => .func (.func n) #[] #[]

theorem up_at (f : Fm) (d : Nat) (v : Value) : up f d v d = v := by simp [up]
theorem beq_ne {t d : Nat} (h : t ≠ d) : Nat.beq t d = false := by
  cases hb : Nat.beq t d with
  | false => rfl
  | true => exact absurd (Nat.eq_of_beq_eq_true hb) h
theorem up_ne (f : Fm) {d t : Nat} (v : Value) (h : t ≠ d) : up f d v t = f t := by
  simp [up, beq_ne h]
theorem up_self {f : Fm} {d : Nat} {v : Value} (h : f d = v) : up f d v = f := by
  funext t
  by_cases e : t = d
  · subst e; rw [up_at, h]
  · rw [up_ne f v e]

/-- The machine's frame holds what f says. -/
structure Agr (n : Nat) (ds : List Deferred) (f : Fm) (a : Act) : Prop where
  size : a.tmps.size = n
  at_ : ∀ t, a.tmps.getD t undef = f t
  defs : a.defers = ds

theorem Agr.eval {n : Nat} {ds : List Deferred} {f : Fm} {a : Act} (h : Agr n ds f a) : a.eval = ev f := by
  funext o
  cases o <;> first | exact h.at_ _ | rfl

theorem Agr.put {n : Nat} {ds : List Deferred} {f : Fm} {a : Act} (h : Agr n ds f a) {d : Option Nat} {v : Value} (hd : ∀ x, d = some x → x < n) : Agr n ds (upo f d v) (a.put d v) := by
  cases d with
  | none => exact h
  | some x =>
    have hx := hd x rfl
    refine ⟨by simp [Act.put, h.size], fun t => ?_, h.defs⟩
    show (a.tmps.setIfInBounds x v).getD t undef = up f x v t
    by_cases e : t = x
    · subst e; rw [up_at]; simp [Array.getD, h.size, hx]
    · rw [up_ne f v e, ← h.at_ t]
      simp only [Array.getD_eq_getD_getElem?, Array.getElem?_setIfInBounds_ne (Ne.symm e)]

theorem Agr.fn {n : Nat} {ds : List Deferred} {f : Fm} {a : Act} (h : Agr n ds f a) : f = fun t => a.tmps.getD t undef := funext fun t => (h.at_ t).symm

def W (P : Program) (n : Nat) (ds : List Deferred) (c : Code) (Q : Exit → Fm → World → Prop) (f : Fm) (w : World) : Prop :=
  ∀ a, Agr n ds f a → c.wp P (fun e a' w' => ∃ f', Agr n ds f' a' ∧ Q e f' w') a w

def Then (N : Fm → World → Prop) (Q : Exit → Fm → World → Prop) : Exit → Fm → World → Prop
  | .normal, f, w => N f w
  | e, f, w => Q e f w
def InB (id : Nat) (Q : Exit → Fm → World → Prop) : Exit → Fm → World → Prop
  | .exit id', f, w => bif Nat.beq id' id then Q .normal f w else Q (.exit id') f w
  | e, f, w => Q e f w

section
variable {P : Program} {n : Nat} {ds : List Deferred} {Q : Exit → Fm → World → Prop} {f : Fm} {w : World}

theorem W.mono {c : Code} {Q' : Exit → Fm → World → Prop} (hq : ∀ e f w, Q e f w → Q' e f w) (h : W P n ds c Q f w) : W P n ds c Q' f w :=
  fun a ha => wp_mono (h a ha) fun e a' w' ⟨f', hf, hQ⟩ => ⟨f', hf, hq _ _ _ hQ⟩

theorem W.seq {x y : Code} (h : W P n ds x (Then (W P n ds y Q) Q) f w) : W P n ds (.seq x y) Q f w := fun a ha =>
  wp_seq (wp_mono (h a ha) fun e a' w' ⟨f', hf, hQ⟩ => by
    cases e with
    | normal => exact hQ a' hf
    | exit id => exact ⟨f', hf, hQ⟩
    | goto l => exact ⟨f', hf, hQ⟩
    | ret => exact ⟨f', hf, hQ⟩
    | panic c => exact ⟨f', hf, hQ⟩
    | outgrown => exact ⟨f', hf, hQ⟩)

/-- One assertion behind x, then y. -/
theorem W.cut {x y : Code} (M : Fm → World → Prop) (h : W P n ds x (Then M Q) f w) (h2 : ∀ f w, M f w → W P n ds y Q f w) : W P n ds (.seq x y) Q f w :=
  W.seq (W.mono (fun e f w hq => by cases e <;> first | exact h2 _ _ hq | exact hq) h)

theorem W.skip (h : Q .normal f w) : W P n ds .skip Q f w := fun a ha => wp_skip ⟨f, ha, h⟩
theorem W.label {l : Nat} (h : Q .normal f w) : W P n ds (.label l) Q f w := fun a ha => wp_label ⟨f, ha, h⟩
theorem W.exit {id : Nat} (h : Q (.exit id) f w) : W P n ds (.exit id) Q f w := fun a ha => wp_exit ⟨f, ha, h⟩
theorem W.goto {l : Nat} (h : Q (.goto l) f w) : W P n ds (.goto l) Q f w := fun a ha => wp_goto ⟨f, ha, h⟩
theorem W.ret (h : Q .ret f w) : W P n ds .ret Q f w := fun a ha => wp_ret ⟨f, ha, h⟩
theorem W.cond {c : Operand} {x y : Code} {b : Bool} (hc : ev f c = .bool b) (ht : b = true → W P n ds x Q f w) (hf : b = false → W P n ds y Q f w) : W P n ds (.cond c x y) Q f w := fun a ha =>
  wp_cond_split (by rw [ha.eval]; exact hc) (fun h => ht h a ha) (fun h => hf h a ha)
theorem W.condT {c : Operand} {x y : Code} (hc : ev f c = .bool true) (ht : W P n ds x Q f w) : W P n ds (.cond c x y) Q f w := W.cond hc (fun _ => ht) (fun h => by cases h)
theorem W.condF {c : Operand} {x y : Code} (hc : ev f c = .bool false) (hf : W P n ds y Q f w) : W P n ds (.cond c x y) Q f w := W.cond hc (fun h => by cases h) (fun _ => hf)
theorem W.condIs {c : Operand} {x y : Code} {b : Bool} (hc : ev f c = .bool b) (b' : Bool) (hb : b = b') (h : W P n ds (bif b' then x else y) Q f w) : W P n ds (.cond c x y) Q f w := by
  subst hb
  exact W.cond hc (fun e => by subst e; exact h) (fun e => by subst e; exact h)
theorem W.block {id : Nat} {c : Code} (h : W P n ds c (InB id Q) f w) : W P n ds (.block id c) Q f w := fun a ha =>
  wp_block (wp_mono (h a ha) fun e a' w' ⟨f', hf, hQ⟩ => by
    cases e with
    | exit id' =>
      simp only [Exit.inBlock]
      by_cases e : id' = id
      · subst e; simp only [if_true]; simp only [InB, Nat.beq_refl, cond_true] at hQ; exact ⟨f', hf, hQ⟩
      · rw [if_neg e]
        have hb : Nat.beq id' id = false := beq_ne e
        simp only [InB, hb, cond_false] at hQ; exact ⟨f', hf, hQ⟩
    | normal => exact ⟨f', hf, hQ⟩
    | goto l => exact ⟨f', hf, hQ⟩
    | ret => exact ⟨f', hf, hQ⟩
    | panic c => exact ⟨f', hf, hQ⟩
    | outgrown => exact ⟨f', hf, hQ⟩)
theorem W.scope {c : Code} (h : W P n ds c (fun e f w => match e with | .goto _ => False | e => Q e f w) f w) : W P n ds (.scope c) Q f w := fun a ha =>
  wp_scope_straight (wp_mono (h a ha) fun e a' w' ⟨f', hf, hQ⟩ => by
    cases e <;> first | exact (hQ : False).elim | exact ⟨f', hf, hQ⟩)

/-- THE LOOP. -/
theorem W.loop {c : Code} (I : Fm → World → Prop) (m : Fm → World → Nat) (h0 : I f w)
    (hr : ∀ f w, I f w → W P n ds c (Then (fun f' w' => I f' w' ∧ m f' w' < m f w) Q) f w) : W P n ds (.loop c) Q f w := fun a ha => by
  refine wp_loop (fun a w => ∃ f, Agr n ds f a ∧ I f w) (fun a w => m (fun t => a.tmps.getD t undef) w) ⟨f, ha, h0⟩ ?_
  rintro a1 w1 ⟨f1, h1, hI⟩
  refine wp_mono (hr f1 w1 hI a1 h1) fun e a' w' ⟨f', hf, hQ⟩ => ?_
  cases e with
  | normal =>
    obtain ⟨hi, hm⟩ := hQ
    refine ⟨⟨f', hf, hi⟩, ?_⟩
    rw [← hf.fn, ← h1.fn]
    exact hm
  | exit id => exact ⟨f', hf, hQ⟩
  | goto l => exact ⟨f', hf, hQ⟩
  | ret => exact ⟨f', hf, hQ⟩
  | panic c => exact ⟨f', hf, hQ⟩
  | outgrown => exact ⟨f', hf, hQ⟩
end

/-! ### Slots that a loop does not write -/
def lm : List Nat → Nat → Bool
  | [], _ => false
  | a :: r, t => bif Nat.beq t a then true else lm r t
def lsub : List Nat → List Nat → Bool
  | [], _ => true
  | a :: r, l => bif lm l a then lsub r l else false
theorem lsub_lm : ∀ {r l : List Nat} {t : Nat}, lsub r l = true → lm l t = false → lm r t = false
  | [], _, _, _, _ => rfl
  | a :: r, l, t, h, hl => by
    simp only [lsub] at h
    cases ha : lm l a with
    | false => rw [ha] at h; cases h
    | true =>
      rw [ha] at h
      simp only [lm]
      have : t ≠ a := fun e => by subst e; rw [ha] at hl; cases hl
      rw [beq_ne this]
      exact lsub_lm h hl
def hav (f : Fm) (ws : List Nat) (g : Fm) : Fm := fun t => bif lm ws t then g t else f t
/-- h is f but for the slots ws -/
def Out (ws : List Nat) (f h : Fm) : Prop := ∀ t, lm ws t = false → h t = f t
theorem Out.refl (ws : List Nat) (f : Fm) : Out ws f f := fun _ _ => rfl
theorem Out.hav (ws : List Nat) (f g : Fm) : Out ws f (TL.hav f ws g) := fun t ht => by simp only [TL.hav, ht, cond_false]
theorem Out.up {ws : List Nat} {f h : Fm} {d : Nat} {v : Value} (hd : lm ws d = true) (hh : Out ws f h) : Out ws f (TL.up h d v) := fun t ht => by
  have : t ≠ d := fun e => by subst e; rw [hd] at ht; cases ht
  rw [up_ne h v this]; exact hh t ht
theorem Out.sub {ws ws' : List Nat} {f h g : Fm} (hs : lsub ws' ws = true) (hh : Out ws f h) : Out ws f (TL.hav h ws' g) := fun t ht => by
  simp only [TL.hav, lsub_lm hs ht, cond_false]; exact hh t ht
theorem Out.eq {ws : List Nat} {f h : Fm} (hh : Out ws f h) : TL.hav f ws h = h := by
  funext t
  simp only [TL.hav]
  cases he : lm ws t with
  | true => rfl
  | false => exact (hh t he).symm

section
variable {P : Program} {n : Nat} {ds : List Deferred} {Q : Exit → Fm → World → Prop} {f : Fm} {w : World}
theorem W.next {c : Code} {N N' : Fm → World → Prop} (h : ∀ f w, N f w → N' f w) (hw : W P n ds c (Then N Q) f w) : W P n ds c (Then N' Q) f w :=
  W.mono (fun e f w hq => by cases e <;> first | exact h _ _ hq | exact hq) hw
theorem W.loop0 {c : Code} (ws : List Nat) (I : World → Prop) (m : World → Nat) (h0 : I w)
    (hr : ∀ g w, I w → W P n ds c (Then (fun f' w' => Out ws f f' ∧ I w' ∧ m w' < m w) Q) (hav f ws g) w) : W P n ds (.loop c) Q f w :=
  W.loop (fun f' w' => Out ws f f' ∧ I w') (fun f' w' => m w') ⟨Out.refl _ _, h0⟩
    (fun f1 w1 ⟨h1, h2⟩ => by have := hr f1 w1 h2; rw [h1.eq] at this; refine W.next ?_ this; rintro f2 w2 ⟨x1, x2, x3⟩; exact ⟨⟨x1, x2⟩, x3⟩)
theorem W.loop1 {c : Code} (ws : List Nat) (a : Nat) (I : Value → World → Prop) (m : Value → World → Nat) (h0 : I (f a) w)
    (hr : ∀ g va w, I va w → W P n ds c (Then (fun f' w' => Out ws f f' ∧ I (f' a) w' ∧ m (f' a) w' < m va w) Q) (up (hav f ws g) a va) w) : W P n ds (.loop c) Q f w :=
  W.loop (fun f' w' => Out ws f f' ∧ I (f' a) w') (fun f' w' => m (f' a) w') ⟨Out.refl _ _, h0⟩
    (fun f1 w1 ⟨h1, h2⟩ => by have := hr f1 (f1 a) w1 h2; rw [h1.eq, up_self (f := f1) (d := a) rfl] at this; refine W.next ?_ this; rintro f2 w2 ⟨x1, x2, x3⟩; exact ⟨⟨x1, x2⟩, x3⟩)
theorem W.loop2 {c : Code} (ws : List Nat) (a b : Nat) (I : Value → Value → World → Prop) (m : Value → Value → World → Nat) (h0 : I (f a) (f b) w)
    (hr : ∀ g va vb w, I va vb w → W P n ds c (Then (fun f' w' => Out ws f f' ∧ I (f' a) (f' b) w' ∧ m (f' a) (f' b) w' < m va vb w) Q) (up (up (hav f ws g) a va) b vb) w) : W P n ds (.loop c) Q f w :=
  W.loop (fun f' w' => Out ws f f' ∧ I (f' a) (f' b) w') (fun f' w' => m (f' a) (f' b) w') ⟨Out.refl _ _, h0⟩
    (fun f1 w1 ⟨h1, h2⟩ => by have := hr f1 (f1 a) (f1 b) w1 h2; rw [h1.eq, up_self (f := f1) (d := a) rfl, up_self (f := f1) (d := b) rfl] at this; refine W.next ?_ this; rintro f2 w2 ⟨x1, x2, x3⟩; exact ⟨⟨x1, x2⟩, x3⟩)
theorem W.loop3 {c : Code} (ws : List Nat) (a b d : Nat) (I : Value → Value → Value → World → Prop) (m : Value → Value → Value → World → Nat) (h0 : I (f a) (f b) (f d) w)
    (hr : ∀ g va vb vd w, I va vb vd w → W P n ds c (Then (fun f' w' => Out ws f f' ∧ I (f' a) (f' b) (f' d) w' ∧ m (f' a) (f' b) (f' d) w' < m va vb vd w) Q) (up (up (up (hav f ws g) a va) b vb) d vd) w) : W P n ds (.loop c) Q f w :=
  W.loop (fun f' w' => Out ws f f' ∧ I (f' a) (f' b) (f' d) w') (fun f' w' => m (f' a) (f' b) (f' d) w') ⟨Out.refl _ _, h0⟩
    (fun f1 w1 ⟨h1, h2⟩ => by have := hr f1 (f1 a) (f1 b) (f1 d) w1 h2; rw [h1.eq, up_self (f := f1) (d := a) rfl, up_self (f := f1) (d := b) rfl, up_self (f := f1) (d := d) rfl] at this; refine W.next ?_ this; rintro f2 w2 ⟨x1, x2, x3⟩; exact ⟨⟨x1, x2⟩, x3⟩)
theorem W.loop4 {c : Code} (ws : List Nat) (a b d e : Nat) (I : Value → Value → Value → Value → World → Prop) (m : Value → Value → Value → Value → World → Nat) (h0 : I (f a) (f b) (f d) (f e) w)
    (hr : ∀ g va vb vd ve w, I va vb vd ve w → W P n ds c (Then (fun f' w' => Out ws f f' ∧ I (f' a) (f' b) (f' d) (f' e) w' ∧ m (f' a) (f' b) (f' d) (f' e) w' < m va vb vd ve w) Q) (up (up (up (up (hav f ws g) a va) b vb) d vd) e ve) w) : W P n ds (.loop c) Q f w :=
  W.loop (fun f' w' => Out ws f f' ∧ I (f' a) (f' b) (f' d) (f' e) w') (fun f' w' => m (f' a) (f' b) (f' d) (f' e) w') ⟨Out.refl _ _, h0⟩
    (fun f1 w1 ⟨h1, h2⟩ => by have := hr f1 (f1 a) (f1 b) (f1 d) (f1 e) w1 h2; rw [h1.eq, up_self (f := f1) (d := a) rfl, up_self (f := f1) (d := b) rfl, up_self (f := f1) (d := d) rfl, up_self (f := f1) (d := e) rfl] at this; refine W.next ?_ this; rintro f2 w2 ⟨x1, x2, x3⟩; exact ⟨⟨x1, x2⟩, x3⟩)
theorem W.loop5 {c : Code} (ws : List Nat) (a b d e p : Nat) (I : Value → Value → Value → Value → Value → World → Prop) (m : Value → Value → Value → Value → Value → World → Nat) (h0 : I (f a) (f b) (f d) (f e) (f p) w)
    (hr : ∀ g va vb vd ve vp w, I va vb vd ve vp w → W P n ds c (Then (fun f' w' => Out ws f f' ∧ I (f' a) (f' b) (f' d) (f' e) (f' p) w' ∧ m (f' a) (f' b) (f' d) (f' e) (f' p) w' < m va vb vd ve vp w) Q) (up (up (up (up (up (hav f ws g) a va) b vb) d vd) e ve) p vp) w) : W P n ds (.loop c) Q f w :=
  W.loop (fun f' w' => Out ws f f' ∧ I (f' a) (f' b) (f' d) (f' e) (f' p) w') (fun f' w' => m (f' a) (f' b) (f' d) (f' e) (f' p) w') ⟨Out.refl _ _, h0⟩
    (fun f1 w1 ⟨h1, h2⟩ => by have := hr f1 (f1 a) (f1 b) (f1 d) (f1 e) (f1 p) w1 h2; rw [h1.eq, up_self (f := f1) (d := a) rfl, up_self (f := f1) (d := b) rfl, up_self (f := f1) (d := d) rfl, up_self (f := f1) (d := e) rfl, up_self (f := f1) (d := p) rfl] at this; refine W.next ?_ this; rintro f2 w2 ⟨x1, x2, x3⟩; exact ⟨⟨x1, x2⟩, x3⟩)
theorem W.loop6 {c : Code} (ws : List Nat) (a b d e p q : Nat) (I : Value → Value → Value → Value → Value → Value → World → Prop) (m : Value → Value → Value → Value → Value → Value → World → Nat) (h0 : I (f a) (f b) (f d) (f e) (f p) (f q) w)
    (hr : ∀ g va vb vd ve vp vq w, I va vb vd ve vp vq w → W P n ds c (Then (fun f' w' => Out ws f f' ∧ I (f' a) (f' b) (f' d) (f' e) (f' p) (f' q) w' ∧ m (f' a) (f' b) (f' d) (f' e) (f' p) (f' q) w' < m va vb vd ve vp vq w) Q) (up (up (up (up (up (up (hav f ws g) a va) b vb) d vd) e ve) p vp) q vq) w) : W P n ds (.loop c) Q f w :=
  W.loop (fun f' w' => Out ws f f' ∧ I (f' a) (f' b) (f' d) (f' e) (f' p) (f' q) w') (fun f' w' => m (f' a) (f' b) (f' d) (f' e) (f' p) (f' q) w') ⟨Out.refl _ _, h0⟩
    (fun f1 w1 ⟨h1, h2⟩ => by have := hr f1 (f1 a) (f1 b) (f1 d) (f1 e) (f1 p) (f1 q) w1 h2; rw [h1.eq, up_self (f := f1) (d := a) rfl, up_self (f := f1) (d := b) rfl, up_self (f := f1) (d := d) rfl, up_self (f := f1) (d := e) rfl, up_self (f := f1) (d := p) rfl, up_self (f := f1) (d := q) rfl] at this; refine W.next ?_ this; rintro f2 w2 ⟨x1, x2, x3⟩; exact ⟨⟨x1, x2⟩, x3⟩)
theorem W.loop7 {c : Code} (ws : List Nat) (a b d e p q r : Nat) (I : Value → Value → Value → Value → Value → Value → Value → World → Prop) (m : Value → Value → Value → Value → Value → Value → Value → World → Nat) (h0 : I (f a) (f b) (f d) (f e) (f p) (f q) (f r) w)
    (hr : ∀ g va vb vd ve vp vq vr w, I va vb vd ve vp vq vr w → W P n ds c (Then (fun f' w' => Out ws f f' ∧ I (f' a) (f' b) (f' d) (f' e) (f' p) (f' q) (f' r) w' ∧ m (f' a) (f' b) (f' d) (f' e) (f' p) (f' q) (f' r) w' < m va vb vd ve vp vq vr w) Q) (up (up (up (up (up (up (up (hav f ws g) a va) b vb) d vd) e ve) p vp) q vq) r vr) w) : W P n ds (.loop c) Q f w :=
  W.loop (fun f' w' => Out ws f f' ∧ I (f' a) (f' b) (f' d) (f' e) (f' p) (f' q) (f' r) w') (fun f' w' => m (f' a) (f' b) (f' d) (f' e) (f' p) (f' q) (f' r) w') ⟨Out.refl _ _, h0⟩
    (fun f1 w1 ⟨h1, h2⟩ => by have := hr f1 (f1 a) (f1 b) (f1 d) (f1 e) (f1 p) (f1 q) (f1 r) w1 h2; rw [h1.eq, up_self (f := f1) (d := a) rfl, up_self (f := f1) (d := b) rfl, up_self (f := f1) (d := d) rfl, up_self (f := f1) (d := e) rfl, up_self (f := f1) (d := p) rfl, up_self (f := f1) (d := q) rfl, up_self (f := f1) (d := r) rfl] at this; refine W.next ?_ this; rintro f2 w2 ⟨x1, x2, x3⟩; exact ⟨⟨x1, x2⟩, x3⟩)
theorem W.loop8 {c : Code} (ws : List Nat) (a b d e p q r s : Nat) (I : Value → Value → Value → Value → Value → Value → Value → Value → World → Prop) (m : Value → Value → Value → Value → Value → Value → Value → Value → World → Nat) (h0 : I (f a) (f b) (f d) (f e) (f p) (f q) (f r) (f s) w)
    (hr : ∀ g va vb vd ve vp vq vr vs w, I va vb vd ve vp vq vr vs w → W P n ds c (Then (fun f' w' => Out ws f f' ∧ I (f' a) (f' b) (f' d) (f' e) (f' p) (f' q) (f' r) (f' s) w' ∧ m (f' a) (f' b) (f' d) (f' e) (f' p) (f' q) (f' r) (f' s) w' < m va vb vd ve vp vq vr vs w) Q) (up (up (up (up (up (up (up (up (hav f ws g) a va) b vb) d vd) e ve) p vp) q vq) r vr) s vs) w) : W P n ds (.loop c) Q f w :=
  W.loop (fun f' w' => Out ws f f' ∧ I (f' a) (f' b) (f' d) (f' e) (f' p) (f' q) (f' r) (f' s) w') (fun f' w' => m (f' a) (f' b) (f' d) (f' e) (f' p) (f' q) (f' r) (f' s) w') ⟨Out.refl _ _, h0⟩
    (fun f1 w1 ⟨h1, h2⟩ => by have := hr f1 (f1 a) (f1 b) (f1 d) (f1 e) (f1 p) (f1 q) (f1 r) (f1 s) w1 h2; rw [h1.eq, up_self (f := f1) (d := a) rfl, up_self (f := f1) (d := b) rfl, up_self (f := f1) (d := d) rfl, up_self (f := f1) (d := e) rfl, up_self (f := f1) (d := p) rfl, up_self (f := f1) (d := q) rfl, up_self (f := f1) (d := r) rfl, up_self (f := f1) (d := s) rfl] at this; refine W.next ?_ this; rintro f2 w2 ⟨x1, x2, x3⟩; exact ⟨⟨x1, x2⟩, x3⟩)
theorem W.loop9 {c : Code} (ws : List Nat) (a b d e p q r s t : Nat) (I : Value → Value → Value → Value → Value → Value → Value → Value → Value → World → Prop) (m : Value → Value → Value → Value → Value → Value → Value → Value → Value → World → Nat) (h0 : I (f a) (f b) (f d) (f e) (f p) (f q) (f r) (f s) (f t) w)
    (hr : ∀ g va vb vd ve vp vq vr vs vt w, I va vb vd ve vp vq vr vs vt w → W P n ds c (Then (fun f' w' => Out ws f f' ∧ I (f' a) (f' b) (f' d) (f' e) (f' p) (f' q) (f' r) (f' s) (f' t) w' ∧ m (f' a) (f' b) (f' d) (f' e) (f' p) (f' q) (f' r) (f' s) (f' t) w' < m va vb vd ve vp vq vr vs vt w) Q) (up (up (up (up (up (up (up (up (up (hav f ws g) a va) b vb) d vd) e ve) p vp) q vq) r vr) s vs) t vt) w) : W P n ds (.loop c) Q f w :=
  W.loop (fun f' w' => Out ws f f' ∧ I (f' a) (f' b) (f' d) (f' e) (f' p) (f' q) (f' r) (f' s) (f' t) w') (fun f' w' => m (f' a) (f' b) (f' d) (f' e) (f' p) (f' q) (f' r) (f' s) (f' t) w') ⟨Out.refl _ _, h0⟩
    (fun f1 w1 ⟨h1, h2⟩ => by have := hr f1 (f1 a) (f1 b) (f1 d) (f1 e) (f1 p) (f1 q) (f1 r) (f1 s) (f1 t) w1 h2; rw [h1.eq, up_self (f := f1) (d := a) rfl, up_self (f := f1) (d := b) rfl, up_self (f := f1) (d := d) rfl, up_self (f := f1) (d := e) rfl, up_self (f := f1) (d := p) rfl, up_self (f := f1) (d := q) rfl, up_self (f := f1) (d := r) rfl, up_self (f := f1) (d := s) rfl, up_self (f := f1) (d := t) rfl] at this; refine W.next ?_ this; rintro f2 w2 ⟨x1, x2, x3⟩; exact ⟨⟨x1, x2⟩, x3⟩)
theorem W.loop10 {c : Code} (ws : List Nat) (a b d e p q r s t u : Nat) (I : Value → Value → Value → Value → Value → Value → Value → Value → Value → Value → World → Prop) (m : Value → Value → Value → Value → Value → Value → Value → Value → Value → Value → World → Nat) (h0 : I (f a) (f b) (f d) (f e) (f p) (f q) (f r) (f s) (f t) (f u) w)
    (hr : ∀ g va vb vd ve vp vq vr vs vt vu w, I va vb vd ve vp vq vr vs vt vu w → W P n ds c (Then (fun f' w' => Out ws f f' ∧ I (f' a) (f' b) (f' d) (f' e) (f' p) (f' q) (f' r) (f' s) (f' t) (f' u) w' ∧ m (f' a) (f' b) (f' d) (f' e) (f' p) (f' q) (f' r) (f' s) (f' t) (f' u) w' < m va vb vd ve vp vq vr vs vt vu w) Q) (up (up (up (up (up (up (up (up (up (up (hav f ws g) a va) b vb) d vd) e ve) p vp) q vq) r vr) s vs) t vt) u vu) w) : W P n ds (.loop c) Q f w :=
  W.loop (fun f' w' => Out ws f f' ∧ I (f' a) (f' b) (f' d) (f' e) (f' p) (f' q) (f' r) (f' s) (f' t) (f' u) w') (fun f' w' => m (f' a) (f' b) (f' d) (f' e) (f' p) (f' q) (f' r) (f' s) (f' t) (f' u) w') ⟨Out.refl _ _, h0⟩
    (fun f1 w1 ⟨h1, h2⟩ => by have := hr f1 (f1 a) (f1 b) (f1 d) (f1 e) (f1 p) (f1 q) (f1 r) (f1 s) (f1 t) (f1 u) w1 h2; rw [h1.eq, up_self (f := f1) (d := a) rfl, up_self (f := f1) (d := b) rfl, up_self (f := f1) (d := d) rfl, up_self (f := f1) (d := e) rfl, up_self (f := f1) (d := p) rfl, up_self (f := f1) (d := q) rfl, up_self (f := f1) (d := r) rfl, up_self (f := f1) (d := s) rfl, up_self (f := f1) (d := t) rfl, up_self (f := f1) (d := u) rfl] at this; refine W.next ?_ this; rintro f2 w2 ⟨x1, x2, x3⟩; exact ⟨⟨x1, x2⟩, x3⟩)
theorem W.loop11 {c : Code} (ws : List Nat) (a b d e p q r s t u x : Nat) (I : Value → Value → Value → Value → Value → Value → Value → Value → Value → Value → Value → World → Prop) (m : Value → Value → Value → Value → Value → Value → Value → Value → Value → Value → Value → World → Nat) (h0 : I (f a) (f b) (f d) (f e) (f p) (f q) (f r) (f s) (f t) (f u) (f x) w)
    (hr : ∀ g va vb vd ve vp vq vr vs vt vu vx w, I va vb vd ve vp vq vr vs vt vu vx w → W P n ds c (Then (fun f' w' => Out ws f f' ∧ I (f' a) (f' b) (f' d) (f' e) (f' p) (f' q) (f' r) (f' s) (f' t) (f' u) (f' x) w' ∧ m (f' a) (f' b) (f' d) (f' e) (f' p) (f' q) (f' r) (f' s) (f' t) (f' u) (f' x) w' < m va vb vd ve vp vq vr vs vt vu vx w) Q) (up (up (up (up (up (up (up (up (up (up (up (hav f ws g) a va) b vb) d vd) e ve) p vp) q vq) r vr) s vs) t vt) u vu) x vx) w) : W P n ds (.loop c) Q f w :=
  W.loop (fun f' w' => Out ws f f' ∧ I (f' a) (f' b) (f' d) (f' e) (f' p) (f' q) (f' r) (f' s) (f' t) (f' u) (f' x) w') (fun f' w' => m (f' a) (f' b) (f' d) (f' e) (f' p) (f' q) (f' r) (f' s) (f' t) (f' u) (f' x) w') ⟨Out.refl _ _, h0⟩
    (fun f1 w1 ⟨h1, h2⟩ => by have := hr f1 (f1 a) (f1 b) (f1 d) (f1 e) (f1 p) (f1 q) (f1 r) (f1 s) (f1 t) (f1 u) (f1 x) w1 h2; rw [h1.eq, up_self (f := f1) (d := a) rfl, up_self (f := f1) (d := b) rfl, up_self (f := f1) (d := d) rfl, up_self (f := f1) (d := e) rfl, up_self (f := f1) (d := p) rfl, up_self (f := f1) (d := q) rfl, up_self (f := f1) (d := r) rfl, up_self (f := f1) (d := s) rfl, up_self (f := f1) (d := t) rfl, up_self (f := f1) (d := u) rfl, up_self (f := f1) (d := x) rfl] at this; refine W.next ?_ this; rintro f2 w2 ⟨x1, x2, x3⟩; exact ⟨⟨x1, x2⟩, x3⟩)
theorem W.loop12 {c : Code} (ws : List Nat) (a b d e p q r s t u x y : Nat) (I : Value → Value → Value → Value → Value → Value → Value → Value → Value → Value → Value → Value → World → Prop) (m : Value → Value → Value → Value → Value → Value → Value → Value → Value → Value → Value → Value → World → Nat) (h0 : I (f a) (f b) (f d) (f e) (f p) (f q) (f r) (f s) (f t) (f u) (f x) (f y) w)
    (hr : ∀ g va vb vd ve vp vq vr vs vt vu vx vy w, I va vb vd ve vp vq vr vs vt vu vx vy w → W P n ds c (Then (fun f' w' => Out ws f f' ∧ I (f' a) (f' b) (f' d) (f' e) (f' p) (f' q) (f' r) (f' s) (f' t) (f' u) (f' x) (f' y) w' ∧ m (f' a) (f' b) (f' d) (f' e) (f' p) (f' q) (f' r) (f' s) (f' t) (f' u) (f' x) (f' y) w' < m va vb vd ve vp vq vr vs vt vu vx vy w) Q) (up (up (up (up (up (up (up (up (up (up (up (up (hav f ws g) a va) b vb) d vd) e ve) p vp) q vq) r vr) s vs) t vt) u vu) x vx) y vy) w) : W P n ds (.loop c) Q f w :=
  W.loop (fun f' w' => Out ws f f' ∧ I (f' a) (f' b) (f' d) (f' e) (f' p) (f' q) (f' r) (f' s) (f' t) (f' u) (f' x) (f' y) w') (fun f' w' => m (f' a) (f' b) (f' d) (f' e) (f' p) (f' q) (f' r) (f' s) (f' t) (f' u) (f' x) (f' y) w') ⟨Out.refl _ _, h0⟩
    (fun f1 w1 ⟨h1, h2⟩ => by have := hr f1 (f1 a) (f1 b) (f1 d) (f1 e) (f1 p) (f1 q) (f1 r) (f1 s) (f1 t) (f1 u) (f1 x) (f1 y) w1 h2; rw [h1.eq, up_self (f := f1) (d := a) rfl, up_self (f := f1) (d := b) rfl, up_self (f := f1) (d := d) rfl, up_self (f := f1) (d := e) rfl, up_self (f := f1) (d := p) rfl, up_self (f := f1) (d := q) rfl, up_self (f := f1) (d := r) rfl, up_self (f := f1) (d := s) rfl, up_self (f := f1) (d := t) rfl, up_self (f := f1) (d := u) rfl, up_self (f := f1) (d := x) rfl, up_self (f := f1) (d := y) rfl] at this; refine W.next ?_ this; rintro f2 w2 ⟨x1, x2, x3⟩; exact ⟨⟨x1, x2⟩, x3⟩)
end

section
variable {P : Program} {n : Nat} {ds : List Deferred} {Q : Exit → Fm → World → Prop} {f : Fm} {w : World}
/-! ### What stands behind a piece, told once -/
theorem W.cut0 {x y : Code} (ws : List Nat) (I : World → Prop)
    (h : W P n ds x (Then (fun f' w' => Out ws f f' ∧ I w') Q) f w) (h2 : ∀ g w, I w → W P n ds y Q (hav f ws g) w) : W P n ds (.seq x y) Q f w :=
  W.cut (fun f' w' => Out ws f f' ∧ I w') h (fun f1 w1 ⟨h1, h2'⟩ => by have := h2 f1 w1 h2'; rw [h1.eq] at this; exact this)
theorem W.cut1 {x y : Code} (ws : List Nat) (a : Nat) (I : Value → World → Prop)
    (h : W P n ds x (Then (fun f' w' => Out ws f f' ∧ I (f' a) w') Q) f w) (h2 : ∀ g va w, I va w → W P n ds y Q (up (hav f ws g) a va) w) : W P n ds (.seq x y) Q f w :=
  W.cut (fun f' w' => Out ws f f' ∧ I (f' a) w') h (fun f1 w1 ⟨h1, h2'⟩ => by have := h2 f1 (f1 a) w1 h2'; rw [h1.eq, up_self (f := f1) (d := a) rfl] at this; exact this)
theorem W.cut2 {x y : Code} (ws : List Nat) (a b : Nat) (I : Value → Value → World → Prop)
    (h : W P n ds x (Then (fun f' w' => Out ws f f' ∧ I (f' a) (f' b) w') Q) f w) (h2 : ∀ g va vb w, I va vb w → W P n ds y Q (up (up (hav f ws g) a va) b vb) w) : W P n ds (.seq x y) Q f w :=
  W.cut (fun f' w' => Out ws f f' ∧ I (f' a) (f' b) w') h (fun f1 w1 ⟨h1, h2'⟩ => by have := h2 f1 (f1 a) (f1 b) w1 h2'; rw [h1.eq, up_self (f := f1) (d := a) rfl, up_self (f := f1) (d := b) rfl] at this; exact this)
theorem W.cut3 {x y : Code} (ws : List Nat) (a b d : Nat) (I : Value → Value → Value → World → Prop)
    (h : W P n ds x (Then (fun f' w' => Out ws f f' ∧ I (f' a) (f' b) (f' d) w') Q) f w) (h2 : ∀ g va vb vd w, I va vb vd w → W P n ds y Q (up (up (up (hav f ws g) a va) b vb) d vd) w) : W P n ds (.seq x y) Q f w :=
  W.cut (fun f' w' => Out ws f f' ∧ I (f' a) (f' b) (f' d) w') h (fun f1 w1 ⟨h1, h2'⟩ => by have := h2 f1 (f1 a) (f1 b) (f1 d) w1 h2'; rw [h1.eq, up_self (f := f1) (d := a) rfl, up_self (f := f1) (d := b) rfl, up_self (f := f1) (d := d) rfl] at this; exact this)
theorem W.cut4 {x y : Code} (ws : List Nat) (a b d e : Nat) (I : Value → Value → Value → Value → World → Prop)
    (h : W P n ds x (Then (fun f' w' => Out ws f f' ∧ I (f' a) (f' b) (f' d) (f' e) w') Q) f w) (h2 : ∀ g va vb vd ve w, I va vb vd ve w → W P n ds y Q (up (up (up (up (hav f ws g) a va) b vb) d vd) e ve) w) : W P n ds (.seq x y) Q f w :=
  W.cut (fun f' w' => Out ws f f' ∧ I (f' a) (f' b) (f' d) (f' e) w') h (fun f1 w1 ⟨h1, h2'⟩ => by have := h2 f1 (f1 a) (f1 b) (f1 d) (f1 e) w1 h2'; rw [h1.eq, up_self (f := f1) (d := a) rfl, up_self (f := f1) (d := b) rfl, up_self (f := f1) (d := d) rfl, up_self (f := f1) (d := e) rfl] at this; exact this)
theorem W.cut5 {x y : Code} (ws : List Nat) (a b d e p : Nat) (I : Value → Value → Value → Value → Value → World → Prop)
    (h : W P n ds x (Then (fun f' w' => Out ws f f' ∧ I (f' a) (f' b) (f' d) (f' e) (f' p) w') Q) f w) (h2 : ∀ g va vb vd ve vp w, I va vb vd ve vp w → W P n ds y Q (up (up (up (up (up (hav f ws g) a va) b vb) d vd) e ve) p vp) w) : W P n ds (.seq x y) Q f w :=
  W.cut (fun f' w' => Out ws f f' ∧ I (f' a) (f' b) (f' d) (f' e) (f' p) w') h (fun f1 w1 ⟨h1, h2'⟩ => by have := h2 f1 (f1 a) (f1 b) (f1 d) (f1 e) (f1 p) w1 h2'; rw [h1.eq, up_self (f := f1) (d := a) rfl, up_self (f := f1) (d := b) rfl, up_self (f := f1) (d := d) rfl, up_self (f := f1) (d := e) rfl, up_self (f := f1) (d := p) rfl] at this; exact this)
theorem W.cut6 {x y : Code} (ws : List Nat) (a b d e p q : Nat) (I : Value → Value → Value → Value → Value → Value → World → Prop)
    (h : W P n ds x (Then (fun f' w' => Out ws f f' ∧ I (f' a) (f' b) (f' d) (f' e) (f' p) (f' q) w') Q) f w) (h2 : ∀ g va vb vd ve vp vq w, I va vb vd ve vp vq w → W P n ds y Q (up (up (up (up (up (up (hav f ws g) a va) b vb) d vd) e ve) p vp) q vq) w) : W P n ds (.seq x y) Q f w :=
  W.cut (fun f' w' => Out ws f f' ∧ I (f' a) (f' b) (f' d) (f' e) (f' p) (f' q) w') h (fun f1 w1 ⟨h1, h2'⟩ => by have := h2 f1 (f1 a) (f1 b) (f1 d) (f1 e) (f1 p) (f1 q) w1 h2'; rw [h1.eq, up_self (f := f1) (d := a) rfl, up_self (f := f1) (d := b) rfl, up_self (f := f1) (d := d) rfl, up_self (f := f1) (d := e) rfl, up_self (f := f1) (d := p) rfl, up_self (f := f1) (d := q) rfl] at this; exact this)
end

/-! ### Operations -/
/-- The operation yields a value and a world that meet K; or panics as Qp allows. -/
def OpK (P : Program) (o : Oper) (f : Fm) (w : World) (K : Value → World → Prop) (Qp : List PanicEntry → World → Prop) : Prop :=
  match (execOp (ev f) o).run P w with
  | .ok (.value v) w' => K v w'
  | .ok .skip w' => K undef w'
  | .ok (.enter g args) w' => Calls P g args w' fun
      | .returned v, w'' => K v w''
      | .panicked ch, w'' => Qp ch w''
      | .outgrown, _ => False
  | .halt (.panic v) w' => Qp [{ v, recovered := false }] w'
  | _ => False

theorem OpK.mono {P : Program} {o : Oper} {f : Fm} {w : World} {K K' : Value → World → Prop} {Qp Qp' : List PanicEntry → World → Prop} (h : ∀ v w, K v w → K' v w) (hp : ∀ c w, Qp c w → Qp' c w) (ho : OpK P o f w K Qp) : OpK P o f w K' Qp' := by
  unfold OpK at *
  split at ho
  · exact h _ _ ho
  · exact h _ _ ho
  · exact ho.mono fun e w'' he => by cases e <;> first | exact h _ _ he | exact hp _ _ he | exact he
  · exact hp _ _ ho
  · exact ho.elim

theorem OpK.wp {P : Program} {o : Oper} {n : Nat} {ds : List Deferred} {f : Fm} {a : Act} {w : World} {K : Value → World → Prop} {Qp : List PanicEntry → World → Prop} {next : Act → World → Prop} {Q : Exit → Act → World → Prop}
    (ha : Agr n ds f a) (hn : ∀ v w, K v w → next (a.put o.dst v) w) (hp : ∀ ch w, Qp ch w → Q (.panic ch) a w) (h : OpK P o f w K Qp) : o.wp P a w next Q := by
  unfold OpK at h
  unfold Oper.wp
  rw [ha.eval]
  split at h
  · rename_i hr; rw [hr]; exact hn _ _ h
  · rename_i hr; rw [hr]; exact hn _ _ h
  · rename_i hr
    rw [hr]
    refine Calls.mono h fun e w'' he => ?_
    cases e with
    | returned v => exact hn _ _ he
    | panicked ch => exact hp _ _ he
    | outgrown => exact he.elim
  · rename_i hr; rw [hr]; exact hp _ _ h
  · exact h.elim

def yieldedF (ops : Array Oper) (f : Fm) (j : Nat) : Option Bool :=
  match (ops[j]?).bind (·.dst) with
  | some d => match f d with
    | .bool b => some b
    | _ => none
  | none => none
theorem yielded_agr {n : Nat} {ds : List Deferred} {f : Fm} {a : Act} (ops : Array Oper) (ha : Agr n ds f a) : yielded ops a.tmps = yieldedF ops f := by
  funext j
  unfold yielded yieldedF
  cases hd : (ops[j]?).bind (·.dst) with
  | none => rfl
  | some d =>
    simp only [Option.bind_some]
    have h := ha.at_ d
    rw [← h, Array.getD_eq_getD_getElem?]
    cases a.tmps[d]? with
    | none => rfl
    | some v => cases v <;> rfl

/-- The operations of a region in a row. -/
def WO (P : Program) (ops : Array Oper) (Q : Exit → Fm → World → Prop) : List Oper → Fm → World → Prop
  | [], f, w => Q .normal f w
  | o :: r, f, w => if Region.wanted o (yieldedF ops f) = true then OpK P o f w (fun v w' => WO P ops Q r (upo f o.dst v) w') (fun ch w' => Q (.panic ch) f w') else WO P ops Q r (upo f o.dst undef) w

def dstOk (n : Nat) (l : List Oper) : Bool := l.all fun o => match o.dst with
  | some d => Nat.blt d n
  | none => true

section
variable {P : Program} {n : Nat} {ds : List Deferred} {Q : Exit → Fm → World → Prop} {f : Fm} {w : World} {ops : Array Oper}

theorem WO.sound {R : Exit → Act → World → Prop} (hR : ∀ e f a w, Agr n ds f a → Q e f w → R e a w) : ∀ (l : List Oper) (f : Fm) (a : Act) (w : World), dstOk n l = true → Agr n ds f a → WO P ops Q l f w → wpList P ops R l a w
  | [], f, a, w, _, ha, h => hR _ _ _ _ ha h
  | o :: r, f, a, w, hd, ha, h => by
    simp only [dstOk, List.all_cons, Bool.and_eq_true] at hd
    have hlt : ∀ x, o.dst = some x → x < n := fun x hx => by have := hd.1; rw [hx] at this; simpa [Nat.blt_eq] using this
    have ih := WO.sound hR r
    unfold wpList
    simp only [WO] at h
    rw [yielded_agr ops ha]
    split at h
    · rename_i hw
      rw [if_pos hw]
      exact .inl (OpK.wp ha (fun v w' hk => ih _ _ _ hd.2 (ha.put hlt) hk) (fun ch w' hq => hR _ _ _ _ ha hq) h)
    · rename_i hw
      rw [if_neg hw]
      exact ih _ _ _ hd.2 (ha.put hlt) h

theorem W.region {id : Nat} {l : List Oper} (hd : dstOk n l = true) (h : WO P l.toArray Q l f w) : W P n ds (.region id l.toArray false) Q f w := fun a ha =>
  wp_region_lit (WO.sound (fun e f a w ha hq => ⟨f, ha, hq⟩) l f a w hd ha h)

theorem WO.nil (h : Q .normal f w) : WO P ops Q [] f w := h
theorem WO.op {o : Oper} {r : List Oper} (hg : o.guard = none) (h : OpK P o f w (fun v w' => WO P ops Q r (upo f o.dst v) w') (fun ch w' => Q (.panic ch) f w')) : WO P ops Q (o :: r) f w := by
  unfold WO
  rw [if_pos (by simp [Region.wanted, hg])]
  exact h
theorem WO.opT {o : Oper} {r : List Oper} (hg : Region.wanted o (yieldedF ops f) = true) (h : OpK P o f w (fun v w' => WO P ops Q r (upo f o.dst v) w') (fun ch w' => Q (.panic ch) f w')) : WO P ops Q (o :: r) f w := by
  unfold WO
  rw [if_pos hg]
  exact h
theorem WO.opF {o : Oper} {r : List Oper} (hg : Region.wanted o (yieldedF ops f) = false) (h : WO P ops Q r (upo f o.dst undef) w) : WO P ops Q (o :: r) f w := by
  unfold WO
  rw [if_neg (by rw [hg]; simp)]
  exact h
theorem WO.mono {Q' : Exit → Fm → World → Prop} (hq : ∀ e f w, Q e f w → Q' e f w) : ∀ (l : List Oper) (f : Fm) (w : World), WO P ops Q l f w → WO P ops Q' l f w
  | [], _, _, h => hq _ _ _ h
  | o :: r, f, w, h => by
    simp only [WO] at h ⊢
    split
    · rename_i hw; rw [if_pos hw] at h; exact h.mono (fun v w' hk => WO.mono hq r _ _ hk) (fun c w' hk => hq _ _ _ hk)
    · rename_i hw; rw [if_neg hw] at h; exact WO.mono hq r _ _ h
end

/-! ### A region that draws its order: a plan of it -/
/-- in which order a region's operations are looked at: a quiet one, one that turns the world, or two of those in either order -/
inductive PT
  | nil
  | q (i : Nat) (r : PT)
  | e (i : Nat) (r : PT)
  | br (i : Nat) (r : PT) (j : Nat) (r' : PT)
def PT.length : PT → Nat
  | .nil => 0
  | .q _ r => r.length + 1
  | .e _ r => r.length + 1
  | .br _ r _ _ => r.length + 1
def planB (ops : Array Oper) : PT → Array Bool → Bool
  | .nil, l => (Region.ready .any ops l).isEmpty
  | .q i r, l => Region.free .any ops l i && (Region.ready .any ops l).contains i && planB ops r (l.setIfInBounds i true)
  | .e i r, l => (Region.ready .any ops l == [i]) && planB ops r (l.setIfInBounds i true)
  | .br i r j r', l => (Region.ready .any ops l == [i, j]) && Nat.beq r.length r'.length && planB ops r (l.setIfInBounds i true) && planB ops r' (l.setIfInBounds j true)
/-- does j wait for k, itself or through others? -/
def rch (ops : Array Oper) (k : Nat) : Nat → Nat → Bool
  | 0, _ => false
  | fuel + 1, j => match ops[j]? with
    | some o => o.after.toList.any fun e => Region.binds .any e && (Nat.beq e.on k || rch ops k fuel e.on)
    | none => false
/-- Behind an operation that comes behind all others nothing need be kept. -/
def lastB (ops : Array Oper) (i : Nat) : Bool := (List.range ops.size).all fun k => Nat.beq k i || rch ops k 3 i
/-- whatever has come up, all that it waits for has -/
def Shut (ops : Array Oper) (listed : Array Bool) : Prop := ∀ j o, ops[j]? = some o → listed.getD j false = true → ∀ e ∈ o.after, Region.binds .any e = true → listed.getD e.on false = true
theorem rch_listed {ops : Array Oper} {listed : Array Bool} (hs : Shut ops listed) {k : Nat} : ∀ (fuel j : Nat), rch ops k fuel j = true → listed.getD j false = true → listed.getD k false = true
  | 0, _, h, _ => by cases h
  | fuel + 1, j, h, hj => by
    unfold rch at h
    cases ho : ops[j]? with
    | none => rw [ho] at h; cases h
    | some o =>
      rw [ho] at h
      obtain ⟨e, he, h2⟩ := List.any_eq_true.1 h
      simp only [Bool.and_eq_true, Bool.or_eq_true] at h2
      have hl := hs j o ho hj e (by simpa using he) h2.1
      rcases h2.2 with h3 | h3
      · rw [← Nat.eq_of_beq_eq_true h3]; exact hl
      · exact rch_listed hs fuel e.on h3 hl
theorem rch_ready {ops : Array Oper} {listed : Array Bool} (hs : Shut ops listed) {k j : Nat} (hr : j ∈ Region.ready .any ops listed) : ∀ (fuel : Nat), rch ops k fuel j = true → listed.getD k false = true
  | 0, h => by cases h
  | fuel + 1, h => by
    obtain ⟨_, oj, hoj, hall⟩ := mem_ready.1 hr
    unfold rch at h
    rw [hoj] at h
    obtain ⟨e, he, h2⟩ := List.any_eq_true.1 h
    simp only [Bool.and_eq_true, Bool.or_eq_true] at h2
    have hl := hall e (by simpa using he) h2.1
    rcases h2.2 with h3 | h3
    · rw [← Nat.eq_of_beq_eq_true h3]; exact hl
    · exact rch_listed hs fuel e.on h3 hl
theorem Shut.set {ops : Array Oper} {listed : Array Bool} (hs : Shut ops listed) {i : Nat} (hr : i ∈ Region.ready .any ops listed) : Shut ops (listed.setIfInBounds i true) := by
  have mono : ∀ k, listed.getD k false = true → (listed.setIfInBounds i true).getD k false = true := fun k hk => by
    by_cases e : i = k
    · subst e
      simp only [Array.getD_eq_getD_getElem?] at hk ⊢
      have : i < listed.size := by
        rcases Nat.lt_or_ge i listed.size with h | h
        · exact h
        · rw [Array.getElem?_eq_none h] at hk; cases hk
      rw [Array.getElem?_setIfInBounds_self_of_lt this]; rfl
    · simp only [Array.getD_eq_getD_getElem?, Array.getElem?_setIfInBounds_ne e] at hk ⊢; exact hk
  intro j o ho hj e he hb
  by_cases hji : j = i
  · subst hji
    obtain ⟨_, oj, hoj, hall⟩ := mem_ready.1 hr
    rw [ho] at hoj; cases hoj
    exact mono _ (hall e he hb)
  · refine mono _ (hs j o ho ?_ e he hb)
    simp only [Array.getD_eq_getD_getElem?, Array.getElem?_setIfInBounds_ne (Ne.symm hji)] at hj ⊢; exact hj
theorem Shut.none {ops : Array Oper} (n : Nat) : Shut ops (Array.replicate n false) := by
  intro j o ho hj
  simp only [Array.getD_eq_getD_getElem?, Array.getElem?_replicate] at hj
  split at hj <;> cases hj

/-- In every world that meets S the operation yields v and leaves the world as it was. -/
def Quiet (P : Program) (ops : Array Oper) (S : World → Prop) (o : Oper) (v : Value) (f : Fm) : Prop :=
  (Region.wanted o (yieldedF ops f) = true ∧ ∀ w, S w → (execOp (ev f) o).run P w = .ok (.value v) w) ∨ (Region.wanted o (yieldedF ops f) = false ∧ v = undef)

/-- T: what the quiet operations look at; S: what holds now. -/
def PlanE (P : Program) (ops : Array Oper) (Q : Exit → Fm → World → Prop) (T S : World → Prop) (i : Nat) (f : Fm) (R : (T S : World → Prop) → Fm → Prop) : Prop := ∃ o, ops[i]? = some o ∧ ∀ w, S w →
      if Region.wanted o (yieldedF ops f) = true then
        OpK P o f w (fun v w' => ∃ T2 S2 : World → Prop, S2 w' ∧ (lastB ops i = true ∨ ∀ w, T2 w → T w) ∧ (∀ w, S2 w → T2 w) ∧ R T2 S2 (upo f o.dst v)) (fun ch w' => Q (.panic ch) f w')
      else ∃ T2 S2 : World → Prop, S2 w ∧ (lastB ops i = true ∨ ∀ w, T2 w → T w) ∧ (∀ w, S2 w → T2 w) ∧ R T2 S2 (upo f o.dst undef)
def PlanT (P : Program) (ops : Array Oper) (Q : Exit → Fm → World → Prop) : (T S : World → Prop) → PT → Fm → Prop
  | T, S, .nil, f => ∀ w, S w → Q .normal f w
  | T, S, .q i r, f => ∃ o, ops[i]? = some o ∧ ∃ v, Quiet P ops T o v f ∧ PlanT P ops Q T S r (upo f o.dst v)
  | T, S, .e i r, f => PlanE P ops Q T S i f (fun T S f => PlanT P ops Q T S r f)
  | T, S, .br i r j r', f => PlanE P ops Q T S i f (fun T S f => PlanT P ops Q T S r f) ∧ PlanE P ops Q T S j f (fun T S f => PlanT P ops Q T S r' f)
def Plan (P : Program) (ops : Array Oper) (Q : Exit → Fm → World → Prop) (S : World → Prop) (r : PT) (f : Fm) : Prop := PlanT P ops Q S S r f

/-- Whatever order is picked from here on; S holds behind every operation but one that comes behind all others. -/
def AO (P : Program) (ops : Array Oper) (R : Exit → Act → World → Prop) (S : World → Prop) : Nat → Array Bool → Act → World → Prop
  | 0, listed, a, w => Region.ready .any ops listed = [] ∧ R .normal a w
  | fuel + 1, listed, a, w =>
    (Region.ready .any ops listed = [] → R .normal a w) ∧
    ∀ i ∈ Region.ready .any ops listed, wpOp P ops R i (fun a' w' => (lastB ops i = false → S w') ∧ AO P ops R S fuel (listed.setIfInBounds i true) a' w') a w

section
variable {P : Program} {ops : Array Oper} {R : Exit → Act → World → Prop} {S : World → Prop}
theorem AO.any : ∀ (fuel : Nat) (listed : Array Bool) (a : Act) (w : World), AO P ops R S fuel listed a w → wpAny P .any ops R fuel listed a w
  | 0, _, _, _, h => h
  | fuel + 1, _, _, _, h => ⟨h.1, fun i hi => wpOp_mono (fun a' w' h' => AO.any fuel _ a' w' h'.2) (h.2 i hi)⟩
theorem AO.weaken {S' : World → Prop} (hS : ∀ w, S w → S' w) : ∀ (fuel : Nat) (listed : Array Bool) (a : Act) (w : World), AO P ops R S fuel listed a w → AO P ops R S' fuel listed a w
  | 0, _, _, _, h => h
  | fuel + 1, _, _, _, h => ⟨h.1, fun i hi => wpOp_mono (fun a' w' h' => ⟨fun hl => hS _ (h'.1 hl), AO.weaken hS fuel _ a' w' h'.2⟩) (h.2 i hi)⟩

/-- what comes behind all others is ready when all others have come up -/
theorem last_ready {listed : Array Bool} (hs : Shut ops listed) {i j : Nat} (hl : lastB ops j = true) (hr : j ∈ Region.ready .any ops listed) (hij : i ≠ j) (hi : i < ops.size) : listed.getD i false = true := by
  unfold lastB at hl
  have h1 := List.all_eq_true.1 hl i (List.mem_range.2 hi)
  simp only [Bool.or_eq_true] at h1
  rcases h1 with h1 | h1
  · exact absurd (Nat.eq_of_beq_eq_true h1) hij
  · exact rch_ready hs hr 3 h1

theorem AO.first {i : Nat} {oi : Oper} {v : Value} (hi : ops[i]? = some oi) (hsel : ∀ (j : Nat) (o : Oper) cs b, ops[j]? = some o → o.op ≠ .select cs b)
    (hQ : ∀ c a w, R (.panic c) (a.put oi.dst v) w → R (.panic c) a w) :
    ∀ (fuel : Nat) (listed : Array Bool) (a : Act) (w : World), Shut ops listed →
      (∀ j oj, ops[j]? = some oj → j ≠ i → listed.getD j true = false → (∀ e ∈ oj.after, Region.binds .any e = true → e.on ≠ i) → oi.apart ops oj = true) →
      i ∈ Region.ready .any ops listed → YieldsIf P ops S oi v a → S w →
      AO P ops R S fuel (listed.setIfInBounds i true) (a.put oi.dst v) w → AO P ops R S (fuel + 1) listed a w := by
  intro fuel
  induction fuel with
  | zero =>
    intro listed a w hsh _ hr hy hS H
    refine ⟨fun h => (by rw [h] at hr; cases hr), fun j hj => ?_⟩
    by_cases hji : j = i
    · subst hji; exact hy.wpOp hi hS ⟨fun _ => hS, H⟩
    · have := ready_mono hj hji
      rw [H.1] at this
      cases this
  | succ fuel ih =>
    intro listed a w hsh hfree hr hy hS H
    refine ⟨fun h => (by rw [h] at hr; cases hr), fun j hj => ?_⟩
    by_cases hji : j = i
    · subst hji; exact hy.wpOp hi hS ⟨fun _ => hS, H⟩
    · have h1 := H.2 j (ready_mono hj hji)
      obtain ⟨hjun, oj, hoj, hall⟩ := mem_ready.1 hj
      have hiun := (mem_ready.1 hr).1
      have hilt : i < ops.size := by
        rcases Nat.lt_or_ge i ops.size with h' | h'
        · exact h'
        · rw [Array.getElem?_eq_none h'] at hi; cases hi
      have hisz : i < listed.size := by
        rcases Nat.lt_or_ge i listed.size with h' | h'
        · exact h'
        · simp [Array.getElem?_eq_none h'] at hiun
      have hnl : lastB ops j = false := by
        cases hl : lastB ops j with
        | false => rfl
        | true =>
          have := last_ready hsh hl hj (Ne.symm hji) hilt
          simp [hisz] at this hiun
          rw [this] at hiun; cases hiun
      have hnot : ∀ e ∈ oj.after, Region.binds .any e = true → e.on ≠ i := fun e he hb heq => by
        have h1 := hall e he hb
        rw [heq] at h1
        simp [hisz] at hiun h1
        rw [hiun] at h1; cases h1
      have h2 := wpOp_putIf hoj (hfree j oj hoj hji hjun hnot) (fun cs b => hsel i oi cs b hi) (fun cs b => hsel j oj cs b hoj) hQ hy h1
      have hfree' : ∀ k ok, ops[k]? = some ok → k ≠ i → (listed.setIfInBounds j true).getD k true = false →
          (∀ e ∈ ok.after, Region.binds .any e = true → e.on ≠ i) → oi.apart ops ok = true := fun k ok hk hki hun hno => by
        refine hfree k ok hk hki ?_ hno
        by_cases hjk : j = k
        · subst hjk; exact hjun
        · rw [getD_set_ne true hjk] at hun; exact hun
      refine wpOp_mono (fun a' w' h3 => ⟨fun _ => h3.2.1 hnl, ih (listed.setIfInBounds j true) a' w' (hsh.set hj) hfree' (ready_mono hr (Ne.symm hji)) h3.1 (h3.2.1 hnl) ?_⟩) h2
      rw [Array.setIfInBounds_comm _ _ hji]
      exact h3.2.2
end

section
variable {P : Program} {n : Nat} {ds : List Deferred} {Q : Exit → Fm → World → Prop} {f : Fm} {w : World} {ops : Array Oper}

/-- a panic's frame is not looked at -/
def NoFrame (Q : Exit → Fm → World → Prop) : Prop := ∀ c f f' w, Q (.panic c) f w → Q (.panic c) f' w

theorem PlanE.sound (hdst : dstOk n ops.toList = true) (R : (T S : World → Prop) → Fm → Prop) (len : Nat) {T S : World → Prop} {l : Array Bool} {i : Nat} {f : Fm} {a : Act} {w : World} (hsh : Shut ops l) (hir : i ∈ Region.ready .any ops l)
    (IH : ∀ (T2 S2 : World → Prop) (f : Fm) (a : Act) (w : World), (∀ w, S2 w → T2 w) → Agr n ds f a → R T2 S2 f → S2 w → AO P ops (fun e a' w' => ∃ f', Agr n ds f' a' ∧ Q e f' w') T2 len (l.setIfInBounds i true) a w)
    (ha : Agr n ds f a) (h : PlanE P ops Q T S i f R) (hS : S w) :
    wpOp P ops (fun e a' w' => ∃ f', Agr n ds f' a' ∧ Q e f' w') i (fun a' w' => (lastB ops i = false → T w') ∧ AO P ops (fun e a' w' => ∃ f', Agr n ds f' a' ∧ Q e f' w') T len (l.setIfInBounds i true) a' w') a w := by
  obtain ⟨o, ho, h⟩ := h
  have h := h w hS
  have hlt : ∀ x, o.dst = some x → x < n := fun x hx => by
    have hm : o ∈ ops.toList := by
      obtain ⟨hh, he⟩ := Array.getElem?_eq_some_iff.1 ho
      rw [← he]; exact Array.getElem_mem_toList hh
    have := List.all_eq_true.1 hdst o hm
    rw [hx] at this; simpa [Nat.blt_eq] using this
  have fin : ∀ v w', (∃ T2 S2 : World → Prop, S2 w' ∧ (lastB ops i = true ∨ ∀ w, T2 w → T w) ∧ (∀ w, S2 w → T2 w) ∧ R T2 S2 (upo f o.dst v)) →
      (lastB ops i = false → T w') ∧ AO P ops (fun e a' w' => ∃ f', Agr n ds f' a' ∧ Q e f' w') T len (l.setIfInBounds i true) (a.put o.dst v) w' := by
    rintro v w' ⟨T2, S2, h2, hc, h22, hp⟩
    have ih := IH T2 S2 (upo f o.dst v) (a.put o.dst v) w' h22 (ha.put hlt) hp h2
    refine ⟨fun hl => ?_, ?_⟩
    · rcases hc with hc | hc
      · rw [hl] at hc; cases hc
      · exact hc _ (h22 _ h2)
    · rcases hc with hc | hc
      · -- nothing is left behind the last one
        have hno : Region.ready .any ops (l.setIfInBounds i true) = [] := by
          cases hr : Region.ready .any ops (l.setIfInBounds i true) with
          | nil => rfl
          | cons j js =>
            exfalso
            have hj : j ∈ Region.ready .any ops (l.setIfInBounds i true) := by rw [hr]; exact List.mem_cons_self
            obtain ⟨hjun, oj, hoj, _⟩ := mem_ready.1 hj
            have hji : i ≠ j := fun e => by
              subst e
              have hisz : i < l.size := by
                rcases Nat.lt_or_ge i l.size with h' | h'
                · exact h'
                · have := (mem_ready.1 hir).1
                  simp [Array.getElem?_eq_none h'] at this
              simp [hisz] at hjun
            have hjl : j < ops.size := by
              rcases Nat.lt_or_ge j ops.size with h' | h'
              · exact h'
              · rw [Array.getElem?_eq_none h'] at hoj; cases hoj
            have h3 := last_ready hsh hc hir (Ne.symm hji) hjl
            rw [getD_set_ne true hji] at hjun
            have hjsz : j < l.size := by
              rcases Nat.lt_or_ge j l.size with h' | h'
              · exact h'
              · simp [Array.getElem?_eq_none h'] at hjun
            simp [hjsz] at hjun h3
            rw [h3] at hjun; cases hjun
        cases hlen : len with
        | zero => rw [hlen] at ih; exact ⟨hno, ih.2⟩
        | succ m => rw [hlen] at ih; exact ⟨fun _ => ih.1 hno, by rw [hno]; simp⟩
      · exact AO.weaken hc _ _ _ _ ih
  unfold wpOp
  simp only [ho]
  rw [yielded_agr ops ha]
  split at h
  · rename_i hw
    rw [if_pos hw]
    exact .inl (OpK.wp ha (fun v w' hk => fin v w' hk) (fun ch w' hq => ⟨f, ha, hq⟩) h)
  · rename_i hw
    rw [if_neg hw]
    exact fin undef w h
theorem PlanT.sound (hsel : Region.noSelect ops = true) (hdst : dstOk n ops.toList = true) (hNF : NoFrame Q) :
    ∀ (r : PT) (T S : World → Prop) (l : Array Bool) (f : Fm) (a : Act) (w : World), (∀ w, S w → T w) → Shut ops l → planB ops r l = true → Agr n ds f a → PlanT P ops Q T S r f → S w →
      AO P ops (fun e a' w' => ∃ f', Agr n ds f' a' ∧ Q e f' w') T r.length l a w
  | .nil, T, S, l, f, a, w, hTS, hsh, hb, ha, h, hS => ⟨by simpa [planB] using hb, ⟨f, ha, h w hS⟩⟩
  | .q i r, T, S, l, f, a, w, hTS, hsh, hb, ha, h, hS => by
    simp only [planB, Bool.and_eq_true] at hb
    obtain ⟨o, ho, v, hq, hrest⟩ := h
    have hlt : ∀ x, o.dst = some x → x < n := fun x hx => by
      have hm : o ∈ ops.toList := by
        obtain ⟨hh, he⟩ := Array.getElem?_eq_some_iff.1 ho
        rw [← he]; exact Array.getElem_mem_toList hh
      have := List.all_eq_true.1 hdst o hm
      rw [hx] at this; simpa [Nat.blt_eq] using this
    have ih := PlanT.sound hsel hdst hNF r T S (l.setIfInBounds i true) (upo f o.dst v) (a.put o.dst v) w hTS (hsh.set (by simpa using hb.1.2)) hb.2 (ha.put hlt) hrest hS
    refine AO.first ho (Region.noSelect_spec hsel) ?_ r.length l a w hsh (Region.free_spec ho hb.1.1) (by simpa using hb.1.2) ?_ (hTS w hS) ih
    · rintro c a1 w1 ⟨f1, hf1, hp⟩
      refine ⟨fun t => a1.tmps.getD t undef, ?_, hNF _ _ _ _ hp⟩
      refine ⟨?_, fun t => rfl, ?_⟩
      · have := hf1.size
        cases hd : o.dst with
        | none => rw [hd] at this; exact this
        | some x => rw [hd] at this; simpa [Act.put] using this
      · have := hf1.defs
        cases hd : o.dst with
        | none => rw [hd] at this; exact this
        | some x => rw [hd] at this; simpa [Act.put] using this
    · unfold YieldsIf
      rw [yielded_agr ops ha, ha.eval]
      exact hq
  | .e i r, T, S, l, f, a, w, hTS, hsh, hb, ha, h, hS => by
    simp only [planB, Bool.and_eq_true, beq_iff_eq] at hb
    have hir : i ∈ Region.ready .any ops l := by rw [hb.1]; exact List.mem_cons_self
    refine ⟨fun h0 => by rw [h0] at hb; simp at hb, fun j hj => ?_⟩
    rw [hb.1] at hj
    obtain rfl : j = i := by simpa using hj
    exact PlanE.sound hdst _ r.length hsh hir (fun T2 S2 f a w h1 h2 h3 h4 => PlanT.sound hsel hdst hNF r T2 S2 _ f a w h1 (hsh.set hir) hb.2 h2 h3 h4) ha h hS
  | .br i r j r', T, S, l, f, a, w, hTS, hsh, hb, ha, h, hS => by
    simp only [planB, Bool.and_eq_true, beq_iff_eq] at hb
    obtain ⟨⟨⟨hb0, hlen⟩, hb1⟩, hb2⟩ := hb
    have hlen := Nat.eq_of_beq_eq_true hlen
    have hir : i ∈ Region.ready .any ops l := by rw [hb0]; simp
    have hjr : j ∈ Region.ready .any ops l := by rw [hb0]; simp
    refine ⟨fun h0 => by rw [h0] at hb0; simp at hb0, fun x hx => ?_⟩
    rw [hb0] at hx
    rcases (by simpa using hx : x = i ∨ x = j) with rfl | rfl
    · exact PlanE.sound hdst _ r.length hsh hir (fun T2 S2 f a w h1 h2 h3 h4 => PlanT.sound hsel hdst hNF r T2 S2 _ f a w h1 (hsh.set hir) hb1 h2 h3 h4) ha h.1 hS
    · rw [show PT.length r = r'.length from hlen]
      exact PlanE.sound hdst _ r'.length hsh hjr (fun T2 S2 f a w h1 h2 h3 h4 => PlanT.sound hsel hdst hNF r' T2 S2 _ f a w h1 (hsh.set hjr) hb2 h2 h3 h4) ha h.2 hS

theorem drawn_eq (w : World) : ({ w with drawn := w.drawn + 1 } : World) = w.drew := rfl

/-- A region that draws, by a plan. -/
theorem W.drawT {id : Nat} {l : List Oper} (plan : PT) (T S : World → Prop) (hm : P.follows .mixedOrders = true) (hd : dstOk n l = true) (hsel : Region.noSelect l.toArray = true)
    (hlen : plan.length = l.length) (hb : planB l.toArray plan (Array.replicate l.length false) = true) (hNF : NoFrame Q) (hTS : ∀ w, S w → T w) (hS : S w.drew) (h : PlanT P l.toArray Q T S plan f) : W P n ds (.region id l.toArray true) Q f w := fun a ha => by
  have h1 := PlanT.sound (ds := ds) (ops := l.toArray) hsel (by simpa using hd) hNF plan T S _ f a w.drew hTS (Shut.none _) hb ha h hS
  refine wp_region_any hm ?_
  have := AO.any _ _ _ _ h1
  rw [hlen] at this
  simpa using this
theorem W.draw {id : Nat} {l : List Oper} (plan : PT) (S : World → Prop) (hm : P.follows .mixedOrders = true) (hd : dstOk n l = true) (hsel : Region.noSelect l.toArray = true)
    (hlen : plan.length = l.length) (hb : planB l.toArray plan (Array.replicate l.length false) = true) (hNF : NoFrame Q) (hS : S w.drew) (h : Plan P l.toArray Q S plan f) : W P n ds (.region id l.toArray true) Q f w :=
  W.drawT plan S S hm hd hsel hlen hb hNF (fun _ h => h) hS h

theorem Plan.nil {S : World → Prop} (h : ∀ w, S w → Q .normal f w) : Plan P ops Q S .nil f := h
/-- it yields v and leaves the world -/
def Yl (P : Program) (o : Oper) (f : Fm) (w : World) (v : Value) : Prop := (execOp (ev f) o).run P w = .ok (.value v) w
section
variable {S : World → Prop} {i : Nat} {r r' : PT} {op : Op} {ty : TypeId} {pos : String} {aft : Array Edge} {g : Option (Nat × Bool)} {v : Value} {d : Nat} {rest : List Oper}
theorem Plan.q (ho : ops[i]? = some ⟨some d, op, ty, pos, aft, none⟩) (h : ∀ w, S w → Yl P ⟨some d, op, ty, pos, aft, none⟩ f w v) (hr : Plan P ops Q S r (up f d v)) : Plan P ops Q S (.q i r) f :=
  ⟨_, ho, v, .inl ⟨rfl, h⟩, hr⟩
theorem Plan.qT (ho : ops[i]? = some ⟨some d, op, ty, pos, aft, g⟩) (hw : Region.wanted ⟨some d, op, ty, pos, aft, g⟩ (yieldedF ops f) = true) (h : ∀ w, S w → Yl P ⟨some d, op, ty, pos, aft, g⟩ f w v) (hr : Plan P ops Q S r (up f d v)) : Plan P ops Q S (.q i r) f :=
  ⟨_, ho, v, .inl ⟨hw, h⟩, hr⟩
theorem Plan.qF (ho : ops[i]? = some ⟨some d, op, ty, pos, aft, g⟩) (hw : Region.wanted ⟨some d, op, ty, pos, aft, g⟩ (yieldedF ops f) = false) (hr : Plan P ops Q S r (up f d undef)) : Plan P ops Q S (.q i r) f :=
  ⟨_, ho, undef, .inr ⟨hw, rfl⟩, hr⟩
theorem Plan.e {o : Oper} (ho : ops[i]? = some o) (hg : o.guard = none) (h : ∀ w, S w → OpK P o f w (fun v w' => ∃ S2 : World → Prop, S2 w' ∧ (lastB ops i = true ∨ ∀ w, S2 w → S w) ∧ Plan P ops Q S2 r (upo f o.dst v)) (fun ch w' => Q (.panic ch) f w')) : Plan P ops Q S (.e i r) f :=
  ⟨o, ho, fun w hS => by rw [if_pos (by simp [Region.wanted, hg])]; exact OpK.mono (fun v w' ⟨S2, a, b, c⟩ => ⟨S2, S2, a, b, fun _ h => h, c⟩) (fun _ _ h => h) (h w hS)⟩
theorem Plan.e1 (ho : ops[i]? = some ⟨some d, op, ty, pos, aft, none⟩) (h : ∀ w, S w → OpK P ⟨some d, op, ty, pos, aft, none⟩ f w (fun v w' => ∃ S2 : World → Prop, S2 w' ∧ (lastB ops i = true ∨ ∀ w, S2 w → S w) ∧ Plan P ops Q S2 r (up f d v)) (fun ch w' => Q (.panic ch) f w')) : Plan P ops Q S (.e i r) f := Plan.e ho rfl h
theorem Plan.e0 (ho : ops[i]? = some ⟨none, op, ty, pos, aft, none⟩) (h : ∀ w, S w → OpK P ⟨none, op, ty, pos, aft, none⟩ f w (fun v w' => ∃ S2 : World → Prop, S2 w' ∧ (lastB ops i = true ∨ ∀ w, S2 w → S w) ∧ Plan P ops Q S2 r f) (fun ch w' => Q (.panic ch) f w')) : Plan P ops Q S (.e i r) f := Plan.e ho rfl h
theorem Plan.eT (ho : ops[i]? = some ⟨some d, op, ty, pos, aft, g⟩) (hg : Region.wanted ⟨some d, op, ty, pos, aft, g⟩ (yieldedF ops f) = true) (h : ∀ w, S w → OpK P ⟨some d, op, ty, pos, aft, g⟩ f w (fun v w' => ∃ S2 : World → Prop, S2 w' ∧ (lastB ops i = true ∨ ∀ w, S2 w → S w) ∧ Plan P ops Q S2 r (up f d v)) (fun ch w' => Q (.panic ch) f w')) : Plan P ops Q S (.e i r) f :=
  ⟨_, ho, fun w hS => by rw [if_pos hg]; exact OpK.mono (fun v w' ⟨S2, a, b, c⟩ => ⟨S2, S2, a, b, fun _ h => h, c⟩) (fun _ _ h => h) (h w hS)⟩
theorem Plan.br {j : Nat} (h1 : Plan P ops Q S (.e i r) f) (h2 : Plan P ops Q S (.e j r') f) : Plan P ops Q S (.br i r j r') f := ⟨h1, h2⟩
theorem Plan.eF {o : Oper} (ho : ops[i]? = some o) (hg : Region.wanted o (yieldedF ops f) = false) (h : Plan P ops Q S r (upo f o.dst undef)) : Plan P ops Q S (.e i r) f :=
  ⟨o, ho, fun w hS => by rw [if_neg (by rw [hg]; simp)]; exact ⟨S, S, hS, .inr fun _ h => h, fun _ h => h, h⟩⟩
section
variable {T : World → Prop}
theorem PlanT.nil (h : ∀ w, S w → Q .normal f w) : PlanT P ops Q T S .nil f := h
theorem PlanT.q (ho : ops[i]? = some ⟨some d, op, ty, pos, aft, none⟩) (h : ∀ w, T w → Yl P ⟨some d, op, ty, pos, aft, none⟩ f w v) (hr : PlanT P ops Q T S r (up f d v)) : PlanT P ops Q T S (.q i r) f :=
  ⟨_, ho, v, .inl ⟨rfl, h⟩, hr⟩
theorem PlanT.qT (ho : ops[i]? = some ⟨some d, op, ty, pos, aft, g⟩) (hw : Region.wanted ⟨some d, op, ty, pos, aft, g⟩ (yieldedF ops f) = true) (h : ∀ w, T w → Yl P ⟨some d, op, ty, pos, aft, g⟩ f w v) (hr : PlanT P ops Q T S r (up f d v)) : PlanT P ops Q T S (.q i r) f :=
  ⟨_, ho, v, .inl ⟨hw, h⟩, hr⟩
theorem PlanT.qF (ho : ops[i]? = some ⟨some d, op, ty, pos, aft, g⟩) (hw : Region.wanted ⟨some d, op, ty, pos, aft, g⟩ (yieldedF ops f) = false) (hr : PlanT P ops Q T S r (up f d undef)) : PlanT P ops Q T S (.q i r) f :=
  ⟨_, ho, undef, .inr ⟨hw, rfl⟩, hr⟩
theorem PlanT.e1 (ho : ops[i]? = some ⟨some d, op, ty, pos, aft, none⟩) (h : ∀ w, S w → OpK P ⟨some d, op, ty, pos, aft, none⟩ f w (fun v w' => ∃ T2 S2 : World → Prop, S2 w' ∧ (lastB ops i = true ∨ ∀ w, T2 w → T w) ∧ (∀ w, S2 w → T2 w) ∧ PlanT P ops Q T2 S2 r (up f d v)) (fun ch w' => Q (.panic ch) f w')) : PlanT P ops Q T S (.e i r) f :=
  ⟨_, ho, fun w hS => by rw [if_pos (by simp [Region.wanted])]; exact h w hS⟩
theorem PlanT.e0 (ho : ops[i]? = some ⟨none, op, ty, pos, aft, none⟩) (h : ∀ w, S w → OpK P ⟨none, op, ty, pos, aft, none⟩ f w (fun v w' => ∃ T2 S2 : World → Prop, S2 w' ∧ (lastB ops i = true ∨ ∀ w, T2 w → T w) ∧ (∀ w, S2 w → T2 w) ∧ PlanT P ops Q T2 S2 r f) (fun ch w' => Q (.panic ch) f w')) : PlanT P ops Q T S (.e i r) f :=
  ⟨_, ho, fun w hS => by rw [if_pos (by simp [Region.wanted])]; exact h w hS⟩
theorem PlanT.eT (ho : ops[i]? = some ⟨some d, op, ty, pos, aft, g⟩) (hg : Region.wanted ⟨some d, op, ty, pos, aft, g⟩ (yieldedF ops f) = true) (h : ∀ w, S w → OpK P ⟨some d, op, ty, pos, aft, g⟩ f w (fun v w' => ∃ T2 S2 : World → Prop, S2 w' ∧ (lastB ops i = true ∨ ∀ w, T2 w → T w) ∧ (∀ w, S2 w → T2 w) ∧ PlanT P ops Q T2 S2 r (up f d v)) (fun ch w' => Q (.panic ch) f w')) : PlanT P ops Q T S (.e i r) f :=
  ⟨_, ho, fun w hS => by rw [if_pos hg]; exact h w hS⟩
theorem PlanT.br {j : Nat} (h1 : PlanT P ops Q T S (.e i r) f) (h2 : PlanT P ops Q T S (.e j r') f) : PlanT P ops Q T S (.br i r j r') f := ⟨h1, h2⟩
theorem PlanT.eF {o : Oper} (hTS : ∀ w, S w → T w) (ho : ops[i]? = some o) (hg : Region.wanted o (yieldedF ops f) = false) (h : PlanT P ops Q T S r (upo f o.dst undef)) : PlanT P ops Q T S (.e i r) f :=
  ⟨o, ho, fun w hS => by rw [if_neg (by rw [hg]; simp)]; exact ⟨T, S, hS, .inr fun _ h => h, hTS, h⟩⟩
theorem PlanT.splitB {b : Bool} (hT : b = true → PlanT P ops Q T S r (up f d (.bool true))) (hF : b = false → PlanT P ops Q T S r (up f d (.bool false))) : PlanT P ops Q T S r (up f d (.bool b)) := by
  cases b
  · exact hF rfl
  · exact hT rfl
end
/-- a Bool that is not known: both ways -/
theorem Plan.split {b : Bool} (h : ∀ b', b = b' → Plan P ops Q S r (up f d (.bool b'))) : Plan P ops Q S r (up f d (.bool b)) := h b rfl
theorem Plan.splitB {b : Bool} (hT : b = true → Plan P ops Q S r (up f d (.bool true))) (hF : b = false → Plan P ops Q S r (up f d (.bool false))) : Plan P ops Q S r (up f d (.bool b)) := by
  cases b
  · exact hF rfl
  · exact hT rfl
theorem WO.q (h : Yl P ⟨some d, op, ty, pos, aft, none⟩ f w v) (hr : WO P ops Q rest (up f d v) w) : WO P ops Q (⟨some d, op, ty, pos, aft, none⟩ :: rest) f w :=
  WO.op rfl (by unfold OpK; rw [show (execOp (ev f) _).run P w = _ from h]; exact hr)
theorem WO.qT (hw : Region.wanted ⟨some d, op, ty, pos, aft, g⟩ (yieldedF ops f) = true) (h : Yl P ⟨some d, op, ty, pos, aft, g⟩ f w v) (hr : WO P ops Q rest (up f d v) w) : WO P ops Q (⟨some d, op, ty, pos, aft, g⟩ :: rest) f w :=
  WO.opT hw (by unfold OpK; rw [show (execOp (ev f) _).run P w = _ from h]; exact hr)
theorem WO.qF {d : Option Nat} (hw : Region.wanted ⟨d, op, ty, pos, aft, g⟩ (yieldedF ops f) = false) (hr : WO P ops Q rest (upo f d undef) w) : WO P ops Q (⟨d, op, ty, pos, aft, g⟩ :: rest) f w :=
  WO.opF hw hr
theorem WO.e (h : OpK P ⟨some d, op, ty, pos, aft, none⟩ f w (fun v w' => WO P ops Q rest (up f d v) w') (fun ch w' => Q (.panic ch) f w')) : WO P ops Q (⟨some d, op, ty, pos, aft, none⟩ :: rest) f w := WO.op rfl h
theorem WO.e0 (h : OpK P ⟨none, op, ty, pos, aft, none⟩ f w (fun _ w' => WO P ops Q rest f w') (fun ch w' => Q (.panic ch) f w')) : WO P ops Q (⟨none, op, ty, pos, aft, none⟩ :: rest) f w := WO.op rfl h
theorem WO.eT (hw : Region.wanted ⟨some d, op, ty, pos, aft, g⟩ (yieldedF ops f) = true) (h : OpK P ⟨some d, op, ty, pos, aft, g⟩ f w (fun v w' => WO P ops Q rest (up f d v) w') (fun ch w' => Q (.panic ch) f w')) : WO P ops Q (⟨some d, op, ty, pos, aft, g⟩ :: rest) f w := WO.opT hw h
theorem WO.splitB {b : Bool} (hT : b = true → WO P ops Q rest (up f d (.bool true)) w) (hF : b = false → WO P ops Q rest (up f d (.bool false)) w) : WO P ops Q rest (up f d (.bool b)) w := by
  cases b
  · exact hF rfl
  · exact hT rfl
end
theorem Then.nx {N : Fm → World → Prop} (h : N f w) : Then N Q .normal f w := h
theorem Then.x {N : Fm → World → Prop} {id : Nat} (h : Q (.exit id) f w) : Then N Q (.exit id) f w := h
theorem Then.r {N : Fm → World → Prop} (h : Q .ret f w) : Then N Q .ret f w := h
theorem Then.g {N : Fm → World → Prop} {l : Nat} (h : Q (.goto l) f w) : Then N Q (.goto l) f w := h
theorem Then.p {N : Fm → World → Prop} {c : List PanicEntry} (h : Q (.panic c) f w) : Then N Q (.panic c) f w := h
theorem InB.nx {id : Nat} (h : Q .normal f w) : InB id Q .normal f w := h
theorem InB.r {id : Nat} (h : Q .ret f w) : InB id Q .ret f w := h
theorem InB.g {id l : Nat} (h : Q (.goto l) f w) : InB id Q (.goto l) f w := h
theorem InB.p {id : Nat} {c : List PanicEntry} (h : Q (.panic c) f w) : InB id Q (.panic c) f w := h
theorem InB.e {id : Nat} (h : Q .normal f w) : InB id Q (.exit id) f w := by simp only [InB, Nat.beq_refl, cond_true]; exact h
theorem InB.x {id id' : Nat} (hi : Nat.beq id' id = false) (h : Q (.exit id') f w) : InB id Q (.exit id') f w := by simp only [InB, hi, cond_false]; exact h
/-- a test of a proposition -/
theorem W.condD {c : Operand} {x y : Code} {p : Prop} [Decidable p] (hc : ev f c = .bool (decide p)) (ht : p → W P n ds x Q f w) (hf : ¬ p → W P n ds y Q f w) : W P n ds (.cond c x y) Q f w :=
  W.cond hc (fun h => ht (of_decide_eq_true h)) (fun h => hf (of_decide_eq_false h))
end

/-! ### A call -/
def ofArgs (l : List Value) : Fm := fun t => match l[t]? with
  | some v => v
  | none => undef

/-- What a body's end comes to. -/
def BodyQ (P : Program) (fn : Func) (R : Ending → World → Prop) : Exit → Fm → World → Prop
  | .normal, f, w | .ret, f, w => ∃ v, (∀ tmps : Array Value, (∀ t, tmps.getD t undef = f t) → (results fn tmps).run P w = .ok v w) ∧ R (.returned v) w
  | .panic ch, _, w => R (.panicked ch) w
  | _, _, _ => False

theorem calls_of_W {P : Program} {k : FuncId} {fn : Func} {c : Code} {args : List Value} {w : World} {R : Ending → World → Prop} (n : Nat)
    (hf : P.funcs[k]? = some fn) (hb : fn.body = some c) (hn : fn.ntmps = n) (hl : Nat.ble args.length n = true) (h : W P n [] c (BodyQ P fn R) (ofArgs args) w) : Calls P k args.toArray w R := by
  have hl' : args.length ≤ n := by simpa [Nat.ble_eq] using hl
  refine calls_of_wp hf hb (wp_mono (h _ ⟨?_, fun t => ?_, rfl⟩) ?_)
  · simp only [hn, Array.size_append, Array.size_replicate, List.size_toArray]; omega
  · simp only [hn]
    unfold ofArgs
    simp only [Array.getD_eq_getD_getElem?, Array.getElem?_append, List.size_toArray, List.getElem?_toArray]
    split
    · rename_i hlt; rw [List.getElem?_eq_getElem hlt]; rfl
    · rename_i hge
      rw [List.getElem?_eq_none (by omega)]
      simp only [Array.getElem?_replicate]
      split <;> rfl
  · rintro e a' w' ⟨f', hag, hq⟩
    cases e with
    | normal => obtain ⟨v, hv, hR⟩ := hq; exact ⟨hag.defs, v, hv _ hag.at_, hR⟩
    | ret => obtain ⟨v, hv, hR⟩ := hq; exact ⟨hag.defs, v, hv _ hag.at_, hR⟩
    | panic ch => exact ⟨hag.defs, hq⟩
    | exit id => exact hq.elim
    | goto l => exact hq.elim
    | outgrown => exact hq.elim

theorem BodyQ.noFrame {P : Program} {fn : Func} {R : Ending → World → Prop} : NoFrame (BodyQ P fn R) := fun _ _ _ _ h => h
theorem Then.noFrame {N : Fm → World → Prop} {Q : Exit → Fm → World → Prop} (h : NoFrame Q) : NoFrame (Then N Q) := fun c f f' w hq => h c f f' w hq
theorem InB.noFrame {id : Nat} {Q : Exit → Fm → World → Prop} (h : NoFrame Q) : NoFrame (InB id Q) := fun c f f' w hq => h c f f' w hq

/-- What a result variable holds at the end. -/
def ResV (P : Program) (f : Fm) (w : World) (r : ResultVar) (v : Value) : Prop :=
  match r with
    | .tmp t => f t = v
    | .cell a t => ∃ ad, f a = .pointer (some ad) ∧ (loadVar t ad).run P w = .ok v w
section
variable {P : Program} {fn : Func} {R : Ending → World → Prop} {f : Fm} {w : World}
theorem ResV.tmp (t : Tmp) {v : Value} (h : f t = v) : ResV P f w (.tmp t) v := h
theorem ResV.cell (a : Tmp) {t : TypeId} {ad : Addr} {v : Value} (h : f a = .pointer (some ad)) (hl : (loadVar t ad).run P w = .ok v w) : ResV P f w (.cell a t) v := ⟨ad, h, hl⟩
theorem BodyQ.ret0 (h : fn.results = #[]) (hR : R (.returned (.tuple #[])) w) : BodyQ P fn R .ret f w := ⟨_, fun tmps ht => by simp [results, h], hR⟩
theorem BodyQ.end0 (h : fn.results = #[]) (hR : R (.returned (.tuple #[])) w) : BodyQ P fn R .normal f w := ⟨_, fun tmps ht => by simp [results, h], hR⟩
theorem res1 {r : ResultVar} {v : Value} (h : fn.results = #[r]) (hr : ResV P f w r v) (tmps : Array Value) (ht : ∀ t, tmps.getD t undef = f t) : (results fn tmps).run P w = .ok v w := by
  simp only [results, ht, h]
  cases r <;> (simp only [ResV] at hr; (try obtain ⟨_, ehr, lhr⟩ := hr);  simp [*, asAddr])
theorem res2 {r s : ResultVar} {v u : Value} (h : fn.results = #[r, s]) (hr : ResV P f w r v) (hs : ResV P f w s u) (tmps : Array Value) (ht : ∀ t, tmps.getD t undef = f t) : (results fn tmps).run P w = .ok (.tuple #[v, u]) w := by
  simp only [results, ht, h]
  cases r <;> cases s <;> (simp only [ResV] at hr hs; (try obtain ⟨_, ehr, lhr⟩ := hr); (try obtain ⟨_, ehs, lhs⟩ := hs);  simp [*, asAddr])
theorem res3 {r s x : ResultVar} {v u y : Value} (h : fn.results = #[r, s, x]) (hr : ResV P f w r v) (hs : ResV P f w s u) (hx : ResV P f w x y) (tmps : Array Value) (ht : ∀ t, tmps.getD t undef = f t) : (results fn tmps).run P w = .ok (.tuple #[v, u, y]) w := by
  simp only [results, ht, h]
  cases r <;> cases s <;> cases x <;> (simp only [ResV] at hr hs hx; (try obtain ⟨_, ehr, lhr⟩ := hr); (try obtain ⟨_, ehs, lhs⟩ := hs); (try obtain ⟨_, ehx, lhx⟩ := hx);  simp [*, asAddr])
theorem BodyQ.ret1 {r : ResultVar} {v : Value} (h : fn.results = #[r]) (hr : ResV P f w r v) (hR : R (.returned v) w) : BodyQ P fn R .ret f w := ⟨_, res1 h hr, hR⟩
theorem BodyQ.ret2 {r s : ResultVar} {v u : Value} (h : fn.results = #[r, s]) (hr : ResV P f w r v) (hs : ResV P f w s u) (hR : R (.returned (.tuple #[v, u])) w) : BodyQ P fn R .ret f w := ⟨_, res2 h hr hs, hR⟩
theorem BodyQ.ret3 {r s x : ResultVar} {v u y : Value} (h : fn.results = #[r, s, x]) (hr : ResV P f w r v) (hs : ResV P f w s u) (hx : ResV P f w x y) (hR : R (.returned (.tuple #[v, u, y])) w) : BodyQ P fn R .ret f w := ⟨_, res3 h hr hs hx, hR⟩
end
end Go.TL
