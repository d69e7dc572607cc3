/-
  A library of this claim: what a call owns in memory, as a list of assertions that share no block.
-/
import Derived.Test.YtlnimgpfopaicaaTa
import Derived.Deep.Draws
set_option linter.unusedVariables false
namespace Go.TL
open Go.RowKit

abbrev Hp := Nat → Option Obj
abbrev HA := Hp → Prop
def Disj (h1 h2 : Hp) : Prop := ∀ b, h1 b = none ∨ h2 b = none
def Sb (h1 h2 : Hp) : Prop := ∀ b o, h1 b = some o → h2 b = some o
def un (h1 h2 : Hp) : Hp := fun b => match h1 b with
  | some o => some o
  | none => h2 b
theorem Sb.refl (h : Hp) : Sb h h := fun _ _ h => h
theorem Sb.trans {a b c : Hp} (h : Sb a b) (k : Sb b c) : Sb a c := fun x o hx => k x o (h x o hx)
theorem un_left (h1 h2 : Hp) : Sb h1 (un h1 h2) := fun b o h => by simp [un, h]
theorem un_right {h1 h2 : Hp} (hd : Disj h1 h2) : Sb h2 (un h1 h2) := fun b o h => by
  rcases hd b with h1b | h2b
  · simp [un, h1b, h]
  · rw [h2b] at h; cases h
theorem un_sub {h1 h2 h : Hp} (a : Sb h1 h) (b : Sb h2 h) : Sb (un h1 h2) h := fun x o hx => by
  unfold un at hx
  split at hx
  · rename_i e; cases hx; exact a _ _ e
  · exact b _ _ hx
theorem Disj.symm {a b : Hp} (h : Disj a b) : Disj b a := fun x => (h x).symm
theorem Disj.sub {a b c : Hp} (h : Disj a c) (s : Sb b a) : Disj b c := fun x => by
  rcases h x with hx | hx
  · left
    cases hb : b x with
    | none => rfl
    | some o => rw [s _ _ hb] at hx; cases hx
  · exact .inr hx
theorem Disj.un_left {a b c : Hp} (h : Disj a c) (k : Disj b c) : Disj (un a b) c := fun x => by
  rcases h x with hx | hx
  · rcases k x with kx | kx
    · left; simp [un, hx, kx]
    · exact .inr kx
  · exact .inr hx

def star : List HA → Hp → Prop
  | [], _ => True
  | A :: L, h => ∃ h1 h2, A h1 ∧ star L h2 ∧ Disj h1 h2 ∧ Sb h1 h ∧ Sb h2 h
theorem star.up : ∀ {L : List HA} {h h' : Hp}, star L h → Sb h h' → star L h'
  | [], _, _, _, _ => trivial
  | A :: L, h, h', ⟨h1, h2, a, b, c, d, e⟩, s => ⟨h1, h2, a, b, c, d.trans s, e.trans s⟩
theorem star.cons {A : HA} {L : List HA} {h1 h2 : Hp} (a : A h1) (b : star L h2) (d : Disj h1 h2) : star (A :: L) (un h1 h2) := ⟨h1, h2, a, b, d, un_left _ _, un_right d⟩
theorem star.append : ∀ {L L' : List HA} {h h' : Hp}, star L h → star L' h' → Disj h h' → star (L ++ L') (un h h')
  | [], L', h, h', _, b, d => b.up (un_right d)
  | A :: L, L', h, h', ⟨h1, h2, a, c, d, s1, s2⟩, b, dd =>
    have d2 : Disj h2 h' := dd.sub s2
    have d1 : Disj h1 h' := dd.sub s1
    ⟨h1, un h2 h', a, star.append c b d2, (Disj.un_left d.symm d1.symm).symm, s1.trans (un_left _ _), un_sub (s2.trans (un_left _ _)) (un_right dd)⟩
theorem star.split : ∀ {L L' : List HA} {h : Hp}, star (L ++ L') h → ∃ h1 h2, star L h1 ∧ star L' h2 ∧ Disj h1 h2 ∧ Sb h1 h ∧ Sb h2 h
  | [], L', h, b => ⟨fun _ => none, h, trivial, b, fun _ => .inl rfl, (fun _ _ e => by cases e), Sb.refl _⟩
  | A :: L, L', h, ⟨h1, h2, a, c, d, s1, s2⟩ => by
    obtain ⟨x, y, p, q, r, s, t⟩ := star.split c
    exact ⟨un h1 x, y, star.cons a p (d.symm.sub s).symm, q, Disj.un_left (d.symm.sub t).symm r, un_sub s1 (s.trans s2), t.trans s2⟩
theorem star.at : ∀ (i : Nat) {L : List HA} {h : Hp} {A : HA}, star L h → L[i]? = some A → ∃ h1 h2, A h1 ∧ star (L.eraseIdx i) h2 ∧ Disj h1 h2 ∧ Sb h1 h ∧ Sb h2 h := by
  intro i
  induction i with
  | zero =>
    intro L h A hs hi
    cases L with
    | nil => cases hi
    | cons B L =>
      obtain ⟨h1, h2, a, b, c, d, e⟩ := hs
      simp at hi; subst hi
      exact ⟨h1, h2, a, b, c, d, e⟩
  | succ i ih =>
    intro L h A hs hi
    cases L with
    | nil => cases hi
    | cons B L =>
      obtain ⟨h1, h2, a, b, c, d, e⟩ := hs
      have hi : L[i]? = some A := by simpa using hi
      obtain ⟨x, y, p, q, r, s, t⟩ := ih b hi
      exact ⟨x, un h1 y, p, star.cons a q (c.symm.sub t).symm, (Disj.un_left (c.symm.sub s).symm r.symm).symm, s.trans e, un_sub d (t.trans e)⟩
theorem star.put : ∀ (i : Nat) {L : List HA} {A A' : HA} {h1 h2 : Hp}, L[i]? = some A → A' h1 → star (L.eraseIdx i) h2 → Disj h1 h2 → star (L.set i A') (un h1 h2) := by
  intro i
  induction i with
  | zero =>
    intro L A A' h1 h2 hi ha hs hd
    cases L with
    | nil => cases hi
    | cons B L => exact star.cons ha hs hd
  | succ i ih =>
    intro L A A' h1 h2 hi ha hs hd
    cases L with
    | nil => cases hi
    | cons B L =>
      have hi : L[i]? = some A := by simpa using hi
      obtain ⟨x, y, p, q, r, s, t⟩ := (hs : star (B :: L.eraseIdx i) h2)
      have d1 : Disj h1 x := (hd.symm.sub s).symm
      have d2 : Disj h1 y := (hd.symm.sub t).symm
      refine ⟨x, un h1 y, p, ih hi ha q d2, (Disj.un_left d1 r.symm).symm, s.trans (un_right hd), un_sub (un_left _ _) (t.trans (un_right hd))⟩
theorem star.eraseIdx {L : List HA} (i : Nat) {h : Hp} (hs : star L h) : star (L.eraseIdx i) h := by
  cases hi : L[i]? with
  | none =>
    rw [List.eraseIdx_of_length_le (by simpa using hi)]; exact hs
  | some A =>
    obtain ⟨h1, h2, a, b, c, d, e⟩ := star.at i hs hi
    exact b.up e

/-- Since w0 nothing that stood there has turned. -/
abbrev Ext (w0 w : World) : Prop := Below w0.heap.size w0 w
theorem Ext.refl (w : World) : Ext w w := Below.refl _ _
theorem Ext.trans {a b c : World} (h : Ext a b) (k : Ext b c) : Ext a c := Below.trans h (Below.mono k h.size)
theorem Ext.drew {a b : World} (h : Ext a b) : Ext a b.drew := Below.drew h
theorem Ext.cell {a b : World} (h : Ext a b) {p : Addr} {v : Value} (hc : a.cell? p = some v) : b.cell? p = some v := by
  rw [Below.cell h (World.block_lt_of_cell? a p hc)]; exact hc
theorem Ext.heap {a b : World} (h : Ext a b) {k : Nat} {o : Obj} (hc : a.heap[k]? = some o) : b.heap[k]? = some o := by
  rw [h.block k (Array.getElem?_eq_some_iff.1 hc).1]; exact hc

/-- L is owned: blocks from w0's end on, each by one entry. -/
def Sat (w0 w : World) (L : List HA) : Prop := Ext w0 w ∧ ∃ h : Hp, star L h ∧ (∀ b o, h b = some o → w0.heap.size ≤ b ∧ w.heap[b]? = some o)

theorem Sat.ext {w0 w : World} {L : List HA} (h : Sat w0 w L) : Ext w0 w := h.1
theorem Sat.refl (w : World) : Sat w w [] := ⟨Ext.refl w, fun _ => none, trivial, fun _ _ e => by cases e⟩
theorem Sat.drew {w0 w : World} {L : List HA} (h : Sat w0 w L) : Sat w0 w.drew L := ⟨h.1.drew, h.2⟩
theorem Sat.drewN {w0 w : World} {L : List HA} (h : Sat w0 w L) (n : Nat) : Sat w0 (w.drewN n) L := ⟨⟨h.1.os, h.1.tape, h.1.output, h.1.size, h.1.block⟩, h.2⟩
theorem Sat.nil {w0 w : World} {L : List HA} (h : Sat w0 w L) : Sat w0 w [] := ⟨h.1, fun _ => none, trivial, fun _ _ e => by cases e⟩
/-- any blocks that are new -/
theorem Sat.add {w0 w w' : World} {L : List HA} {A : HA} (h : Sat w0 w L) (e : Ext w w') (h1 : Hp) (a : A h1) (hn : ∀ b o, h1 b = some o → w.heap.size ≤ b ∧ w'.heap[b]? = some o) : Sat w0 w' (A :: L) := by
  obtain ⟨e0, h0, s0, m0⟩ := h
  refine ⟨e0.trans e, un h1 h0, star.cons a s0 (fun b => ?_), fun b o hb => ?_⟩
  · cases hb : h1 b with
    | none => exact .inl rfl
    | some o =>
      right
      cases h0b : h0 b with
      | none => rfl
      | some o' =>
        have := (hn b o hb).1
        have h2 := (Array.getElem?_eq_some_iff.1 (m0 b o' h0b).2).1
        omega
  · unfold un at hb
    split at hb
    · rename_i o' e1; cases hb
      have := hn b o e1
      exact ⟨Nat.le_trans e0.size this.1, this.2⟩
    · have := m0 b o hb
      exact ⟨this.1, e.heap this.2⟩
theorem Sat.trans {w0 w w' : World} {L L' : List HA} (h : Sat w0 w L) (k : Sat w w' L') : Sat w0 w' (L' ++ L) := by
  obtain ⟨e0, h0, s0, m0⟩ := h
  obtain ⟨e1, h1, s1, m1⟩ := k
  refine ⟨e0.trans e1, un h1 h0, star.append s1 s0 (fun b => ?_), fun b o hb => ?_⟩
  · cases hb : h1 b with
    | none => exact .inl rfl
    | some o =>
      right
      cases h0b : h0 b with
      | none => rfl
      | some o' =>
        have := (m1 b o hb).1
        have h2 := (Array.getElem?_eq_some_iff.1 (m0 b o' h0b).2).1
        omega
  · unfold un at hb
    split at hb
    · rename_i o' e; cases hb
      have := m1 b o e
      exact ⟨Nat.le_trans e0.size this.1, this.2⟩
    · have := m0 b o hb
      exact ⟨this.1, e1.heap this.2⟩
theorem Sat.keep {w0 w w' : World} {L : List HA} (h : Sat w0 w L) (k : Ext w w') : Sat w0 w' L := by
  obtain ⟨e0, h0, s0, m0⟩ := h
  exact ⟨e0.trans k, h0, s0, fun b o hb => ⟨(m0 b o hb).1, k.heap (m0 b o hb).2⟩⟩
/-- One entry turns. -/
theorem Sat.focus {w0 w w' : World} {L : List HA} {A A' : HA} (h : Sat w0 w L) (i : Nat) (hi : L[i]? = some A)
    (hk : ∀ h1, A h1 → (∀ b o, h1 b = some o → w0.heap.size ≤ b ∧ w.heap[b]? = some o) → ∃ h2, A' h2 ∧ (∀ b o, h2 b = some o → w'.heap[b]? = some o ∧ (h1 b ≠ none ∨ w.heap.size ≤ b)) ∧
      w'.os = w.os ∧ w'.tape = w.tape ∧ w'.output = w.output ∧ w.heap.size ≤ w'.heap.size ∧ ∀ b, b < w.heap.size → h1 b = none → w'.heap[b]? = w.heap[b]?) : Sat w0 w' (L.set i A') := by
  obtain ⟨e0, h0, s0, m0⟩ := h
  obtain ⟨h1, hr, a, b, c, d, e⟩ := star.at i s0 hi
  obtain ⟨h2, a', k1, os, tape, out, size, k2⟩ := hk h1 a (fun b o hb => m0 b o (d b o hb))
  have lt : ∀ b o, hr b = some o → b < w.heap.size := fun b o hb => (Array.getElem?_eq_some_iff.1 (m0 b o (e b o hb)).2).1
  refine ⟨⟨os.trans e0.os, tape.trans e0.tape, out.trans e0.output, Nat.le_trans e0.size size, fun k hk => ?_⟩, un h2 hr, star.put i hi a' b (fun x => ?_), fun x o hx => ?_⟩
  · have : h1 k = none := by
      cases hh : h1 k with
      | none => rfl
      | some o => have := (m0 k o (d k o hh)).1; omega
    rw [k2 k (Nat.lt_of_lt_of_le hk e0.size) this]
    exact e0.block k hk
  · cases hx : h2 x with
    | none => exact .inl rfl
    | some o =>
      right
      cases hrx : hr x with
      | none => rfl
      | some o' =>
        rcases (k1 x o hx).2 with hn | hn
        · rcases c x with c1 | c2
          · exact absurd c1 hn
          · rw [c2] at hrx; cases hrx
        · have := lt x o' hrx; omega
  · unfold un at hx
    split at hx
    · rename_i o' e1; cases hx
      refine ⟨?_, (k1 x o e1).1⟩
      rcases (k1 x o e1).2 with hn | hn
      · cases hh : h1 x with
        | none => exact absurd hh hn
        | some o2 => exact (m0 x o2 (d x o2 hh)).1
      · exact Nat.le_trans e0.size hn
    · have hm := m0 x o (e x o hx)
      refine ⟨hm.1, ?_⟩
      rw [k2 x (lt x o hx) ?_]
      · exact hm.2
      · rcases c x with c1 | c2
        · exact c1
        · rw [c2] at hx; cases hx

/-- picking, leaving out, reordering -/
inductive Pk : List HA → List HA → Prop
  | nil (L : List HA) : Pk L []
  | refl (L : List HA) : Pk L L
  | cons {L L' : List HA} {A : HA} (i : Nat) (hi : L[i]? = some A) (h : Pk (L.eraseIdx i) L') : Pk L (A :: L')
  | drop {L L' : List HA} {A : HA} (h : Pk L L') : Pk (A :: L) L'
theorem Pk.star {L L' : List HA} (p : Pk L L') : ∀ {h : Hp}, star L h → star L' h := by
  induction p with
  | nil L => exact fun _ => trivial
  | refl L => exact fun h => h
  | cons i hi _ ih =>
    intro h hs
    obtain ⟨h1, hr, a, b, c, d, e⟩ := star.at i hs hi
    exact ⟨h1, hr, a, ih b, c, d, e⟩
  | drop _ ih =>
    intro h ⟨_, _, _, b, _, _, e⟩
    exact ih (b.up e)
theorem Sat.pk {w0 w : World} {L L' : List HA} (h : Sat w0 w L) (p : Pk L L') : Sat w0 w L' := ⟨h.1, h.2.imp fun x hx => ⟨p.star hx.1, hx.2⟩⟩
theorem Sat.tl {w0 w : World} {A : HA} {L : List HA} (h : Sat w0 w (A :: L)) : Sat w0 w L := ⟨h.1, by obtain ⟨_, x, ⟨h1, h2, a, b, c, d, e⟩, m⟩ := h; exact ⟨h2, b, fun y o hy => m y o (e y o hy)⟩⟩
/-- the head is put in another way -/
theorem Sat.conv {w0 w : World} {L M M' : List HA} (h : Sat w0 w (M ++ L)) (k : ∀ x, star M x → star M' x) : Sat w0 w (M' ++ L) := by
  obtain ⟨e, x, s, m⟩ := h
  obtain ⟨h1, h2, a, b, c, d, f⟩ := star.split s
  exact ⟨e, x, (star.append (k _ a) b c).up (un_sub d f), m⟩
theorem Sat.imp {w0 w : World} {L : List HA} {A A' : HA} (h : Sat w0 w L) (i : Nat) (hi : L[i]? = some A) (k : ∀ x, A x → A' x) : Sat w0 w (L.set i A') :=
  h.focus i hi fun h1 a m => ⟨h1, k _ a, fun b o hb => ⟨(m b o hb).2, .inl (by rw [hb]; simp)⟩, rfl, rfl, rfl, Nat.le_refl _, fun _ _ _ => rfl⟩
/-- facts of the head that need no memory -/
theorem Sat.fact {w0 w : World} {L : List HA} {A : HA} {p : Prop} (h : Sat w0 w L) (i : Nat) (hi : L[i]? = some A) (k : ∀ x, A x → p) : p := by
  obtain ⟨e, x, s, m⟩ := h
  obtain ⟨h1, hr, a, _⟩ := star.at i s hi
  exact k _ a
theorem Sat.ex {w0 w : World} {L : List HA} {α : Type} {A : α → HA} (h : Sat w0 w ((fun x => ∃ a, A a x) :: L)) : ∃ a, Sat w0 w (A a :: L) := by
  obtain ⟨e, x, ⟨h1, h2, ⟨a, ha⟩, b, c, d, f⟩, m⟩ := h
  exact ⟨a, e, x, ⟨h1, h2, ha, b, c, d, f⟩, m⟩
theorem Sat.view {w0 w : World} {L : List HA} {A : HA} {p : Prop} (h : Sat w0 w L) (i : Nat) (hi : L[i]? = some A) (k : ∀ x, A x → (∀ b o, x b = some o → w0.heap.size ≤ b ∧ w.heap[b]? = some o) → p) : p := by
  obtain ⟨e, x, s, m⟩ := h
  obtain ⟨h1, hr, a, _, _, d, _⟩ := star.at i s hi
  exact k _ a fun b o hb => m b o (d b o hb)

/-! ### one block -/
def Blk (b : Nat) (o : Obj) : HA := fun h => h b = some o
/-- a row of cells -/
abbrev Cel (b : Nat) (cs : List Value) (e : TypeId) : HA := Blk b (.cells cs.toArray e (0, 0))

theorem Sat.blk {w0 w : World} {L : List HA} (h : Sat w0 w L) (i : Nat) {b : Nat} {o : Obj} (hi : L[i]? = some (Blk b o)) : w.heap[b]? = some o ∧ w0.heap.size ≤ b :=
  h.view i hi fun x hx m => ⟨(m b o hx).2, (m b o hx).1⟩
theorem Sat.cell {w0 w : World} {L : List HA} (h : Sat w0 w L) (i : Nat) {b : Nat} {cs : List Value} {e : TypeId} {fr : Nat × Nat} (hi : L[i]? = some (Blk b (.cells cs.toArray e fr))) (off : Nat) {v : Value} (hv : cs[off]? = some v) : w.cell? ⟨b, off, none⟩ = some v := by
  simp [World.cell?, (h.blk i hi).1, hv]
theorem Sat.alloc {w0 w : World} {L : List HA} (h : Sat w0 w L) (o : Obj) : Sat w0 (w.alloc o) (Blk w.heap.size o :: L) :=
  h.add ((Ext.refl w).alloc (Nat.le_refl _) o) (fun b => bif Nat.beq b w.heap.size then some o else none) (by simp [Blk]) (fun b o' hb => by
    cases e : Nat.beq b w.heap.size with
    | false => simp only [e, cond_false] at hb; cases hb
    | true =>
      simp only [e, cond_true, Option.some.injEq] at hb
      have := Nat.eq_of_beq_eq_true e
      subst hb; subst this
      exact ⟨Nat.le_refl _, by show (w.heap.push _)[w.heap.size]? = _; simp⟩)
/-- the block's object turns -/
theorem Sat.setBlk {w0 w : World} {L : List HA} (h : Sat w0 w L) (i : Nat) {b : Nat} {o o' : Obj} (hi : L[i]? = some (Blk b o)) : Sat w0 { w with heap := w.heap.setIfInBounds b o' } (L.set i (Blk b o')) :=
  h.focus i hi fun h1 a m => ⟨fun x => bif Nat.beq x b then some o' else none, by simp [Blk], fun x u hx => by
    cases e : Nat.beq x b with
    | false => simp only [e, cond_false] at hx; cases hx
    | true =>
      simp only [e, cond_true, Option.some.injEq] at hx
      have := Nat.eq_of_beq_eq_true e
      subst hx; subst this
      have hlt := (Array.getElem?_eq_some_iff.1 (m x o a).2).1
      exact ⟨by simp [Array.getElem?_setIfInBounds_self_of_lt hlt], .inl (by rw [show h1 x = some o from a]; simp)⟩, rfl, rfl, rfl, by simp, fun x hx hn => by
        have : x ≠ b := fun e => by subst e; rw [show h1 x = some o from a] at hn; cases hn
        simp [Array.getElem?_setIfInBounds_ne (Ne.symm this)]⟩

def lset (cs : List Value) (off : Nat) (vs : List Value) : List Value := cs.take off ++ vs ++ cs.drop (off + vs.length)

theorem setCell_heap (w : World) (b off : Nat) (v : Value) (cs : Array Value) (e : TypeId) (fr : Nat × Nat) (h : w.heap[b]? = some (.cells cs e fr)) : w.setCell ⟨b, off, none⟩ v = { w with heap := w.heap.setIfInBounds b (.cells (cs.setIfInBounds off v) e fr) } := by
  unfold World.setCell
  congr 1
  apply Array.ext_getElem?
  intro i
  by_cases hi : i = b
  · subst hi
    have hlt := (Array.getElem?_eq_some_iff.1 h).1
    simp [Array.getElem?_modify, h, Array.getElem?_setIfInBounds_self_of_lt hlt]
  · simp [Array.getElem?_modify, Array.getElem?_setIfInBounds_ne (Ne.symm hi), Ne.symm hi]

end Go.TL
