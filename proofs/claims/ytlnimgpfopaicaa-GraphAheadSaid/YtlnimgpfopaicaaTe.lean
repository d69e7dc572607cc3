/-
  A library of this claim: maps that the call makes; calls of function values.
-/
import Derived.Test.YtlnimgpfopaicaaTd
set_option linter.unusedVariables false
set_option linter.unusedSimpArgs false
namespace Go.TL
open Go.RowKit

/-- keys of a kind that are held against one another at once -/
structure KeyOk {κ : Type} [DecidableEq κ] (P : Program) (t : TypeId) (kv : κ → Value) : Prop where
  same : ∃ u, P.underlying t = some u ∧ ∀ k k', Instr.sameNow u (kv k) (kv k') = some (decide (k = k'))
  check : ∀ e k w, (Instr.checkKey e 10000 t (kv k)).run P w = .ok () w
  bits : ∀ k, Instr.sameBits 10000 (kv k) (kv k) = true

/-- a map that reads as g -/
def MapF {κ β : Type} [DecidableEq κ] (b : Nat) (kv : κ → Value) (vv : β → Value) (g : κ → Option β) : HA := fun h => ∃ es clock, h b = some (.map es clock) ∧ ∃ l : List (κ × β), es.toList.map (fun e => (e.key, e.val)) = l.map (fun p => (kv p.1, vv p.2)) ∧ ∀ k, l.lookup k = g k

theorem findNow_spec {κ β : Type} [DecidableEq κ] {u : TypeDesc} {kv : κ → Value} {vv : β → Value} (hs : ∀ k k', Instr.sameNow u (kv k) (kv k') = some (decide (k = k'))) (k : κ) :
    ∀ (es : List MapEntry) (l : List (κ × β)) (i : Nat), es.map (fun e => (e.key, e.val)) = l.map (fun p => (kv p.1, vv p.2)) →
      (l.lookup k = none ∧ Instr.findNow u (kv k) es i = some none) ∨ (∃ j y, l.lookup k = some y ∧ Instr.findNow u (kv k) es i = some (some (i + j, vv y)) ∧ (es[j]?.map (·.key)) = some (kv k) ∧ ∀ y', (l.set j (k, y')).map (fun p => (kv p.1, vv p.2)) = (es.modify j (fun e => { e with key := kv k, val := vv y' })).map (fun e => (e.key, e.val)) ∧ ∀ k', (l.set j (k, y')).lookup k' = if k' = k then some y' else l.lookup k')
  | [], [], i, _ => .inl ⟨rfl, rfl⟩
  | [], p :: l, i, h => by simp at h
  | e :: es, [], i, h => by simp at h
  | e :: es, p :: l, i, h => by
    simp only [List.map_cons, List.cons.injEq, Prod.mk.injEq] at h
    obtain ⟨⟨hk, hv⟩, hr⟩ := h
    simp only [Instr.findNow, hk, hs]
    by_cases hkp : k = p.1
    · subst hkp
      right
      refine ⟨0, p.2, by simp [List.lookup], by simp [hv], by simp [hk], fun y' => ⟨?_, fun k' => ?_⟩⟩
      · simp [hr]
      · by_cases h : k' = p.1
        · simp [List.lookup, h]
        · have hb : (k' == p.1) = false := by simpa using h
          simp [List.lookup, h, hb]
    · have hd : decide (k = p.1) = false := by simpa using hkp
      have hb : (k == p.1) = false := by simpa using hkp
      simp only [hd, List.lookup, hb]
      rcases findNow_spec hs k es l (i + 1) hr with ⟨h1, h2⟩ | ⟨j, y, h1, h2, h3, h4⟩
      · exact .inl ⟨h1, h2⟩
      · refine .inr ⟨j + 1, y, h1, by rw [h2]; congr 3; omega, by simpa using h3, fun y' => ?_⟩
        obtain ⟨h5, h6⟩ := h4 y'
        refine ⟨by simp [hk, hv, h5], fun k' => ?_⟩
        simp only [List.set_cons_succ, List.lookup]
        by_cases h : k' = p.1
        · have hb' : (k' == p.1) = true := by simpa using h
          have : ¬ k' = k := fun e => hkp (e ▸ h)
          simp [hb', this]
        · have hb' : (k' == p.1) = false := by simpa using h
          simp only [hb']; exact h6 k'

section
variable {P : Program} {f : Fm} {w w0 : World} {L : List HA} {K : Value → World → Prop} {Qp : List PanicEntry → World → Prop} {d : Option Nat} {ty : TypeId} {pos : String} {aft : Array Edge} {g : Option (Nat × Bool)}
theorem O.makeMap {κ β : Type} [DecidableEq κ] (kv : κ → Value) (vv : β → Value) {t : TypeId} (S : Sat w0 w L) (h : ∀ b w', Sat w0 w' (MapF b kv vv (fun _ => none) :: L) → K (.map (some b)) w') : OpK P ⟨d, .makeMap t none, ty, pos, aft, g⟩ f w K Qp := by
  refine OpK.val (v := .map (some w.heap.size)) (w' := w.alloc (.map #[] 0)) ?_ (h _ _ ?_)
  · simp [execOp, Instr.makeMap]
  · exact (S.alloc (.map #[] 0)).imp (A' := MapF w.heap.size kv vv (fun _ => none)) 0 rfl fun x hx => ⟨_, _, hx, [], by simp, fun k => rfl⟩
theorem run_lookup {κ β : Type} [DecidableEq κ] {kv : κ → Value} {vv : β → Value} {m : κ → Option β} {mt kt e : TypeId} {b : Nat} {z : β} (hu : P.underlying mt = some (.map kt e)) (hk : KeyOk P kt kv) (hz : ∀ w, (zeroValue e).run P w = .ok (vv z) w) (i : Nat) (S : Sat w0 w L) (hi : L[i]? = some (MapF b kv vv m)) (k : κ) (ok : Bool) :
    (Instr.lookup mt (.map (some b)) (kv k) ok).run P w = .ok (if ok then .tuple #[vv ((m k).getD z), .bool (m k).isSome] else vv ((m k).getD z)) w := by
  obtain ⟨es, clock, hb, l, hl, hg⟩ := S.view i hi (p := ∃ es clock, w.heap[b]? = some (.map es clock) ∧ ∃ l : List (κ × β), es.toList.map (fun e => (e.key, e.val)) = l.map (fun p => (kv p.1, vv p.2)) ∧ ∀ k, l.lookup k = m k) fun x ⟨es, c, h1, l, h2, h3⟩ mm => ⟨es, c, (mm _ _ h1).2, l, h2, h3⟩
  obtain ⟨u, hu1, hs⟩ := hk.same
  rcases findNow_spec hs k es.toList l 0 hl with ⟨h1, h2⟩ | ⟨j, y, h1, h2, _⟩
  · rw [hg] at h1
    cases ok <;> simp [Instr.lookup, run_underlying hu, getObj, Sem.run, hb, hk.check, Instr.findKey, run_underlying hu1, h2, hz, h1]
  · rw [hg] at h1
    cases ok <;> simp [Instr.lookup, run_underlying hu, getObj, Sem.run, hb, hk.check, Instr.findKey, run_underlying hu1, h2, hz, h1]
theorem Y.lookup {κ β : Type} [DecidableEq κ] {kv : κ → Value} {vv : β → Value} {m : κ → Option β} {mt kt e : TypeId} {b : Nat} {z : β} {X I : Operand} (k : κ) (hu : P.underlying mt = some (.map kt e)) (hk : KeyOk P kt kv) (hz : ∀ w, (zeroValue e).run P w = .ok (vv z) w) (i : Nat) (S : Sat w0 w L) (hx : ev f X = .map (some b)) (hi : L[i]? = some (MapF b kv vv m)) (hkk : ev f I = kv k) :
    Yl P ⟨d, .lookup mt X I false, ty, pos, aft, g⟩ f w (vv ((m k).getD z)) := by
  unfold Yl
  have := run_lookup hu hk hz i S hi k false
  simp [execOp, hx, hkk, this]
theorem Y.lookupOk {κ β : Type} [DecidableEq κ] {kv : κ → Value} {vv : β → Value} {m : κ → Option β} {mt kt e : TypeId} {b : Nat} {z : β} {X I : Operand} (k : κ) (hu : P.underlying mt = some (.map kt e)) (hk : KeyOk P kt kv) (hz : ∀ w, (zeroValue e).run P w = .ok (vv z) w) (i : Nat) (S : Sat w0 w L) (hx : ev f X = .map (some b)) (hi : L[i]? = some (MapF b kv vv m)) (hkk : ev f I = kv k) :
    Yl P ⟨d, .lookup mt X I true, ty, pos, aft, g⟩ f w (.tuple #[vv ((m k).getD z), .bool (m k).isSome]) := by
  unfold Yl
  have := run_lookup hu hk hz i S hi k true
  simp [execOp, hx, hkk, this]
def mset {κ β : Type} [DecidableEq κ] (m : κ → Option β) (k : κ) (y : β) : κ → Option β := fun k' => if k' = k then some y else m k'
theorem O.mapUpdate {κ β : Type} [DecidableEq κ] {kv : κ → Value} {vv : β → Value} {m : κ → Option β} {mt kt e : TypeId} {b : Nat} {X I V : Operand} (k : κ) (y : β) (hu : P.underlying mt = some (.map kt e)) (hk : KeyOk P kt kv) (i : Nat) (S : Sat w0 w L) (hx : ev f X = .map (some b)) (hi : L[i]? = some (MapF b kv vv m)) (hkk : ev f I = kv k) (hv : ev f V = vv y)
    (h : ∀ w', Sat w0 w' (L.set i (MapF b kv vv (mset m k y))) → K undef w') : OpK P ⟨d, .mapUpdate mt X I V, ty, pos, aft, g⟩ f w K Qp := by
  obtain ⟨es, clock, hb, l, hl, hg⟩ := S.view i hi (p := ∃ es clock, w.heap[b]? = some (.map es clock) ∧ ∃ l : List (κ × β), es.toList.map (fun e => (e.key, e.val)) = l.map (fun p => (kv p.1, vv p.2)) ∧ ∀ k, l.lookup k = m k) fun x ⟨es, c, h1, l, h2, h3⟩ mm => ⟨es, c, (mm _ _ h1).2, l, h2, h3⟩
  obtain ⟨u, hu1, hs⟩ := hk.same
  have upd : ∀ (es' : Array MapEntry) (c' : Nat) (l' : List (κ × β)), es'.toList.map (fun e => (e.key, e.val)) = l'.map (fun p => (kv p.1, vv p.2)) → (∀ k', l'.lookup k' = mset m k y k') →
      Sat w0 { w with heap := w.heap.setIfInBounds b (.map es' c') } (L.set i (MapF b kv vv (mset m k y))) := fun es' c' l' h1 h2 =>
    S.focus i hi fun h1' a mm => ⟨fun x => bif Nat.beq x b then some (.map es' c') else none, ⟨es', c', by simp, l', h1, h2⟩, fun x o hx => by
      obtain ⟨es0, c0, hh, _⟩ := a
      cases e : Nat.beq x b with
      | false => simp only [e, cond_false] at hx; cases hx
      | true =>
        simp only [e, cond_true, Option.some.injEq] at hx
        have := Nat.eq_of_beq_eq_true e
        subst hx; subst this
        have hlt := (Array.getElem?_eq_some_iff.1 (mm x _ hh).2).1
        exact ⟨by simp [Array.getElem?_setIfInBounds_self_of_lt hlt], .inl (by rw [hh]; simp)⟩, rfl, rfl, rfl, by simp, fun x hx hn => by
      obtain ⟨es0, c0, hh, _⟩ := a
      have : x ≠ b := fun e => by subst e; rw [hh] at hn; cases hn
      simp [Array.getElem?_setIfInBounds_ne (Ne.symm this)]⟩
  rcases findNow_spec hs k es.toList l 0 hl with ⟨h1, h2⟩ | ⟨j, y0, h1, h2, h3, h4⟩
  · refine OpK.skip (w' := { w with heap := w.heap.setIfInBounds b (.map (es.push { key := kv k, val := vv y, born := clock }) (clock + 1)) }) ?_ (h _ (upd _ _ (l ++ [(k, y)]) (by simp [hl]) fun k' => ?_))
    · simp [execOp, hx, hkk, hv, Instr.mapUpdate, run_underlying hu, getObj, setObj, Sem.run, hb, hk.check, Instr.findKey, run_underlying hu1, h2]
    · simp only [mset]
      rw [← hg]
      have key : ∀ (l : List (κ × β)), l.lookup k = none → (l ++ [(k, y)]).lookup k' = if k' = k then some y else l.lookup k' := by
        intro l
        induction l with
        | nil =>
          intro _
          by_cases hkk : k' = k
          · simp [List.lookup, hkk]
          · have : (k' == k) = false := by simpa using hkk
            simp [List.lookup, hkk, this]
        | cons p l ih =>
          intro hn
          simp only [List.lookup] at hn
          split at hn
          · cases hn
          · rename_i hb
            simp only [List.cons_append, List.lookup]
            by_cases hp : k' = p.1
            · have : (k' == p.1) = true := by simpa using hp
              have hne : ¬ k' = k := fun e => by rw [← e, this] at hb; cases hb
              simp [this, hne]
            · have : (k' == p.1) = false := by simpa using hp
              simp only [this]; exact ih hn
      exact key l h1
  · simp only [Nat.zero_add] at h2
    obtain ⟨h5, h6⟩ := h4 y
    have hkey : ((es[j]?).map (·.key)).getD (kv k) = kv k := by
      rw [← Array.getElem?_toList, h3]; rfl
    refine OpK.skip (w' := { w with heap := w.heap.setIfInBounds b (.map (es.modify j fun e => { e with key := kv k, val := vv y }) clock) }) ?_ (h _ (upd _ _ (l.set j (k, y)) (by rw [h5]; simp) fun k' => ?_))
    · simp [execOp, hx, hkk, hv, Instr.mapUpdate, run_underlying hu, getObj, setObj, Sem.run, hb, hk.check, Instr.findKey, run_underlying hu1, h2, hkey, Instr.keyThatStays, hk.bits]
    · rw [h6]; simp only [mset]
      by_cases e : k' = k
      · simp [e]
      · simp [e, hg]

theorem keyInt {P : Program} {t : TypeId} {k : IntKind} (hu : P.underlying t = some (.int k)) : KeyOk P t (fun n : Int => Value.int k n) :=
  ⟨⟨_, hu, fun a b => by simp [Instr.sameNow]; rfl⟩, fun e n w => by
    show (Instr.checkKey e (9999 + 1) t (.int k n)).run P w = _
    unfold Instr.checkKey
    simp [run_underlying hu], fun n => by simp [Instr.sameBits]⟩
theorem keyStr {P : Program} {t : TypeId} (hu : P.underlying t = some .string) : KeyOk P t (fun s : ByteArray => Value.string s) :=
  ⟨⟨_, hu, fun a b => by
    simp only [Instr.sameNow, Option.some.injEq]
    by_cases h : a = b
    · subst h; simp [beq_toListBytes]
    · rw [decide_eq_false h, beq_toListBytes]
      simp only [beq_eq_false_iff_ne, ne_eq]
      intro e
      apply h
      rw [ByteArray.toList_eq, ByteArray.toList_eq] at e
      obtain ⟨⟨x⟩⟩ := a
      obtain ⟨⟨y⟩⟩ := b
      simp at e; subst e; rfl⟩, fun e n w => by
    show (Instr.checkKey e (9999 + 1) t (.string n)).run P w = _
    unfold Instr.checkKey
    simp [run_underlying hu], fun n => by simp [Instr.sameBits, beq_toListBytes]⟩

/-- a call of a function value -/
theorem O.callV {F : FuncId} {X : Operand} {as : List Operand} {ts : Array TypeId} {args caps : List Value} {R : Ending → World → Prop} (hF : CallF P F) (hX : ev f X = .func (.func F) #[] caps.toArray) (ha : as.map (ev f) = args) (hC : Calls P F (args ++ caps).toArray w R) (h : ∀ e w', R e w' → ∃ v, e = .returned v ∧ K v w') : OpK P ⟨d, .call { callee := .value X, args := as.toArray, argTypes := ts }, ty, pos, aft, g⟩ f w K Qp := by
  have hr : (execOp (ev f) ⟨d, .call { callee := .value X, args := as.toArray, argTypes := ts }, ty, pos, aft, g⟩).run P w = .ok (.enter F (args ++ caps).toArray) w := by
    have := hF (args.toArray ++ caps.toArray) w
    simp only [List.append_toArray] at this
    simp [execOp, resolve, hX, Deferred.ofValue, invoke, ha, this]
  unfold OpK
  rw [hr]
  exact hC.mono fun e w' he => by obtain ⟨v, rfl, hk⟩ := h e w' he; exact hk
end
end Go.TL
