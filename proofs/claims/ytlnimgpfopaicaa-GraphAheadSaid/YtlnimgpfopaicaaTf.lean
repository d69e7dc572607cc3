/-
  A library of this claim: bundles of owned things; maps to rows.
-/
import Derived.Test.YtlnimgpfopaicaaTe
set_option linter.unusedVariables false
set_option linter.unusedSimpArgs false
namespace Go.TL
open Go.RowKit

theorem star.perm {L L' : List HA} (p : L.Perm L') : ∀ {h : Hp}, star L h → star L' h := by
  induction p with
  | nil => exact fun h => h
  | cons x _ ih => exact fun ⟨h1, h2, a, b, c, d, e⟩ => ⟨h1, h2, a, ih b, c, d, e⟩
  | swap x y l =>
    intro h ⟨h1, h2, a, ⟨h3, h4, b, c, d, e, f⟩, k, s1, s2⟩
    exact ⟨h3, un h1 h4, b, star.cons a c (k.symm.sub f).symm, (Disj.un_left (k.symm.sub e).symm d.symm).symm, e.trans s2, un_sub s1 (f.trans s2)⟩
  | trans _ _ i1 i2 => exact fun h => i2 (i1 h)
theorem Sat.perm {w0 w : World} {L L' : List HA} (h : Sat w0 w L) (p : L.Perm L') : Sat w0 w L' := ⟨h.1, h.2.imp fun x hx => ⟨hx.1.perm p, hx.2⟩⟩
/-- a list of owned things as one -/
def Bun (M : List HA) : HA := star M
theorem star.bun {M L : List HA} {h : Hp} (s : star (M ++ L) h) : star (Bun M :: L) h := by
  obtain ⟨h1, h2, a, b, c, d, e⟩ := star.split s
  exact ⟨h1, h2, a, b, c, d, e⟩
theorem star.unbun {M L : List HA} {h : Hp} (s : star (Bun M :: L) h) : star (M ++ L) h := by
  obtain ⟨h1, h2, a, b, c, d, e⟩ := s
  exact (star.append (h := h1) a b c).up (un_sub d e)
theorem Sat.bun {w0 w : World} {M L : List HA} (h : Sat w0 w (M ++ L)) : Sat w0 w (Bun M :: L) := ⟨h.1, h.2.imp fun x hx => ⟨hx.1.bun, hx.2⟩⟩
theorem Sat.unbun {w0 w : World} {M L : List HA} (h : Sat w0 w (Bun M :: L)) : Sat w0 w (M ++ L) := ⟨h.1, h.2.imp fun x hx => ⟨hx.1.unbun, hx.2⟩⟩
theorem Sat.wrap {w0 w : World} {A : HA} {L : List HA} (M : List HA) (h : Sat w0 w (M ++ L)) (k : ∀ x, star M x → A x) : Sat w0 w (A :: L) :=
  (h.bun).imp 0 rfl k

abbrev SlV := Option Addr × Nat × Nat
def vSl (p : SlV) : Value := .slice p.1 p.2.1 p.2.2
def sl0 : SlV := (none, 0, 0)
def rowOf {κ α : Type} (T : Ty α) (e : TypeId) (m : κ → Option SlV) (g : κ → List α) (k : κ) : HA := Own T e ((m k).getD sl0).1 ((m k).getD sl0).2.2 (g k)
/-- a map whose values are rows of its own -/
def Slots {κ α : Type} [DecidableEq κ] (b : Nat) (kv : κ → Value) (T : Ty α) (e : TypeId) (g : κ → List α) : HA := fun h => ∃ (ks : List κ) (m : κ → Option SlV), ks.Nodup ∧ (∀ k, k ∉ ks → m k = none ∧ g k = []) ∧ (∀ k, k ∈ ks → ((m k).getD sl0).2.1 = (g k).length) ∧ star (MapF b kv vSl m :: ks.map (rowOf T e m g)) h
theorem Sat.slots0 {κ α : Type} [DecidableEq κ] {w0 w : World} {L : List HA} {b : Nat} {kv : κ → Value} (T : Ty α) (e : TypeId) (h : Sat w0 w (MapF b kv vSl (fun _ => none) :: L)) : Sat w0 w (Slots b kv T e (fun _ => []) :: L) :=
  Sat.wrap [_] h fun x s => ⟨[], _, List.nodup_nil, fun _ _ => ⟨rfl, rfl⟩, fun _ h => by simp at h, s⟩
theorem Sat.slotsOpen {κ α : Type} [DecidableEq κ] {w0 w : World} {L : List HA} {b : Nat} {kv : κ → Value} {T : Ty α} {e : TypeId} {g : κ → List α} (h : Sat w0 w (Slots b kv T e g :: L)) (k : κ) :
    ∃ a c m R, (m k).getD sl0 = (a, (g k).length, c) ∧ Sat w0 w (Own T e a c (g k) :: MapF b kv vSl m :: R :: L) ∧
      ∀ {w0' w' : World} {L' : List HA} (a' : Option Addr) (c' : Nat) (ys : List α), Sat w0' w' (Own T e a' c' ys :: MapF b kv vSl (mset m k (a', ys.length, c')) :: R :: L') → Sat w0' w' (Slots b kv T e (fun k' => if k' = k then ys else g k') :: L') := by
  obtain ⟨e0, x, ⟨h1, h2, ⟨ks, m, nd, hn, hl, st⟩, sL, dj, s1, s2⟩, mem⟩ := h
  have S : Sat w0 w ((MapF b kv vSl m :: ks.map (rowOf T e m g)) ++ L) := ⟨e0, _, star.append st sL dj, fun bb o ho => mem bb o (un_sub s1 s2 bb o ho)⟩
  have F : ∀ k', k' ∈ ks.erase k → k' ≠ k := fun k' hk' e => by subst e; exact (List.Nodup.mem_erase_iff nd).1 hk' |>.1 rfl
  refine ⟨((m k).getD sl0).1, ((m k).getD sl0).2.2, m, Bun ((ks.erase k).map (rowOf T e m g)), ?_, ?_, ?_⟩
  · by_cases hk : k ∈ ks
    · rw [← hl k hk]
    · rw [(hn k hk).1, (hn k hk).2]; rfl
  · by_cases hk : k ∈ ks
    · have p := (List.perm_cons_erase hk).map (rowOf T e m g)
      have S2 : Sat w0 w ((rowOf T e m g k :: MapF b kv vSl m :: (ks.erase k).map (rowOf T e m g)) ++ L) :=
        S.perm (List.Perm.append_right _ (((List.Perm.cons _ p).trans (List.Perm.swap _ _ _))))
      have S3 : Sat w0 w ([rowOf T e m g k, MapF b kv vSl m, Bun ((ks.erase k).map (rowOf T e m g))] ++ L) :=
        S2.conv (M := rowOf T e m g k :: MapF b kv vSl m :: (ks.erase k).map (rowOf T e m g)) (M' := [rowOf T e m g k, MapF b kv vSl m, Bun ((ks.erase k).map (rowOf T e m g))]) (fun x ⟨a1, a2, a3, ⟨b1, b2, b3, b4, b5, b6, b7⟩, a5, a6, a7⟩ =>
          ⟨a1, a2, a3, ⟨b1, b2, b3, ⟨b2, fun _ => none, b4, trivial, fun _ => .inr rfl, Sb.refl _, fun _ _ e => by cases e⟩, b5, b6, b7⟩, a5, a6, a7⟩)
      exact S3
    · rw [List.erase_of_not_mem hk, (hn k hk).1, (hn k hk).2]
      have S3 : Sat w0 w ([MapF b kv vSl m, Bun (ks.map (rowOf T e m g))] ++ L) :=
        S.conv (M := MapF b kv vSl m :: ks.map (rowOf T e m g)) (M' := [MapF b kv vSl m, Bun (ks.map (rowOf T e m g))]) (fun x ⟨b1, b2, b3, b4, b5, b6, b7⟩ =>
          ⟨b1, b2, b3, ⟨b2, fun _ => none, b4, trivial, fun _ => .inr rfl, Sb.refl _, fun _ _ e => by cases e⟩, b5, b6, b7⟩)
      exact S3.nilOwn T e
  · intro w0' w' L' a' c' ys S'
    have nk : k ∉ ks.erase k := fun h => F k h rfl
    refine Sat.wrap [_, _, _] S' fun x s => ⟨k :: ks.erase k, mset m k (a', ys.length, c'), List.nodup_cons.2 ⟨nk, nd.erase k⟩, fun k' hk' => ?_, fun k' hk' => ?_, ?_⟩
    · rw [List.mem_cons] at hk'
      have h1 : k' ≠ k := fun e => hk' (.inl e)
      have h2 : k' ∉ ks := fun h => hk' (.inr ((List.Nodup.mem_erase_iff nd).2 ⟨h1, h⟩))
      simp only [mset, if_neg h1]
      exact hn k' h2
    · by_cases h1 : k' = k
      · subst h1; simp [mset]
      · simp only [mset, if_neg h1]
        rcases List.mem_cons.1 hk' with h | h
        · exact absurd h h1
        · exact hl k' (List.mem_of_mem_erase h)
    · have hm : (ks.erase k).map (rowOf T e (mset m k (a', ys.length, c')) (fun k' => if k' = k then ys else g k')) = (ks.erase k).map (rowOf T e m g) := by
        apply List.map_congr_left
        intro k' hk'
        have h1 := F k' hk'
        simp only [rowOf, mset, if_neg h1]
      have h0 : rowOf T e (mset m k (a', ys.length, c')) (fun k' => if k' = k then ys else g k') k = Own T e a' c' ys := by
        simp [rowOf, mset]
      rw [List.map_cons, hm, h0]
      refine star.perm (List.Perm.swap _ _ _) ?_
      obtain ⟨a1, a2, a3, ⟨b1, b2, b3, c1, b5, b6, b7⟩, a5, a6, a7⟩ := s
      have c2 := star.unbun c1
      rw [List.append_nil] at c2
      exact ⟨a1, a2, a3, ⟨b1, b2, b3, c2, b5, b6, b7⟩, a5, a6, a7⟩
section
variable {P : Program} {f : Fm} {w w0 : World} {L : List HA} {d : Option Nat} {ty : TypeId} {pos : String} {aft : Array Edge} {g : Option (Nat × Bool)}
theorem Y.lookupSl {κ : Type} [DecidableEq κ] {kv : κ → Value} {m : κ → Option SlV} {mt kt e : TypeId} {b n c : Nat} {a : Option Addr} {X I : Operand} (k : κ) (hu : P.underlying mt = some (.map kt e)) (hk : KeyOk P kt kv) (hz : ∀ w, (zeroValue e).run P w = .ok (vSl sl0) w) (hm : (m k).getD sl0 = (a, n, c)) (i : Nat) (S : Sat w0 w L) (hx : ev f X = .map (some b)) (hi : L[i]? = some (MapF b kv vSl m)) (hkk : ev f I = kv k) :
    Yl P ⟨d, .lookup mt X I false, ty, pos, aft, g⟩ f w (.slice a n c) := by
  have := Y.lookup (P := P) (d := d) (ty := ty) (pos := pos) (aft := aft) (g := g) (z := sl0) k hu hk hz i S hx hi hkk
  rw [hm] at this; exact this
end
end Go.TL
