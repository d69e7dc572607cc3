/-
  Flows that are copied: where they lie.
-/
import Derived.Test.YtlnimgpfopaicaaGf
set_option linter.unusedVariables false
set_option linter.unusedSimpArgs false
namespace Go.TL
open Go.RowKit

theorem contains_at {l : List Int} {v x : Int} {i : Nat} (h : l[i]? = some x) (hv : v = x) : l.contains v = true := by
  subst hv; simpa using List.mem_of_getElem? h
theorem contains_none {l : List Int} {v : Int} (h : ∀ (j : Nat) x, l[j]? = some x → ¬ v = x) : l.contains v = false := by
  cases e : l.contains v with
  | false => rfl
  | true =>
    obtain ⟨j, hj⟩ := List.getElem?_of_mem (show v ∈ l by simpa using e)
    exact absurd rfl (h j v hj)
/-- what stands behind the head goes into one -/
theorem Sat.bun2 {w0 w : World} {A B C : HA} (S : Sat w0 w [B, A, C]) : Sat w0 w [A, Bun [B, C]] :=
  Sat.perm (Sat.bun (M := [B, C]) (S.pk (.cons 0 rfl (.cons 1 rfl (.refl _))))) (List.Perm.swap _ _ _)
/-- the trees of these raw lets lie in M -/
def RawIn (M : HA) (raws : List RLet) (ls : List GLet) : Prop := raws.length = ls.length ∧ ∀ (j : Nat) (r : RLet) (x : GLet), raws[j]? = some r → ls[j]? = some x → r.name = x.name ∧ r.at_ = x.at_ ∧ r.hdr.2.1 = x.tree.length ∧ x.tree.length ≤ r.hdr.2.2 ∧ Reads M tNode r.hdr.1 x.tree
theorem RawIn.nil (M : HA) : RawIn M [] [] := ⟨rfl, fun j r x h => by simp at h⟩
theorem RawIn.bun {M : HA} {raws : List RLet} {ls : List GLet} (h : RawIn M raws ls) (i : Nat) {N : List HA} (hi : N[i]? = some M) : RawIn (Bun N) raws ls :=
  ⟨h.1, fun j r x h1 h2 => by obtain ⟨a, b, c, d, g⟩ := h.2 j r x h1 h2; exact ⟨a, b, c, d, g.bun i hi⟩⟩
theorem RawIn.snoc {M : HA} {raws : List RLet} {ls : List GLet} (h : RawIn M raws ls) {e : TypeId} {x : GLet} {a : Option Addr} {c : Nat} (hc : x.tree.length ≤ c) :
    RawIn (Bun [Own tNode e a c x.tree, M]) (raws ++ [⟨x.name, (a, x.tree.length, c), x.at_⟩]) (ls ++ [x]) := by
  refine ⟨by simp [h.1], fun j r y h1 h2 => ?_⟩
  by_cases hj : j < raws.length
  · rw [List.getElem?_append_left hj] at h1
    rw [List.getElem?_append_left (by rw [← h.1]; exact hj)] at h2
    obtain ⟨k1, k2, k3, k4, k5⟩ := h.2 j r y h1 h2
    exact ⟨k1, k2, k3, k4, k5.bun 1 rfl⟩
  · have hl := (List.getElem?_eq_some_iff.1 h1).1
    rw [List.length_append, List.length_singleton] at hl
    have e1 : j = raws.length := by omega
    subst e1
    rw [List.getElem?_append_right (Nat.le_refl _), Nat.sub_self] at h1
    rw [h.1, List.getElem?_append_right (Nat.le_refl _), Nat.sub_self] at h2
    simp at h1 h2
    subst h1 h2
    exact ⟨rfl, rfl, rfl, hc, (Reads.own _ _ _ _ _).bun 0 rfl⟩
theorem RawIn.take {M : HA} {raws : List RLet} {ls : List GLet} (h : RawIn M raws ls) (k : Nat) : RawIn M (raws.take k) (ls.take k) := by
  refine ⟨by simp [h.1], fun j r x h1 h2 => ?_⟩
  rw [List.getElem?_take] at h1 h2
  split at h1
  · rw [if_pos (by assumption)] at h2; exact h.2 j r x h1 h2
  · cases h1
/-- a name is written anew -/
theorem RawIn.rename {M : HA} {raws : List RLet} {ls : List GLet} (h : RawIn M raws ls) {i : Nat} {r : RLet} {x : GLet} (hr : raws[i]? = some r) (hx : ls[i]? = some x) (s : ByteArray) : RawIn M (raws.set i ⟨s, r.hdr, r.at_⟩) (ls.set i ⟨s, x.tree, x.at_⟩) := by
  refine ⟨by simp [h.1], fun j r2 x2 h1 h2 => ?_⟩
  by_cases e : i = j
  · subst e
    rw [List.getElem?_set_self (List.getElem?_eq_some_iff.1 hr).1] at h1
    rw [List.getElem?_set_self (List.getElem?_eq_some_iff.1 hx).1] at h2
    cases h1; cases h2
    obtain ⟨_, k2, k3, k4, k5⟩ := h.2 i r x hr hx
    exact ⟨rfl, k2, k3, k4, k5⟩
  · rw [List.getElem?_set_ne e] at h1 h2
    exact h.2 j r2 x2 h1 h2
theorem Sat.rawOk {w0 w : World} {L : List HA} {M : HA} {raws : List RLet} {ls : List GLet} (S : Sat w0 w L) (i : Nat) (hi : L[i]? = some M) (h : RawIn M raws ls) : RawOk w raws ls :=
  ⟨h.1, fun j r x h1 h2 => by obtain ⟨a, b, c, d, g⟩ := h.2 j r x h1 h2; exact ⟨a, b, c, d, S.reads i hi g⟩⟩
/-- a flow lies in M -/
structure HasFlow (M : HA) (v : FIn) (f : GFlow) : Prop where
  lets : ∃ raws, Reads M tRLet v.la raws ∧ RawIn M raws f.lets
  outs : Reads M (tI .i64) v.oa f.outs
  lc : f.lets.length ≤ v.lc
  oc : f.outs.length ≤ v.oc
structure Small (f : GFlow) : Prop where
  ln : f.lets.length ≤ 1048576
  on : f.outs.length ≤ 2147483647
  tn : ∀ (i : Nat) x, f.lets[i]? = some x → x.tree.length ≤ 1048576
theorem RdFlow.small {w : World} {v : FIn} {f : GFlow} (R : RdFlow w v f) : Small f := ⟨R.ln, R.on, R.tn⟩
theorem Sat.hasFlow {w0 w : World} {L : List HA} {M : HA} {v : FIn} {f : GFlow} (S : Sat w0 w L) (i : Nat) (hi : L[i]? = some M) (h : HasFlow M v f) (hs : Small f) : RdFlow w v f := by
  obtain ⟨⟨raws, h1, h2⟩, h3, h4, h5⟩ := h
  exact ⟨⟨raws, S.reads i hi h1, S.rawOk i hi h2⟩, S.reads i hi h3, h4, h5, hs.ln, hs.on, hs.tn⟩
theorem HasFlow.mk3 {el eo : TypeId} {la oa : Option Addr} {lc oc : Nat} {raws : List RLet} {M : HA} {f : GFlow} (hr : RawIn M raws f.lets) (hl : raws.length ≤ lc) (ho : f.outs.length ≤ oc) : HasFlow (Bun [Own (tI .i64) eo oa oc f.outs, Own tRLet el la lc raws, M]) ⟨la, lc, oa, oc⟩ f :=
  ⟨⟨raws, (Reads.own _ _ _ _ _).bun 1 rfl, hr.bun 2 rfl⟩, (Reads.own _ _ _ _ _).bun 0 rfl, by rw [← hr.1]; exact hl, ho⟩
theorem HasFlow.bun {M : HA} {v : FIn} {f : GFlow} (h : HasFlow M v f) (i : Nat) {N : List HA} (hi : N[i]? = some M) : HasFlow (Bun N) v f := by
  obtain ⟨⟨raws, h1, h2⟩, h3, h4, h5⟩ := h
  exact ⟨⟨raws, h1.bun i hi, h2.bun i hi⟩, h3.bun i hi, h4, h5⟩
/-! ### what needs answers -/
def needsR (x : GLet) : List Int := if rootM x = 18 then [] else sortC (namesL x.tree)
theorem needsR_no {x : GLet} (h : rootM x = 18) : needsR x = [] := by unfold needsR; rw [if_pos h]
theorem needsR_yes {x : GLet} (h : ¬ rootM x = 18) : needsR x = sortC (namesL x.tree) := by unfold needsR; rw [if_neg h]
theorem needsR_eq {f : GFlow} (h : (checkM f).1 = 0) {i : Nat} {x : GLet} (hx : f.lets[i]? = some x) : needsR x = needL x i := by
  by_cases hr : rootM x = 18
  · rw [needsR_no hr, needL_cancel hr]
  · rw [needsR_yes hr, sortC_need hr (names_bd h hx)]
theorem needsR_len (x : GLet) : (needsR x).length ≤ x.tree.length := by
  by_cases hr : rootM x = 18
  · rw [needsR_no hr]; simp
  · rw [needsR_yes hr]
    unfold sortC
    refine Nat.le_trans ?_ (namesL_len x.tree)
    have h : ∀ zs : List Int, (Lib.compact zs).length ≤ zs.length := fun zs => by
      unfold Lib.compact Lib.compactUpTo
      rw [List.length_map]
      exact Nat.le_trans (List.length_filter_le _ _) (by simp)
    exact Nat.le_trans (h _) (by rw [List.length_mergeSort]; exact Nat.le_refl _)
theorem needsM_in {f : GFlow} (h : (checkM f).1 = 0) {k : Nat} {x : GLet} (hx : f.lets[k]? = some x) : needsM f (k : Int) = needL x k := by
  have := (List.getElem?_eq_some_iff.1 hx).1
  unfold needsM
  rw [if_neg (by omega), Int.toNat_natCast, hx]
theorem needsM_no {f : GFlow} {n : Int} (h : ¬ (checkM f).1 = 0 ∨ n < 0 ∨ (f.lets.length : Int) ≤ n) : needsM f n = [] := by unfold needsM; rw [if_pos h]
theorem usersM_no {f : GFlow} {n : Int} (h : ¬ (checkM f).1 = 0 ∨ n < 0 ∨ (f.lets.length : Int) ≤ n) : usersM f n = [] := by unfold usersM; rw [if_pos h]
theorem usersM_in {f : GFlow} {n : Int} (h : (checkM f).1 = 0) (h1 : 0 ≤ n) (h2 : n < f.lets.length) : usersM f n = usersTo f.lets n f.lets.length := by unfold usersM; rw [if_neg (by omega)]
theorem known_set {ls : List GLet} {m : Int → Option Int} (hm : ∀ (j : Nat) (u : Int), m (j : Int) = some u → u = levM ls j) {n : Nat} : ∀ (j : Nat) (u : Int), mset m (n : Int) (levM ls n) (j : Int) = some u → u = levM ls j := by
  intro j u h
  unfold mset at h
  split at h
  · rename_i e
    have : j = n := by omega
    subst this; exact (Option.some.inj h).symm
  · exact hm j u h
theorem getD_some {α : Type} {o : Option α} {z : α} (h : o.isSome = true) : o = some (o.getD z) := by
  cases o with
  | none => cases h
  | some x => rfl
theorem levL_succ (ls : List GLet) (i : Nat) : levL ls (i + 1) = levL ls i ++ [levM ls i] := by
  have h := levL_at ls (show i < i + 1 by omega)
  rw [levL, List.getElem?_append_right (by rw [levL_len]; exact Nat.le_refl _), levL_len, Nat.sub_self] at h
  rw [levL]
  congr 1
  exact congrArg (fun u => [u]) (Option.some.inj h)
/-! ### one let's end -/
theorem cancel_aim {f : GFlow} (h : (checkM f).1 = 0) {i : Nat} {x : GLet} (hx : f.lets[i]? = some x) (hr : rootM x = 18) : ∃ k, x.tree[1]? = some k ∧ k.op = 2 ∧ 0 ≤ k.n ∧ k.n < (i : Int) := by
  obtain ⟨t, hg, h1, _⟩ := sound_tree (checkM_lets h i x hx)
  have hb := names_bd h hx
  generalize hl : x.tree = l at hg h1 hb
  cases l with
  | nil => have := flat_pos t; rw [← h1] at this; simp at this
  | cons n r =>
    have hop : n.op = 18 := by
      have := rootM_at (x := x) (n := n) (by rw [hl]; rfl)
      omega
    rw [growF] at hg
    split at hg
    · cases hg
    · rename_i nm hnm
      split at hg
      · cases hg
      · rename_i ks rest hk
        simp only [Option.some.injEq, Prod.mk.injEq] at hg
        obtain ⟨rfl, rfl⟩ := hg
        obtain ⟨k1, k2, k3⟩ := kidsF_flat (fun l t r h => growF_flat _ l false t r h) _ _ _ _ hk
        unfold nodeOk at hnm
        have hlim : lim n.op (r.length + 1) = some (1, 1, true) := by unfold lim; simp [hop]
        rw [hlim] at hnm
        simp only at hnm
        split at hnm
        · cases hnm
        · rename_i hno
          have hnmt : nm = true := (Option.some.inj hnm).symm
          have hlen : ks.length = 1 := by
            have a1 : ¬ n.kids < 1 := fun h => hno (.inl h)
            have a2 : ¬ 1 < n.kids := fun h => hno (.inr (.inl h))
            omega
          obtain ⟨t1, rfl⟩ : ∃ t1, ks = [t1] := by
            cases ks with
            | nil => simp at hlen
            | cons t1 r2 => cases r2 with
              | nil => exact ⟨t1, rfl⟩
              | cons _ _ => simp at hlen
          have ho := k3 hnmt t1 (List.mem_singleton_self _)
          obtain ⟨n1, ks1⟩ := t1
          replace ho : n1.op = 2 := ho
          rw [List.append_nil] at k1
          simp only [flats, flat, List.append_nil] at k1
          refine ⟨n1, by rw [k1]; rfl, ho, ?_⟩
          refine hb n1.n ?_
          unfold namesL
          exact List.mem_map.2 ⟨n1, List.mem_filter.2 ⟨by rw [k1]; simp, by simpa using ho⟩, rfl⟩
section
variable {ls : List GLet} {es : List GEnd} {n i : Nat} {y : GLet} {k1 : GNode} {eh : GEnd}
theorem hit_yes (hy : ls[i]? = some y) (hk : y.tree[1]? = some k1) (he : es[i]? = some eh) (h1 : rootM y = 18) (h2 : k1.n = (n : Int)) (h3 : eh = one1) : hitB ls es n i = true := by
  unfold hitB
  rw [hy]
  simp only [getD_at hk, getD_at he]
  exact decide_eq_true ⟨h1, h2, h3⟩
theorem hit_no1 (hy : ls[i]? = some y) (h1 : ¬ rootM y = 18) : ¬ hitB ls es n i = true := by
  unfold hitB
  rw [hy]
  simp [h1]
theorem hit_no2 (hy : ls[i]? = some y) (hk : y.tree[1]? = some k1) (h2 : ¬ k1.n = (n : Int)) : ¬ hitB ls es n i = true := by
  unfold hitB
  rw [hy]
  simp only [getD_at hk, decide_eq_true_eq]
  exact fun h => h2 h.2.1
theorem hit_no3 (hy : ls[i]? = some y) (he : es[i]? = some eh) (h3 : ¬ eh = one1) : ¬ hitB ls es n i = true := by
  unfold hitB
  rw [hy]
  simp only [getD_at he, decide_eq_true_eq]
  exact fun h => h3 h.2.2
variable {x : GLet} {en : GEnd} {m : GMaker}
theorem fitM_gone (hx : ls[n]? = some x) (he : es[n]? = some en) (h : en = ⟨4, (n : Int)⟩) : fitM ls n m es = decide (hitsTo ls es n ls.length = 1) := by
  unfold fitM
  rw [hx]
  simp only [getD_at he, if_pos h]
theorem fitM_race (hx : ls[n]? = some x) (he : es[n]? = some en) (h : ¬ en = ⟨4, (n : Int)⟩) (hr : rootM x = 17) : fitM ls n m es = (needL x n).any (fun k => decide (es.getD k.toNat ⟨0, 0⟩ = en)) := by
  unfold fitM
  rw [hx]
  simp only [getD_at he, if_neg h, if_pos hr]
theorem fitM_cancel (hx : ls[n]? = some x) (he : es[n]? = some en) (h : ¬ en = ⟨4, (n : Int)⟩) (hr : rootM x = 18) {ka : GNode} {ek : GEnd} (hk : x.tree[1]? = some ka) (hek : es[ka.n.toNat]? = some ek) : fitM ls n m es = decide (en = ⟨1, 0⟩ ∨ en = one1 ∧ ek = ⟨4, ka.n⟩) := by
  unfold fitM
  rw [hx]
  have e : aimM x = ka.n := by unfold aimM; rw [getD_at hk]
  simp only [getD_at he, if_neg h, if_neg (show ¬ rootM x = 17 by omega), if_pos hr, e, getD_at hek]
theorem fitM_expr (hx : ls[n]? = some x) (he : es[n]? = some en) (h : ¬ en = ⟨4, (n : Int)⟩) (h1 : ¬ rootM x = 17) (h2 : ¬ rootM x = 18) : fitM ls n m es = decide ((evalT es m (treeOf x)).fin = en) := by
  unfold fitM
  rw [hx]
  simp only [getD_at he, if_neg h, if_neg h1, if_neg h2]
end
end Go.TL
