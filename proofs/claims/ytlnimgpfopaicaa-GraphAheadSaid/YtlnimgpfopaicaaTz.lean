/-
  A library of this claim: from a walk to the given row.
-/
import Derived.Test.YtlnimgpfopaicaaTq
import Derived.Deep.Slices
import Derived.OpenShut
import Derived.Carry
import GoSem.ClaimJoined
set_option linter.unusedVariables false
set_option linter.unusedSimpArgs false
namespace Go.TL
open Go.RowKit Go.ChangeShapes Go.WideShapes

section
variable {H : Type} {enc : TypeId × Value → H} {P : Program} {W W' : World}
theorem trodAll_below (hl : laidOutB P = true) (hb : Below W.heap.size W W') : ∀ {ts : List TypeId} {vs : List Value} {ds : List (DataW H)} {ps : List MemPlace}, (∀ t ∈ ts, P.readableRec t = true ∧ t < P.types.size) → (∀ x ∈ ps, x.block < W.heap.size) →
    DataW.TrodAll enc P W 0 (fun _ => true) true ts vs ds ps → DataW.TrodAll enc P W' 0 (fun b => decide (b < W.heap.size)) true ts vs ds ps
  | [], [], [], _, _, _, h => h
  | t :: ts, v :: vs, d :: ds, ps, hr, hlt, ⟨p, q, h1, h2, e⟩ => by
    subst e
    exact ⟨p, q, Below.trod hl (hr t List.mem_cons_self).1 (hr t List.mem_cons_self).2 h1 hb (fun x hx => hlt x (List.mem_append_left _ hx)),
      trodAll_below hl hb (fun u hu => hr u (List.mem_cons_of_mem _ hu)) (fun x hx => hlt x (List.mem_append_right _ hx)) h2, rfl⟩
  | [], _ :: _, _, _, _, _, h => h.elim
  | [], [], _ :: _, _, _, _, h => h.elim
  | _ :: _, [], _, _, _, _, h => h.elim
  | _ :: _, _ :: _, [], _, _, _, h => h.elim
theorem law_post {f : Func} {s : ChangeSpec} {args : Array Value} {ds gs : List (DataW H)} {before : List MemPlace} {tb : TypeId} (hl : laidOutB P = true) (hps : f.params.toList.all (fun t => P.readableRec t && decide (t < P.types.size)) = true)
    (hrt : f.resultTypes = #[tb]) (htb : P.underlying tb = some .bool) (hvars : s.vars = []) (hW : DataW.Whole enc P f.params.toList s.vars false W args.toList ds gs before) (hfn : gs = [] → s.fn H (ds ++ gs) = { results := [.lit (.bool true)], args := ds })
    (hb : Below W.heap.size W W') : s.post enc P f false true false false W args (.bool true) W' := by
  have hlt : ∀ p ∈ before, p.block < W.heap.size := fun p hp => by simpa using hW.lt p hp
  have hW2 := hW
  obtain ⟨p, q, hA0, hV, rfl, hfz, hnd⟩ := hW
  rw [hvars] at hV
  obtain ⟨rfl, rfl⟩ := trodVars_none hV
  have hfn := hfn rfl
  refine ⟨ds, [], p ++ [], [], p, [], hW2, ?_, ?_, ?_, Below.frame hb _, fun h => by cases h⟩
  · rw [hfn, hrt]
    exact trodAll_mk1 (shut_bool htb true)
  · rw [hfn]
    exact trodAll_below hl hb (fun t ht => by
      have := List.all_eq_true.1 hps t ht
      simpa using this) (fun x hx => hlt x (by simpa using hx)) hA0
  · rw [hvars, hfn]
    rfl
/-- a slice that is read: a row -/
theorem open_rows {α : Type} {T : Ty α} {ok : α → Prop} {t e : TypeId} {v : Value} {d : DataW H} {ps : List MemPlace} {r : Reach} {b0 : Nat} (ht : P.underlying t = some (.slice e)) (hce : P.cellsOf e = T.n)
    (hel : ∀ n cs x, DataW.trod enc P W 0 (fun _ => true) true n e cs = some x → ∃ y, cs = T.enc y ∧ ok y) (hval : Value.okWide P W r b0 t v) (h : DataW.Trod enc P W 0 (fun _ => true) true t v d ps) :
    ∃ a cap xs, v = .slice a xs.length cap ∧ xs.length ≤ cap ∧ cap ≤ maxLen ∧ Rd T W a xs ∧ ∀ y ∈ xs, ok y := by
  obtain ⟨fuel, h⟩ := h
  have hv : ∀ u, v.cells.toList = [u] → (∃ a n c, u = .slice a n c) → v = u := fun u hu ⟨a, n, c, e1⟩ => by
    cases v <;> simp [Value.cells] at hu
    all_goals first | exact hu | skip
    simp [Value.okWide, ht, Cell.okWide, Cell.ok] at hval
  rcases Deep.open_slice ht h with ⟨h1, _⟩ | ⟨a, len, cap, m, n, D, Pl, h1, _, hle, hcm, hm, _, hx⟩
  · obtain rfl := hv _ h1 ⟨_, _, _, rfl⟩
    exact ⟨none, 0, [], rfl, Nat.le_refl _, by simp [maxLen], Rd.nil _ _ _, fun y hy => by simp at hy⟩
  · obtain rfl := hv _ h1 ⟨_, _, _, rfl⟩
    have hlm : len ≤ m := by rw [hm]; simp; exact hle
    have each : ∀ i, i < len → ∃ y, W.cells? 0 (a.add (i * P.cellsOf e)) (P.cellsOf e) = some (T.enc y) ∧ ok y := fun i hi => by
      obtain ⟨cs, h2, h3⟩ := hx i (by omega)
      obtain ⟨y, rfl, hy⟩ := hel _ _ _ h3
      exact ⟨y, h2, hy⟩
    have key : ∀ k, k ≤ len → ∃ xs : List α, xs.length = k ∧ ∀ i y, xs[i]? = some y → W.cells? 0 (a.add (i * P.cellsOf e)) (P.cellsOf e) = some (T.enc y) ∧ ok y := by
      intro k
      induction k with
      | zero => exact fun _ => ⟨[], rfl, fun i y hy => by simp at hy⟩
      | succ k ih =>
        intro hk
        obtain ⟨xs, h4, h5⟩ := ih (by omega)
        obtain ⟨y, h6⟩ := each k (by omega)
        refine ⟨xs ++ [y], by simp [h4], fun i z hz => ?_⟩
        by_cases hi : i < xs.length
        · rw [List.getElem?_append_left hi] at hz; exact h5 i z hz
        · rw [List.getElem?_append_right (by omega)] at hz
          have hi2 : i - xs.length < 1 := by have := (List.getElem?_eq_some_iff.1 hz).1; simpa using this
          have hi3 : i = k := by omega
          subst hi3
          rw [h4, Nat.sub_self] at hz
          simp at hz; subst hz; exact h6
    obtain ⟨xs, h4, h5⟩ := key len (Nat.le_refl _)
    refine ⟨some a, cap, xs, by rw [h4], by omega, hcm, ⟨fun _ => rfl, fun i y hy j c hc => ?_⟩, fun y hy => ?_⟩
    · obtain ⟨_, h7, h8⟩ := World.cells?_some (h5 i y hy).1
      have hj : j < P.cellsOf e := by rw [hce, ← T.len y]; exact (List.getElem?_eq_some_iff.1 hc).1
      rw [← h8 j hj] at hc
      simp only [el, Option.getD_some]
      rw [← hce]; exact hc
    · obtain ⟨i, hi⟩ := List.getElem?_of_mem hy
      exact (h5 i y hi).2
end
theorem laidMet_tl {P : Program} {W : World} {x : String × DataW Unit} {rest : List (String × DataW Unit)} (h : laidMet P (x :: rest) W) : laidMet P rest W := by
  obtain ⟨ps, ⟨g', t', cs, fuel, p, q, hg', ht', hvar, hd, hrest, e⟩, hn, hc⟩ := h
  subst e
  exact ⟨q, hrest, (List.nodup_append.1 hn).2.1, fun b off hm => hc b off (List.mem_append_right _ hm)⟩
theorem wf_I64 {n : Int} (h : (Lit.int .i64 n).wf = true) : I64 n := by
  simp [Lit.wf, IntKind.min, IntKind.max, IntKind.signed, IntKind.bits] at h
  exact ⟨h.1, by omega⟩
theorem wf_u8 {n : Int} (h : (Lit.int .u8 n).wf = true) : ∃ b : UInt8, n = (b.toNat : Int) := by
  simp [Lit.wf, IntKind.min, IntKind.max, IntKind.signed, IntKind.bits] at h
  exact ⟨UInt8.ofNat n.toNat, by simp [UInt8.toNat_ofNat']; omega⟩
end Go.TL
