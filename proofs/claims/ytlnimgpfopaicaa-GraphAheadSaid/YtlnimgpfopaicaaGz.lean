/-
  Arguments of the graph's statements, opened: slices within structs, their sizes.
-/
import Derived.Test.YtlnimgpfopaicaaGh
import Derived.Test.YtlnimgpfopaicaaTz
import Derived.SizedLaws
set_option linter.unusedVariables false
set_option linter.unusedSimpArgs false
namespace Go.TL
open Go.RowKit Go.ChangeShapes Go.WideShapes

section
variable {H : Type} {enc : TypeId × Value → H} {P : Program} {W : World}
/-- what a slice's reading says of its length -/
def LenD (d : DataW H) (n : Nat) : Prop := (d = .nil ∧ n = 0) ∨ ∃ elems spare, d = .slice elems spare ∧ elems.length = n
theorem trod_rows {α : Type} {T : Ty α} {ok : α → Prop} {t e : TypeId} {fuel : Nat} {cs : List Value} {x : DataW H × List MemPlace} (ht : P.underlying t = some (.slice e)) (hce : P.cellsOf e = T.n)
    (hel : ∀ n cs x, DataW.trod enc P W 0 (fun _ => true) true n e cs = some x → ∃ y, cs = T.enc y ∧ ok y) (h : DataW.trod enc P W 0 (fun _ => true) true fuel t cs = some x) :
    ∃ a cap xs, cs = [.slice a xs.length cap] ∧ xs.length ≤ cap ∧ Rd T W a xs ∧ (∀ y ∈ xs, ok y) ∧ LenD x.1 xs.length := by
  rcases Deep.open_slice ht h with ⟨h1, h2⟩ | ⟨a, len, cap, m, n, D, Pl, h1, _, hle, hcm, hm, h2, hx⟩
  · exact ⟨none, 0, [], h1, Nat.le_refl _, Rd.nil _ _ _, fun y hy => by simp at hy, .inl ⟨by rw [h2], rfl⟩⟩
  · have hlm : len ≤ m := by rw [hm]; simp; exact hle
    have each : ∀ i, i < len → ∃ y, W.cells? 0 (a.add (i * P.cellsOf e)) (P.cellsOf e) = some (T.enc y) ∧ ok y := fun i hi => by
      obtain ⟨cs, h2, h3⟩ := hx i (by omega)
      obtain ⟨y, rfl, hy⟩ := hel _ _ _ h3
      exact ⟨y, h2, hy⟩
    have key : ∀ k, k ≤ len → ∃ xs : List α, xs.length = k ∧ ∀ i y, xs[i]? = some y → W.cells? 0 (a.add (i * P.cellsOf e)) (P.cellsOf e) = some (T.enc y) ∧ ok y := by
      intro k
      induction k with
      | zero => exact fun _ => ⟨[], rfl, fun i y hy => by simp at hy⟩
      | succ k ih =>
        intro hk
        obtain ⟨xs, h4, h5⟩ := ih (by omega)
        obtain ⟨y, h6⟩ := each k (by omega)
        refine ⟨xs ++ [y], by simp [h4], fun i z hz => ?_⟩
        by_cases hi : i < xs.length
        · rw [List.getElem?_append_left hi] at hz; exact h5 i z hz
        · rw [List.getElem?_append_right (by omega)] at hz
          have hi2 : i - xs.length < 1 := by have := (List.getElem?_eq_some_iff.1 hz).1; simpa using this
          have hi3 : i = k := by omega
          subst hi3
          rw [h4, Nat.sub_self] at hz
          simp at hz; subst hz; exact h6
    obtain ⟨xs, h4, h5⟩ := key len (Nat.le_refl _)
    refine ⟨some a, cap, xs, by rw [h1, h4], by omega, ⟨fun _ => rfl, fun i y hy j c hc => ?_⟩, fun y hy => ?_, .inr ⟨_, _, by rw [h2], by simp [h4]⟩⟩
    · obtain ⟨_, h7, h8⟩ := World.cells?_some (h5 i y hy).1
      have hj : j < P.cellsOf e := by rw [hce, ← T.len y]; exact (List.getElem?_eq_some_iff.1 hc).1
      rw [← h8 j hj] at hc
      simp only [el, Option.getD_some]
      rw [← hce]; exact hc
    · obtain ⟨i, hi⟩ := List.getElem?_of_mem hy
      exact (h5 i y hi).2
/-- a struct that is an argument -/
theorem open_agg {t : TypeId} {fs : Array Field} {v : Value} {d : DataW H} {ps : List MemPlace} {r : Reach} {b0 : Nat} (ht : P.underlying t = some (.struct fs)) (hval : Value.okWide P W r b0 t v) (h : DataW.Trod enc P W 0 (fun _ => true) true t v d ps) :
    ∃ (cs : List Value) (n : Nat), v = .agg cs.toArray ∧ DataW.trod enc P W 0 (fun _ => true) true n t cs = some (d, ps) := by
  unfold Value.okWide at hval
  rw [ht] at hval
  obtain ⟨cs, rfl, _, _⟩ := hval
  obtain ⟨fuel, h⟩ := h
  refine ⟨cs.toList, fuel, by simp, ?_⟩
  simpa [Value.cells] using h
theorem weight_part {ts : List TypeId} {ds : List (DataW H)} (h : (DataW.weightsEach P ts ds).all (· ≤ reachBytes) = true) {j : Nat} {t : TypeId} {fs : Array Field} {parts : List (DataW H)} (ht : ts[j]? = some t) (hd : ds[j]? = some (.agg parts)) (hu : P.underlying t = some (.struct fs))
    {i : Nat} {ft e : TypeId} {n : Nat} {d : DataW H} (hf : (fs.toList.map (·.type))[i]? = some ft) (hp : parts[i]? = some d) (hs : P.underlying ft = some (.slice e)) (hb : 1 ≤ P.bytesOf e) (hn : LenD d n) : n ≤ 140737488355328 := by
  rcases hn with ⟨_, rfl⟩ | ⟨elems, spare, rfl, rfl⟩
  · omega
  · have h1 := List.all_eq_true.1 h _ (DataW.weights_mem_each ht hd ((elems.length + spare.length) * P.bytesOf e) (by
      simp only [DataW.weights, hu]
      exact DataW.weights_mem_each hf hp _ (by simp [DataW.weights, hs])))
    have h2 : (elems.length + spare.length) * P.bytesOf e ≤ reachBytes := by simpa using h1
    have h3 : (elems.length + spare.length) * 1 ≤ (elems.length + spare.length) * P.bytesOf e := Nat.mul_le_mul_left _ hb
    have h4 := reachBytes_lt
    have h5 : (2 : Nat) ^ 47 = 140737488355328 := by decide
    omega
end
/-- raw lets whose trees are read are lets -/
theorem rawOk_of {W : World} : ∀ (raws : List RLet), (∀ r ∈ raws, ∃ tr : List GNode, r.hdr.2.1 = tr.length ∧ tr.length ≤ r.hdr.2.2 ∧ Rd tNode W r.hdr.1 tr) → ∃ ls, RawOk W raws ls
  | [], _ => ⟨[], rfl, fun j r x h => by simp at h⟩
  | r :: raws, h => by
    obtain ⟨ls, h1, h2⟩ := rawOk_of raws fun q hq => h q (List.mem_cons_of_mem _ hq)
    obtain ⟨tr, h3, h4, h5⟩ := h r (List.mem_cons_self ..)
    refine ⟨⟨r.name, tr, r.at_⟩ :: ls, by simp [h1], fun j q x hq hx => ?_⟩
    cases j with
    | zero => simp at hq hx; subst hq hx; exact ⟨rfl, rfl, h3, h4, h5⟩
    | succ j => exact h2 j q x (by simpa using hq) (by simpa using hx)
end Go.TL
