/-
  The plain law of GraphOne: the ends that Plain gives, and no others, go with one another.
-/
import Derived.Test.YtlnimgpfopaicaaGh
set_option linter.unusedVariables false
set_option linter.unusedSimpArgs false
namespace Go.TL
open Go.RowKit

def okK (e : GEnd) : Prop := 1 ≤ e.kind ∧ e.kind ≤ 3
def okO (o : Oc) : Prop := okK o.fin
theorem okO_val (v : Int) : okO (.val v) := ⟨by simp [Oc.fin], by simp [Oc.fin]⟩
theorem okO_ofM {e : GEnd} (h : okK e) : okO (ofM e) := by
  unfold ofM
  split
  · exact okO_val _
  · exact h
theorem okO_build (m : GMaker) (k : Int) : okO (buildM m k) := by
  unfold buildM
  split
  · exact ⟨by simp [Oc.fin], by simp [Oc.fin]⟩
  · split
    · exact ⟨by simp [Oc.fin], by simp [Oc.fin]⟩
    · exact okO_val _
theorem okO_getD {os : List Oc} (h : ∀ o ∈ os, okO o) {i : Nat} (hi : i < os.length) : okO (os.getD i out0) := by
  rw [List.getD_eq_getElem?_getD, List.getElem?_eq_getElem hi]
  exact h _ (List.getElem_mem hi)
theorem okO_row {op one : Int} : ∀ (os : List Oc) (last : Int), (∀ o ∈ os, okO o) → okO (rowM op one last os)
  | [], last, _ => okO_val _
  | .bad e :: os, last, h => h _ (List.mem_cons_self ..)
  | .val v :: os, last, h => okO_row os _ fun o ho => h o (List.mem_cons_of_mem _ ho)
theorem okO_first {os : List Oc} (h : ∀ o ∈ os, okO o) (hl : 0 < os.length) : okO (firstM os) := by
  unfold firstM
  split
  · rename_i o e
    exact h o (List.mem_of_find?_eq_some e)
  · exact okO_getD h hl
theorem okO_with {m : GMaker} {op v : Int} {os : List Oc} (h : ∀ o ∈ os, okO o) (h3 : op = 12 → os.length = 3) : okO (withM m op v os) := by
  unfold withM
  repeat' split
  all_goals first
    | exact okO_getD h (by omega)
    | exact okO_val _
    | exact okO_build _ _
    | exact okO_row _ _ fun o ho => h o (List.mem_of_mem_drop ho)
    | exact ⟨by simp [Oc.fin], by simp [Oc.fin]⟩
mutual
theorem evalT_ok {es : List GEnd} {m : GMaker} (he : ∀ e ∈ es, okK e) : ∀ {t : Tr}, okT es.length t → okO (evalT es m t)
  | .node n ks, h => by
    rw [okT] at h
    obtain ⟨h1, h2, h3, h4⟩ := h
    have hos := evalTs_ok (m := m) he h4
    have hl : (evalTs es m ks).length = ks.length := evalTs_len
    rw [evalT]
    unfold evalN
    split
    · exact okO_val _
    · split
      · rename_i h5 h6
        have := h1 h6
        refine okO_ofM ?_
        rw [List.getD_eq_getElem?_getD, List.getElem?_eq_getElem (show n.n.toNat < es.length by omega)]
        exact he _ (List.getElem_mem _)
      · rename_i h5 h6
        have h7 := h2 h5 h6
        split
        · exact okO_first hos (by omega)
        · split
          · rename_i e he2
            have := okO_getD hos (i := 0) (by omega)
            rw [he2] at this
            exact this
          · exact okO_with hos (fun h => by rw [hl]; exact h3 h)
theorem evalTs_ok {es : List GEnd} {m : GMaker} (he : ∀ e ∈ es, okK e) : ∀ {ts : List Tr}, okTs es.length ts → ∀ o ∈ evalTs es m ts, okO o
  | [], _, o, ho => by simp [evalTs] at ho
  | t :: ts, h, o, ho => by
    rw [okTs] at h
    rw [evalTs] at ho
    rcases List.mem_cons.1 ho with rfl | ho
    · exact evalT_ok he h.1
    · exact evalTs_ok he h.2 o ho
end
section
variable {f : GFlow} {m : GMaker}
theorem plainL_ok (hck : (checkM f).1 = 0) : ∀ i, i ≤ f.lets.length → ∀ e ∈ plainL f m i, okK e
  | 0, _, e, he => by simp [plainL] at he
  | i + 1, hi, e, he => by
    obtain ⟨x, hx⟩ := at_ex (xs := f.lets) (k := i) (by omega)
    rw [plainL_succ hx] at he
    rcases List.mem_append.1 he with he | he
    · exact plainL_ok hck i (by omega) e he
    · rw [List.mem_singleton] at he
      subst he
      have h2 := (checked2 hck hx).2.2
      exact evalT_ok (plainL_ok hck i (by omega)) (by rw [plainL_len]; exact h2)
theorem plainL_pre (f : GFlow) (m : GMaker) {i j : Nat} (h : i ≤ j) : ∃ r, plainL f m j = plainL f m i ++ r := by
  induction j with
  | zero => obtain rfl : i = 0 := by omega
            exact ⟨[], rfl⟩
  | succ j ih =>
    by_cases e : i = j + 1
    · subst e; exact ⟨[], (List.append_nil _).symm⟩
    · obtain ⟨r, hr⟩ := ih (by omega)
      exact ⟨r ++ _, by rw [plainL, hr, List.append_assoc]⟩
theorem plainL_at {i j : Nat} {x : GLet} (hx : f.lets[i]? = some x) (h : i < j) : (plainL f m j)[i]? = some (evalT (plainL f m i) m (treeOf x)).fin := by
  obtain ⟨r, hr⟩ := plainL_pre f m (show i + 1 ≤ j by omega)
  have h1 := plainL_len f m (i + 1)
  have h2 := plainL_len f m i
  rw [hr, List.getElem?_append_left (by omega), plainL_succ hx, List.getElem?_append_right (by omega), h2, Nat.sub_self]
  rfl
theorem plainL_take {i j : Nat} (h : i ≤ j) : (plainL f m j).take i = plainL f m i := by
  obtain ⟨r, hr⟩ := plainL_pre f m h
  have h1 := plainL_len f m i
  rw [hr, List.take_append_of_le_length (by omega), List.take_of_length_le (by omega)]
theorem plainL_low {i j : Nat} (h : i ≤ j) {k : Nat} (hk : k < i) : (plainL f m i).getD k ⟨0, 0⟩ = (plainL f m j).getD k ⟨0, 0⟩ := by
  rw [← plainL_take (f := f) (m := m) h, List.getD_eq_getElem?_getD, List.getD_eq_getElem?_getD, List.getElem?_take, if_pos hk]
theorem badEnds_no {es : List GEnd} (h : ∀ e ∈ es, okK e) : badEnds es = false := by
  unfold badEnds
  refine List.any_eq_false.2 fun e he => ?_
  have := h e he
  unfold okK at this
  simp only [decide_eq_true_eq]
  omega
/-- by ends that agree with Plain's below i, the let number i comes to Plain's end -/
theorem eval_plain (hck : (checkM f).1 = 0) {i : Nat} {x : GLet} (hx : f.lets[i]? = some x) {es : List GEnd} (he : ∀ k, k < i → es.getD k ⟨0, 0⟩ = (plainL f m i).getD k ⟨0, 0⟩) : evalT es m (treeOf x) = evalT (plainL f m i) m (treeOf x) :=
  evalT_congr he (checked2 hck hx).2.2
theorem odd_no (hodd : f.lets.any odd = false) {i : Nat} {x : GLet} (hx : f.lets[i]? = some x) : ¬ rootM x = 17 ∧ ¬ rootM x = 18 := by
  have := List.any_eq_false.1 hodd x (List.mem_of_getElem? hx)
  unfold odd at this
  simp only [decide_eq_true_eq] at this
  omega
theorem no_hits (hodd : f.lets.any odd = false) (es : List GEnd) (n : Nat) : ∀ i, hitsTo f.lets es n i = 0
  | 0 => rfl
  | i + 1 => by
    rw [hitsTo_succ, no_hits hodd es n i]
    have : ¬ hitB f.lets es n i = true := by
      unfold hitB
      split
      · rename_i y hy
        simp [(odd_no hodd hy).2]
      · simp
    rw [if_neg this]
theorem fit_low (hck : (checkM f).1 = 0) (hodd : f.lets.any odd = false) {es : List GEnd} {i : Nat} {x : GLet} (hx : f.lets[i]? = some x) (hl : ∀ k, k ≤ i → es[k]? = (plainL f m f.lets.length)[k]?) : fitM f.lets i m es = true := by
  have hi := (List.getElem?_eq_some_iff.1 hx).1
  have h1 : es[i]? = some (evalT (plainL f m i) m (treeOf x)).fin := by rw [hl i (Nat.le_refl _), plainL_at hx hi]
  have hk : okK (evalT (plainL f m i) m (treeOf x)).fin := plainL_ok hck f.lets.length (Nat.le_refl _) _ (List.mem_of_getElem? (plainL_at hx hi))
  have ho := odd_no hodd hx
  rw [fitM_expr hx h1 (by intro e; rw [e] at hk; unfold okK at hk; simp at hk) ho.1 ho.2, eval_plain hck hx (fun k hk => ?_)]
  · exact decide_eq_true rfl
  · rw [plainL_low (show i ≤ f.lets.length by omega) hk, List.getD_eq_getElem?_getD, List.getD_eq_getElem?_getD, hl k (by omega)]
theorem one_fits (hck : (checkM f).1 = 0) (hodd : f.lets.any odd = false) : fitsM f m (plainL f m f.lets.length) = (0, 0) := by
  refine fitsM_ok hck (plainL_len ..) (badEnds_no (plainL_ok hck _ (Nat.le_refl _))) fun j hj => ?_
  obtain ⟨x, hx⟩ := at_ex hj
  exact fit_low hck hodd hx fun k _ => rfl
theorem one_let (hck : (checkM f).1 = 0) (hodd : f.lets.any odd = false) {i : Nat} {u : GEnd} (hu : (plainL f m f.lets.length)[i]? = some u) : letM f (i : Int) m ((plainL f m f.lets.length).take i) = (u, 0) := by
  have hi : i < f.lets.length := by
    have := (List.getElem?_eq_some_iff.1 hu).1
    rwa [plainL_len] at this
  obtain ⟨x, hx⟩ := at_ex hi
  have ho := odd_no hodd hx
  rw [plainL_take (by omega)]
  rw [letM_in hck hi (by rw [plainL_len]; exact Nat.le_refl _) (badEnds_no fun e he => plainL_ok hck i (by omega) e (List.mem_of_mem_take he)) hx, if_neg (by omega)]
  rw [plainL_at hx hi] at hu
  rw [Option.some.inj hu]
theorem one_apart (hck : (checkM f).1 = 0) (hodd : f.lets.any odd = false) {n : Nat} {o u : GEnd} (hu : (plainL f m f.lets.length)[n]? = some u) (hne : ¬ o = u) (h1 : 1 ≤ o.kind) (h4 : o.kind ≤ 4) : fitsM f m ((plainL f m f.lets.length).set n o) = (30, (n : Int)) := by
  have hn : n < f.lets.length := by
    have := (List.getElem?_eq_some_iff.1 hu).1
    rwa [plainL_len] at this
  obtain ⟨x, hx⟩ := at_ex hn
  have ho := odd_no hodd hx
  have hset : ((plainL f m f.lets.length).set n o)[n]? = some o := by rw [List.getElem?_set_self (by rw [plainL_len]; exact hn)]
  refine fitsM_bad hck (by rw [List.length_set, plainL_len]) ?_ hn (fun j hj => ?_) ?_
  · unfold badEnds
    refine List.any_eq_false.2 fun e he => ?_
    simp only [decide_eq_true_eq]
    rcases List.mem_or_eq_of_mem_set he with he | rfl
    · have := plainL_ok hck _ (Nat.le_refl _) e he
      unfold okK at this
      omega
    · omega
  · obtain ⟨y, hy⟩ := at_ex (show j < f.lets.length by omega)
    exact fit_low hck hodd hy fun k hk => by rw [List.getElem?_set_ne (by omega)]
  · by_cases hc : o = ⟨4, (n : Int)⟩
    · rw [fitM_gone hx hset hc, no_hits hodd]
      rfl
    · rw [fitM_expr hx hset hc ho.1 ho.2, eval_plain hck hx (fun k hk => ?_)]
      · rw [plainL_at hx hn] at hu
        refine decide_eq_false fun e => hne ?_
        rw [← e]; exact Option.some.inj hu
      · rw [plainL_low (show n ≤ f.lets.length by omega) hk, List.getD_eq_getElem?_getD, List.getD_eq_getElem?_getD, List.getElem?_set_ne (by omega)]
theorem plain_cases {l : List GEnd} {e : Int} (h : plainM f m = (l, e)) : (¬ e = 0 → l = []) ∧ (e = 0 → (checkM f).1 = 0 ∧ f.lets.any odd = false ∧ l = plainL f m f.lets.length) := by
  by_cases hc : (checkM f).1 = 0
  · cases ho : f.lets.any odd with
    | true =>
      rw [plainM_odd hc ho] at h
      cases h
      exact ⟨fun _ => rfl, fun h => by omega⟩
    | false =>
      rw [plainM_ok hc ho] at h
      cases h
      exact ⟨fun h => absurd rfl h, fun _ => ⟨hc, rfl, rfl⟩⟩
  · rw [plainM_err hc] at h
    cases h
    exact ⟨fun _ => rfl, fun h => absurd h hc⟩
end
/-- l: what Plain gives of a flow without race and cancel -/
structure OneL (f : GFlow) (m : GMaker) (l : List GEnd) : Prop where
  ck : (checkM f).1 = 0
  odd : f.lets.any odd = false
  eq : l = plainL f m f.lets.length
theorem plain_cases3 (f : GFlow) (m : GMaker) : ∃ l e, (plainM f m).1 = l ∧ (plainM f m).2 = e ∧ (¬ e = 0 → l.length = 0) ∧ (e = 0 → OneL f m l) :=
  have hc : (¬ (plainM f m).2 = 0 → (plainM f m).1 = []) ∧ ((plainM f m).2 = 0 → (checkM f).1 = 0 ∧ f.lets.any odd = false ∧ (plainM f m).1 = plainL f m f.lets.length) := plain_cases rfl
  ⟨_, _, rfl, rfl, fun h => congrArg List.length (hc.1 h), fun h => ⟨(hc.2 h).1, (hc.2 h).2.1, (hc.2 h).2.2⟩⟩
section
variable {f : GFlow} {m : GMaker} {l : List GEnd} (h : OneL f m l)
include h
theorem OneL.len : l.length = f.lets.length := by rw [h.eq, plainL_len]
theorem OneL.fits1 : (fitsM f m l).1 = 0 := by rw [h.eq, one_fits h.ck h.odd]
theorem OneL.fits2 : (fitsM f m l).2 = 0 := by rw [h.eq, one_fits h.ck h.odd]
theorem OneL.let1 {i : Nat} {u : GEnd} (hu : l[i]? = some u) : (letM f (i : Int) m (l.take i)).1 = u := by rw [h.eq] at hu ⊢; rw [one_let h.ck h.odd hu]
theorem OneL.let2 {i : Nat} {u : GEnd} (hu : l[i]? = some u) : (letM f (i : Int) m (l.take i)).2 = 0 := by rw [h.eq] at hu ⊢; rw [one_let h.ck h.odd hu]
theorem OneL.apart1 {n : Nat} {o u : GEnd} (hu : l[n]? = some u) (hne : ¬ o = u) (h1 : 1 ≤ o.kind) (h4 : o.kind ≤ 4) : (fitsM f m (l.set n o)).1 = 30 := by rw [h.eq] at hu ⊢; rw [one_apart h.ck h.odd hu hne h1 h4]
theorem OneL.apart2 {n : Nat} {o u : GEnd} (hu : l[n]? = some u) (hne : ¬ o = u) (h1 : 1 ≤ o.kind) (h4 : o.kind ≤ 4) : (fitsM f m (l.set n o)).2 = (n : Int) := by rw [h.eq] at hu ⊢; rw [one_apart h.ck h.odd hu hne h1 h4]
end
/-! ### the small flow -/
def pairF : GFlow := ⟨[⟨⟨#[97]⟩, [⟨1, 1, 0, 0⟩], 0⟩, ⟨⟨#[98]⟩, [⟨4, 0, 2, 0⟩, ⟨2, 0, 0, 0⟩, ⟨1, 2, 0, 0⟩], 0⟩], []⟩
def gm0 : GMaker := ⟨0, 0, 0, 0⟩
theorem checkP : checkM pairF = (0, 0) := by kernel_rfl
theorem plainP : plainM pairF gm0 = ([⟨1, 1⟩, ⟨1, 3⟩], 0) := by kernel_rfl
theorem needsP : needsM pairF 1 = [0] := by kernel_rfl
theorem levelsP : levelsM pairF = ([0, 1], 0) := by kernel_rfl
theorem fitsP : fitsM pairF gm0 [⟨1, 1⟩, ⟨1, 4⟩] = (30, 1) := by kernel_rfl
theorem smallP : Small pairF := ⟨by decide, by decide, fun i x h => by
  match i with
  | 0 => cases h; decide
  | 1 => cases h; decide
  | i + 2 => simp [pairF] at h⟩
theorem flowP {b13 b9 b4 e13 e9 : Nat} (M : List HA) (i j k : Nat) (h1 : M[i]? = some (Cel b13 (tRLet.all [⟨⟨#[97]⟩, (some ⟨b4, 0, none⟩, 1, 1), 0⟩, ⟨⟨#[98]⟩, (some ⟨b9, 0, none⟩, 3, 3), 0⟩]) e13)) (h2 : M[j]? = some (Cel b9 (tNode.all [⟨4, 0, 2, 0⟩, ⟨2, 0, 0, 0⟩, ⟨1, 2, 0, 0⟩]) e9)) (h3 : M[k]? = some (Cel b4 (tNode.all [⟨1, 1, 0, 0⟩]) e9)) : HasFlow (Bun M) ⟨some ⟨b13, 0, none⟩, 2, none, 0⟩ pairF :=
  ⟨⟨_, (Reads.all _).bun i h1, ⟨rfl, fun a r x ha hx => by
    match a with
    | 0 => cases ha; cases hx; exact ⟨rfl, rfl, rfl, Nat.le_refl _, (Reads.all _).bun k h3⟩
    | 1 => cases ha; cases hx; exact ⟨rfl, rfl, rfl, Nat.le_refl _, (Reads.all _).bun j h2⟩
    | a + 2 => simp at ha⟩⟩, Reads.nil _ _ _, Nat.le_refl _, Nat.le_refl _⟩
end Go.TL
