/-
  Layer 26 in plain Lean: the document's answer for logs.
-/
import Derived.Test.YticopppiogophaaDoorTo
set_option linter.unusedVariables false
set_option linter.unusedSimpArgs false
namespace Go.TL

theorem Calls_args {P : Program} {F : FuncId} {args args' : Array Value} {w : World} {R : Ending → World → Prop} (e : args = args') (h : Calls P F args w R) : Calls P F args' w R := e ▸ h
/-! ### clocks as rows of numbers -/
def rowN (n : Nat) (c : Clk) : List Int := (List.range n).map c
theorem rowN_len (n : Nat) (c : Clk) : (rowN n c).length = n := by simp [rowN]
theorem rowN_at {n : Nat} (c : Clk) {i : Nat} (h : i < n) : (rowN n c)[i]? = some (c i) := by simp [rowN, h]
theorem rowN_congr {n : Nat} {c d : Clk} (h : ∀ i, i < n → c i = d i) : rowN n c = rowN n d := List.map_congr_left fun i hi => h i (List.mem_range.1 hi)
theorem rowN_zero (n : Nat) : List.replicate n (0 : Int) = rowN n clock0 := by
  refine List.ext_getElem? fun i => ?_
  by_cases h : i < n
  · rw [rowN_at _ h, List.getElem?_replicate, if_pos h]; rfl
  · rw [List.getElem?_eq_none (by simp; omega), List.getElem?_eq_none (by rw [rowN_len]; omega)]
theorem rowN_set {n : Nat} (c : Clk) {t : Nat} (h : t < n) : (rowN n c).set t (c t + 1) = rowN n (cbump c t) := by
  refine List.ext_getElem? fun i => ?_
  rw [List.getElem?_set, rowN_len]
  by_cases hi : i < n
  · rw [rowN_at _ hi, rowN_at _ hi]
    by_cases e : t = i
    · subst e; rw [if_pos rfl, if_pos h]; simp [cbump]
    · rw [if_neg e]; simp only [cbump, if_neg (show ¬ i = t from fun x => e (Eq.symm x))]
  · rw [if_neg (by omega), List.getElem?_eq_none (by rw [rowN_len]; omega), List.getElem?_eq_none (by rw [rowN_len]; omega)]
def takeM (xs ys : List Int) : List Int := (List.range xs.length).map fun i => if i < ys.length then max (xs.getD i 0) (ys.getD i 0) else xs.getD i 0
theorem takeM_len (xs ys : List Int) : (takeM xs ys).length = xs.length := by simp [takeM]
theorem takeM_at {xs ys : List Int} {i : Nat} (h : i < xs.length) : (takeM xs ys)[i]? = some (if i < ys.length then max (xs.getD i 0) (ys.getD i 0) else xs.getD i 0) := by simp [takeM, h]
theorem takeM_in {xs ys : List Int} {i : Nat} {x y : Int} (hx : xs[i]? = some x) (hy : ys[i]? = some y) : (takeM xs ys)[i]? = some (max x y) := by
  rw [takeM_at (at_lt hx), if_pos (at_lt hy), getD_at hx, getD_at hy]
theorem takeM_out {xs ys : List Int} {i : Nat} {x : Int} (hx : xs[i]? = some x) (hy : ¬ i < ys.length) : (takeM xs ys)[i]? = some x := by
  rw [takeM_at (at_lt hx), if_neg hy, getD_at hx]
theorem takeM_nil (xs : List Int) : takeM xs [] = xs := by
  refine List.ext_getElem? fun i => ?_
  by_cases h : i < xs.length
  · obtain ⟨x, hx⟩ := at_ex h
    rw [takeM_out hx (by simp), hx]
  · rw [List.getElem?_eq_none (by rw [takeM_len]; omega), List.getElem?_eq_none (by omega)]
theorem takeM_row (n : Nat) (c d : Clk) : takeM (rowN n c) (rowN n d) = rowN n (cmax c d) := by
  refine List.ext_getElem? fun i => ?_
  by_cases h : i < n
  · rw [takeM_in (rowN_at c h) (rowN_at d h), rowN_at _ h]; rfl
  · rw [List.getElem?_eq_none (by rw [takeM_len, rowN_len]; omega), List.getElem?_eq_none (by rw [rowN_len]; omega)]
/-- a slice that reads in the pool -/
def HasRow (P : HA) (q : SlV) (xs : List Int) : Prop := q.2.1 = xs.length ∧ Reads P (tI .i64) q.1 xs
theorem HasRow.up {P X : HA} {q : SlV} {xs : List Int} (h : HasRow P q xs) : HasRow (Bun [X, P]) q xs := ⟨h.1, h.2.bun 1 rfl⟩
theorem HasRow.own {P : HA} {e : TypeId} {a : Option Addr} {c : Nat} {xs : List Int} : HasRow (Bun [Own (tI .i64) e a c xs, P]) (a, xs.length, c) xs := ⟨rfl, (Reads.own _ _ _ _ _).bun 0 rfl⟩
theorem HasRow.own1 {P : HA} {e : TypeId} {a : Option Addr} {n c : Nat} {xs : List Int} (h : xs.length = n) : HasRow (Bun [Own (tI .i64) e a c xs, P]) (a, n, c) xs := by subst h; exact HasRow.own
theorem HasRow.own0 {P : HA} {q : SlV} {xs : List Int} (h : HasRow P q xs) : HasRow P q xs := h
theorem HasRow.nil (P : HA) : HasRow P sl0 [] := ⟨rfl, Reads.nil _ _ _⟩
/-- threads' clocks, what has come out, the cells' clocks -/
structure AllSt (n : Nat) (P : HA) (s : CS) (o : List Clk) (ths outs bk : List SlV) (bc : List Int) : Prop where
  thL : ths.length = n
  th : ∀ t q, ths[t]? = some q → HasRow P q (rowN n (s.T t))
  outL : outs.length = o.length
  out : ∀ (j : Nat) (q : SlV) (c : Clk), outs[j]? = some q → o[j]? = some c → HasRow P q (rowN n c)
  bL : bk.length = bc.length
  nd : bc.Nodup
  bn : ∀ x, x ∉ bc → s.m x = none
  bs : ∀ (j : Nat) (x : Int) (q : SlV), bc[j]? = some x → bk[j]? = some q → HasRow P q (rowN n ((s.m x).getD clock0))
theorem AllSt.up {n : Nat} {P X : HA} {s : CS} {o : List Clk} {ths outs bk : List SlV} {bc : List Int} (h : AllSt n P s o ths outs bk bc) : AllSt n (Bun [X, P]) s o ths outs bk bc :=
  ⟨h.thL, fun t q hq => (h.th t q hq).up, h.outL, fun j q c h1 h2 => (h.out j q c h1 h2).up, h.bL, h.nd, h.bn, fun j x q h1 h2 => (h.bs j x q h1 h2).up⟩
/-- a thread's clock turns, and comes out -/
theorem AllSt.own {n : Nat} {P : HA} {s : CS} {o : List Clk} {ths outs bk : List SlV} {bc : List Int} (h : AllSt n P s o ths outs bk bc) {q : SlV} {c : Clk} {t : Nat} (hq : HasRow P q (rowN n c)) (T' : Nat → Clk) (h1 : T' t = c) (h2 : ∀ i, i ≠ t → T' i = s.T i) :
    AllSt n P ⟨T', s.m⟩ (o ++ [c]) (ths.set t q) (outs ++ [q]) bk bc := by
  refine ⟨by rw [List.length_set]; exact h.thL, fun i q' hq' => ?_, by simp [h.outL], fun j q' c' h3 h4 => ?_, h.bL, h.nd, h.bn, h.bs⟩
  · rw [List.getElem?_set] at hq'
    by_cases e : t = i
    · subst e
      rw [if_pos rfl] at hq'
      split at hq'
      · cases hq'; simp only [h1]; exact hq
      · cases hq'
    · rw [if_neg e] at hq'
      simp only [h2 i (fun x => e x.symm)]; exact h.th i q' hq'
  · by_cases hj : j < outs.length
    · rw [List.getElem?_append_left hj] at h3
      rw [List.getElem?_append_left (by rw [← h.outL]; exact hj)] at h4
      exact h.out j q' c' h3 h4
    · have hj2 : j = outs.length := by
        have := at_lt h3
        simp at this; omega
      subst hj2
      rw [List.getElem?_append_right (Nat.le_refl _), Nat.sub_self] at h3
      rw [List.getElem?_append_right (by rw [h.outL]; exact Nat.le_refl _), h.outL, Nat.sub_self] at h4
      simp at h3 h4
      subst h3; subst h4; exact hq
/-- another thread's clock turns -/
theorem AllSt.thr {n : Nat} {P : HA} {s : CS} {o : List Clk} {ths outs bk : List SlV} {bc : List Int} (h : AllSt n P s o ths outs bk bc) {q : SlV} {c : Clk} {t : Nat} (hq : HasRow P q (rowN n c)) : AllSt n P ⟨updT s.T t c, s.m⟩ o (ths.set t q) outs bk bc := by
  refine ⟨by rw [List.length_set]; exact h.thL, fun i q' hq' => ?_, h.outL, h.out, h.bL, h.nd, h.bn, h.bs⟩
  rw [List.getElem?_set] at hq'
  by_cases e : t = i
  · subst e
    rw [if_pos rfl] at hq'
    split at hq'
    · cases hq'; simp only [updT, if_true]; exact hq
    · cases hq'
  · rw [if_neg e] at hq'
    simp only [updT, if_neg (fun x => e (Eq.symm x))]; exact h.th i q' hq'
/-- what setting a cell's clock does to the book -/
def BookSet (bc bc' : List Int) (bk bk' : List SlV) (x : Int) (q : SlV) : Prop := (∃ j, bc[j]? = some x ∧ bc' = bc ∧ bk' = bk.set j q) ∨ (x ∉ bc ∧ bc' = bc ++ [x] ∧ bk' = bk ++ [q])
theorem AllSt.cell {n : Nat} {P : HA} {s : CS} {o : List Clk} {ths outs bk bk' : List SlV} {bc bc' : List Int} (h : AllSt n P s o ths outs bk bc) {q : SlV} {c : Clk} {x : Int} (hq : HasRow P q (rowN n c)) (hb : BookSet bc bc' bk bk' x q) : AllSt n P ⟨s.T, mset s.m x c⟩ o ths outs bk' bc' := by
  rcases hb with ⟨j, h1, rfl, rfl⟩ | ⟨h1, rfl, rfl⟩
  · refine ⟨h.thL, h.th, h.outL, h.out, by rw [List.length_set]; exact h.bL, h.nd, fun y hy => ?_, fun i y q' h2 h3 => ?_⟩
    · have : y ≠ x := fun e => by subst e; exact hy (List.mem_of_getElem? h1)
      simp only [mset, if_neg this]; exact h.bn y hy
    · by_cases e : y = x
      · subst e
        have hij : i = j := by
          have hl1 := at_lt h1
          have hl2 := at_lt h2
          rw [List.getElem?_eq_getElem hl1] at h1
          rw [List.getElem?_eq_getElem hl2] at h2
          exact (List.getElem_inj h.nd).1 ((Option.some.inj h2).trans (Option.some.inj h1).symm)
        subst hij
        rw [List.getElem?_set, if_pos rfl, if_pos (by rw [h.bL]; exact at_lt h1)] at h3
        cases h3
        simp only [mset, if_true, Option.getD_some]; exact hq
      · have hij : j ≠ i := fun e2 => by subst e2; rw [h1] at h2; exact e (Option.some.inj h2).symm
        rw [List.getElem?_set, if_neg hij] at h3
        simp only [mset, if_neg e]; exact h.bs i y q' h2 h3
  · refine ⟨h.thL, h.th, h.outL, h.out, by simp [h.bL], ?_, fun y hy => ?_, fun i y q' h2 h3 => ?_⟩
    · rw [List.nodup_append]
      refine ⟨h.nd, by simp, fun a ha b hb => ?_⟩
      simp at hb; subst hb
      exact fun e => h1 (e ▸ ha)
    · have h3 : y ∉ bc ∧ y ≠ x := by simpa [not_or] using hy
      simp only [mset, if_neg h3.2]; exact h.bn y h3.1
    · by_cases hi : i < bc.length
      · rw [List.getElem?_append_left hi] at h2
        rw [List.getElem?_append_left (by rw [h.bL]; exact hi)] at h3
        have : y ≠ x := fun e => by subst e; exact h1 (List.mem_of_getElem? h2)
        simp only [mset, if_neg this]; exact h.bs i y q' h2 h3
      · have hi2 : i = bc.length := by
          have := at_lt h2
          simp at this; omega
        subst hi2
        rw [List.getElem?_append_right (Nat.le_refl _), Nat.sub_self] at h2
        rw [List.getElem?_append_right (by rw [h.bL]; exact Nat.le_refl _), h.bL, Nat.sub_self] at h3
        simp at h2 h3
        subst h2; subst h3
        simp only [mset, if_true, Option.getD_some]; exact hq
/-- what a cell's clock is -/
theorem AllSt.of {n : Nat} {P : HA} {s : CS} {o : List Clk} {ths outs bk : List SlV} {bc : List Int} (h : AllSt n P s o ths outs bk bc) {q : SlV} {x : Int} (hq : (q = sl0 ∧ x ∉ bc) ∨ ∃ j : Nat, bc[j]? = some x ∧ bk[j]? = some q) :
    ∃ ys, HasRow P q ys ∧ ∀ c, takeM (rowN n c) ys = rowN n (cmax c ((s.m x).getD clock0)) ∨ (ys = [] ∧ s.m x = none) := by
  rcases hq with ⟨rfl, hx⟩ | ⟨j, h1, h2⟩
  · exact ⟨[], HasRow.nil P, fun c => .inr ⟨rfl, h.bn x hx⟩⟩
  · exact ⟨_, h.bs j x q h1 h2, fun c => .inl (takeM_row _ _ _)⟩
theorem AllSt.ofLen {n : Nat} {P : HA} {s : CS} {o : List Clk} {ths outs bk : List SlV} {bc : List Int} (h : AllSt n P s o ths outs bk bc) {a : Option Addr} {m c : Nat} {x : Int} (hq : (((a, m, c) : SlV) = sl0 ∧ x ∉ bc) ∨ ∃ j : Nat, bc[j]? = some x ∧ bk[j]? = some (a, m, c)) {ys : List Int} (hr : HasRow P (a, m, c) ys) (hn : n ≤ 4096) : ys.length ≤ 4096 := by
  have h1 : m = ys.length := hr.1
  rcases hq with ⟨e, _⟩ | ⟨j, h2, h3⟩
  · have : m = 0 := congrArg (fun q : SlV => q.2.1) e
    omega
  · have := (h.bs j x _ h2 h3).1
    rw [rowN_len] at this
    have : m = n := this
    omega
theorem cmax_zero {n : Nat} {c : Clk} (h : ∀ i, 0 ≤ c i) : rowN n (cmax c clock0) = rowN n c := rowN_congr fun i _ => by simp only [cmax, clock0]; have := h i; omega
/-! ### races, as the document looks for them -/
def refRacy (l : List Access) (b a : Nat) : Bool := match l[a]?, l[b]? with
  | some y, some x => touchB y && touchB x && decide (y.arg = x.arg) && !(decide (y.new = 0) && decide (x.new = 0)) && !(oB l a b) && !(oB l b a)
  | _, _ => false
theorem refRacy_eq {l : List Access} {a b : Nat} {x y : Access} (hy : l[a]? = some y) (hx : l[b]? = some x) : refRacy l b a = (touchB y && touchB x && decide (y.arg = x.arg) && !(decide (y.new = 0) && decide (x.new = 0)) && !(oB l a b) && !(oB l b a)) := by simp only [refRacy, hy, hx]
def refFound (l : List Access) (b : Nat) : List GRace := match (List.range b).find? (refRacy l b) with
  | some a => [⟨a, b⟩]
  | none => []
def refOut (l : List Access) : Nat → List GRace
  | 0 => []
  | b + 1 => refOut l b ++ refFound l b
theorem rrun_g (l : List Access) : ∀ n, n ≤ l.length → ∀ k, (rrun l n).g k = (List.range n).filter fun a => match l[a]? with
    | some y => touchB y && decide (y.arg = k)
    | none => false
  | 0, _, k => by simp [rrun]
  | n + 1, hn, k => by
    obtain ⟨x, hx⟩ := at_ex (xs := l) (k := n) (by omega)
    rw [rrun_succ hx, List.range_succ, List.filter_append]
    have ih := rrun_g l n (by omega)
    cases ht : touchB x with
    | false => rw [rstep_no ht, ih k]; simp [hx, ht]
    | true =>
      rw [rstep_yes ht]
      simp only
      by_cases hk : k = x.arg
      · subst hk; rw [if_pos rfl, ih x.arg]; simp [hx, ht]
      · rw [if_neg hk, ih k]
        have : ¬ x.arg = k := fun e => hk e.symm
        simp [hx, ht, this]
theorem find_filter {α : Type} (p q : α → Bool) : ∀ l : List α, (l.filter p).find? q = l.find? (fun a => p a && q a)
  | [] => rfl
  | a :: l => by
    rw [List.filter_cons, List.find?_cons]
    cases hp : p a with
    | true => simp only [if_true, Bool.true_and, List.find?_cons]; rw [find_filter p q l]
    | false => simp only [Bool.false_eq_true, if_false, Bool.false_and]; exact find_filter p q l
theorem find_congr {α : Type} {p q : α → Bool} : ∀ {l : List α}, (∀ a ∈ l, p a = q a) → l.find? p = l.find? q
  | [], _ => rfl
  | a :: l, h => by
    rw [List.find?_cons, List.find?_cons, h a List.mem_cons_self, find_congr fun b hb => h b (List.mem_cons_of_mem _ hb)]
theorem found_eq {l : List Access} {b : Nat} {x : Access} (hx : l[b]? = some x) : (if touchB x then rfound l x b ((rrun l b).g x.arg) else []) = refFound l b := by
  have hb := at_lt hx
  cases ht : touchB x with
  | false =>
    simp only [Bool.false_eq_true, if_false, refFound]
    have : (List.range b).find? (refRacy l b) = none := List.find?_eq_none.2 fun a ha => by
      obtain ⟨y, hy⟩ := at_ex (xs := l) (k := a) (by have := List.mem_range.1 ha; omega)
      rw [refRacy_eq hy hx, ht]; simp
    rw [this]
  | true =>
    simp only [if_true, rfound, refFound]
    rw [rrun_g l b (by omega), find_filter]
    have : (List.range b).find? (fun a => (match l[a]? with
        | some y => touchB y && decide (y.arg = x.arg)
        | none => false) && racy l x b a) = (List.range b).find? (refRacy l b) := find_congr fun a ha => by
      have hab := List.mem_range.1 ha
      obtain ⟨y, hy⟩ := at_ex (xs := l) (k := a) (by omega)
      rw [refRacy_eq hy hx, ht]
      simp only [hy, racy, newAt_eq hy]
      have h1 : oB l a b = ahd l a b := by unfold oB; rw [decide_eq_true (by omega)]; rfl
      have h2 : oB l b a = false := by
        cases e : oB l b a with
        | false => rfl
        | true => have := oB_lt hb (by omega) e; omega
      rw [h1, h2]
      cases hty : touchB y with
      | false => simp
      | true =>
        have hy2 := (touch_iff y).1 hty
        have hx2 := (touch_iff x).1 ht
        have e : (decide (x.new = 1) || decide (y.new = 1)) = !(decide (y.new = 0) && decide (x.new = 0)) := by
          rw [Bool.eq_iff_iff]; simp; omega
        rw [e]; simp [Bool.and_assoc]
    rw [this]
    cases List.find? (refRacy l b) (List.range b) <;> rfl
theorem refOut_eq (l : List Access) : ∀ n, n ≤ l.length → refOut l n = (rrun l n).out
  | 0, _ => by simp [refOut, rrun]
  | n + 1, hn => by
    obtain ⟨x, hx⟩ := at_ex (xs := l) (k := n) (by omega)
    rw [refOut, refOut_eq l n (by omega), ← found_eq hx, rrun_succ hx]
    cases ht : touchB x with
    | true => rw [rstep_yes ht]; simp
    | false => rw [rstep_no ht]; simp
/-! ### tasks -/
def isMark (l : List Access) (k kind : Int) (j : Nat) : Bool := match l[j]? with
  | some y => decide (y.op = 8) && decide (y.arg = k) && decide (y.new = kind)
  | none => false
theorem isMark_eq {l : List Access} {k kind : Int} {j : Nat} {y : Access} (h : l[j]? = some y) : isMark l k kind j = (decide (y.op = 8) && decide (y.arg = k) && decide (y.new = kind)) := by simp only [isMark, h]
def befI (l : List Access) (i : Nat) (k kind : Int) : Option Nat := (List.range i).find? (isMark l k kind)
def befZ (l : List Access) (i : Nat) (k kind : Int) : Int := match befI l i k kind with
  | some j => (j : Int)
  | none => -1
theorem befI_succ {l : List Access} {i : Nat} {k kind : Int} : befI l (i + 1) k kind = (befI l i k kind).or (if isMark l k kind i then some i else none) := by
  unfold befI
  rw [List.range_succ, List.find?_append]
  simp [List.find?_cons]
  cases isMark l k kind i <;> rfl
theorem befI_lt {l : List Access} {i j : Nat} {k kind : Int} (h : befI l i k kind = some j) : j < i ∧ isMark l k kind j = true := ⟨List.mem_range.1 (List.mem_of_find?_eq_some h), List.find?_some h⟩
def badO (l : List Access) (i : Nat) : Bool := match l[i]? with
  | some x => decide (x.op = 8) && ((decide (x.new = 2 ∨ x.new = 4) && ((befI l i x.arg 2).isSome || (befI l i x.arg 4).isSome)) || (decide (x.new = 3) && (match befI l i x.arg 2 with
    | none => true
    | some j => decide (¬ (l.getD j ⟨0, 0, 0, 0, 0, 0, 0, false⟩).thread = x.thread) || (befI l i x.arg 3).isSome)))
  | none => false
def onceI (l : List Access) : Option Nat := (List.range l.length).find? (badO l)
def onceE (l : List Access) : Int := if mayOk l then (match onceI l with
  | some _ => 32
  | none => 0) else 31
def onceP (l : List Access) : Int := if mayOk l then (match onceI l with
  | some i => (i : Int)
  | none => 0) else 0
theorem once_no {l : List Access} (h : mayOk l = false) : onceE l = 31 ∧ onceP l = 0 := ⟨if_neg (by rw [h]; decide), if_neg (by rw [h]; decide)⟩
theorem once_ok {l : List Access} (h : mayOk l = true) {n : Nat} (hn : l.length ≤ n) (hb : ∀ j, j < n → badO l j = false) : onceE l = 0 ∧ onceP l = 0 := by
  have : onceI l = none := List.find?_eq_none.2 fun j hj => by rw [hb j (by have := List.mem_range.1 hj; omega)]; decide
  unfold onceE onceP
  rw [if_pos h, if_pos h, this]; exact ⟨rfl, rfl⟩
theorem range_find {p : Nat → Bool} {i : Nat} (hp : p i = true) (hb : ∀ j, j < i → p j = false) : ∀ n, i < n → (List.range n).find? p = some i
  | 0, h => by omega
  | n + 1, h => by
    rw [List.range_succ, List.find?_append]
    by_cases e : i < n
    · rw [range_find hp hb n e]; rfl
    · have : i = n := by omega
      subst this
      have h1 : (List.range i).find? p = none := List.find?_eq_none.2 fun j hj => by rw [hb j (List.mem_range.1 hj)]; decide
      rw [h1]; simp [hp]
theorem once_bad {l : List Access} (h : mayOk l = true) {i : Nat} (hi : badO l i = true) (hb : ∀ j, j < i → badO l j = false) : onceE l = 32 ∧ onceP l = (i : Int) := by
  have hl : i < l.length := by
    unfold badO at hi
    cases e : l[i]? with
    | none => rw [e] at hi; cases hi
    | some x => exact at_lt e
  have : onceI l = some i := range_find hi hb _ hl
  unfold onceE onceP
  rw [if_pos h, if_pos h, this]; exact ⟨rfl, rfl⟩
structure Life where
  thread : Int
  ended : Bool
  lost : Bool
deriving DecidableEq
def tLife : Ty Life := ⟨3, fun x => [.int .i64 x.thread, .bool x.ended, .bool x.lost], fun _ => rfl, fun x u hu => by simp at hu; rcases hu with rfl | rfl | rfl <;> rfl⟩
def vLife (x : Life) : Value := .agg (tLife.enc x).toArray
def life0 : Life := ⟨0, false, false⟩
/-- what is known of the tasks ahead of a place -/
def lifeM (l : List Access) (i : Nat) : Int → Option Life := fun k => match befI l i k 2, befI l i k 4 with
  | some j, _ => some ⟨(l.getD j ⟨0, 0, 0, 0, 0, 0, 0, false⟩).thread, (befI l i k 3).isSome, false⟩
  | none, some j => some ⟨(l.getD j ⟨0, 0, 0, 0, 0, 0, 0, false⟩).thread, (befI l i k 3).isSome, true⟩
  | none, none => none
theorem lifeM_zero (l : List Access) : lifeM l 0 = fun _ => none := rfl
theorem lifeM_some {l : List Access} {i : Nat} {k : Int} : (lifeM l i k).isSome = ((befI l i k 2).isSome || (befI l i k 4).isSome) := by
  unfold lifeM
  cases befI l i k 2 <;> cases befI l i k 4 <;> rfl
section
variable {l : List Access} {i : Nat} {x : Access}
theorem befI_skip (hx : l[i]? = some x) {k kind : Int} (h : ¬ (x.op = 8 ∧ x.arg = k ∧ x.new = kind)) : befI l (i + 1) k kind = befI l i k kind := by
  rw [befI_succ]
  have : isMark l k kind i = false := by
    rw [isMark_eq hx]
    cases e : (decide (x.op = 8) && decide (x.arg = k) && decide (x.new = kind)) with
    | false => rfl
    | true =>
      simp only [Bool.and_eq_true, decide_eq_true_eq] at e
      exact absurd ⟨e.1.1, e.1.2, e.2⟩ h
  rw [this]
  cases befI l i k kind <;> rfl
theorem befI_hit (hx : l[i]? = some x) (h8 : x.op = 8) : befI l (i + 1) x.arg x.new = (befI l i x.arg x.new).or (some i) := by
  rw [befI_succ]
  have : isMark l x.arg x.new i = true := by rw [isMark_eq hx]; simp [h8]
  rw [this]; rfl
theorem lifeM_skip (hx : l[i]? = some x) (h : ¬ x.op = 8 ∨ ¬ (x.new = 2 ∨ x.new = 3 ∨ x.new = 4)) : lifeM l (i + 1) = lifeM l i := by
  funext k
  unfold lifeM
  rw [befI_skip hx (by omega), befI_skip hx (by omega), befI_skip hx (by omega)]
/-- a task begins, or is lost -/
theorem lifeM_begin (hx : l[i]? = some x) (h8 : x.op = 8) (hn : x.new = 2 ∨ x.new = 4) (h0 : lifeM l i x.arg = none) (h3 : (befI l i x.arg 3).isSome = false) : lifeM l (i + 1) = mset (lifeM l i) x.arg ⟨x.thread, false, decide (x.new = 4)⟩ := by
  have hs := lifeM_some (l := l) (i := i) (k := x.arg)
  rw [h0] at hs
  have h2 : befI l i x.arg 2 = none := by
    cases e : befI l i x.arg 2 with
    | none => rfl
    | some j => rw [e] at hs; cases hs
  have h4 : befI l i x.arg 4 = none := by
    cases e : befI l i x.arg 4 with
    | none => rfl
    | some j => rw [h2, e] at hs; cases hs
  funext k
  by_cases hk : k = x.arg
  · subst hk
    simp only [mset, if_true]
    have h3' : (befI l (i + 1) x.arg 3).isSome = false := by rw [befI_skip hx (by omega)]; exact h3
    have hh := befI_hit hx h8
    rcases hn with hn | hn
    · rw [hn, h2] at hh
      unfold lifeM
      rw [hh, h3']
      simp [hx, hn]
    · rw [hn, h4] at hh
      have h2' : befI l (i + 1) x.arg 2 = none := by rw [befI_skip hx (by omega), h2]
      unfold lifeM
      rw [h2', hh, h3']
      simp [hx, hn]
  · simp only [mset, if_neg hk]
    unfold lifeM
    rw [befI_skip hx (fun h => hk h.2.1.symm), befI_skip hx (fun h => hk h.2.1.symm), befI_skip hx (fun h => hk h.2.1.symm)]
/-- a task ends -/
theorem lifeM_end (hx : l[i]? = some x) (h8 : x.op = 8) (hn : x.new = 3) {y : Life} (h0 : lifeM l i x.arg = some y) : lifeM l (i + 1) = mset (lifeM l i) x.arg ⟨y.thread, true, y.lost⟩ := by
  funext k
  by_cases hk : k = x.arg
  · subst hk
    simp only [mset, if_true]
    have h3' : (befI l (i + 1) x.arg 3).isSome = true := by
      have := befI_hit hx h8
      rw [hn] at this
      rw [this]
      cases befI l i x.arg 3 <;> rfl
    unfold lifeM at h0 ⊢
    rw [befI_skip hx (by omega), befI_skip hx (by omega), h3']
    cases e2 : befI l i x.arg 2 with
    | some j => rw [e2] at h0; simp only [Option.some.injEq] at h0; subst h0; rfl
    | none =>
      cases e4 : befI l i x.arg 4 with
      | some j => rw [e2, e4] at h0; simp only [Option.some.injEq] at h0; subst h0; rfl
      | none => rw [e2, e4] at h0; cases h0
  · simp only [mset, if_neg hk]
    unfold lifeM
    rw [befI_skip hx (fun h => hk h.2.1.symm), befI_skip hx (fun h => hk h.2.1.symm), befI_skip hx (fun h => hk h.2.1.symm)]
/-- none ends ahead of its beginning -/
theorem end_after : ∀ {i : Nat}, i ≤ l.length → (∀ j, j < i → badO l j = false) → ∀ k, (befI l i k 3).isSome = true → (befI l i k 2).isSome = true
  | 0, _, _, k, h => by simp [befI] at h
  | i + 1, hi, hb, k, h => by
    obtain ⟨x, hx⟩ := at_ex (xs := l) (k := i) (by omega)
    by_cases hm : x.op = 8 ∧ x.arg = k ∧ x.new = 3
    · have hbi := hb i (by omega)
      unfold badO at hbi
      simp only [hx, hm.1, hm.2.1, hm.2.2] at hbi
      rw [befI_skip hx (by omega)]
      cases e : befI l i k 2 with
      | some j => rfl
      | none => rw [e] at hbi; simp at hbi
    · rw [befI_skip hx hm] at h
      have := end_after (i := i) (by omega) (fun j hj => hb j (by omega)) k h
      rw [befI_succ]
      cases e : befI l i k 2 with
      | some j => rfl
      | none => rw [e] at this; cases this
theorem no_end (hi : i ≤ l.length) (hb : ∀ j, j < i → badO l j = false) {k : Int} (h0 : lifeM l i k = none) : (befI l i k 3).isSome = false := by
  cases e : (befI l i k 3).isSome with
  | false => rfl
  | true =>
    have h2 := end_after hi hb k e
    have hs := lifeM_some (l := l) (i := i) (k := k)
    rw [h0, h2] at hs; cases hs
/-- none is both begun and lost -/
theorem not_both : ∀ {i : Nat}, i ≤ l.length → (∀ j, j < i → badO l j = false) → ∀ k, (befI l i k 2).isSome = true → (befI l i k 4).isSome = true → False
  | 0, _, _, k, h, _ => by simp [befI] at h
  | i + 1, hi, hb, k, h2, h4 => by
    obtain ⟨x, hx⟩ := at_ex (xs := l) (k := i) (by omega)
    have hbi := hb i (by omega)
    unfold badO at hbi
    simp only [hx] at hbi
    by_cases hm : x.op = 8 ∧ x.arg = k ∧ x.new = 2
    · rw [befI_skip hx (by omega)] at h4
      simp [hm.1, hm.2.1, hm.2.2] at hbi
      rw [hbi.2] at h4; cases h4
    · rw [befI_skip hx hm] at h2
      by_cases hm4 : x.op = 8 ∧ x.arg = k ∧ x.new = 4
      · simp [hm4.1, hm4.2.1, hm4.2.2] at hbi
        rw [hbi.1] at h2; cases h2
      · rw [befI_skip hx hm4] at h4
        exact not_both (i := i) (by omega) (fun j hj => hb j (by omega)) k h2 h4
theorem bad_other (hx : l[i]? = some x) (h : ¬ x.op = 8 ∨ ¬ (x.new = 2 ∨ x.new = 3 ∨ x.new = 4)) : badO l i = false := by
  unfold badO; simp only [hx]
  rcases h with h | h
  · simp [h]
  · have h1 : ¬ (x.new = 2 ∨ x.new = 4) := by omega
    have h2 : ¬ x.new = 3 := by omega
    simp [h1, h2]
theorem bad_begin (hx : l[i]? = some x) (h8 : x.op = 8) (hn : x.new = 2 ∨ x.new = 4) : badO l i = (lifeM l i x.arg).isSome := by
  unfold badO; simp only [hx]
  rw [lifeM_some]
  have h2 : ¬ x.new = 3 := by omega
  simp [h8, hn, h2]
theorem bad_end (hx : l[i]? = some x) (h8 : x.op = 8) (hn : x.new = 3) (hi : i ≤ l.length) (hb : ∀ j, j < i → badO l j = false) : badO l i = (match lifeM l i x.arg with
    | none => true
    | some y => y.lost || y.ended || decide (¬ y.thread = x.thread)) := by
  unfold badO; simp only [hx]
  have h1 : ¬ (x.new = 2 ∨ x.new = 4) := by omega
  simp only [h8, hn, h1, decide_true, decide_false, Bool.true_and, Bool.false_and, Bool.false_or]
  unfold lifeM
  cases e2 : befI l i x.arg 2 with
  | some j =>
    cases e4 : befI l i x.arg 4 with
    | some j4 => exact (not_both hi hb x.arg (by rw [e2]; rfl) (by rw [e4]; rfl)).elim
    | none => simp [Bool.or_comm]
  | none =>
    cases e4 : befI l i x.arg 4 with
    | some j4 => simp
    | none => simp
end
/-! ### threads -/
theorem thr_le (n : Int) (a : Access) : n ≤ thr n a ∧ a.thread < thr n a ∧ (a.op = 7 → a.now < thr n a) := by
  unfold thr; split <;> omega
theorem foldl_thr_le : ∀ (l : List Access) (n : Int), n ≤ l.foldl thr n ∧ ∀ a ∈ l, a.thread < l.foldl thr n ∧ (a.op = 7 → a.now < l.foldl thr n)
  | [], n => ⟨Int.le_refl _, fun a h => by cases h⟩
  | b :: l, n => by
    have h1 := thr_le n b
    have h2 := foldl_thr_le l (thr n b)
    simp only [List.foldl_cons]
    refine ⟨by omega, fun a ha => ?_⟩
    rcases List.mem_cons.1 ha with rfl | ha
    · exact ⟨by omega, fun h => by have := h1.2.2 h; omega⟩
    · exact h2.2 a ha
theorem foldl_thr_64 : ∀ (l : List Access) (n : Int), n ≤ 64 → (∀ a ∈ l, okA a = true) → l.foldl thr n ≤ 64
  | [], n, h, _ => h
  | b :: l, n, h, hok => by
    simp only [List.foldl_cons]
    have hb := (okA_iff b).1 (hok b List.mem_cons_self)
    exact foldl_thr_64 l _ (by unfold thr; split <;> omega) fun a ha => hok a (List.mem_cons_of_mem _ ha)
theorem mayN_bd {l : List Access} (h : mayOk l = true) : 0 ≤ mayN l ∧ mayN l ≤ 64 ∧ ∀ a ∈ l, a.thread < mayN l ∧ (a.op = 7 → a.now < mayN l) := by
  have e : mayN l = l.foldl thr 0 := if_pos h
  rw [e]
  have h1 := foldl_thr_le l 0
  exact ⟨h1.1, foldl_thr_64 l 0 (by decide) (fun a ha => List.all_eq_true.1 h a ha), h1.2⟩
theorem mayN_eq {l : List Access} (h : mayOk l = true) : mayN l = l.foldl thr 0 := if_pos h
theorem cT1_yes {s : CS} {x : Access} (h : takesB x.op = true) : cT1 s x x.thread.toNat = cmax (s.T x.thread.toNat) ((s.m x.cell).getD clock0) := by
  unfold cT1; rw [if_pos h]; simp [updT]
theorem cT1_no {s : CS} {x : Access} (h : takesB x.op = false) : cT1 s x = s.T := if_neg (by rw [h]; decide)
theorem cT1_ne {s : CS} {x : Access} {i : Nat} (h : i ≠ x.thread.toNat) : cT1 s x i = s.T i := by
  unfold cT1; split
  · simp [updT, h]
  · rfl
theorem cOut_eq (s : CS) (x : Access) : cOut s x = cbump (cT1 s x x.thread.toNat) x.thread.toNat := by simp [cOut, cT2, updT]
theorem cT2_ne {s : CS} {x : Access} {i : Nat} (h : i ≠ x.thread.toNat) : cT2 s x i = s.T i := by
  unfold cT2; simp only [updT, if_neg h]; exact cT1_ne h
/-- the row that a cell's clock is taken into -/
theorem take_own {n : Nat} {P : HA} {s : CS} {o : List Clk} {ths outs bk : List SlV} {bc : List Int} {x : Access} {ys : List Int} (ht : takesB x.op = true) (hnn : ∀ i j, 0 ≤ s.T i j)
    (h : ∀ c, takeM (rowN n c) ys = rowN n (cmax c ((s.m x.cell).getD clock0)) ∨ (ys = [] ∧ s.m x.cell = none)) : takeM (rowN n (s.T x.thread.toNat)) ys = rowN n (cT1 s x x.thread.toNat) := by
  rw [cT1_yes ht]
  rcases h (s.T x.thread.toNat) with h1 | ⟨rfl, h2⟩
  · exact h1
  · rw [takeM_nil, h2]; exact (cmax_zero (hnn x.thread.toNat)).symm
theorem refFound_hit {l : List Access} {a b : Nat} (h : a < b) (h1 : refRacy l b a = true) (h2 : ∀ j, j < a → refRacy l b j = false) : refFound l b = [⟨a, b⟩] := by
  unfold refFound; rw [range_find h1 h2 b h]
theorem refFound_none {l : List Access} {b n : Nat} (hn : b ≤ n) (h2 : ∀ j, j < n → refRacy l b j = false) : refFound l b = [] := by
  have : (List.range b).find? (refRacy l b) = none := List.find?_eq_none.2 fun j hj => by rw [h2 j (by have := List.mem_range.1 hj; omega)]; decide
  unfold refFound; rw [this]
theorem refOut_len (l : List Access) : ∀ n, (refOut l n).length ≤ n
  | 0 => by simp [refOut]
  | n + 1 => by
    have := refOut_len l n
    rw [refOut, List.length_append]
    have : (refFound l n).length ≤ 1 := by unfold refFound; split <;> simp
    omega
theorem befZ_lt (l : List Access) (i : Nat) (k kind : Int) : -1 ≤ befZ l i k kind ∧ befZ l i k kind < (i : Int) := by
  unfold befZ
  cases e : befI l i k kind with
  | none => simp; omega
  | some j => have := (befI_lt e).1; simp; omega
theorem befZ_some (l : List Access) (i : Nat) (k kind : Int) : (befI l i k kind).isSome = decide (0 ≤ befZ l i k kind) := by
  unfold befZ
  cases e : befI l i k kind with
  | none => simp
  | some j => simp
theorem badO_24 {l : List Access} {i : Nat} {x : Access} (hx : l[i]? = some x) (h8 : x.op = 8) (hn : x.new = 2 ∨ x.new = 4) : badO l i = (decide (0 ≤ befZ l i x.arg 2) || decide (0 ≤ befZ l i x.arg 4)) := by
  rw [bad_begin hx h8 hn, lifeM_some, befZ_some, befZ_some]
theorem badO_3 {l : List Access} {i : Nat} {x y : Access} (hx : l[i]? = some x) (h8 : x.op = 8) (hn : x.new = 3) (hy : 0 ≤ befZ l i x.arg 2 → l[(befZ l i x.arg 2).toNat]? = some y) : badO l i = (decide (befZ l i x.arg 2 < 0) || decide (¬ y.thread = x.thread) || decide (0 ≤ befZ l i x.arg 3)) := by
  unfold badO; simp only [hx]
  have h1 : ¬ (x.new = 2 ∨ x.new = 4) := by omega
  simp only [h8, hn, h1, decide_true, decide_false, Bool.true_and, Bool.false_and, Bool.false_or]
  rw [befZ_some l i x.arg 3]
  generalize befZ l i x.arg 3 = z3
  unfold befZ at hy ⊢
  cases e : befI l i x.arg 2 with
  | none => simp
  | some j =>
    rw [e] at hy
    have := hy (by simp)
    simp only [Int.toNat_natCast] at this
    have h2 : ¬ ((j : Int) < 0) := by omega
    have h3 : l.getD j ⟨0, 0, 0, 0, 0, 0, 0, false⟩ = y := getD_at this
    simp [h2, h3]
    rw [← List.getD_eq_getElem?_getD, h3]
theorem badO_3n {l : List Access} {i : Nat} {x : Access} (hx : l[i]? = some x) (h8 : x.op = 8) (hn : x.new = 3) (h : befZ l i x.arg 2 < 0) : badO l i = true := by
  rw [badO_3 (y := x) hx h8 hn (fun h2 => by omega)]; simp [h]
theorem before_hit {l : List Access} {i j : Nat} {k kind : Int} (h : j < i) (h1 : isMark l k kind j = true) (h2 : ∀ m, m < j → isMark l k kind m = false) : befZ l i k kind = (j : Int) := by
  unfold befZ befI; rw [range_find h1 h2 i h]
theorem before_none {l : List Access} {i n : Nat} {k kind : Int} (hn : i ≤ n) (h2 : ∀ m, m < n → isMark l k kind m = false) : befZ l i k kind = -1 := by
  have : befI l i k kind = none := List.find?_eq_none.2 fun j hj => by rw [h2 j (by have := List.mem_range.1 hj; omega)]; decide
  unfold befZ; rw [this]
theorem racesR_len (l : List Access) : (racesR l).length ≤ l.length := by
  unfold racesR
  split
  · exact (rrun_lt l l.length (Nat.le_refl _)).2.2
  · simp
end Go.TL
