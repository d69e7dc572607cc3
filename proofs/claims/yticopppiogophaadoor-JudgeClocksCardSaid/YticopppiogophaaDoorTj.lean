/-
  Layer 26 in plain Lean: clocks.
-/
import Derived.Test.YticopppiogophaaDoorTm
set_option linter.unusedVariables false
set_option linter.unusedSimpArgs false
namespace Go.TL

abbrev Clk := Nat → Int
def clkL (n : Nat) (c : Clk) : List Value := (List.range n).map (fun i => Value.int .i64 (c i))
theorem clkL_len (n : Nat) (c : Clk) : (clkL n c).length = n := by simp [clkL]
theorem clkL_at {n : Nat} (c : Clk) {i : Nat} (h : i < n) : (clkL n c)[i]? = some (.int .i64 (c i)) := by simp [clkL, h]
theorem clkL_congr {n : Nat} {c d : Clk} (h : ∀ i, i < n → c i = d i) : clkL n c = clkL n d := by
  unfold clkL
  apply List.map_congr_left
  intro i hi
  rw [h i (List.mem_range.1 hi)]
def tClock : Ty Clk := ⟨64, clkL 64, clkL_len 64, fun x u hu => by
  simp only [clkL, List.mem_map] at hu
  obtain ⟨i, _, rfl⟩ := hu
  rfl⟩
def clock0 : Clk := fun _ => 0
def cmax (c d : Clk) : Clk := fun i => max (c i) (d i)
def cbump (c : Clk) (t : Nat) : Clk := fun i => if i = t then c i + 1 else c i

theorem run_equalIn_clock {P : Program} (w : World) (d : Nat) (t e : TypeId) (n : Nat) (ht : P.underlying t = some (.array n e)) (he : P.underlying e = some (.int .i64)) (hsz : ∀ w, (sizeOf e).run P w = .ok 1 w) (x y : Clk) :
    (Op.equalIn (d + 2) t (.agg (clkL n x).toArray) (.agg (clkL n y).toArray)).run P w = .ok ((List.range n).all fun i => x i == y i) w := by
  rw [List.range_eq_range', Op.equalIn]
  simp only [Sem.run_bind, run_underlying ht, Result.andThen_ok, hsz, Std.Legacy.Range.forIn_eq_forIn_range', Std.Legacy.Range.size, Nat.sub_zero, Nat.add_sub_cancel, Nat.div_one]
  have hl : ∀ i ∈ List.range' 0 n 1, i < n := fun i hi => by simpa using (List.mem_range'_1.1 hi).2
  generalize List.range' 0 n 1 = l at hl ⊢
  induction l with
  | nil => simp
  | cons i l ih =>
    have hi : i < n := hl i (by simp)
    have px : ∀ z : Clk, (part e (clkL n z).toArray (i * 1)).run P w = .ok (.int .i64 (z i)) w := fun z => by
      simp [part, isAgg, run_underlying he, clkL_at z hi]
    have pe : (Op.equalIn (d + 1) e (.int .i64 (x i)) (.int .i64 (y i))).run P w = .ok (x i == y i) w := run_equalIn_int w d e .i64 .i64 _ _ he
    simp only [List.forIn_cons, Sem.run_bind, px, pe, Result.andThen_ok, List.all_cons]
    cases hb : (x i == y i)
    · simp
    · simp only [Bool.not_true, Bool.false_eq_true, if_false, Sem.run_pure, Result.andThen_ok, Bool.true_and]
      exact ih fun j hj => hl j (by simp [hj])
theorem Y.eqlClock {P : Program} {f : Fm} {w : World} {d : Option Nat} {ty : TypeId} {pos : String} {aft : Array Edge} {g : Option (Nat × Bool)} {X Y : Operand} {t t' e : TypeId} {n : Nat} {x y : Clk} (hg : P.eqGuardType P.depth t = false) (ht : P.underlying t = some (.array n e)) (he : P.underlying e = some (.int .i64)) (hsz : ∀ w, (sizeOf e).run P w = .ok 1 w)
    (hx : ev f X = .agg (clkL n x).toArray) (hy : ev f Y = .agg (clkL n y).toArray) : Yl P ⟨d, .binOp .eql t X Y t', ty, pos, aft, g⟩ f w (.bool ((List.range n).all fun i => x i == y i)) := by
  unfold Yl
  have := run_equalIn_clock w 9998 t e n ht he hsz x y
  simp only [execOp, hx, hy, Sem.run_bind, run_eqGuard_agg w .eql t X Y _ _ hg, Result.andThen_ok, run_eql_struct, this, Sem.run_pure]

/-- a window of a row -/
def Win (cs : List Value) (off : Nat) (vs : List Value) : Prop := (cs.drop off).take vs.length = vs ∧ off + vs.length ≤ cs.length
theorem Win.at {cs vs : List Value} {off : Nat} (h : Win cs off vs) {j : Nat} {v : Value} (hj : vs[j]? = some v) : cs[off + j]? = some v := by
  have := (List.getElem?_eq_some_iff.1 hj).1
  rw [← h.1, List.getElem?_take, if_pos (by omega), List.getElem?_drop] at hj
  exact hj
theorem lset_get {cs vs : List Value} {off : Nat} (h : off + vs.length ≤ cs.length) (j : Nat) : (lset cs off vs)[j]? = if j < off then cs[j]? else if j < off + vs.length then vs[j - off]? else cs[j]? := by
  have h1 : (cs.take off).length = off := by simp; omega
  unfold lset
  rw [List.getElem?_append, List.length_append, h1]
  by_cases c1 : j < off
  · rw [if_pos c1, if_pos (by omega), List.getElem?_append, h1, if_pos c1, List.getElem?_take, if_pos c1]
  · rw [if_neg c1]
    by_cases c2 : j < off + vs.length
    · rw [if_pos c2, if_pos c2, List.getElem?_append, h1, if_neg c1]
    · rw [if_neg c2, if_neg c2, List.getElem?_drop]; congr 1; omega
theorem lset_len {cs vs : List Value} {off : Nat} (h : off + vs.length ≤ cs.length) : (lset cs off vs).length = cs.length := by
  simp only [lset, List.length_append, List.length_take, List.length_drop]; omega
theorem Win.set {cs vs : List Value} {off : Nat} (h : off + vs.length ≤ cs.length) : Win (lset cs off vs) off vs := by
  refine ⟨?_, by rw [lset_len h]; exact h⟩
  apply List.ext_getElem?
  intro j
  rw [List.getElem?_take]
  by_cases c : j < vs.length
  · rw [if_pos c, List.getElem?_drop, lset_get h, if_neg (by omega), if_pos (by omega)]; congr 1; omega
  · rw [if_neg c, List.getElem?_eq_none (by omega)]
theorem lset_lset {cs vs us : List Value} {off : Nat} (h : off + vs.length ≤ cs.length) (hl : us.length = vs.length) : lset (lset cs off vs) off us = lset cs off us := by
  apply List.ext_getElem?
  intro j
  rw [lset_get (by rw [lset_len h]; omega), lset_get h, lset_get (by omega), hl]
  by_cases c1 : j < off
  · simp only [if_pos c1]
  · simp only [if_neg c1]
    by_cases c2 : j < off + vs.length
    · simp only [if_pos c2]
    · simp only [if_neg c2]
theorem lset_one {vs cs : List Value} {off i : Nat} {v : Value} (h : off + vs.length ≤ cs.length) (hi : i < vs.length) : lset (lset cs off vs) (off + i) [v] = lset cs off (vs.set i v) := by
  apply List.ext_getElem?
  intro j
  rw [lset_get (by rw [lset_len h]; simp; omega), lset_get h, lset_get (by rw [List.length_set]; exact h), List.length_set, List.getElem?_set]
  simp only [List.length_singleton]
  by_cases c1 : j < off
  · rw [if_pos (by omega), if_pos c1, if_pos c1]
  · rw [if_neg c1, if_neg c1]
    by_cases c2 : j < off + vs.length
    · rw [if_pos c2, if_pos c2]
      by_cases c3 : j = off + i
      · subst c3
        rw [if_neg (by omega), if_pos (by omega), if_pos (by omega), if_pos hi]; simp
      · by_cases c4 : j < off + i
        · rw [if_pos c4, if_neg (by omega)]
        · rw [if_neg c4, if_neg (by omega), if_neg (by omega)]
    · rw [if_neg c2, if_neg c2]
      by_cases c4 : j < off + i
      · rw [if_pos c4]
      · rw [if_neg c4, if_neg (by omega)]
theorem win0 {l : List Value} {n : Nat} (h : l.length = n) : (l.drop 0).take n = l := by rw [List.drop_zero, List.take_of_length_le (by omega)]
theorem Win.same {cs vs : List Value} {off : Nat} (h : Win cs off vs) : lset cs off vs = cs := by
  apply List.ext_getElem?
  intro j
  rw [lset_get h.2]
  by_cases c1 : j < off
  · rw [if_pos c1]
  · rw [if_neg c1]
    by_cases c2 : j < off + vs.length
    · rw [if_pos c2]
      have hj : vs[j - off]? = some (vs[j - off]'(by omega)) := List.getElem?_eq_getElem _
      have := h.at hj
      rw [show off + (j - off) = j by omega] at this
      rw [hj, this]
    · rw [if_neg c2]
theorem all_eq {n : Nat} {x y : Clk} (h : ((List.range n).all fun i => x i == y i) = true) : ∀ i, i < n → x i = y i := fun i hi => by
  have := List.all_eq_true.1 h i (List.mem_range.2 hi)
  simpa using this
def cmid (k : Nat) (c d : Clk) : Clk := fun i => if i < k then max (c i) (d i) else c i
theorem clkL_set {n : Nat} (c : Clk) {i : Nat} {x : Int} (h : i < n) : (clkL n c).set i (.int .i64 x) = clkL n (fun j => if j = i then x else c j) := by
  apply List.ext_getElem?
  intro j
  rw [List.getElem?_set]
  by_cases e : i = j
  · subst e; rw [if_pos rfl, if_pos (by rw [clkL_len]; exact h), clkL_at _ h, if_pos rfl]
  · rw [if_neg e]
    by_cases hj : j < n
    · rw [clkL_at _ hj, clkL_at _ hj, if_neg (Ne.symm e)]
    · rw [List.getElem?_eq_none (by rw [clkL_len]; omega), List.getElem?_eq_none (by rw [clkL_len]; omega)]
/-! ### the clocks of a log -/
def updT (T : Nat → Clk) (t : Nat) (c : Clk) : Nat → Clk := fun i => if i = t then c else T i
def thsL (T : Nat → Clk) : List Clk := (List.range 64).map T
theorem thsL_len (T : Nat → Clk) : (thsL T).length = 64 := by simp [thsL]
theorem thsL_at (T : Nat → Clk) {t : Nat} (h : t < 64) : (thsL T)[t]? = some (T t) := by simp [thsL, h]
theorem thsL_set (T : Nat → Clk) (c : Clk) {t : Nat} (h : t < 64) : (thsL T).set t c = thsL (updT T t c) := by
  apply List.ext_getElem?
  intro j
  rw [List.getElem?_set]
  by_cases e : t = j
  · subst e; rw [if_pos rfl, if_pos (by rw [thsL_len]; exact h), thsL_at _ h]; simp [updT]
  · rw [if_neg e]
    by_cases hj : j < 64
    · rw [thsL_at _ hj, thsL_at _ hj]; simp [updT, Ne.symm e]
    · rw [List.getElem?_eq_none (by rw [thsL_len]; omega), List.getElem?_eq_none (by rw [thsL_len]; omega)]
theorem ths_len (T : Nat → Clk) : (tClock.all (thsL T)).length = 64 * 64 := by rw [Ty.all_len, thsL_len]; rfl
theorem ths_win (T : Nat → Clk) {t : Nat} (h : t < 64) : ((tClock.all (thsL T)).drop (0 + t * 64)).take 64 = clkL 64 (T t) := by
  rw [Nat.zero_add]; exact tClock.all_win (thsL_at T h)
theorem ths_Win (T : Nat → Clk) {t : Nat} (h : t < 64) : Win (tClock.all (thsL T)) (0 + t * 64) (clkL 64 (T t)) :=
  ⟨by rw [clkL_len]; exact ths_win T h, by rw [clkL_len, ths_len]; omega⟩
theorem ths_put (T : Nat → Clk) (c : Clk) {t : Nat} (h : t < 64) : lset (tClock.all (thsL T)) (0 + t * 64) (clkL 64 c) = tClock.all (thsL (updT T t c)) := by
  rw [Nat.zero_add, ← thsL_set T c h]; exact tClock.all_put c (by rw [thsL_len]; exact h)
theorem ths_at (T : Nat → Clk) {t j : Nat} (h : t < 64) (hj : j < 64) : (tClock.all (thsL T))[0 + t * 64 + j * 1]? = some (.int .i64 (T t j)) := by
  rw [Nat.mul_one]; exact (ths_Win T h).at (clkL_at _ hj)
theorem ths_bump (T : Nat → Clk) {t : Nat} (h : t < 64) : lset (tClock.all (thsL T)) (0 + t * 64 + t * 1) [.int .i64 (T t t + 1)] = tClock.all (thsL (updT T t (cbump (T t) t))) := by
  have h1 : 0 + t * 64 + (clkL 64 (T t)).length ≤ (tClock.all (thsL T)).length := (ths_Win T h).2
  have h2 : lset (tClock.all (thsL T)) (0 + t * 64) (clkL 64 (T t)) = tClock.all (thsL T) := (ths_Win T h).same
  have h3 := lset_one (v := .int .i64 (T t t + 1)) h1 (i := t) (by rw [clkL_len]; exact h)
  rw [h2, clkL_set _ h] at h3
  rw [Nat.mul_one, h3, ← ths_put T _ h]
  congr 1
  exact clkL_congr fun i _ => by simp only [cbump]; split <;> simp_all
def takesB (op : Int) : Bool := decide (op ≠ 2 ∧ op ≠ 7 ∧ op ≠ 8)
def setsB (a : Access) : Bool := decide (a.op = 2 ∨ a.op = 4 ∨ a.op = 5) || (decide (a.op = 3) && a.ok)
structure CS where
  T : Nat → Clk
  m : Int → Option Clk
def cs0 : CS := ⟨fun _ => clock0, fun _ => none⟩
def cT1 (s : CS) (a : Access) : Nat → Clk := if takesB a.op then updT s.T a.thread.toNat (cmax (s.T a.thread.toNat) ((s.m a.cell).getD clock0)) else s.T
def cT2 (s : CS) (a : Access) : Nat → Clk := updT (cT1 s a) a.thread.toNat (cbump (cT1 s a a.thread.toNat) a.thread.toNat)
def cOut (s : CS) (a : Access) : Clk := cT2 s a a.thread.toNat
def cT3 (s : CS) (a : Access) : Nat → Clk := if a.op = 7 ∧ 0 ≤ a.now then updT (cT2 s a) a.now.toNat (cmax (cT2 s a a.now.toNat) (cOut s a)) else cT2 s a
def cM (s : CS) (a : Access) : Int → Option Clk := if setsB a then mset s.m a.cell (cOut s a) else s.m
def cstep (s : CS) (a : Access) : CS := ⟨cT3 s a, cM s a⟩
def crun (l : List Access) : CS × List Clk := l.foldl (fun p a => (cstep p.1 a, p.2 ++ [cOut p.1 a])) (cs0, [])
def clks (l : List Access) : List Clk := (crun l).2
theorem crun_snoc (l : List Access) (a : Access) : crun (l ++ [a]) = (cstep (crun l).1 a, (crun l).2 ++ [cOut (crun l).1 a]) := by simp [crun, List.foldl_append]
/-- no number is above k -/
def Bd (k : Int) (s : CS) : Prop := (∀ i j, 0 ≤ s.T i j ∧ s.T i j ≤ k) ∧ ∀ c d, s.m c = some d → ∀ j, 0 ≤ d j ∧ d j ≤ k
theorem Bd.m0 {k : Int} {s : CS} (h : Bd k s) (hk : 0 ≤ k) (c : Int) (j : Nat) : 0 ≤ (s.m c).getD clock0 j ∧ (s.m c).getD clock0 j ≤ k := by
  cases e : s.m c with
  | none => simp [clock0, hk]
  | some d => exact h.2 c d e j
theorem Bd.t1 {k : Int} {s : CS} (h : Bd k s) (hk : 0 ≤ k) (a : Access) (i j : Nat) : 0 ≤ cT1 s a i j ∧ cT1 s a i j ≤ k := by
  have h1 := h.1
  have h2 := h.m0 hk a.cell j
  unfold cT1
  split
  · unfold updT
    split
    · have := h1 a.thread.toNat j
      simp only [cmax]; omega
    · exact h1 i j
  · exact h1 i j
theorem Bd.t2 {k : Int} {s : CS} (h : Bd k s) (hk : 0 ≤ k) (a : Access) (i j : Nat) : 0 ≤ cT2 s a i j ∧ cT2 s a i j ≤ k + 1 := by
  have h1 := h.t1 hk a
  unfold cT2 updT
  split
  · have := h1 a.thread.toNat j
    simp only [cbump]; split <;> omega
  · have := h1 i j; omega
theorem Bd.step {k : Int} {s : CS} (h : Bd k s) (hk : 0 ≤ k) (a : Access) : Bd (k + 1) (cstep s a) := by
  have h2 := h.t2 hk a
  constructor
  · intro i j
    show 0 ≤ cT3 s a i j ∧ cT3 s a i j ≤ k + 1
    unfold cT3
    split
    · unfold updT
      split
      · have := h2 a.now.toNat j
        have := h2 a.thread.toNat j
        simp only [cmax, cOut]; omega
      · exact h2 i j
    · exact h2 i j
  · intro c d hd j
    have hd : cM s a c = some d := hd
    unfold cM at hd
    split at hd
    · unfold mset at hd
      split at hd
      · cases hd; exact h2 _ j
      · have := h.2 c d hd j; omega
    · have := h.2 c d hd j; omega
theorem cM1 (s : CS) (a : Access) (h : a.op = 2 ∨ a.op = 4 ∨ a.op = 5) : cM s a = mset s.m a.cell (cOut s a) := by
  unfold cM; rw [if_pos (by simp only [setsB, decide_eq_true h, Bool.true_or])]
theorem cM2 (s : CS) (a : Access) (h : a.op = 3) (h2 : a.ok = true) : cM s a = mset s.m a.cell (cOut s a) := by
  unfold cM; rw [if_pos (by simp only [setsB, decide_eq_true h, h2, Bool.and_true, Bool.or_true])]
theorem cM3 (s : CS) (a : Access) (h : a.op = 3) (h2 : a.ok = false) : cM s a = s.m := by
  unfold cM; rw [if_neg (by simp [setsB, h, h2])]
theorem cM4 (s : CS) (a : Access) (h : ¬(a.op = 2 ∨ a.op = 4 ∨ a.op = 5)) (h2 : a.op ≠ 3) : cM s a = s.m := by
  unfold cM; rw [if_neg (by simp only [setsB, decide_eq_false h, decide_eq_false h2, Bool.false_and, Bool.or_false]; decide)]
theorem cTa (s : CS) (a : Access) (h : a.op = 7 ∧ 0 ≤ a.now) : cT3 s a = updT (cT2 s a) a.now.toNat (cmax (cT2 s a a.now.toNat) (cOut s a)) := if_pos h
theorem cTb (s : CS) (a : Access) (h : ¬(a.op = 7 ∧ 0 ≤ a.now)) : cT3 s a = cT2 s a := if_neg h
theorem snoc_ind {α : Type} {p : List α → Prop} (h0 : p []) (hs : ∀ l a, p l → p (l ++ [a])) (l : List α) : p l := by
  have : ∀ r : List α, p r.reverse := by
    intro r
    induction r with
    | nil => exact h0
    | cons a r ih => rw [List.reverse_cons]; exact hs _ _ ih
  have h := this l.reverse
  rwa [List.reverse_reverse] at h
theorem crun_bd (l : List Access) : Bd l.length (crun l).1 := by
  refine snoc_ind (p := fun l => Bd l.length (crun l).1) ⟨fun i j => by simp [crun, cs0, clock0], fun c d h => by simp [crun, cs0] at h⟩ (fun l a ih => ?_) l
  rw [crun_snoc]
  have := ih.step (by omega) a
  simpa using this
theorem crun_len (l : List Access) : (crun l).2.length = l.length := by
  refine snoc_ind (p := fun l => (crun l).2.length = l.length) rfl (fun l a ih => ?_) l
  rw [crun_snoc]; simp [ih]
def clkAt (l : List Access) (i : Nat) : Clk := (clks l).getD i clock0
def thrAt (l : List Access) (i : Nat) : Nat := match l[i]? with
  | some x => x.thread.toNat
  | none => 0
theorem clks_len (l : List Access) : (clks l).length = l.length := crun_len l
theorem clks_at {l : List Access} {i : Nat} (h : i < l.length) : (clks l)[i]? = some (clkAt l i) := by
  unfold clkAt
  rw [List.getD_eq_getElem?_getD, List.getElem?_eq_getElem (by rw [clks_len]; exact h)]; rfl
theorem thrAt_eq {l : List Access} {i : Nat} {x : Access} (h : l[i]? = some x) : thrAt l i = x.thread.toNat := by simp [thrAt, h]
/-- entry a ahead of b -/
def ahd (l : List Access) (a b : Nat) : Bool := decide (clkAt l a (thrAt l a) ≤ clkAt l b (thrAt l a))
def aheadB (l : List Access) (a b : Int) : Bool := mayOk l && decide (0 ≤ a ∧ a < l.length ∧ 0 ≤ b ∧ b < l.length) && decide (a ≠ b) && ahd l a.toNat b.toNat
def aheadE (l : List Access) (a b : Int) : Int := if mayOk l then (if 0 ≤ a ∧ a < l.length ∧ 0 ≤ b ∧ b < l.length then 0 else 1) else 31
theorem ahead_no {l : List Access} {a b : Int} (h : mayOk l = false) : Ending.returned (.tuple #[.bool false, .int .i64 31]) = .returned (.tuple #[.bool (aheadB l a b), .int .i64 (aheadE l a b)]) := by
  simp [aheadB, aheadE, h]
theorem ahead_out {l : List Access} {a b : Int} (h : mayOk l = true) (h2 : ¬(0 ≤ a ∧ a < l.length ∧ 0 ≤ b ∧ b < l.length)) : Ending.returned (.tuple #[.bool false, .int .i64 1]) = .returned (.tuple #[.bool (aheadB l a b), .int .i64 (aheadE l a b)]) := by
  simp only [aheadB, aheadE, h, if_neg h2, decide_eq_false h2, if_true, Bool.true_and, Bool.false_and]
theorem ahead_in {l : List Access} {a b : Int} {c : Bool} (h : mayOk l = true) (h2 : 0 ≤ a ∧ a < l.length ∧ 0 ≤ b ∧ b < l.length) (hc : c = (decide (a ≠ b) && ahd l a.toNat b.toNat)) : Ending.returned (.tuple #[.bool c, .int .i64 0]) = .returned (.tuple #[.bool (aheadB l a b), .int .i64 (aheadE l a b)]) := by
  simp only [aheadB, aheadE, h, if_pos h2, decide_eq_true h2, if_true, Bool.true_and, hc]
/-! ### races -/
def touchB (x : Access) : Bool := decide (x.op = 8 ∧ (x.new = 0 ∨ x.new = 1))
def newAt (l : List Access) (i : Nat) : Int := match l[i]? with
  | some x => x.new
  | none => 0
theorem newAt_eq {l : List Access} {i : Nat} {x : Access} (h : l[i]? = some x) : newAt l i = x.new := by simp [newAt, h]
def racy (l : List Access) (x : Access) (b a : Nat) : Bool := (decide (x.new = 1) || decide (newAt l a = 1)) && !ahd l a b
structure RS where
  g : Int → List Nat
  out : List GRace
def rfound (l : List Access) (x : Access) (b : Nat) (as : List Nat) : List GRace := match as.find? (racy l x b) with
  | some a => [⟨a, b⟩]
  | none => []
def rstep (l : List Access) (s : RS) (b : Nat) (x : Access) : RS := if touchB x then ⟨fun k => if k = x.arg then s.g x.arg ++ [b] else s.g k, s.out ++ rfound l x b (s.g x.arg)⟩ else s
def rrun (l : List Access) (n : Nat) : RS := (List.range n).foldl (fun s b => match l[b]? with
  | some x => rstep l s b x
  | none => s) ⟨fun _ => [], []⟩
def races (l : List Access) : List GRace := (rrun l l.length).out
theorem rrun_succ {l : List Access} {n : Nat} {x : Access} (h : l[n]? = some x) : rrun l (n + 1) = rstep l (rrun l n) n x := by
  unfold rrun
  rw [List.range_succ, List.foldl_append]
  simp [h]
theorem rstep_lt {l : List Access} {s : RS} {n : Nat} {x : Access} (h : (∀ k a, a ∈ s.g k → a < n) ∧ (∀ k, (s.g k).length ≤ n) ∧ s.out.length ≤ n) : (∀ k a, a ∈ (rstep l s n x).g k → a < n + 1) ∧ (∀ k, ((rstep l s n x).g k).length ≤ n + 1) ∧ (rstep l s n x).out.length ≤ n + 1 := by
  unfold rstep
  split
  · refine ⟨fun k a ha => ?_, fun k => ?_, ?_⟩
    · simp only at ha
      split at ha
      · rcases List.mem_append.1 ha with h1 | h1
        · have := h.1 _ a h1; omega
        · simp at h1; omega
      · have := h.1 k a ha; omega
    · simp only
      split
      · have := h.2.1 x.arg; simp; omega
      · have := h.2.1 k; omega
    · have := h.2.2
      simp only [rfound]
      split <;> simp <;> omega
  · exact ⟨fun k a ha => by have := h.1 k a ha; omega, fun k => by have := h.2.1 k; omega, by have := h.2.2; omega⟩
theorem rrun_lt (l : List Access) : ∀ n, n ≤ l.length → (∀ k a, a ∈ (rrun l n).g k → a < n) ∧ (∀ k, ((rrun l n).g k).length ≤ n) ∧ (rrun l n).out.length ≤ n
  | 0, _ => ⟨fun k a ha => by simp [rrun] at ha, fun k => by simp [rrun], by simp [rrun]⟩
  | n + 1, hn => by
    have hx : l[n]? = some l[n] := List.getElem?_eq_getElem _
    rw [rrun_succ hx]
    exact rstep_lt (rrun_lt l n (by omega))
def racesR (l : List Access) : List GRace := if mayOk l then races l else []
def mayE (l : List Access) : Int := if mayOk l then 0 else 31
theorem ahd_eq {l : List Access} {a b : Nat} {y : Access} (hy : l[a]? = some y) : ahd l a b = decide (clkAt l a y.thread.toNat ≤ clkAt l b y.thread.toNat) := by rw [ahd, thrAt_eq hy]
theorem racy_n1 {l : List Access} {x y : Access} {a b : Nat} (hy : l[a]? = some y) (h : clkAt l a y.thread.toNat ≤ clkAt l b y.thread.toNat) : racy l x b a = false := by
  rw [racy, ahd_eq hy, decide_eq_true h]; simp
theorem racy_n2 {l : List Access} {x y : Access} {a b : Nat} (hy : l[a]? = some y) (h : ¬ x.new = 1) (h2 : ¬ y.new = 1) : racy l x b a = false := by
  rw [racy, newAt_eq hy, decide_eq_false h, decide_eq_false h2]; rfl
theorem racy_y {l : List Access} {x y : Access} {a b : Nat} (hy : l[a]? = some y) (h : ¬ clkAt l a y.thread.toNat ≤ clkAt l b y.thread.toNat) (h2 : x.new = 1 ∨ y.new = 1) : racy l x b a = true := by
  rw [racy, ahd_eq hy, newAt_eq hy, decide_eq_false h]
  rcases h2 with h2 | h2 <;> simp [h2]
theorem find_step {α : Type} {p : α → Bool} {l : List α} {j : Nat} {a : α} (h : (l.take j).find? p = none) (ha : l[j]? = some a) (hp : p a = false) : (l.take (j + 1)).find? p = none := by
  rw [take_succ_at ha, List.find?_append, h]; simp [hp]
theorem find_hit {α : Type} {p : α → Bool} {l : List α} {j : Nat} {a : α} (h : (l.take j).find? p = none) (ha : l[j]? = some a) (hp : p a = true) : l.find? p = some a := by
  rw [← List.take_append_drop (j + 1) l, take_succ_at ha, List.find?_append, List.find?_append, h]; simp [hp]
theorem rfound_none {l : List Access} {x : Access} {b j : Nat} {as : List Nat} (h : (as.take j).find? (racy l x b) = none) (hj : as.length ≤ j) : rfound l x b as = [] := by
  rw [List.take_of_length_le hj] at h; simp [rfound, h]
theorem rfound_hit {l : List Access} {x : Access} {b j a : Nat} {as : List Nat} (h : (as.take j).find? (racy l x b) = none) (ha : as[j]? = some a) (hp : racy l x b a = true) : rfound l x b as = [⟨a, b⟩] := by
  simp [rfound, find_hit h ha hp]
theorem rstep_yes {l : List Access} {s : RS} {b : Nat} {x : Access} (h : touchB x = true) : rstep l s b x = ⟨fun k => if k = x.arg then s.g x.arg ++ [b] else s.g k, s.out ++ rfound l x b (s.g x.arg)⟩ := if_pos h
theorem rstep_no {l : List Access} {s : RS} {b : Nat} {x : Access} (h : touchB x = false) : rstep l s b x = s := if_neg (by rw [h]; decide)
theorem races_no {l : List Access} (h : mayOk l = false) : racesR l = [] ∧ mayE l = 31 := ⟨if_neg (by rw [h]; decide), if_neg (by rw [h]; decide)⟩
theorem races_yes {l : List Access} (h : mayOk l = true) : racesR l = races l ∧ mayE l = 0 := ⟨if_pos h, if_pos h⟩
theorem touch_iff (x : Access) : touchB x = true ↔ (x.op = 8 ∧ (x.new = 0 ∨ x.new = 1)) := by simp only [touchB, decide_eq_true_eq]
end Go.TL
