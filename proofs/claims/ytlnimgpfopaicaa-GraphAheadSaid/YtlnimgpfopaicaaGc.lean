/-
  What a tree comes to, in plain Lean; walks over a tree's nodes; values behind an interface.
-/
import Derived.Test.YtlnimgpfopaicaaGb
set_option linter.unusedVariables false
set_option linter.unusedSimpArgs false
namespace Go.TL
open Go.RowKit

inductive Oc where
  | val (v : Int)
  | bad (e : GEnd)
deriving DecidableEq
def Oc.isVal : Oc → Bool
  | .val _ => true
  | .bad _ => false
def Oc.num : Oc → Int
  | .val v => v
  | .bad _ => 0
def Oc.trb : Oc → GEnd
  | .val _ => ⟨0, 0⟩
  | .bad e => e
def Oc.fin : Oc → GEnd
  | .val v => ⟨1, v⟩
  | .bad e => e
theorem Oc.of_val {o : Oc} (h : o.isVal = true) : o = .val o.num := by cases o with | val v => rfl | bad e => cases h
theorem Oc.of_bad {o : Oc} (h : o.isVal = false) : o = .bad o.trb := by cases o with | val v => cases h | bad e => rfl
def endV (e : GEnd) : Value := .agg #[.int .i8 e.kind, .int .i64 e.n]
def outV (tv tb : TypeId) : Oc → Value
  | .val v => .iface tv (.int .i64 v)
  | .bad e => .iface tb (endV e)
def ofM (e : GEnd) : Oc := if e.kind = 1 then .val e.n else .bad e
def wr (x : Int) : Int := IntKind.i64.wrap x
def buildM (m : GMaker) (k : Int) : Oc := if 0 < m.panics ∧ k.tmod m.panics = 0 then .bad ⟨3, k⟩ else if 0 < m.fails ∧ k.tmod m.fails = 0 then .bad ⟨2, k⟩ else .val (wr (wr (k * m.mul) + m.add))
def calcM (op one v : Int) : Int := if op = 4 then wr (one + v) else if op = 5 then wr (one - v) else if op = 6 then wr (one * v) else v
def rowM (op one : Int) : Int → List Oc → Oc
  | last, [] => .val last
  | _, .bad e :: _ => .bad e
  | _, .val v :: os => rowM op one (calcM op one v) os
def out0 : Oc := .bad ⟨0, 0⟩
def firstM (os : List Oc) : Oc := match os.find? Oc.isVal with
  | some o => o
  | none => os.getD 0 out0
def withM (m : GMaker) (op v : Int) (os : List Oc) : Oc :=
  if op = 12 then (if v = 0 then os.getD 2 out0 else os.getD 1 out0) else if op = 3 then .val (wr (0 - v)) else if op = 13 then .bad ⟨2, v⟩ else if op = 14 then .bad ⟨3, v⟩
  else if op = 15 then buildM m v else if op = 16 then .val v else rowM op v v (os.drop 1)
def evalN (es : List GEnd) (m : GMaker) (n : GNode) (os : List Oc) : Oc :=
  if n.op = 1 then .val n.n else if n.op = 2 then ofM (es.getD n.n.toNat ⟨0, 0⟩) else if n.op = 11 then firstM os
  else match os.getD 0 out0 with
    | .bad e => .bad e
    | .val v => withM m n.op v os
mutual
def evalT (es : List GEnd) (m : GMaker) : Tr → Oc
  | .node n ks => evalN es m n (evalTs es m ks)
def evalTs (es : List GEnd) (m : GMaker) : List Tr → List Oc
  | [] => []
  | t :: ts => evalT es m t :: evalTs es m ts
end
theorem evalTs_map (es : List GEnd) (m : GMaker) : ∀ ts : List Tr, evalTs es m ts = ts.map (evalT es m)
  | [] => rfl
  | t :: ts => by rw [evalTs, evalTs_map es m ts]; rfl
/-! ### how many kids -/
mutual
def fitT : Tr → Prop
  | .node n ks => n.kids = (ks.length : Int) ∧ fitTs ks
def fitTs : List Tr → Prop
  | [] => True
  | t :: ts => fitT t ∧ fitTs ts
end
theorem fitTs_append : ∀ {a b : List Tr}, fitTs (a ++ b) ↔ fitTs a ∧ fitTs b
  | [], b => by simp [fitTs]
  | t :: a, b => by simp only [List.cons_append, fitTs, fitTs_append, and_assoc]
theorem fitTs_at : ∀ {ts : List Tr} {i : Nat} {t : Tr}, fitTs ts → ts[i]? = some t → fitT t
  | t :: ts, 0, u, h, e => by simp at e; subst e; rw [fitTs] at h; exact h.1
  | t :: ts, i + 1, u, h, e => by rw [fitTs] at h; exact fitTs_at h.2 (by simpa using e)
  | [], i, u, h, e => by simp at e
theorem flats_append : ∀ (a b : List Tr), flats (a ++ b) = flats a ++ flats b
  | [], b => by simp [flats]
  | t :: a, b => by simp [flats, flats_append a b]
theorem lim_lo {op : Int} {len : Nat} {lo hi : Int} {nm : Bool} (h : lim op len = some (lo, hi, nm)) : 0 ≤ lo := by
  unfold lim at h
  (repeat' split at h) <;> first | (simp only [Option.some.injEq, Prod.mk.injEq] at h; omega) | cases h
theorem kidsF_fit {rec : List GNode → Option (Tr × List GNode)} {nm : Bool} (hr : ∀ l t r, rec l = some (t, r) → fitT t) : ∀ (k : Nat) (l : List GNode) (ts : List Tr) (r : List GNode), kidsF rec nm k l = some (ts, r) → fitTs ts
  | 0, l, ts, r, h => by simp [kidsF] at h; obtain ⟨rfl, rfl⟩ := h; simp [fitTs]
  | k + 1, l, ts, r, h => by
    rw [kidsF] at h
    cases e : rec l with
    | none => rw [e] at h; cases h
    | some p =>
      obtain ⟨t, r1⟩ := p
      rw [e] at h
      simp only at h
      split at h
      · cases h
      · cases e2 : kidsF rec nm k r1 with
        | none => rw [e2] at h; cases h
        | some p2 =>
          obtain ⟨ts2, r2⟩ := p2
          rw [e2] at h
          simp only [Option.some.injEq, Prod.mk.injEq] at h
          obtain ⟨rfl, rfl⟩ := h
          rw [fitTs]
          exact ⟨hr _ _ _ e, kidsF_fit hr k r1 ts2 r2 e2⟩
theorem growF_fit : ∀ (fuel : Nat) (l : List GNode) (root : Bool) (t : Tr) (r : List GNode), growF fuel l root = some (t, r) → fitT t
  | 0, l, root, t, r, h => by simp [growF] at h
  | fuel + 1, [], root, t, r, h => by simp [growF] at h
  | fuel + 1, n :: l, root, t, r, h => by
    rw [growF] at h
    split at h
    · cases h
    · rename_i nm hnm
      split at h
      · cases h
      · rename_i ks rest hk
        simp only [Option.some.injEq, Prod.mk.injEq] at h
        obtain ⟨rfl, rfl⟩ := h
        have h1 := (kidsF_flat (fun l t r h => growF_flat fuel l false t r h) _ _ _ _ hk).2.1
        have h2 := kidsF_fit (fun l t r h => growF_fit fuel l false t r h) _ _ _ _ hk
        rw [fitT]
        refine ⟨?_, h2⟩
        unfold nodeOk at hnm
        split at hnm
        · cases hnm
        · rename_i lo hi nm2 hl
          have h0 := lim_lo hl
          split at hnm
          · cases hnm
          · rename_i hno
            have : ¬ n.kids < lo := fun h => hno (.inl h)
            omega
/-! ### places -/
def kidPl (p : Nat) : List Tr → List Int
  | [] => []
  | k :: ks => (p : Int) :: kidPl (p + (flat k).length) ks
theorem kidPl_len : ∀ (p : Nat) (ks : List Tr), (kidPl p ks).length = ks.length
  | p, [] => rfl
  | p, k :: ks => by simp [kidPl, kidPl_len (p + (flat k).length) ks]
theorem kidPl_snoc : ∀ (p : Nat) (ks : List Tr) (k : Tr), kidPl p (ks ++ [k]) = kidPl p ks ++ [((p + (flats ks).length : Nat) : Int)]
  | p, [], k => by simp [kidPl, flats]
  | p, u :: ks, k => by
    simp only [List.cons_append, kidPl, kidPl_snoc (p + (flat u).length) ks k, flats, List.length_append]
    rw [Nat.add_assoc]
theorem kidPl_at (p : Nat) {ks : List Tr} {i : Nat} {k : Tr} (h : ks[i]? = some k) : (kidPl p ks)[i]? = some ((p + (flats (ks.take i)).length : Nat) : Int) := by
  induction ks generalizing p i with
  | nil => simp at h
  | cons u ks ih =>
    cases i with
    | zero => simp [kidPl, flats]
    | succ i =>
      simp only [kidPl, List.getElem?_cons_succ, List.take_succ_cons, flats, List.length_append]
      rw [ih _ (by simpa using h), Nat.add_assoc]
theorem flats_split {ks : List Tr} {i : Nat} {k : Tr} (h : ks[i]? = some k) : flats ks = flats (ks.take i) ++ (flat k ++ flats (ks.drop (i + 1))) := by
  have e : ks.drop i = k :: ks.drop (i + 1) := by
    have hlt := (List.getElem?_eq_some_iff.1 h).1
    rw [List.drop_eq_getElem_cons hlt]
    congr 1
    exact (List.getElem?_eq_some_iff.1 h).2
  conv => lhs; rw [← List.take_append_drop i ks, flats_append, e]
  simp [flats]
/-- the kid's tree lies at its place -/
theorem kid_place {l : List GNode} {p : Nat} {n : GNode} {ks : List Tr} {post : List GNode} (hp : l.drop p = flat (.node n ks) ++ post) {i : Nat} {k : Tr} (h : ks[i]? = some k) : ∃ post', l.drop (p + 1 + (flats (ks.take i)).length) = flat k ++ post' := by
  refine ⟨flats (ks.drop (i + 1)) ++ post, ?_⟩
  have h1 : l.drop (p + 1) = flats ks ++ post := by
    rw [← List.drop_drop, hp]; simp [flat]
  rw [← List.drop_drop, h1, flats_split h]
  simp [List.drop_append]
theorem drop_at {α : Type} {l : List α} {p : Nat} {x : α} {r : List α} (h : l.drop p = x :: r) : l[p]? = some x := by
  have := congrArg (fun z => z[0]?) h
  simpa using this
theorem cons_pos {α : Type} {l : List α} (h : 0 < l.length) : ∃ x r, l = x :: r := by
  cases l with
  | nil => simp at h
  | cons x r => exact ⟨x, r, rfl⟩
/-! ### trees that can be walked -/
mutual
def okT (N : Nat) : Tr → Prop
  | .node n ks => (n.op = 2 → 0 ≤ n.n ∧ n.n < N) ∧ (¬ n.op = 1 → ¬ n.op = 2 → 1 ≤ ks.length) ∧ (n.op = 12 → ks.length = 3) ∧ okTs N ks
def okTs (N : Nat) : List Tr → Prop
  | [] => True
  | t :: ts => okT N t ∧ okTs N ts
end
theorem okTs_at {N : Nat} : ∀ {ts : List Tr} {i : Nat} {t : Tr}, okTs N ts → ts[i]? = some t → okT N t
  | t :: ts, 0, u, h, e => by simp at e; subst e; rw [okTs] at h; exact h.1
  | t :: ts, i + 1, u, h, e => by rw [okTs] at h; exact okTs_at h.2 (by simpa using e)
  | [], i, u, h, e => by simp at e
theorem evalTs_at {es : List GEnd} {m : GMaker} {ks : List Tr} {i : Nat} {k : Tr} (h : ks[i]? = some k) : (evalTs es m ks)[i]? = some (evalT es m k) := by rw [evalTs_map, List.getElem?_map, h]; rfl
theorem evalTs_getD {es : List GEnd} {m : GMaker} {ks : List Tr} {i : Nat} {k : Tr} (h : ks[i]? = some k) : (evalTs es m ks).getD i out0 = evalT es m k := by rw [List.getD_eq_getElem?_getD, evalTs_at h]; rfl
theorem evalTs_inv {es : List GEnd} {m : GMaker} {ks : List Tr} {j : Nat} {u : Oc} (h : (evalTs es m ks)[j]? = some u) : ∃ k, ks[j]? = some k ∧ u = evalT es m k := by
  rw [evalTs_map, List.getElem?_map] at h
  cases e : ks[j]? with
  | none => rw [e] at h; cases h
  | some k => rw [e] at h; exact ⟨k, rfl, (Option.some.inj h).symm⟩
theorem rowM_val {es : List GEnd} {m : GMaker} {ks : List Tr} {j : Nat} {k : Tr} {op one last : Int} (h : ks[j]? = some k) (hv : (evalT es m k).isVal = true) : rowM op one last ((evalTs es m ks).drop j) = rowM op one (calcM op one (evalT es m k).num) ((evalTs es m ks).drop (j + 1)) := by
  have h1 := evalTs_at (es := es) (m := m) h
  have e : (evalTs es m ks).drop j = evalT es m k :: (evalTs es m ks).drop (j + 1) := by
    have hlt := (List.getElem?_eq_some_iff.1 h1).1
    rw [List.drop_eq_getElem_cons hlt]
    congr 1
    exact (List.getElem?_eq_some_iff.1 h1).2
  rw [e]
  conv => lhs; rw [Oc.of_val hv]
  rw [rowM]
theorem rowM_bad {es : List GEnd} {m : GMaker} {ks : List Tr} {j : Nat} {k : Tr} {op one last : Int} (h : ks[j]? = some k) (hv : (evalT es m k).isVal = false) : rowM op one last ((evalTs es m ks).drop j) = evalT es m k := by
  have h1 := evalTs_at (es := es) (m := m) h
  have e : (evalTs es m ks).drop j = evalT es m k :: (evalTs es m ks).drop (j + 1) := by
    have hlt := (List.getElem?_eq_some_iff.1 h1).1
    rw [List.drop_eq_getElem_cons hlt]
    congr 1
    exact (List.getElem?_eq_some_iff.1 h1).2
  rw [e, Oc.of_bad hv, rowM]
theorem evalTs_len {es : List GEnd} {m : GMaker} {ks : List Tr} : (evalTs es m ks).length = ks.length := by rw [evalTs_map, List.length_map]
theorem firstM_at {os : List Oc} {i : Nat} {o : Oc} (h : os[i]? = some o) (hv : o.isVal = true) (hb : ∀ (j : Nat) u, j < i → os[j]? = some u → u.isVal = false) : firstM os = o := by
  unfold firstM
  have : os.find? Oc.isVal = some o := by
    rw [List.find?_eq_some_iff_getElem]
    obtain ⟨h1, h2⟩ := List.getElem?_eq_some_iff.1 h
    exact ⟨hv, i, h1, h2, fun j hj => by rw [hb j _ hj (List.getElem?_eq_getElem (by omega))]; rfl⟩
  rw [this]
theorem firstM_no {os : List Oc} (hb : ∀ (j : Nat) u, os[j]? = some u → u.isVal = false) : firstM os = os.getD 0 out0 := by
  unfold firstM
  have : os.find? Oc.isVal = none := by
    rw [List.find?_eq_none]
    intro x hx
    obtain ⟨j, hj⟩ := List.getElem?_of_mem hx
    rw [hb j x hj]; decide
  rw [this]
theorem evalN_first {es : List GEnd} {m : GMaker} {n : GNode} {os : List Oc} (h : n.op = 11) : evalN es m n os = firstM os := by unfold evalN; rw [if_neg (by omega), if_neg (by omega), if_pos h]
theorem evalN_with {es : List GEnd} {m : GMaker} {n : GNode} {os : List Oc} {o : Oc} (h : ¬ n.op = 1) (h2 : ¬ n.op = 2) (h3 : ¬ n.op = 11) (ho : os.getD 0 out0 = o) (hv : o.isVal = true) : evalN es m n os = withM m n.op o.num os := by
  unfold evalN; rw [if_neg h, if_neg h2, if_neg h3, ho, Oc.of_val hv]
  simp only [Oc.num]
theorem evalN_bad {es : List GEnd} {m : GMaker} {n : GNode} {os : List Oc} {o : Oc} (h : ¬ n.op = 1) (h2 : ¬ n.op = 2) (h3 : ¬ n.op = 11) (ho : os.getD 0 out0 = o) (hv : o.isVal = false) : evalN es m n os = .bad o.trb := by
  unfold evalN; rw [if_neg h, if_neg h2, if_neg h3, ho, Oc.of_bad hv]
  simp only [Oc.trb]
/-! ### a walk in memory -/
structure WIn where
  ta : Option Addr
  tc : Nat
  ea : Option Addr
  ec : Nat
def wkL (v : WIn) (l : List GNode) (es : List GEnd) (m : GMaker) : List Value := [.slice v.ta l.length v.tc, .slice v.ea es.length v.ec, .int .i64 m.mul, .int .i64 m.add, .int .i64 m.fails, .int .i64 m.panics]
structure RdWalk (e : TypeId) (w : World) (b : Nat) (v : WIn) (l : List GNode) (es : List GEnd) (m : GMaker) : Prop where
  blk : w.heap[b]? = some (.cells (wkL v l es m).toArray e (0, 0))
  tree : Rd tNode w v.ta l
  ends : Rd tEnd w v.ea es
  small : l.length ≤ 1048576
theorem RdWalk.ext {e : TypeId} {w w' : World} {b : Nat} {v : WIn} {l : List GNode} {es : List GEnd} {m : GMaker} (h : RdWalk e w b v l es m) (x : Ext w w') : RdWalk e w' b v l es m := ⟨x.heap h.blk, h.tree.ext x, h.ends.ext x, h.small⟩
theorem loadBN {P : Program} {w : World} {t : TypeId} {b off k : Nat} {cs vs : List Value} {e : TypeId} (h : SzT P t k true) (hb : w.heap[b]? = some (.cells cs.toArray e (0, 0))) (hv : (cs.drop off).take k = vs) (hk : vs.length = k) : (loadVar t ⟨b, off, none⟩).run P w = .ok (.agg vs.toArray) w :=
  loadVar_agg _ h hk fun j v hj => by
    rw [addLit]
    subst hv
    refine blk_cell hb (off + j) ?_
    rw [List.getElem?_take] at hj
    split at hj
    · rw [List.getElem?_drop] at hj; exact hj
    · cases hj
/-! ### values behind an interface -/
section
variable {P : Program} {f : Fm} {w w0 : World} {L : List HA} {K : Value → World → Prop} {Qp : List PanicEntry → World → Prop} {d : Option Nat} {ty : TypeId} {pos : String} {aft : Array Edge} {g : Option (Nat × Bool)}
theorem Y.mkI {t : TypeId} {X : Operand} {v : Value} {T : TypeDesc} (hu : P.underlying t = some T) (hT : ∀ ms, T ≠ .interface ms) (hx : ev f X = v) : Yl P ⟨d, .makeInterface t X, ty, pos, aft, g⟩ f w (.iface t v) := by
  unfold Yl
  cases T <;> simp_all [execOp, Instr.makeInterface, run_underlying hu]
theorem Y.asrtV {tv tb xt : TypeId} {X : Operand} {o : Oc} {k : IntKind} (hu : P.underlying tv = some (.int k)) (hz : ∀ w, (zeroValue tv).run P w = .ok (.int .i64 0) w) (hne : ¬ tb = tv) (hx : ev f X = outV tv tb o) : Yl P ⟨d, .typeAssert X xt tv true, ty, pos, aft, g⟩ f w (.tuple #[.int .i64 o.num, .bool o.isVal]) := by
  unfold Yl
  cases o <;> simp [execOp, hx, outV, Instr.typeAssert, run_underlying hu, hne, hz, Oc.num, Oc.isVal]
theorem Y.asrtB {tv tb xt : TypeId} {X : Operand} {o : Oc} {fs : Array Field} (hu : P.underlying tb = some (.struct fs)) (hz : ∀ w, (zeroValue tb).run P w = .ok (endV ⟨0, 0⟩) w) (hne : ¬ tv = tb) (hx : ev f X = outV tv tb o) : Yl P ⟨d, .typeAssert X xt tb true, ty, pos, aft, g⟩ f w (.tuple #[endV o.trb, .bool (!o.isVal)]) := by
  unfold Yl
  cases o <;> simp [execOp, hx, outV, Instr.typeAssert, run_underlying hu, hne, hz, Oc.trb, Oc.isVal]
theorem Y.rem {X Y : Operand} {t t' : TypeId} {k : IntKind} {x y : Int} (hx : ev f X = .int k x) (hy : ev f Y = .int k y) (h0 : ¬ y = 0) : Yl P ⟨d, .binOp .rem t X Y t', ty, pos, aft, g⟩ f w (.int k (x.tmod y)) := by
  unfold Yl; simp [execOp, hx, hy, binOp, Op.intDiv, eqGuard, h0]
/-- a method of what lies behind an interface -/
theorem O.invoke {F : FuncId} {X : Operand} {name : String} {ts : Array TypeId} {t : TypeId} {v : Value} {R : Ending → World → Prop} (hm : ∀ w, (callMethod (.iface t v) name #[]).run P w = .ok (.enter F #[v]) w) (hX : ev f X = .iface t v) (hC : Calls P F #[v] w R) (h : ∀ e w', R e w' → ∃ v, e = .returned v ∧ K v w') : OpK P ⟨d, .call { callee := .invoke X name, args := #[], argTypes := ts }, ty, pos, aft, g⟩ f w K Qp := by
  have hr : (execOp (ev f) ⟨d, .call { callee := .invoke X name, args := #[], argTypes := ts }, ty, pos, aft, g⟩).run P w = .ok (.enter F #[v]) w := by
    have := hm w
    simp [execOp, resolve, hX, Go.invoke, this]
  unfold OpK
  rw [hr]
  exact hC.mono fun e w' he => by obtain ⟨v, rfl, hk⟩ := h e w' he; exact hk
/-- how an outcome ends -/
theorem O.endOf {F1 F2 : FuncId} {tv tb : TypeId} {X : Operand} {name : String} {ts : Array TypeId} {o : Oc} (h1 : ∀ v w, (callMethod (.iface tv (.int .i64 v)) name #[]).run P w = .ok (.enter F1 #[.int .i64 v]) w) (h2 : ∀ e w, (callMethod (.iface tb (endV e)) name #[]).run P w = .ok (.enter F2 #[endV e]) w)
    (hC1 : ∀ v, Calls P F1 #[.int .i64 v] w (fun r w' => r = .returned (endV ⟨1, v⟩) ∧ Ext w w')) (hC2 : ∀ e, Calls P F2 #[endV e] w (fun r w' => r = .returned (endV e) ∧ Ext w w')) (hX : ev f X = outV tv tb o) (h : ∀ w', Ext w w' → K (endV o.fin) w') : OpK P ⟨d, .call { callee := .invoke X name, args := #[], argTypes := ts }, ty, pos, aft, g⟩ f w K Qp := by
  cases o with
  | val v => exact TL.O.invoke (h1 v) hX (hC1 v) fun e w' he => by obtain ⟨rfl, x⟩ := he; exact ⟨_, rfl, h w' x⟩
  | bad e => exact TL.O.invoke (h2 e) hX (hC2 e) fun e w' he => by obtain ⟨rfl, x⟩ := he; exact ⟨_, rfl, h w' x⟩
end
end Go.TL
