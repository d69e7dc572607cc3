/-
  More operations: entries of a map that is laid whole, bytes of a string, pointers.
-/
import Derived.Test.YtlnimgpfopaicaaGa
set_option linter.unusedVariables false
set_option linter.unusedSimpArgs false
namespace Go.TL
open Go.RowKit

section
variable {P : Program} {f : Fm} {w w0 : World} {L : List HA} {K : Value → World → Prop} {Qp : List PanicEntry → World → Prop} {d : Option Nat} {ty : TypeId} {pos : String} {aft : Array Edge} {g : Option (Nat × Bool)}
theorem O.insert {κ β : Type} [DecidableEq κ] {kv : κ → Value} {vv : β → Value} {m : κ → Option β} {mt kt e : TypeId} {b : Nat} {X I V : Operand} (k : κ) (y : β) (hu : P.underlying mt = some (.map kt e)) (hk : KeyOk P kt kv) (i : Nat) (S : Sat w0 w L) (hx : ev f X = .map (some b)) (hi : L[i]? = some (MapF b kv vv m)) (hkk : ev f I = kv k) (hv : ev f V = vv y)
    (h : ∀ w', Sat w0 w' (L.set i (MapF b kv vv (mset m k y))) → K undef w') : OpK P ⟨d, .insert mt X I V, ty, pos, aft, g⟩ f w K Qp :=
  O.mapUpdate (d := d) (ty := ty) (pos := pos) (aft := aft) (g := g) (Qp := Qp) k y hu hk i S hx hi hkk hv h
theorem ba_size (s : ByteArray) : s.size = s.data.toList.length := (Array.length_toList (xs := s.data)).symm
theorem ba_get (s : ByteArray) (i : Nat) : s[i]? = s.data.toList[i]? := by
  by_cases h : i < s.size
  · rw [getElem?_pos s i h, List.getElem?_eq_getElem (by rw [← ba_size]; exact h)]
    rfl
  · rw [getElem?_neg s i h, List.getElem?_eq_none (by rw [← ba_size]; omega)]
theorem Y.indexS {t : TypeId} {X I : Operand} {k : IntKind} {s : ByteArray} {i : Nat} {b : UInt8} (hu : P.underlying t = some .string) (hx : ev f X = .string s) (hi : ev f I = .int k (i : Int)) (hb : s.data.toList[i]? = some b) : Yl P ⟨d, .index t X I, ty, pos, aft, g⟩ f w (.int .u8 (b.toNat : Int)) := by
  have h0 : s[i]? = some b := by rw [ba_get]; exact hb
  unfold Yl
  simp [execOp, hx, hi, Instr.index, run_underlying hu, asIntOf, h0]
end
/-! ### trees that are read -/
mutual
def RdTree (e : TypeId) (w : World) : Nat → Tr → Prop
  | b, .node n ks => ∃ (ka : Option Addr) (kc : Nat) (bs : List Nat), w.heap[b]? = some (.cells (treeL n ks.length ka kc).toArray e (0, 0)) ∧ Rd tPtr w ka bs ∧ RdTrees e w bs ks
def RdTrees (e : TypeId) (w : World) : List Nat → List Tr → Prop
  | [], [] => True
  | b :: bs, t :: ts => RdTree e w b t ∧ RdTrees e w bs ts
  | [], _ :: _ => False
  | _ :: _, [] => False
end
mutual
theorem RdTree.ext {e : TypeId} {w w' : World} (x : Ext w w') : ∀ {b : Nat} {t : Tr}, RdTree e w b t → RdTree e w' b t
  | b, .node n ks, h => by
    rw [RdTree] at h ⊢
    obtain ⟨ka, kc, bs, h1, h2, h3⟩ := h
    exact ⟨ka, kc, bs, x.heap h1, h2.ext x, RdTrees.ext x h3⟩
theorem RdTrees.ext {e : TypeId} {w w' : World} (x : Ext w w') : ∀ {bs : List Nat} {ts : List Tr}, RdTrees e w bs ts → RdTrees e w' bs ts
  | [], [], _ => by rw [RdTrees]; trivial
  | b :: bs, t :: ts, h => by
    rw [RdTrees] at h ⊢
    exact ⟨RdTree.ext x h.1, RdTrees.ext x h.2⟩
  | [], _ :: _, h => by rw [RdTrees] at h; exact h.elim
  | _ :: _, [], h => by rw [RdTrees] at h; exact h.elim
end
mutual
theorem Sat.rdTree {w0 w : World} {L : List HA} {P : HA} {e : TypeId} (S : Sat w0 w L) (i : Nat) (hi : L[i]? = some P) : ∀ {b : Nat} {t : Tr}, HasTree e P b t → RdTree e w b t
  | b, .node n ks, h => by
    rw [HasTree] at h
    rw [RdTree]
    obtain ⟨ka, kc, bs, h1, h2, h3⟩ := h
    exact ⟨ka, kc, bs, S.hasBlk i hi h1, S.reads i hi h2, Sat.rdTrees S i hi h3⟩
theorem Sat.rdTrees {w0 w : World} {L : List HA} {P : HA} {e : TypeId} (S : Sat w0 w L) (i : Nat) (hi : L[i]? = some P) : ∀ {bs : List Nat} {ts : List Tr}, HasTrees e P bs ts → RdTrees e w bs ts
  | [], [], _ => by rw [RdTrees]; trivial
  | b :: bs, t :: ts, h => by
    rw [HasTrees] at h
    rw [RdTrees]
    exact ⟨Sat.rdTree S i hi h.1, Sat.rdTrees S i hi h.2⟩
  | [], _ :: _, h => by rw [HasTrees] at h; exact h.elim
  | _ :: _, [], h => by rw [HasTrees] at h; exact h.elim
end
theorem RdTrees.len {e : TypeId} {w : World} : ∀ {bs : List Nat} {ts : List Tr}, RdTrees e w bs ts → bs.length = ts.length
  | [], [], _ => rfl
  | b :: bs, t :: ts, h => by rw [RdTrees] at h; simp [RdTrees.len h.2]
  | [], _ :: _, h => by rw [RdTrees] at h; exact h.elim
  | _ :: _, [], h => by rw [RdTrees] at h; exact h.elim
theorem RdTrees.at {e : TypeId} {w : World} : ∀ {bs : List Nat} {ts : List Tr} {i : Nat} {b : Nat} {t : Tr}, RdTrees e w bs ts → bs[i]? = some b → ts[i]? = some t → RdTree e w b t
  | b :: bs, t :: ts, 0, _, _, h, h1, h2 => by
    rw [RdTrees] at h
    simp at h1 h2; subst h1; subst h2; exact h.1
  | b :: bs, t :: ts, i + 1, _, _, h, h1, h2 => by
    rw [RdTrees] at h
    exact RdTrees.at h.2 (by simpa using h1) (by simpa using h2)
  | [], ts, i, _, _, _, h1, _ => by simp at h1
  | _ :: _, [], i, _, _, h, _, _ => by rw [RdTrees] at h; exact h.elim
theorem RdTree.blk {e : TypeId} {w : World} {b : Nat} {t : Tr} (h : RdTree e w b t) : ∃ ka kc, w.heap[b]? = some (.cells (treeL t.root t.ks.length ka kc).toArray e (0, 0)) := by
  cases t with | node n ks =>
  rw [RdTree] at h
  obtain ⟨ka, kc, bs, h1, _⟩ := h
  exact ⟨ka, kc, h1⟩
theorem RdTree.kids {e : TypeId} {w : World} {b : Nat} {n : GNode} {ks : List Tr} (h : RdTree e w b (.node n ks)) : ∃ (ka : Option Addr) (kc : Nat) (bs : List Nat), w.heap[b]? = some (.cells (treeL n ks.length ka kc).toArray e (0, 0)) ∧ Rd tPtr w ka bs ∧ bs.length = ks.length ∧ ∀ (i : Nat) (k : Tr), ks[i]? = some k → ∃ c, bs[i]? = some c ∧ RdTree e w c k := by
  rw [RdTree] at h
  obtain ⟨ka, kc, bs, h1, h2, h3⟩ := h
  refine ⟨ka, kc, bs, h1, h2, h3.len, fun i k hk => ?_⟩
  obtain ⟨c, hc⟩ := at_ex (xs := bs) (k := i) (by rw [h3.len]; exact at_lt hk)
  exact ⟨c, hc, h3.at hc hk⟩
theorem flats_ge : ∀ (ks : List Tr), ks.length ≤ (flats ks).length
  | [] => by simp [flats]
  | k :: ks => by
    have := flats_ge ks
    have := flat_pos k
    simp only [flats, List.length_append, List.length_cons]; omega
theorem rankM_bd (op : Int) : 1 ≤ rankM op ∧ rankM op ≤ 4 := by unfold rankM; (repeat' split) <;> omega
theorem Y.max3 {P : Program} {f : Fm} {w : World} {d : Option Nat} {ty : TypeId} {pos : String} {aft : Array Edge} {g : Option (Nat × Bool)} {X Y Z : Operand} {ts : Array TypeId} {k : IntKind} {x y z : Int} (hx : ev f X = .int k x) (hy : ev f Y = .int k y) (hz : ev f Z = .int k z) : Yl P ⟨d, .call { callee := .builtin .max, args := #[X, Y, Z], argTypes := ts }, ty, pos, aft, g⟩ f w (.int k (max (max x y) z)) := by
  unfold Yl
  rw [show max (max x y) z = (if z > (if y > x then y else x) then z else (if y > x then y else x)) by omega]
  simp [execOp, resolve, invoke, builtin, hx, hy, hz, Builtin.max_, Builtin.max2, List.foldlM]
theorem deepK_step {op d x y a2 y' : Int} {ks : List Tr} {i : Nat} {k : Tr} (h : ks[i]? = some k) (ha : a2 = if wrapM op i k.root.op = true then (if rankM op < 3 ∧ i = 1 then d + y else d) + 1 else if rankM op < 3 ∧ i = 1 then d + y else d)
    (hy : y' = if i = 0 ∧ rankM op < 3 ∧ rankM k.root.op = rankM op then (deepM k a2).2 else y) : deepK op d i (ks.drop i) (x, y) = deepK op d (i + 1) (ks.drop (i + 1)) (max (max x (deepM k a2).1) a2, y') := by
  have e : ks.drop i = k :: ks.drop (i + 1) := by
    have hlt := (List.getElem?_eq_some_iff.1 h).1
    rw [List.drop_eq_getElem_cons hlt]
    congr 1
    exact (List.getElem?_eq_some_iff.1 h).2
  rw [e, deepK, hy, ha]
/-! ### growing -/
section
variable {rec : List GNode → Option (Tr × List GNode)} {nm : Bool}
theorem kidsF_none {k : Nat} {l : List GNode} (hk : 0 < k) (h : rec l = none) : kidsF rec nm k l = none := by
  obtain ⟨k, rfl⟩ : ∃ j, k = j + 1 := ⟨k - 1, by omega⟩
  rw [kidsF, h]
theorem kidsF_bad {k : Nat} {l r : List GNode} {t : Tr} (hk : 0 < k) (h : rec l = some (t, r)) (hn : nm = true) (ho : ¬ t.root.op = 2) : kidsF rec nm k l = none := by
  obtain ⟨k, rfl⟩ : ∃ j, k = j + 1 := ⟨k - 1, by omega⟩
  rw [kidsF, h]
  simp only [hn, ho, not_false_eq_true, and_self, if_true]
theorem kidsF_go {k : Nat} {l r : List GNode} {t : Tr} (hk : 0 < k) (h : rec l = some (t, r)) (hn : ¬ (nm = true ∧ ¬ t.root.op = 2)) : kidsF rec nm k l = (kidsF rec nm (k - 1) r).map (fun p => (t :: p.1, p.2)) := by
  obtain ⟨k, rfl⟩ : ∃ j, k = j + 1 := ⟨k - 1, by omega⟩
  rw [kidsF, h]
  simp only [hn, if_false, Nat.add_sub_cancel]
  cases kidsF rec nm k r <;> rfl
/-- behind i kids, the trees ts so far -/
def KidsAt (rec : List GNode → Option (Tr × List GNode)) (nm : Bool) (K : Nat) (l0 : List GNode) (i : Nat) (ts : List Tr) (lr : List GNode) : Prop := ts.length = i ∧ lr.length ≤ l0.length ∧ kidsF rec nm K l0 = (kidsF rec nm (K - i) lr).map (fun p => (ts ++ p.1, p.2))
theorem KidsAt.zero (K : Nat) (l0 : List GNode) : KidsAt rec nm K l0 0 [] l0 := ⟨rfl, Nat.le_refl _, by simp⟩
variable {K i : Nat} {l0 lr r : List GNode} {ts : List Tr} {t : Tr}
theorem KidsAt.fin (h : KidsAt rec nm K l0 i ts lr) (hi : K ≤ i) : kidsF rec nm K l0 = some (ts, lr) := by
  rw [h.2.2, show K - i = 0 by omega]; simp [kidsF]
theorem KidsAt.none (h : KidsAt rec nm K l0 i ts lr) (hi : i < K) (e : rec lr = none) : kidsF rec nm K l0 = .none := by
  rw [h.2.2, kidsF_none (by omega) e]; rfl
theorem KidsAt.bad (h : KidsAt rec nm K l0 i ts lr) (hi : i < K) (e : rec lr = some (t, r)) (hn : nm = true) (ho : ¬ t.root.op = 2) : kidsF rec nm K l0 = .none := by
  rw [h.2.2, kidsF_bad (by omega) e hn ho]; rfl
theorem KidsAt.go (h : KidsAt rec nm K l0 i ts lr) (hi : i < K) (e : rec lr = some (t, r)) (hr : lr = flat t ++ r) (hn : ¬ (nm = true ∧ ¬ t.root.op = 2)) : KidsAt rec nm K l0 (i + 1) (ts ++ [t]) r := by
  refine ⟨by simp [h.1], by have := h.2.1; rw [hr, List.length_append] at this; omega, ?_⟩
  rw [h.2.2, kidsF_go (by omega) e hn, show K - (i + 1) = K - i - 1 by omega]
  cases kidsF rec nm (K - i - 1) r <;> simp
end
theorem growF_lim {fuel : Nat} {n : GNode} {r : List GNode} {root : Bool} (h : lim n.op (r.length + 1) = none) : growF (fuel + 1) (n :: r) root = none := by
  rw [growF]; unfold nodeOk; rw [h]
def okC (n : GNode) (lo hi : Int) (root : Bool) : Prop := n.kids < lo ∨ hi < n.kids ∨ n.at_ < 0 ∨ bareB n = false ∨ (root = false ∧ (n.op = 17 ∨ n.op = 18))
instance (n : GNode) (lo hi : Int) (root : Bool) : Decidable (okC n lo hi root) := by unfold okC; infer_instance
theorem growF_bad {fuel : Nat} {n : GNode} {r : List GNode} {root nm : Bool} {lo hi : Int} (h : lim n.op (r.length + 1) = some (lo, hi, nm)) (hb : okC n lo hi root) : growF (fuel + 1) (n :: r) root = none := by
  rw [growF]; unfold nodeOk; rw [h]
  unfold okC at hb
  simp only [if_pos hb]
theorem growF_go {fuel : Nat} {n : GNode} {r : List GNode} {root nm : Bool} {lo hi : Int} (h : lim n.op (r.length + 1) = some (lo, hi, nm)) (hb : ¬ okC n lo hi root) : growF (fuel + 1) (n :: r) root = (kidsF (fun l => growF fuel l false) nm n.kids.toNat r).map (fun p => (.node n p.1, p.2)) := by
  rw [growF]; unfold nodeOk; rw [h]
  unfold okC at hb
  simp only [if_neg hb]
  cases kidsF (fun l => growF fuel l false) nm n.kids.toNat r <;> rfl
theorem lim_none {op : Int} {len : Nat} (h : ¬ (op = 1 ∨ op = 2 ∨ op = 3 ∨ op = 13 ∨ op = 14 ∨ op = 15 ∨ op = 16 ∨ op = 18 ∨ op = 4 ∨ op = 5 ∨ op = 6 ∨ op = 12 ∨ op = 10 ∨ op = 11 ∨ op = 17)) : lim op len = none := by
  unfold lim
  (repeat' split) <;> first | rfl | (exfalso; omega)
theorem lim_bd {op : Int} {len : Nat} {lo hi : Int} {nm : Bool} (h : lim op len = some (lo, hi, nm)) (hl : 1 ≤ len) : 0 ≤ lo ∧ hi ≤ 3 + (len : Int) := by
  unfold lim at h
  (repeat' split at h) <;> first | (simp only [Option.some.injEq, Prod.mk.injEq] at h; omega) | cases h
/-- what grown answers -/
def GrowR (w0 : World) (e : TypeId) (M : HA) (p : Option Addr) (ra : Option Addr) (rn rc : Nat) : Option (Tr × List GNode) → Prop
  | none => p = none ∧ ra = none ∧ rn = 0 ∧ rc = 0
  | some (t, r) => ∃ b, p = some ⟨b, 0, none⟩ ∧ rn = r.length ∧ HasTree e M b t ∧ Rd tNode w0 ra r ∧ r.length ≤ rc
theorem GrowR.none {w0 : World} {e : TypeId} {M : HA} {p ra : Option Addr} {rn rc : Nat} {g : Option (Tr × List GNode)} (h : GrowR w0 e M p ra rn rc g) (hp : p.isNone = true) : g = .none := by
  cases g with
  | none => rfl
  | some x => obtain ⟨b, rfl, _⟩ := h; cases hp
theorem GrowR.some {w0 : World} {e : TypeId} {M : HA} {p ra : Option Addr} {rn rc : Nat} {g : Option (Tr × List GNode)} (h : GrowR w0 e M p ra rn rc g) (hp : p.isNone = false) : ∃ t r b, g = .some (t, r) ∧ p = .some ⟨b, 0, .none⟩ ∧ rn = r.length ∧ HasTree e M b t ∧ Rd tNode w0 ra r ∧ r.length ≤ rc := by
  cases g with
  | none => obtain ⟨rfl, _⟩ := h; cases hp
  | some x => obtain ⟨b, h⟩ := h; exact ⟨x.1, x.2, b, rfl, h⟩
/-! ### a let is sound -/
section
variable {x : GLet} {n : Nat} {names : ByteArray → Bool}
def manyK (x : GLet) : Bool := x.tree.any (fun k => decide (16 < k.kids))
def refK (x : GLet) (n : Nat) : Bool := x.tree.any (fun k => decide (k.op = 2 ∧ (k.n < 0 ∨ (n : Int) ≤ k.n)))
theorem soundM_many (h : 4096 ≤ n) : soundM x n names = 34 := by rw [soundM, if_pos h]
theorem soundM_name (h : ¬ 4096 ≤ n) (h2 : isNameM x.name = false ∨ names x.name = true) : soundM x n names = 43 := by rw [soundM, if_neg h, if_pos h2]
theorem soundM_none (h : ¬ 4096 ≤ n) (h2 : isNameM x.name = true) (h2' : names x.name = false) (hg : growF (x.tree.length + 1) x.tree true = none) : soundM x n names = 1 := by
  rw [soundM, if_neg h, if_neg (by simp [h2, h2'])]; unfold growT; rw [hg]
variable {t : Tr} {r : List GNode}
theorem soundM_rest (h : ¬ 4096 ≤ n) (h2 : isNameM x.name = true) (h2' : names x.name = false) (hg : growF (x.tree.length + 1) x.tree true = some (t, r)) (h3 : 0 < r.length ∨ x.at_ < 0) : soundM x n names = 1 := by
  rw [soundM, if_neg h, if_neg (by simp [h2, h2'])]; unfold growT; rw [hg]; simp only [if_pos h3]
theorem soundM_args (h : ¬ 4096 ≤ n) (h2 : isNameM x.name = true) (h2' : names x.name = false) (hg : growF (x.tree.length + 1) x.tree true = some (t, r)) (h3 : ¬ (0 < r.length ∨ x.at_ < 0)) (h4 : manyK x = true) : soundM x n names = 44 := by
  unfold manyK at h4
  rw [soundM, if_neg h, if_neg (by simp [h2, h2'])]; unfold growT; rw [hg]; simp only [if_neg h3, h4, if_true]
theorem soundM_ref (h : ¬ 4096 ≤ n) (h2 : isNameM x.name = true) (h2' : names x.name = false) (hg : growF (x.tree.length + 1) x.tree true = some (t, r)) (h3 : ¬ (0 < r.length ∨ x.at_ < 0)) (h4 : manyK x = false) (h5 : refK x n = true) : soundM x n names = 43 := by
  unfold manyK at h4; unfold refK at h5
  rw [soundM, if_neg h, if_neg (by simp [h2, h2'])]; unfold growT; rw [hg]; simp only [if_neg h3, h4, Bool.false_eq_true, if_false, h5, if_true]
theorem soundM_end (h : ¬ 4096 ≤ n) (h2 : isNameM x.name = true) (h2' : names x.name = false) (hg : growF (x.tree.length + 1) x.tree true = some (t, r)) (h3 : ¬ (0 < r.length ∨ x.at_ < 0)) (h4 : manyK x = false) (h5 : refK x n = false) : soundM x n names = if 64 < (deepM t 0).1 then 42 else 0 := by
  unfold manyK at h4; unfold refK at h5
  rw [soundM, if_neg h, if_neg (by simp [h2, h2'])]; unfold growT; rw [hg]; simp only [if_neg h3, h4, Bool.false_eq_true, if_false, h5]
end
theorem any_at {α : Type} {f : α → Bool} {l : List α} {i : Nat} {x : α} (h : l[i]? = some x) (hf : f x = true) : l.any f = true := List.any_eq_true.2 ⟨x, List.mem_of_getElem? h, hf⟩
theorem any_none {α : Type} {f : α → Bool} {l : List α} (h : ∀ (j : Nat) x, l[j]? = some x → f x = false) : l.any f = false := List.any_eq_false.2 fun x hx => by
  obtain ⟨j, hj⟩ := List.getElem?_of_mem hx
  rw [h j x hj]; decide
/-! ### check -/
theorem find_at {n i : Nat} {p : Nat → Bool} (hi : i < n) (hp : p i = true) (hb : ∀ j, j < i → p j = false) : (List.range n).find? p = some i := by
  rw [List.find?_range_eq_some]
  exact ⟨hp, List.mem_range.2 hi, fun j hj => by rw [hb j hj]; rfl⟩
theorem find_no {n : Nat} {p : Nat → Bool} (hb : ∀ j, j < n → p j = false) : (List.range n).find? p = none := by
  rw [List.find?_eq_none]
  intro j hj
  rw [hb j (List.mem_range.1 hj)]; decide
theorem checkM_let {f : GFlow} {i : Nat} (hb : ∀ j, j < i → badLet f.lets j = 0) (hi : i < f.lets.length) (h : ¬ badLet f.lets i = 0) : checkM f = (badLet f.lets i, (i : Int)) := by
  unfold checkM
  rw [find_at hi (by simp [h]) (fun j hj => by simp [hb j hj])]
theorem checkM_out {f : GFlow} {i : Nat} (hb : ∀ j, j < f.lets.length → badLet f.lets j = 0) (hb2 : ∀ j, j < i → badOut f j = 0) (hi : i < f.outs.length) (h : ¬ badOut f i = 0) : checkM f = (badOut f i, (f.lets.length : Int) + (i : Int)) := by
  unfold checkM
  rw [find_no (fun j hj => by simp [hb j hj])]
  simp only
  rw [find_at hi (by simp [h]) (fun j hj => by simp [hb2 j hj])]
theorem checkM_ok {f : GFlow} (hb : ∀ j, j < f.lets.length → badLet f.lets j = 0) (hb2 : ∀ j, j < f.outs.length → badOut f j = 0) : checkM f = (0, 0) := by
  unfold checkM
  rw [find_no (fun j hj => by simp [hb j hj])]
  simp only
  rw [find_no (fun j hj => by simp [hb2 j hj])]
theorem badLet_at {ls : List GLet} {i : Nat} {x : GLet} (h : ls[i]? = some x) : badLet ls i = soundM x i (namesOf ls i) := by unfold badLet; rw [h]
theorem namesOf_zero (ls : List GLet) (s : ByteArray) : namesOf ls 0 s = false := by simp [namesOf]
theorem namesOf_succ {ls : List GLet} {i : Nat} {x : GLet} {m : ByteArray → Option Bool} (hm : ∀ s, (m s).getD false = namesOf ls i s) (h : ls[i]? = some x) : ∀ s, (mset m x.name true s).getD false = namesOf ls (i + 1) s := by
  intro s
  unfold namesOf
  rw [take_succ_at h, List.any_append]
  have h2 := hm s
  unfold namesOf at h2
  rw [← h2]
  unfold mset
  by_cases e : s = x.name
  · simp [e]
  · have e2 : ¬ x.name = s := fun h => e h.symm
    simp [e, e2]
theorem badOut_many {f : GFlow} {i : Nat} (h : 4096 ≤ i) : badOut f i = 34 := by unfold badOut; rw [if_pos h]
theorem badOut_bad {f : GFlow} {i : Nat} {n : Int} (h : ¬ 4096 ≤ i) (hn : f.outs[i]? = some n) (hb : n < 0 ∨ (f.lets.length : Int) ≤ n) : badOut f i = 43 := by unfold badOut; rw [if_neg h, hn]; simp only [if_pos hb]
theorem badOut_ok {f : GFlow} {i : Nat} {n : Int} (h : ¬ 4096 ≤ i) (hn : f.outs[i]? = some n) (hb : ¬ (n < 0 ∨ (f.lets.length : Int) ≤ n)) : badOut f i = 0 := by unfold badOut; rw [if_neg h, hn]; simp only [if_neg hb]
/-- a flow as it is handed in -/
structure FIn where
  la : Option Addr
  lc : Nat
  oa : Option Addr
  oc : Nat
def fL (v : FIn) (f : GFlow) : List Value := [.slice v.la f.lets.length v.lc, .slice v.oa f.outs.length v.oc]
structure RdFlow (w : World) (v : FIn) (f : GFlow) : Prop where
  lets : RdLets w v.la f.lets
  outs : Rd (tI .i64) w v.oa f.outs
  lc : f.lets.length ≤ v.lc
  oc : f.outs.length ≤ v.oc
  ln : f.lets.length ≤ 1048576
  on : f.outs.length ≤ 2147483647
  tn : ∀ (i : Nat) x, f.lets[i]? = some x → x.tree.length ≤ 1048576
theorem RdFlow.ext {w w' : World} {v : FIn} {f : GFlow} (h : RdFlow w v f) (e : Ext w w') : RdFlow w' v f := ⟨h.lets.ext e, h.outs.ext e, h.lc, h.oc, h.ln, h.on, h.tn⟩
theorem RawOk.get {w : World} {raws : List RLet} {ls : List GLet} (h : RawOk w raws ls) {i : Nat} {x : GLet} (hx : ls[i]? = some x) : ∃ a c, raws[i]? = some ⟨x.name, (a, x.tree.length, c), x.at_⟩ ∧ x.tree.length ≤ c ∧ Rd tNode w a x.tree := by
  obtain ⟨⟨rn, ⟨ra, rl, rc⟩, rat⟩, hr⟩ := at_ex (xs := raws) (k := i) (by rw [h.1]; exact at_lt hx)
  obtain ⟨h1, h2, h3, h4, h5⟩ := h.2 i _ _ hr hx
  simp only at h1 h2 h3 h4 h5
  subst h1 h2 h3
  exact ⟨ra, rc, hr, h4, h5⟩
end Go.TL
