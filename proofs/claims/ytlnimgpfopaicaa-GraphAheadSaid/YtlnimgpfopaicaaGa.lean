/-
  Flows in plain Lean, and how they lie in memory.
-/
import Derived.Test.YtlnimgpfopaicaaTq
set_option linter.unusedVariables false
set_option linter.unusedSimpArgs false
namespace Go.TL
open Go.RowKit

structure GNode where
  op : Int
  n : Int
  kids : Int
  at_ : Int
deriving DecidableEq
def tNode : Ty GNode := ⟨4, fun x => [.int .i8 x.op, .int .i64 x.n, .int .i64 x.kids, .int .i64 x.at_], fun _ => rfl, fun x u hu => by simp at hu; rcases hu with rfl | rfl | rfl | rfl <;> rfl⟩
structure GLet where
  name : ByteArray
  tree : List GNode
  at_ : Int
structure GFlow where
  lets : List GLet
  outs : List Int
/-- a let as it lies in its row -/
structure RLet where
  name : ByteArray
  hdr : SlV
  at_ : Int
def tRLet : Ty RLet := ⟨3, fun x => [.string x.name, vSl x.hdr, .int .i64 x.at_], fun _ => rfl, fun x u hu => by simp at hu; rcases hu with rfl | rfl | rfl <;> rfl⟩
structure GEnd where
  kind : Int
  n : Int
deriving DecidableEq
def tEnd : Ty GEnd := ⟨2, fun x => [.int .i8 x.kind, .int .i64 x.n], fun _ => rfl, fun x u hu => by simp at hu; rcases hu with rfl | rfl <;> rfl⟩
structure GMaker where
  mul : Int
  add : Int
  fails : Int
  panics : Int
def tMaker : Ty GMaker := ⟨4, fun x => [.int .i64 x.mul, .int .i64 x.add, .int .i64 x.fails, .int .i64 x.panics], fun _ => rfl, fun x u hu => by simp at hu; rcases hu with rfl | rfl | rfl | rfl <;> rfl⟩
/-- raw lets are these lets, the trees read in w -/
def RawOk (w : World) (raws : List RLet) (ls : List GLet) : Prop := raws.length = ls.length ∧ ∀ (j : Nat) (r : RLet) (x : GLet), raws[j]? = some r → ls[j]? = some x → r.name = x.name ∧ r.at_ = x.at_ ∧ r.hdr.2.1 = x.tree.length ∧ x.tree.length ≤ r.hdr.2.2 ∧ Rd tNode w r.hdr.1 x.tree
theorem RawOk.ext {w w' : World} {raws : List RLet} {ls : List GLet} (h : RawOk w raws ls) (e : Ext w w') : RawOk w' raws ls := ⟨h.1, fun j r x h1 h2 => by obtain ⟨a, b, c, d, g⟩ := h.2 j r x h1 h2; exact ⟨a, b, c, d, g.ext e⟩⟩
/-- the row of lets with this head reads as ls -/
def RdLets (w : World) (a : Option Addr) (ls : List GLet) : Prop := ∃ raws, Rd tRLet w a raws ∧ RawOk w raws ls
theorem RdLets.ext {w w' : World} {a : Option Addr} {ls : List GLet} (h : RdLets w a ls) (e : Ext w w') : RdLets w' a ls := by
  obtain ⟨raws, h1, h2⟩ := h
  exact ⟨raws, h1.ext e, h2.ext e⟩
/-! ### trees -/
inductive Tr where
  | node (n : GNode) (ks : List Tr)
def Tr.root : Tr → GNode
  | .node n _ => n
def Tr.ks : Tr → List Tr
  | .node _ ks => ks
mutual
def flat : Tr → List GNode
  | .node n ks => n :: flats ks
def flats : List Tr → List GNode
  | [] => []
  | t :: ts => flat t ++ flats ts
end
theorem flat_pos (t : Tr) : 0 < (flat t).length := by cases t; simp [flat]
/-- how many kids a node may have, whether they must be names -/
def lim (op : Int) (len : Nat) : Option (Int × Int × Bool) :=
  if op = 1 ∨ op = 2 then some (0, 0, false)
  else if op = 3 ∨ op = 13 ∨ op = 14 ∨ op = 15 ∨ op = 16 then some (1, 1, false)
  else if op = 18 then some (1, 1, true)
  else if op = 4 ∨ op = 5 ∨ op = 6 then some (2, 2, false)
  else if op = 12 then some (3, 3, false)
  else if op = 10 ∨ op = 11 ∨ op = 17 then some (1, (len : Int), true)
  else none
def bareB (n : GNode) : Bool := decide (n.n = 0 ∨ n.op = 2 ∨ (n.op = 1 ∧ 0 < n.n))
def nodeOk (n : GNode) (len : Nat) (root : Bool) : Option Bool := match lim n.op len with
  | none => none
  | some (lo, hi, nm) => if n.kids < lo ∨ hi < n.kids ∨ n.at_ < 0 ∨ bareB n = false ∨ (root = false ∧ (n.op = 17 ∨ n.op = 18)) then none else some nm
def kidsF (rec : List GNode → Option (Tr × List GNode)) (nm : Bool) : Nat → List GNode → Option (List Tr × List GNode)
  | 0, l => some ([], l)
  | k + 1, l => match rec l with
    | none => none
    | some (t, r) => if nm = true ∧ ¬ t.root.op = 2 then none else match kidsF rec nm k r with
      | none => none
      | some (ts, r2) => some (t :: ts, r2)
def growF : Nat → List GNode → Bool → Option (Tr × List GNode)
  | 0, _, _ => none
  | _ + 1, [], _ => none
  | fuel + 1, n :: r, root => match nodeOk n (r.length + 1) root with
    | none => none
    | some nm => match kidsF (fun l => growF fuel l false) nm n.kids.toNat r with
      | none => none
      | some (ks, rest) => some (.node n ks, rest)
theorem kidsF_flat {rec : List GNode → Option (Tr × List GNode)} {nm : Bool} (hr : ∀ l t r, rec l = some (t, r) → l = flat t ++ r) : ∀ (k : Nat) (l : List GNode) (ts : List Tr) (r : List GNode), kidsF rec nm k l = some (ts, r) → l = flats ts ++ r ∧ ts.length = k ∧ (nm = true → ∀ t ∈ ts, t.root.op = 2)
  | 0, l, ts, r, h => by simp [kidsF] at h; obtain ⟨rfl, rfl⟩ := h; exact ⟨rfl, rfl, fun _ t ht => by cases ht⟩
  | k + 1, l, ts, r, h => by
    rw [kidsF] at h
    cases e : rec l with
    | none => rw [e] at h; cases h
    | some p =>
      obtain ⟨t, r1⟩ := p
      rw [e] at h
      simp only at h
      split at h
      · cases h
      · rename_i hn
        cases e2 : kidsF rec nm k r1 with
        | none => rw [e2] at h; cases h
        | some p2 =>
          obtain ⟨ts2, r2⟩ := p2
          rw [e2] at h
          simp only [Option.some.injEq, Prod.mk.injEq] at h
          obtain ⟨rfl, rfl⟩ := h
          obtain ⟨h1, h2, h3⟩ := kidsF_flat hr k r1 ts2 r2 e2
          refine ⟨by rw [hr _ _ _ e, h1]; simp [flats], by simp [h2], fun hnm u hu => ?_⟩
          rcases List.mem_cons.1 hu with rfl | hu
          · by_cases h4 : u.root.op = 2
            · exact h4
            · exact absurd ⟨hnm, h4⟩ hn
          · exact h3 hnm u hu
theorem growF_flat : ∀ (fuel : Nat) (l : List GNode) (root : Bool) (t : Tr) (r : List GNode), growF fuel l root = some (t, r) → l = flat t ++ r
  | 0, l, root, t, r, h => by simp [growF] at h
  | fuel + 1, [], root, t, r, h => by simp [growF] at h
  | fuel + 1, n :: l, root, t, r, h => by
    rw [growF] at h
    split at h
    · cases h
    · rename_i nm hnm
      split at h
      · cases h
      · rename_i ks rest hk
        simp only [Option.some.injEq, Prod.mk.injEq] at h
        obtain ⟨rfl, rfl⟩ := h
        have := (kidsF_flat (fun l t r h => growF_flat fuel l false t r h) _ _ _ _ hk).1
        rw [this]; simp [flat]
/-! ### trees in memory -/
def tPtr : Ty Nat := ⟨1, fun b => [.pointer (some ⟨b, 0, none⟩)], fun _ => rfl, fun x u hu => by simp at hu; subst hu; rfl⟩
def HasBlk (P : HA) (b : Nat) (cs : List Value) (e : TypeId) : Prop := ∀ (w : World) (h : Hp), P h → (∀ b o, h b = some o → w.heap[b]? = some o) → w.heap[b]? = some (.cells cs.toArray e (0, 0))
theorem HasBlk.cel (b : Nat) (cs : List Value) (e : TypeId) : HasBlk (Cel b cs e) b cs e := fun w h hx m => m _ _ hx
theorem HasBlk.bun {P : HA} {b : Nat} {cs : List Value} {e : TypeId} (hh : HasBlk P b cs e) (i : Nat) {M : List HA} (hi : M[i]? = some P) : HasBlk (Bun M) b cs e := fun w x hx m => by
  obtain ⟨h1, h2, h3, _, _, h4, _⟩ := star.at i hx hi
  exact hh w h1 h3 fun b o hb => m b o (h4 b o hb)
theorem Sat.hasBlk {w0 w : World} {L : List HA} {P : HA} {b : Nat} {cs : List Value} {e : TypeId} (S : Sat w0 w L) (i : Nat) (hi : L[i]? = some P) (hb : HasBlk P b cs e) : w.heap[b]? = some (.cells cs.toArray e (0, 0)) :=
  S.view i hi fun x hx m => hb w x hx fun b o h => (m b o h).2
theorem blk_cell {w : World} {b : Nat} {cs : List Value} {e : TypeId} (h : w.heap[b]? = some (.cells cs.toArray e (0, 0))) (off : Nat) {v : Value} (hv : cs[off]? = some v) : w.cell? ⟨b, off, none⟩ = some v := by
  simp [World.cell?, h, hv]
theorem loadB1 {P : Program} {w : World} {t : TypeId} {b off : Nat} {cs : List Value} {e : TypeId} {v : Value} (h : SzT P t 1 false) (hb : w.heap[b]? = some (.cells cs.toArray e (0, 0))) (hv : cs[off]? = some v) : (loadVar t ⟨b, off, none⟩).run P w = .ok v w := loadVar_one h (blk_cell hb off hv)
def treeL (n : GNode) (k : Nat) (ka : Option Addr) (kc : Nat) : List Value := [.int .i8 n.op, .int .i64 n.n, .int .i64 n.kids, .int .i64 n.at_, .string ByteArray.empty, .slice ka k kc]
mutual
def HasTree (e : TypeId) (P : HA) : Nat → Tr → Prop
  | b, .node n ks => ∃ (ka : Option Addr) (kc : Nat) (bs : List Nat), HasBlk P b (treeL n ks.length ka kc) e ∧ Reads P tPtr ka bs ∧ HasTrees e P bs ks
def HasTrees (e : TypeId) (P : HA) : List Nat → List Tr → Prop
  | [], [] => True
  | b :: bs, t :: ts => HasTree e P b t ∧ HasTrees e P bs ts
  | [], _ :: _ => False
  | _ :: _, [] => False
end
mutual
theorem HasTree.bun {e : TypeId} {P : HA} (i : Nat) {M : List HA} (hi : M[i]? = some P) : ∀ {b : Nat} {t : Tr}, HasTree e P b t → HasTree e (Bun M) b t
  | b, .node n ks, h => by
    rw [HasTree] at h ⊢
    obtain ⟨ka, kc, bs, h1, h2, h3⟩ := h
    exact ⟨ka, kc, bs, h1.bun i hi, h2.bun i hi, HasTrees.bun i hi h3⟩
theorem HasTrees.bun {e : TypeId} {P : HA} (i : Nat) {M : List HA} (hi : M[i]? = some P) : ∀ {bs : List Nat} {ts : List Tr}, HasTrees e P bs ts → HasTrees e (Bun M) bs ts
  | [], [], _ => trivial
  | b :: bs, t :: ts, h => by
    rw [HasTrees] at h ⊢
    exact ⟨HasTree.bun i hi h.1, HasTrees.bun i hi h.2⟩
  | [], _ :: _, h => by rw [HasTrees] at h; exact h.elim
  | _ :: _, [], h => by rw [HasTrees] at h; exact h.elim
end
theorem HasTrees.len {e : TypeId} {P : HA} : ∀ {bs : List Nat} {ts : List Tr}, HasTrees e P bs ts → bs.length = ts.length
  | [], [], _ => rfl
  | b :: bs, t :: ts, h => by rw [HasTrees] at h; simp [HasTrees.len h.2]
  | [], _ :: _, h => by rw [HasTrees] at h; exact h.elim
  | _ :: _, [], h => by rw [HasTrees] at h; exact h.elim
theorem HasTrees.at {e : TypeId} {P : HA} : ∀ {bs : List Nat} {ts : List Tr} {i : Nat} {b : Nat} {t : Tr}, HasTrees e P bs ts → bs[i]? = some b → ts[i]? = some t → HasTree e P b t
  | b :: bs, t :: ts, 0, _, _, h, h1, h2 => by
    rw [HasTrees] at h
    simp at h1 h2; subst h1; subst h2; exact h.1
  | b :: bs, t :: ts, i + 1, _, _, h, h1, h2 => by
    rw [HasTrees] at h
    exact HasTrees.at h.2 (by simpa using h1) (by simpa using h2)
  | [], ts, i, _, _, _, h1, _ => by simp at h1
  | _ :: _, [], i, _, _, h, _, _ => by rw [HasTrees] at h; exact h.elim
theorem HasTrees.snoc {e : TypeId} {P : HA} : ∀ {bs : List Nat} {ts : List Tr} {b : Nat} {t : Tr}, HasTrees e P bs ts → HasTree e P b t → HasTrees e P (bs ++ [b]) (ts ++ [t])
  | [], [], b, t, _, h => by simp only [List.nil_append]; rw [HasTrees]; exact ⟨h, by rw [HasTrees]; trivial⟩
  | b :: bs, t :: ts, _, _, h, h1 => by
    simp only [List.cons_append]
    rw [HasTrees] at h ⊢
    exact ⟨h.1, HasTrees.snoc h.2 h1⟩
  | [], _ :: _, _, _, h, _ => by rw [HasTrees] at h; exact h.elim
  | _ :: _, [], _, _, h, _ => by rw [HasTrees] at h; exact h.elim
/-! ### depth -/
def rankM (op : Int) : Int := if op = 4 ∨ op = 5 then 1 else if op = 6 then 2 else if op = 3 then 3 else 4
def wrapM (op : Int) (i : Nat) (kop : Int) : Bool := decide (rankM kop < (if rankM op < 4 then (if 0 < i then rankM op + 1 else rankM op) else 1))
mutual
def deepM : Tr → Int → Int × Int
  | .node n ks, d =>
    let d1 := if 2 < rankM n.op ∧ 0 < ks.length then d + 1 else d
    let p := deepK n.op d1 0 ks (d1, 0)
    (p.1, p.2 + 1)
def deepK (op d : Int) (i : Nat) : List Tr → Int × Int → Int × Int
  | [], p => p
  | k :: ks, p =>
    let a1 := if rankM op < 3 ∧ i = 1 then d + p.2 else d
    let a2 := if wrapM op i k.root.op then a1 + 1 else a1
    let q := deepM k a2
    deepK op d (i + 1) ks (max (max p.1 q.1) a2, if i = 0 ∧ rankM op < 3 ∧ rankM k.root.op = rankM op then q.2 else p.2)
end
/-! ### names -/
def insideB (b : UInt8) : Bool := decide ((97 ≤ b.toNat ∧ b.toNat ≤ 122) ∨ (65 ≤ b.toNat ∧ b.toNat ≤ 90) ∨ (48 ≤ b.toNat ∧ b.toNat ≤ 57) ∨ b.toNat = 95)
/-- the words, and whether they begin an item -/
def wordsM : ByteArray → Option Bool := (mset (mset (mset (mset (mset (mset (mset (mset (mset (mset (mset (fun _ => none) (⟨#[108, 101, 116]⟩ : ByteArray) false) (⟨#[111, 117, 116]⟩ : ByteArray) false) (⟨#[114, 97, 99, 101]⟩ : ByteArray) false) (⟨#[99, 97, 110, 99, 101, 108]⟩ : ByteArray) false) (⟨#[97, 108, 108]⟩ : ByteArray) true) (⟨#[102, 105, 114, 115, 116]⟩ : ByteArray) true) (⟨#[119, 104, 101, 110]⟩ : ByteArray) true) (⟨#[102, 97, 105, 108]⟩ : ByteArray) true) (⟨#[112, 97, 110, 105, 99]⟩ : ByteArray) true) (⟨#[109, 101, 109, 111]⟩ : ByteArray) true) (⟨#[98, 117, 114, 110]⟩ : ByteArray) true)
def isNameM (s : ByteArray) : Bool := decide (1 ≤ s.size ∧ s.size ≤ 32) && (match s.data.toList.head? with
  | some b => decide (97 ≤ b.toNat ∧ b.toNat ≤ 122)
  | none => false) && s.data.toList.all insideB && !(wordsM s).isSome
/-! ### check -/
def growT (t : List GNode) : Option (Tr × List GNode) := growF (t.length + 1) t true
def soundM (x : GLet) (n : Nat) (names : ByteArray → Bool) : Int :=
  if 4096 ≤ n then 34 else if isNameM x.name = false ∨ names x.name = true then 43 else match growT x.tree with
    | none => 1
    | some (t, rest) => if 0 < rest.length ∨ x.at_ < 0 then 1
      else if x.tree.any (fun k => decide (16 < k.kids)) then 44
      else if x.tree.any (fun k => decide (k.op = 2 ∧ (k.n < 0 ∨ (n : Int) ≤ k.n))) then 43
      else if 64 < (deepM t 0).1 then 42 else 0
def namesOf (ls : List GLet) (i : Nat) : ByteArray → Bool := fun s => (ls.take i).any fun x => decide (x.name = s)
def badLet (ls : List GLet) (i : Nat) : Int := match ls[i]? with
  | some x => soundM x i (namesOf ls i)
  | none => 0
def badOut (f : GFlow) (i : Nat) : Int := if 4096 ≤ i then 34 else match f.outs[i]? with
  | some n => if n < 0 ∨ (f.lets.length : Int) ≤ n then 43 else 0
  | none => 0
def checkM (f : GFlow) : Int × Int := match (List.range f.lets.length).find? (fun i => decide (¬ badLet f.lets i = 0)) with
  | some i => (badLet f.lets i, (i : Int))
  | none => match (List.range f.outs.length).find? (fun i => decide (¬ badOut f i = 0)) with
    | some i => (badOut f i, (f.lets.length : Int) + (i : Int))
    | none => (0, 0)
/-! ### names, rest -/
theorem isName_len {s : ByteArray} (h : ¬ (1 ≤ s.size ∧ s.size ≤ 32)) : isNameM s = false := by unfold isNameM; rw [decide_eq_false h]; rfl
theorem isName_head {s : ByteArray} {b : UInt8} (hb : s.data.toList[0]? = some b) (h : ¬ (97 ≤ b.toNat ∧ b.toNat ≤ 122)) : isNameM s = false := by
  unfold isNameM
  rw [List.head?_eq_getElem?, hb]
  simp only [decide_eq_false h, Bool.and_false, Bool.false_and]
theorem isName_in {s : ByteArray} {i : Nat} {b : UInt8} (hb : s.data.toList[i]? = some b) (h : insideB b = false) : isNameM s = false := by
  unfold isNameM
  have : s.data.toList.all insideB = false := List.all_eq_false.2 ⟨b, List.mem_of_getElem? hb, by rw [h]; decide⟩
  rw [this]; simp
theorem isName_yes {s : ByteArray} {b : UInt8} (h0 : 1 ≤ s.size ∧ s.size ≤ 32) (hb : s.data.toList[0]? = some b) (h : 97 ≤ b.toNat ∧ b.toNat ≤ 122) (ha : ∀ (j : Nat) c, s.data.toList[j]? = some c → insideB c = true) : isNameM s = !(wordsM s).isSome := by
  unfold isNameM
  have : s.data.toList.all insideB = true := List.all_eq_true.2 fun c hc => by
    obtain ⟨j, hj⟩ := List.getElem?_of_mem hc
    exact ha j c hj
  rw [this, List.head?_eq_getElem?, hb, decide_eq_true h0]
  simp only [decide_eq_true h, Bool.true_and]
/-! ### depth, bounded -/
theorem flats_kid {ks : List Tr} {i : Nat} {k : Tr} (h : ks[i]? = some k) : (flats (ks.take (i + 1))).length = (flats (ks.take i)).length + (flat k).length := by
  have key : ∀ (a b : List Tr), flats (a ++ b) = flats a ++ flats b := by
    intro a b
    induction a with
    | nil => simp [flats]
    | cons t ts ih => simp [flats, ih]
  rw [take_succ_at h, key, List.length_append]
  simp [flats]
theorem flats_take_le (ks : List Tr) (i : Nat) : (flats (ks.take i)).length ≤ (flats ks).length := by
  have key : ∀ (a b : List Tr), flats (a ++ b) = flats a ++ flats b := by
    intro a b
    induction a with
    | nil => simp [flats]
    | cons t ts ih => simp [flats, ih]
  have := key (ks.take i) (ks.drop i)
  rw [List.take_append_drop] at this
  rw [this, List.length_append]; omega
theorem kid_lt {n : GNode} {ks : List Tr} {i : Nat} {k : Tr} (h : ks[i]? = some k) : (flat k).length < (flat (.node n ks)).length := by
  have h1 := flats_kid h
  have h2 := flats_take_le ks (i + 1)
  simp only [flat, List.length_cons]; omega
theorem wrap_row {op kop : Int} (h : rankM op < 3) (h2 : rankM kop = rankM op) : wrapM op 0 kop = false := by
  unfold wrapM; simp; omega
mutual
theorem deepM_bd : ∀ (t : Tr) (d : Int), d ≤ (deepM t d).1 ∧ (deepM t d).1 ≤ d + 3 * (flat t).length ∧ 1 ≤ (deepM t d).2 ∧ (deepM t d).2 ≤ (flat t).length
  | .node n ks, d => by
    simp only [deepM, flat, List.length_cons]
    have h := deepK_bd n.op (if 2 < rankM n.op ∧ 0 < ks.length then d + 1 else d) ks 0 (if 2 < rankM n.op ∧ 0 < ks.length then d + 1 else d, 0) 0 (by simp; omega) (by simp)
    by_cases h1 : 2 < rankM n.op ∧ 0 < ks.length
    · simp only [if_pos h1] at h ⊢; omega
    · simp only [if_neg h1] at h ⊢; omega
theorem deepK_bd (op d : Int) : ∀ (ks : List Tr) (i : Nat) (p : Int × Int) (s : Nat), d ≤ p.1 ∧ p.1 ≤ d + 2 + 3 * (s : Int) → 0 ≤ p.2 ∧ p.2 ≤ s → d ≤ (deepK op d i ks p).1 ∧ (deepK op d i ks p).1 ≤ d + 2 + 3 * ((s : Int) + (flats ks).length) ∧ 0 ≤ (deepK op d i ks p).2 ∧ (deepK op d i ks p).2 ≤ (s : Int) + (flats ks).length
  | [], i, p, s, h1, h2 => by simp only [deepK, flats, List.length_nil]; omega
  | k :: ks, i, p, s, h1, h2 => by
    rw [deepK]
    have hk := deepM_bd k (if wrapM op i k.root.op = true then (if rankM op < 3 ∧ i = 1 then d + p.2 else d) + 1 else if rankM op < 3 ∧ i = 1 then d + p.2 else d)
    have ha : d ≤ (if wrapM op i k.root.op = true then (if rankM op < 3 ∧ i = 1 then d + p.2 else d) + 1 else if rankM op < 3 ∧ i = 1 then d + p.2 else d) ∧ (if wrapM op i k.root.op = true then (if rankM op < 3 ∧ i = 1 then d + p.2 else d) + 1 else if rankM op < 3 ∧ i = 1 then d + p.2 else d) ≤ d + p.2 + 1 := by
      split <;> split <;> omega
    generalize (if wrapM op i k.root.op = true then (if rankM op < 3 ∧ i = 1 then d + p.2 else d) + 1 else if rankM op < 3 ∧ i = 1 then d + p.2 else d) = a2 at hk ha ⊢
    have h3 := deepK_bd op d ks (i + 1) (max (max p.1 (deepM k a2).1) a2, if i = 0 ∧ rankM op < 3 ∧ rankM k.root.op = rankM op then (deepM k a2).2 else p.2) (s + (flat k).length) (by simp only; omega) (by simp only; split <;> omega)
    simp only [flats, List.length_append] at h3 ⊢
    omega
end
end Go.TL
