/-
  What the layer's data are in plain Lean, and how they lie in cells.
-/
import Derived.Test.YticopppiogophaaDoorTq
set_option linter.unusedVariables false
set_option linter.unusedSimpArgs false
namespace Go.TL

structure Access where
  thread : Int
  op : Int
  cell : Int
  arg : Int
  new : Int
  was : Int
  now : Int
  ok : Bool
  deriving DecidableEq
structure GCall where
  op : Int
  arg : Int
  new : Int
  answer : Int
  ok : Bool
  begin_ : Int
  end_ : Int
  deriving DecidableEq
structure GRace where
  a : Int
  b : Int
  deriving DecidableEq
def tAccess : Ty Access := ⟨8, fun x => [.int .i64 x.thread, .int .i8 x.op, .int .i64 x.cell, .int .i64 x.arg, .int .i64 x.new, .int .i64 x.was, .int .i64 x.now, .bool x.ok], fun _ => rfl, fun x u hu => by simp at hu; rcases hu with rfl|rfl|rfl|rfl|rfl|rfl|rfl|rfl <;> rfl⟩
def tCall : Ty GCall := ⟨7, fun x => [.int .i8 x.op, .int .i64 x.arg, .int .i64 x.new, .int .i64 x.answer, .bool x.ok, .int .i64 x.begin_, .int .i64 x.end_], fun _ => rfl, fun x u hu => by simp at hu; rcases hu with rfl|rfl|rfl|rfl|rfl|rfl|rfl <;> rfl⟩
def tRace : Ty GRace := ⟨2, fun x => [.int .i64 x.a, .int .i64 x.b], fun _ => rfl, fun x u hu => by simp at hu; rcases hu with rfl|rfl <;> rfl⟩

def mkAccesses (n i : Nat) : Access := ⟨0, 0, numM n i, 0, 0, 0, 0, false⟩
def mkCalls (n i : Nat) : GCall := ⟨0, 0, 0, 0, false, numM n i, 0⟩
def mkRaces (n i : Nat) : GRace := ⟨numM n i, 0⟩
/-! ### may -/
def okA (a : Access) : Bool := decide (0 ≤ a.thread ∧ a.thread < 64 ∧ 1 ≤ a.op ∧ a.op ≤ 8 ∧ (a.op = 7 → a.cell = -1 ∧ -1 ≤ a.now ∧ a.now < 64) ∧ (a.op = 8 → a.cell = -1) ∧ (a.op < 7 → 0 ≤ a.cell ∧ a.cell < 1048576))
def thr (n : Int) (a : Access) : Int := if a.op = 7 then max (max n (a.thread + 1)) (a.now + 1) else max n (a.thread + 1)
def mayOk (l : List Access) : Bool := l.all okA
def mayN (l : List Access) : Int := if mayOk l then l.foldl thr 0 else 0
theorem okA_iff (a : Access) : okA a = true ↔ (0 ≤ a.thread ∧ a.thread < 64 ∧ 1 ≤ a.op ∧ a.op ≤ 8 ∧ (a.op = 7 → a.cell = -1 ∧ -1 ≤ a.now ∧ a.now < 64) ∧ (a.op = 8 → a.cell = -1) ∧ (a.op < 7 → 0 ≤ a.cell ∧ a.cell < 1048576)) := by simp only [okA, decide_eq_true_eq]
theorem may_bad {l : List Access} {k : Nat} {x : Access} (hx : l[k]? = some x) (h : ¬ okA x = true) : Ending.returned (.tuple #[.int .i64 0, .bool false]) = .returned (.tuple #[.int .i64 (mayN l), .bool (mayOk l)]) := by
  have : mayOk l = false := by
    cases hm : mayOk l with
    | false => rfl
    | true => exact absurd (List.all_eq_true.1 hm x (List.mem_of_getElem? hx)) h
  simp [mayN, this]
end Go.TL
