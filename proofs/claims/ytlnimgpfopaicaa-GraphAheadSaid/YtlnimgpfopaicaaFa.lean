/-
  Facts of the seat's types and functions.
-/
import Derived.Test.YtlnimgpfopaicaaGb
import Derived.Test.YtlnimgpfopaicaaProg
set_option linter.unusedVariables false
set_option linter.unusedSimpArgs false
set_option maxRecDepth 100000
set_option maxHeartbeats 1000000
namespace Go.Proofs
open Go Go.TL Go.RowKit
theorem cf_53 : CallF Try.prog 53 := fun args w => by kernel_rfl
theorem cf_54 : CallF Try.prog 54 := fun args w => by kernel_rfl
theorem fo_107_0 : FieldOff Try.prog 107 0 0 := fun a w => by kernel_rfl
theorem fo_75_0 : FieldOff Try.prog 75 0 0 := fun a w => by kernel_rfl
theorem sz_28 : SzT Try.prog 28 1 false := fun w => ⟨by kernel_rfl, by kernel_rfl⟩
theorem cf_55 : CallF Try.prog 55 := fun args w => by kernel_rfl
theorem fo_107_2 : FieldOff Try.prog 107 2 5 := fun a w => by kernel_rfl
theorem sz_105 : SzT Try.prog 105 1 false := fun w => ⟨by kernel_rfl, by kernel_rfl⟩
theorem sl_105 : SlT Try.prog 105 91 1 8 := SlT.ofB (by kernel_rfl)
theorem sz_91 : SzT Try.prog 91 1 false := fun w => ⟨by kernel_rfl, by kernel_rfl⟩
theorem cf_56 : CallF Try.prog 56 := fun args w => by kernel_rfl
theorem cf_46 : CallF Try.prog 46 := fun args w => by kernel_rfl
theorem sl_49 : SlT Try.prog 49 75 4 32 := SlT.ofB (by kernel_rfl)
theorem sz_75 : SzT Try.prog 75 4 true := fun w => ⟨by kernel_rfl, by kernel_rfl⟩
theorem z_75 : ZeroT Try.prog 75 (.agg ([.int .i8 0, .int .i64 0, .int .i64 0, .int .i64 0]).toArray) ([.int .i8 0, .int .i64 0, .int .i64 0, .int .i64 0]) := ⟨fun w => by kernel_rfl, by kernel_rfl⟩
theorem fo_75_1 : FieldOff Try.prog 75 1 1 := fun a w => by kernel_rfl
theorem sz_2 : SzT Try.prog 2 1 false := fun w => ⟨by kernel_rfl, by kernel_rfl⟩
theorem fo_75_2 : FieldOff Try.prog 75 2 2 := fun a w => by kernel_rfl
theorem sz_3 : SzT Try.prog 3 1 false := fun w => ⟨by kernel_rfl, by kernel_rfl⟩
theorem fo_75_3 : FieldOff Try.prog 75 3 3 := fun a w => by kernel_rfl
theorem bld_107_0 {n1 : Int} {n2 : Int} {n3 : Int} {n4 : Int} (w : World) : (Instr.build 107 [(0, .agg #[.int .i8 n1, .int .i64 n2, .int .i64 n3, .int .i64 n4])].toArray).run Try.prog w = .ok (.agg #[.int .i8 n1, .int .i64 n2, .int .i64 n3, .int .i64 n4, .string ByteArray.empty, .slice none 0 0]) w := by kernel_rfl
theorem cf_45 : CallF Try.prog 45 := fun args w => by kernel_rfl
theorem bs_105_1_0 {p1 : Option Addr} (w : World) : (Instr.buildSlice 105 1 [(0, .pointer p1)].toArray).run Try.prog w = .ok (.slice (some ⟨w.heap.size, 0, none⟩) 1 1) (w.alloc (.cells [.pointer p1].toArray 91 (0, 0))) := by kernel_rfl
theorem fo_51_0 : FieldOff Try.prog 51 0 0 := fun a w => by kernel_rfl
theorem sz_9 : SzT Try.prog 9 1 false := fun w => ⟨by kernel_rfl, by kernel_rfl⟩
theorem cf_44 : CallF Try.prog 44 := fun args w => by kernel_rfl
theorem fo_51_1 : FieldOff Try.prog 51 1 1 := fun a w => by kernel_rfl
theorem sz_49 : SzT Try.prog 49 1 false := fun w => ⟨by kernel_rfl, by kernel_rfl⟩
theorem fo_51_2 : FieldOff Try.prog 51 2 2 := fun a w => by kernel_rfl
theorem fo_25_0 : FieldOff Try.prog 25 0 0 := fun a w => by kernel_rfl
theorem sz_22 : SzT Try.prog 22 1 false := fun w => ⟨by kernel_rfl, by kernel_rfl⟩
theorem sl_22 : SlT Try.prog 22 51 3 48 := SlT.ofB (by kernel_rfl)
theorem sz_51 : SzT Try.prog 51 3 true := fun w => ⟨by kernel_rfl, by kernel_rfl⟩
theorem z_51 : ZeroT Try.prog 51 (.agg ([.string ByteArray.empty, .slice none 0 0, .int .i64 0]).toArray) ([.string ByteArray.empty, .slice none 0 0, .int .i64 0]) := ⟨fun w => by kernel_rfl, by kernel_rfl⟩
theorem cf_31 : CallF Try.prog 31 := fun args w => by kernel_rfl
theorem fo_25_1 : FieldOff Try.prog 25 1 1 := fun a w => by kernel_rfl
theorem sz_23 : SzT Try.prog 23 1 false := fun w => ⟨by kernel_rfl, by kernel_rfl⟩
theorem sl_23 : SlT Try.prog 23 3 1 8 := SlT.ofB (by kernel_rfl)
theorem fo_30_0 : FieldOff Try.prog 30 0 0 := fun a w => by kernel_rfl
theorem fo_30_1 : FieldOff Try.prog 30 1 1 := fun a w => by kernel_rfl
theorem sz_30 : SzT Try.prog 30 2 true := fun w => ⟨by kernel_rfl, by kernel_rfl⟩
theorem fo_27_3 : FieldOff Try.prog 27 3 3 := fun a w => by kernel_rfl
theorem bld_82_0_1 {n1 : Int} {n2 : Int} (w : World) : (Instr.build 82 [(0, .int .i8 n1), (1, .int .i64 n2)].toArray).run Try.prog w = .ok (.agg #[.int .i8 n1, .int .i64 n2]) w := by kernel_rfl
theorem fo_27_2 : FieldOff Try.prog 27 2 2 := fun a w => by kernel_rfl
theorem fo_27_0 : FieldOff Try.prog 27 0 0 := fun a w => by kernel_rfl
theorem fo_27_1 : FieldOff Try.prog 27 1 1 := fun a w => by kernel_rfl
theorem fo_61_0 : FieldOff Try.prog 61 0 0 := fun a w => by kernel_rfl
theorem bs_23_1_0 {n1 : Int} (w : World) : (Instr.buildSlice 23 1 [(0, .int .i64 n1)].toArray).run Try.prog w = .ok (.slice (some ⟨w.heap.size, 0, none⟩) 1 1) (w.alloc (.cells [.int .i64 n1].toArray 3 (0, 0))) := by kernel_rfl
theorem cf_47 : CallF Try.prog 47 := fun args w => by kernel_rfl
theorem cf_23 : CallF Try.prog 23 := fun args w => by kernel_rfl
theorem fo_61_2 : FieldOff Try.prog 61 2 2 := fun a w => by kernel_rfl
theorem sz_27 : SzT Try.prog 27 4 true := fun w => ⟨by kernel_rfl, by kernel_rfl⟩
theorem cf_48 : CallF Try.prog 48 := fun args w => by kernel_rfl
theorem cf_32 : CallF Try.prog 32 := fun args w => by kernel_rfl
theorem fo_61_1 : FieldOff Try.prog 61 1 1 := fun a w => by kernel_rfl
theorem sz_33 : SzT Try.prog 33 1 false := fun w => ⟨by kernel_rfl, by kernel_rfl⟩
theorem sl_33 : SlT Try.prog 33 30 2 16 := SlT.ofB (by kernel_rfl)
theorem cf_33 : CallF Try.prog 33 := fun args w => by kernel_rfl
theorem z_82 : ZeroT Try.prog 82 (.agg ([.int .i8 0, .int .i64 0]).toArray) ([.int .i8 0, .int .i64 0]) := ⟨fun w => by kernel_rfl, by kernel_rfl⟩
theorem sz_82 : SzT Try.prog 82 2 true := fun w => ⟨by kernel_rfl, by kernel_rfl⟩
theorem cf_34 : CallF Try.prog 34 := fun args w => by kernel_rfl
theorem z_30 : ZeroT Try.prog 30 (.agg ([.int .i8 0, .int .i64 0]).toArray) ([.int .i8 0, .int .i64 0]) := ⟨fun w => by kernel_rfl, by kernel_rfl⟩
theorem bld_30_0_1 {n1 : Int} {n2 : Int} (w : World) : (Instr.build 30 [(0, .int .i8 n1), (1, .int .i64 n2)].toArray).run Try.prog w = .ok (.agg #[.int .i8 n1, .int .i64 n2]) w := by kernel_rfl
theorem cf_49 : CallF Try.prog 49 := fun args w => by kernel_rfl
theorem cf_50 : CallF Try.prog 50 := fun args w => by kernel_rfl
theorem cf_35 : CallF Try.prog 35 := fun args w => by kernel_rfl
theorem sz_25 : SzT Try.prog 25 2 true := fun w => ⟨by kernel_rfl, by kernel_rfl⟩
theorem cf_21 : CallF Try.prog 21 := fun args w => by kernel_rfl
theorem bld_30_  (w : World) : (Instr.build 30 [].toArray).run Try.prog w = .ok (.agg #[.int .i8 0, .int .i64 0]) w := by kernel_rfl
theorem cf_25 : CallF Try.prog 25 := fun args w => by kernel_rfl
theorem cf_22 : CallF Try.prog 22 := fun args w => by kernel_rfl
theorem bld_61_0_1_2 {a1 : Option Addr} {l1 c1 : Nat} {a2 : Option Addr} {l2 c2 : Nat} {n3 : Int} {n4 : Int} {n5 : Int} {n6 : Int} (w : World) : (Instr.build 61 [(0, .slice a1 l1 c1), (1, .slice a2 l2 c2), (2, .agg #[.int .i64 n3, .int .i64 n4, .int .i64 n5, .int .i64 n6])].toArray).run Try.prog w = .ok (.agg #[.slice a1 l1 c1, .slice a2 l2 c2, .int .i64 n3, .int .i64 n4, .int .i64 n5, .int .i64 n6]) w := by kernel_rfl
theorem bs_33_1_0 {n1 : Int} {n2 : Int} (w : World) : (Instr.buildSlice 33 1 [(0, .agg #[.int .i8 n1, .int .i64 n2])].toArray).run Try.prog w = .ok (.slice (some ⟨w.heap.size, 0, none⟩) 1 1) (w.alloc (.cells [.int .i8 n1, .int .i64 n2].toArray 30 (0, 0))) := by kernel_rfl
theorem eqt_30 : EqT Try.prog 30 tEnd := by
  refine ⟨by kernel_rfl, fun x y w => ?_⟩
  rw [run_equalIn_agg (P := Try.prog) w 9999 30 _ _ (by kernel_rfl) (by kernel_rfl)]
  have h : ∀ (fs : List Field), (Try.prog.fieldsOf 30).toList = fs → (Op.eqFields 9999 (tEnd.enc x).toArray (tEnd.enc y).toArray fs).run Try.prog w = .ok (decide (x = y)) w → (Op.eqFields 9999 (tEnd.enc x).toArray (tEnd.enc y).toArray (Try.prog.fieldsOf 30).toList).run Try.prog w = .ok (decide (x = y)) w := fun fs e h => by rw [e]; exact h
  refine h _ rfl ?_
  have e : decide (x = y) = ((x.kind == y.kind) && ((x.n == y.n) && true)) := by cases x; cases y; rw [Bool.eq_iff_iff]; simp
  rw [e]
  refine eqF_step (by decide) sz_28 rfl rfl (run_equalIn_int _ _ _ _ _ _ _ Try.underlying28) ?_
  refine eqF_step (by decide) sz_2 rfl rfl (run_equalIn_int _ _ _ _ _ _ _ Try.underlying2) ?_
  rfl
theorem cf_42 : CallF Try.prog 42 := fun args w => by kernel_rfl
theorem cf_19 : CallF Try.prog 19 := fun args w => by kernel_rfl
theorem cf_18 : CallF Try.prog 18 := fun args w => by kernel_rfl
theorem cf_43 : CallF Try.prog 43 := fun args w => by kernel_rfl
theorem cf_30 : CallF Try.prog 30 := fun args w => by kernel_rfl
theorem bs_22_1_0 {s1 : ByteArray} {a2 : Option Addr} {l2 c2 : Nat} {n3 : Int} (w : World) : (Instr.buildSlice 22 1 [(0, .agg #[.string s1, .slice a2 l2 c2, .int .i64 n3])].toArray).run Try.prog w = .ok (.slice (some ⟨w.heap.size, 0, none⟩) 1 1) (w.alloc (.cells [.string s1, .slice a2 l2 c2, .int .i64 n3].toArray 51 (0, 0))) := by kernel_rfl
end Go.Proofs
