/-
  Facts of the seat's types and functions.
-/
import Derived.Test.YticopppiogophaaDoorTj
import Derived.Test.YticopppiogophaaDoorProg
set_option linter.unusedVariables false
set_option linter.unusedSimpArgs false
set_option maxRecDepth 100000
set_option maxHeartbeats 1000000
namespace Go.Proofs
open Go Go.TL Go.RowKit
theorem cf_11 : CallF Tryd.prog 11 := fun args w => by kernel_rfl
theorem cf_13 : CallF Tryd.prog 13 := fun args w => by kernel_rfl
theorem cf_14 : CallF Tryd.prog 14 := fun args w => by kernel_rfl
theorem cf_15 : CallF Tryd.prog 15 := fun args w => by kernel_rfl
theorem cf_16 : CallF Tryd.prog 16 := fun args w => by kernel_rfl
theorem bld_50_  (w : World) : (Instr.build 50 [].toArray).run Tryd.prog w = .ok (.agg #[.slice none 0 0, .slice none 0 0, .slice none 0 0, .slice none 0 0, .slice none 0 0, .slice none 0 0, .slice none 0 0, .slice none 0 0, .slice none 0 0, .slice none 0 0, .slice none 0 0, .slice none 0 0, .slice none 0 0, .slice none 0 0]) w := by kernel_rfl
theorem cf_17 : CallF Tryd.prog 17 := fun args w => by kernel_rfl
theorem cf_18 : CallF Tryd.prog 18 := fun args w => by kernel_rfl
theorem fo_154_0 : FieldOff Tryd.prog 154 0 0 := fun a w => by kernel_rfl
theorem fo_154_1 : FieldOff Tryd.prog 154 1 1 := fun a w => by kernel_rfl
theorem cf_81 : CallF Tryd.prog 81 := fun args w => by kernel_rfl
theorem bld_154_  (w : World) : (Instr.build 154 [].toArray).run Tryd.prog w = .ok (.agg #[.slice none 0 0, .slice none 0 0]) w := by kernel_rfl
theorem cf_82 : CallF Tryd.prog 82 := fun args w => by kernel_rfl
theorem cf_83 : CallF Tryd.prog 83 := fun args w => by kernel_rfl
theorem cf_84 : CallF Tryd.prog 84 := fun args w => by kernel_rfl
theorem cf_66 : CallF Tryd.prog 66 := fun args w => by kernel_rfl
theorem cf_67 : CallF Tryd.prog 67 := fun args w => by kernel_rfl
theorem cf_69 : CallF Tryd.prog 69 := fun args w => by kernel_rfl
theorem cf_68 : CallF Tryd.prog 68 := fun args w => by kernel_rfl
theorem cf_70 : CallF Tryd.prog 70 := fun args w => by kernel_rfl
theorem z_116 : ZeroT Tryd.prog 116 (.agg ([.int .i64 0, .bool false, .bool false]).toArray) ([.int .i64 0, .bool false, .bool false]) := ⟨fun w => by kernel_rfl, by kernel_rfl⟩
theorem bld_116_0_2 {n1 : Int} {b2 : Bool} (w : World) : (Instr.build 116 [(0, .int .i64 n1), (2, .bool b2)].toArray).run Tryd.prog w = .ok (.agg #[.int .i64 n1, .bool false, .bool b2]) w := by kernel_rfl
theorem fo_116_2 : FieldOff Tryd.prog 116 2 2 := fun a w => by kernel_rfl
theorem fo_116_1 : FieldOff Tryd.prog 116 1 1 := fun a w => by kernel_rfl
theorem fo_116_0 : FieldOff Tryd.prog 116 0 0 := fun a w => by kernel_rfl
theorem sz_116 : SzT Tryd.prog 116 3 true := fun w => ⟨by kernel_rfl, by kernel_rfl⟩
theorem bld_71_2 {n1 : Int} (w : World) : (Instr.build 71 [(2, .int .i64 n1)].toArray).run Tryd.prog w = .ok (.agg #[.int .i64 0, .int .i8 0, .int .i64 n1, .int .i64 0, .int .i64 0, .int .i64 0, .int .i64 0, .bool false]) w := by kernel_rfl
theorem bs_43_1_0 {a1 : Option Addr} {l1 c1 : Nat} (w : World) : (Instr.buildSlice 43 1 [(0, .slice a1 l1 c1)].toArray).run Tryd.prog w = .ok (.slice (some ⟨w.heap.size, 0, none⟩) 1 1) (w.alloc (.cells [.slice a1 l1 c1].toArray 79 (0, 0))) := by kernel_rfl
theorem sl_43 : SlT Tryd.prog 43 79 1 24 := SlT.ofB (by kernel_rfl)
theorem sz_79 : SzT Tryd.prog 79 1 false := fun w => ⟨by kernel_rfl, by kernel_rfl⟩
theorem bld_87_0 {n1 : Int} (w : World) : (Instr.build 87 [(0, .int .i64 n1)].toArray).run Tryd.prog w = .ok (.agg #[.int .i64 n1, .int .i64 0]) w := by kernel_rfl
theorem z_87 : ZeroT Tryd.prog 87 (.agg ([.int .i64 0, .int .i64 0]).toArray) ([.int .i64 0, .int .i64 0]) := ⟨fun w => by kernel_rfl, by kernel_rfl⟩
theorem cf_25 : CallF Tryd.prog 25 := fun args w => by kernel_rfl
theorem cf_26 : CallF Tryd.prog 26 := fun args w => by kernel_rfl
theorem cf_35 : CallF Tryd.prog 35 := fun args w => by kernel_rfl
theorem cf_36 : CallF Tryd.prog 36 := fun args w => by kernel_rfl
theorem cf_37 : CallF Tryd.prog 37 := fun args w => by kernel_rfl
theorem cf_38 : CallF Tryd.prog 38 := fun args w => by kernel_rfl
theorem cf_31 : CallF Tryd.prog 31 := fun args w => by kernel_rfl
theorem cf_32 : CallF Tryd.prog 32 := fun args w => by kernel_rfl
theorem cf_39 : CallF Tryd.prog 39 := fun args w => by kernel_rfl
theorem sl_46 : SlT Tryd.prog 46 36 1 24 := SlT.ofB (by kernel_rfl)
theorem bs_46_1_0 {a1 : Option Addr} {l1 c1 : Nat} (w : World) : (Instr.buildSlice 46 1 [(0, .slice a1 l1 c1)].toArray).run Tryd.prog w = .ok (.slice (some ⟨w.heap.size, 0, none⟩) 1 1) (w.alloc (.cells [.slice a1 l1 c1].toArray 36 (0, 0))) := by kernel_rfl
theorem cf_27 : CallF Tryd.prog 27 := fun args w => by kernel_rfl
theorem cf_28 : CallF Tryd.prog 28 := fun args w => by kernel_rfl
theorem cf_29 : CallF Tryd.prog 29 := fun args w => by kernel_rfl
theorem cf_30 : CallF Tryd.prog 30 := fun args w => by kernel_rfl
theorem cf_33 : CallF Tryd.prog 33 := fun args w => by kernel_rfl
end Go.Proofs
