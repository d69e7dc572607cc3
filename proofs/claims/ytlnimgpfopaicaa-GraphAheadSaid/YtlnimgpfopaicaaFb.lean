/-
  Facts of the seat's types and functions.
-/
import Derived.Test.YtlnimgpfopaicaaGb
import Derived.Test.YtlnimgpfopaicaaProg
set_option linter.unusedVariables false
set_option linter.unusedSimpArgs false
set_option maxRecDepth 100000
set_option maxHeartbeats 1000000
namespace Go.Proofs
open Go Go.TL Go.RowKit
theorem z_25 : ZeroT Try.prog 25 (.agg ([.slice none 0 0, .slice none 0 0]).toArray) ([.slice none 0 0, .slice none 0 0]) := ⟨fun w => by kernel_rfl, by kernel_rfl⟩
theorem cf_16 : CallF Try.prog 16 := fun args w => by kernel_rfl
theorem cf_24 : CallF Try.prog 24 := fun args w => by kernel_rfl
theorem bld_25_0_1 {a1 : Option Addr} {l1 c1 : Nat} {a2 : Option Addr} {l2 c2 : Nat} (w : World) : (Instr.build 25 [(0, .slice a1 l1 c1), (1, .slice a2 l2 c2)].toArray).run Try.prog w = .ok (.agg #[.slice a1 l1 c1, .slice a2 l2 c2]) w := by kernel_rfl
theorem cf_39 : CallF Try.prog 39 := fun args w => by kernel_rfl
theorem cf_41 : CallF Try.prog 41 := fun args w => by kernel_rfl
theorem cf_40 : CallF Try.prog 40 := fun args w => by kernel_rfl
theorem cf_28 : CallF Try.prog 28 := fun args w => by kernel_rfl
theorem cf_29 : CallF Try.prog 29 := fun args w => by kernel_rfl
theorem sz_69 : SzT Try.prog 69 1 false := fun w => ⟨by kernel_rfl, by kernel_rfl⟩
theorem sz_70 : SzT Try.prog 70 1 false := fun w => ⟨by kernel_rfl, by kernel_rfl⟩
theorem z_69 : ZeroT Try.prog 69 (.map none) ([.map none]) := ⟨fun w => by kernel_rfl, by kernel_rfl⟩
theorem z_70 : ZeroT Try.prog 70 (.nilFunc) ([.nilFunc]) := ⟨fun w => by kernel_rfl, by kernel_rfl⟩
theorem cf_37 : CallF Try.prog 37 := fun args w => by kernel_rfl
theorem bld_30_0 {n1 : Int} (w : World) : (Instr.build 30 [(0, .int .i8 n1)].toArray).run Try.prog w = .ok (.agg #[.int .i8 n1, .int .i64 0]) w := by kernel_rfl
theorem cf_26 : CallF Try.prog 26 := fun args w => by kernel_rfl
theorem bld_75_0_1 {n1 : Int} {n2 : Int} (w : World) : (Instr.build 75 [(0, .int .i8 n1), (1, .int .i64 n2)].toArray).run Try.prog w = .ok (.agg #[.int .i8 n1, .int .i64 n2, .int .i64 0, .int .i64 0]) w := by kernel_rfl
theorem bs_49_1_0 {n1 : Int} {n2 : Int} {n3 : Int} {n4 : Int} (w : World) : (Instr.buildSlice 49 1 [(0, .agg #[.int .i8 n1, .int .i64 n2, .int .i64 n3, .int .i64 n4])].toArray).run Try.prog w = .ok (.slice (some ⟨w.heap.size, 0, none⟩) 1 1) (w.alloc (.cells [.int .i8 n1, .int .i64 n2, .int .i64 n3, .int .i64 n4].toArray 75 (0, 0))) := by kernel_rfl
theorem bld_51_0_1 {s1 : ByteArray} {a2 : Option Addr} {l2 c2 : Nat} (w : World) : (Instr.build 51 [(0, .string s1), (1, .slice a2 l2 c2)].toArray).run Try.prog w = .ok (.agg #[.string s1, .slice a2 l2 c2, .int .i64 0]) w := by kernel_rfl
theorem bld_75_0_2 {n1 : Int} {n2 : Int} (w : World) : (Instr.build 75 [(0, .int .i8 n1), (2, .int .i64 n2)].toArray).run Try.prog w = .ok (.agg #[.int .i8 n1, .int .i64 0, .int .i64 n2, .int .i64 0]) w := by kernel_rfl
theorem bld_75_0 {n1 : Int} (w : World) : (Instr.build 75 [(0, .int .i8 n1)].toArray).run Try.prog w = .ok (.agg #[.int .i8 n1, .int .i64 0, .int .i64 0, .int .i64 0]) w := by kernel_rfl
theorem bs_49_3_0_1_2 {n1 : Int} {n2 : Int} {n3 : Int} {n4 : Int} {n5 : Int} {n6 : Int} {n7 : Int} {n8 : Int} {n9 : Int} {n10 : Int} {n11 : Int} {n12 : Int} (w : World) : (Instr.buildSlice 49 3 [(0, .agg #[.int .i8 n1, .int .i64 n2, .int .i64 n3, .int .i64 n4]), (1, .agg #[.int .i8 n5, .int .i64 n6, .int .i64 n7, .int .i64 n8]), (2, .agg #[.int .i8 n9, .int .i64 n10, .int .i64 n11, .int .i64 n12])].toArray).run Try.prog w = .ok (.slice (some ⟨w.heap.size, 0, none⟩) 3 3) (w.alloc (.cells [.int .i8 n1, .int .i64 n2, .int .i64 n3, .int .i64 n4, .int .i8 n5, .int .i64 n6, .int .i64 n7, .int .i64 n8, .int .i8 n9, .int .i64 n10, .int .i64 n11, .int .i64 n12].toArray 75 (0, 0))) := by kernel_rfl
theorem bs_22_2_0_1 {s1 : ByteArray} {a2 : Option Addr} {l2 c2 : Nat} {n3 : Int} {s4 : ByteArray} {a5 : Option Addr} {l5 c5 : Nat} {n6 : Int} (w : World) : (Instr.buildSlice 22 2 [(0, .agg #[.string s1, .slice a2 l2 c2, .int .i64 n3]), (1, .agg #[.string s4, .slice a5 l5 c5, .int .i64 n6])].toArray).run Try.prog w = .ok (.slice (some ⟨w.heap.size, 0, none⟩) 2 2) (w.alloc (.cells [.string s1, .slice a2 l2 c2, .int .i64 n3, .string s4, .slice a5 l5 c5, .int .i64 n6].toArray 51 (0, 0))) := by kernel_rfl
theorem bld_25_0 {a1 : Option Addr} {l1 c1 : Nat} (w : World) : (Instr.build 25 [(0, .slice a1 l1 c1)].toArray).run Try.prog w = .ok (.agg #[.slice a1 l1 c1, .slice none 0 0]) w := by kernel_rfl
theorem cf_20 : CallF Try.prog 20 := fun args w => by kernel_rfl
theorem bld_27_  (w : World) : (Instr.build 27 [].toArray).run Try.prog w = .ok (.agg #[.int .i64 0, .int .i64 0, .int .i64 0, .int .i64 0]) w := by kernel_rfl
theorem cf_7 : CallF Try.prog 7 := fun args w => by kernel_rfl
theorem cf_13 : CallF Try.prog 13 := fun args w => by kernel_rfl
theorem cf_12 : CallF Try.prog 12 := fun args w => by kernel_rfl
theorem bs_33_2_0_1 {n1 : Int} {n2 : Int} {n3 : Int} {n4 : Int} (w : World) : (Instr.buildSlice 33 2 [(0, .agg #[.int .i8 n1, .int .i64 n2]), (1, .agg #[.int .i8 n3, .int .i64 n4])].toArray).run Try.prog w = .ok (.slice (some ⟨w.heap.size, 0, none⟩) 2 2) (w.alloc (.cells [.int .i8 n1, .int .i64 n2, .int .i8 n3, .int .i64 n4].toArray 30 (0, 0))) := by kernel_rfl
theorem cf_9 : CallF Try.prog 9 := fun args w => by kernel_rfl
theorem cf_5 : CallF Try.prog 5 := fun args w => by kernel_rfl
theorem cf_6 : CallF Try.prog 6 := fun args w => by kernel_rfl
theorem cf_8 : CallF Try.prog 8 := fun args w => by kernel_rfl
theorem cf_10 : CallF Try.prog 10 := fun args w => by kernel_rfl
theorem cf_11 : CallF Try.prog 11 := fun args w => by kernel_rfl
theorem cf_15 : CallF Try.prog 15 := fun args w => by kernel_rfl
theorem cf_14 : CallF Try.prog 14 := fun args w => by kernel_rfl
theorem cf_17 : CallF Try.prog 17 := fun args w => by kernel_rfl
end Go.Proofs
