/-
  Facts of the seat's types and functions.
-/
import Derived.Test.YticopppiogophaaDoorTj
import Derived.Test.YticopppiogophaaDoorProg
set_option linter.unusedVariables false
set_option linter.unusedSimpArgs false
set_option maxRecDepth 100000
set_option maxHeartbeats 1000000
namespace Go.Proofs
open Go Go.TL Go.RowKit
theorem bld_87_0_1 {n1 : Int} {n2 : Int} (w : World) : (Instr.build 87 [(0, .int .i64 n1), (1, .int .i64 n2)].toArray).run Tryd.prog w = .ok (.agg #[.int .i64 n1, .int .i64 n2]) w := by kernel_rfl
theorem bs_79_1_0 {n1 : Int} {n2 : Int} (w : World) : (Instr.buildSlice 79 1 [(0, .agg #[.int .i64 n1, .int .i64 n2])].toArray).run Tryd.prog w = .ok (.slice (some ⟨w.heap.size, 0, none⟩) 1 1) (w.alloc (.cells [.int .i64 n1, .int .i64 n2].toArray 87 (0, 0))) := by kernel_rfl
theorem fo_121_0 : FieldOff Tryd.prog 121 0 0 := fun a w => by kernel_rfl
theorem sz_119 : SzT Tryd.prog 119 1 false := fun w => ⟨by kernel_rfl, by kernel_rfl⟩
theorem cf_85 : CallF Tryd.prog 85 := fun args w => by kernel_rfl
theorem fo_121_1 : FieldOff Tryd.prog 121 1 1 := fun a w => by kernel_rfl
theorem sz_53 : SzT Tryd.prog 53 1 false := fun w => ⟨by kernel_rfl, by kernel_rfl⟩
theorem z_121 : ZeroT Tryd.prog 121 (.agg ([.pointer none, .slice none 0 0]).toArray) ([.pointer none, .slice none 0 0]) := ⟨fun w => by kernel_rfl, by kernel_rfl⟩
theorem cf_72 : CallF Tryd.prog 72 := fun args w => by kernel_rfl
theorem cf_71 : CallF Tryd.prog 71 := fun args w => by kernel_rfl
theorem cf_73 : CallF Tryd.prog 73 := fun args w => by kernel_rfl
theorem cf_74 : CallF Tryd.prog 74 := fun args w => by kernel_rfl
theorem fo_58_6 : FieldOff Tryd.prog 58 6 6 := fun a w => by kernel_rfl
theorem fo_58_5 : FieldOff Tryd.prog 58 5 5 := fun a w => by kernel_rfl
theorem fo_58_3 : FieldOff Tryd.prog 58 3 3 := fun a w => by kernel_rfl
theorem fo_58_4 : FieldOff Tryd.prog 58 4 4 := fun a w => by kernel_rfl
theorem fo_58_0 : FieldOff Tryd.prog 58 0 0 := fun a w => by kernel_rfl
theorem fo_58_1 : FieldOff Tryd.prog 58 1 1 := fun a w => by kernel_rfl
theorem fo_58_2 : FieldOff Tryd.prog 58 2 2 := fun a w => by kernel_rfl
theorem bld_58_  (w : World) : (Instr.build 58 [].toArray).run Tryd.prog w = .ok (.agg #[.int .i8 0, .int .i64 0, .int .i64 0, .int .i64 0, .bool false, .int .i64 0, .int .i64 0]) w := by kernel_rfl
theorem cf_75 : CallF Tryd.prog 75 := fun args w => by kernel_rfl
theorem bs_54_1_0 {n1 : Int} (w : World) : (Instr.buildSlice 54 1 [(0, .int .i64 n1)].toArray).run Tryd.prog w = .ok (.slice (some ⟨w.heap.size, 0, none⟩) 1 1) (w.alloc (.cells [.int .i64 n1].toArray 2 (0, 0))) := by kernel_rfl
theorem cf_43 : CallF Tryd.prog 43 := fun args w => by kernel_rfl
theorem sz_91 : SzT Tryd.prog 91 1 false := fun w => ⟨by kernel_rfl, by kernel_rfl⟩
theorem sz_22 : SzT Tryd.prog 22 1 false := fun w => ⟨by kernel_rfl, by kernel_rfl⟩
theorem cf_44 : CallF Tryd.prog 44 := fun args w => by kernel_rfl
theorem sz_89 : SzT Tryd.prog 89 1 false := fun w => ⟨by kernel_rfl, by kernel_rfl⟩
theorem cf_45 : CallF Tryd.prog 45 := fun args w => by kernel_rfl
theorem sz_92 : SzT Tryd.prog 92 1 false := fun w => ⟨by kernel_rfl, by kernel_rfl⟩
theorem z_89 : ZeroT Tryd.prog 89 (.int .i64 0) ([.int .i64 0]) := ⟨fun w => by kernel_rfl, by kernel_rfl⟩
theorem z_3 : ZeroT Tryd.prog 3 (.int .i64 0) ([.int .i64 0]) := ⟨fun w => by kernel_rfl, by kernel_rfl⟩
theorem cf_41 : CallF Tryd.prog 41 := fun args w => by kernel_rfl
theorem z_91 : ZeroT Tryd.prog 91 (.map none) ([.map none]) := ⟨fun w => by kernel_rfl, by kernel_rfl⟩
theorem z_27 : ZeroT Tryd.prog 27 (.slice none 0 0) ([.slice none 0 0]) := ⟨fun w => by kernel_rfl, by kernel_rfl⟩
theorem z_92 : ZeroT Tryd.prog 92 (.nilFunc) ([.nilFunc]) := ⟨fun w => by kernel_rfl, by kernel_rfl⟩
theorem cf_46 : CallF Tryd.prog 46 := fun args w => by kernel_rfl
theorem bld_71_1_2_3_4 {n1 : Int} {n2 : Int} {n3 : Int} {n4 : Int} (w : World) : (Instr.build 71 [(1, .int .i8 n1), (2, .int .i64 n2), (3, .int .i64 n3), (4, .int .i64 n4)].toArray).run Tryd.prog w = .ok (.agg #[.int .i64 0, .int .i8 n1, .int .i64 n2, .int .i64 n3, .int .i64 n4, .int .i64 0, .int .i64 0, .bool false]) w := by kernel_rfl
theorem bld_71_0_1 {n1 : Int} {n2 : Int} (w : World) : (Instr.build 71 [(0, .int .i64 n1), (1, .int .i8 n2)].toArray).run Tryd.prog w = .ok (.agg #[.int .i64 n1, .int .i8 n2, .int .i64 0, .int .i64 0, .int .i64 0, .int .i64 0, .int .i64 0, .bool false]) w := by kernel_rfl
theorem bld_71_0_1_2_3 {n1 : Int} {n2 : Int} {n3 : Int} {n4 : Int} (w : World) : (Instr.build 71 [(0, .int .i64 n1), (1, .int .i8 n2), (2, .int .i64 n3), (3, .int .i64 n4)].toArray).run Tryd.prog w = .ok (.agg #[.int .i64 n1, .int .i8 n2, .int .i64 n3, .int .i64 n4, .int .i64 0, .int .i64 0, .int .i64 0, .bool false]) w := by kernel_rfl
theorem bs_64_3_0_1_2 {n1 : Int} {n2 : Int} {n3 : Int} {n4 : Int} {n5 : Int} {n6 : Int} {n7 : Int} {b8 : Bool} {n9 : Int} {n10 : Int} {n11 : Int} {n12 : Int} {n13 : Int} {n14 : Int} {n15 : Int} {b16 : Bool} {n17 : Int} {n18 : Int} {n19 : Int} {n20 : Int} {n21 : Int} {n22 : Int} {n23 : Int} {b24 : Bool} (w : World) : (Instr.buildSlice 64 3 [(0, .agg #[.int .i64 n1, .int .i8 n2, .int .i64 n3, .int .i64 n4, .int .i64 n5, .int .i64 n6, .int .i64 n7, .bool b8]), (1, .agg #[.int .i64 n9, .int .i8 n10, .int .i64 n11, .int .i64 n12, .int .i64 n13, .int .i64 n14, .int .i64 n15, .bool b16]), (2, .agg #[.int .i64 n17, .int .i8 n18, .int .i64 n19, .int .i64 n20, .int .i64 n21, .int .i64 n22, .int .i64 n23, .bool b24])].toArray).run Tryd.prog w = .ok (.slice (some ⟨w.heap.size, 0, none⟩) 3 3) (w.alloc (.cells [.int .i64 n1, .int .i8 n2, .int .i64 n3, .int .i64 n4, .int .i64 n5, .int .i64 n6, .int .i64 n7, .bool b8, .int .i64 n9, .int .i8 n10, .int .i64 n11, .int .i64 n12, .int .i64 n13, .int .i64 n14, .int .i64 n15, .bool b16, .int .i64 n17, .int .i8 n18, .int .i64 n19, .int .i64 n20, .int .i64 n21, .int .i64 n22, .int .i64 n23, .bool b24].toArray 71 (0, 0))) := by kernel_rfl
theorem bld_71_1 {n1 : Int} (w : World) : (Instr.build 71 [(1, .int .i8 n1)].toArray).run Tryd.prog w = .ok (.agg #[.int .i64 0, .int .i8 n1, .int .i64 0, .int .i64 0, .int .i64 0, .int .i64 0, .int .i64 0, .bool false]) w := by kernel_rfl
theorem bs_64_4_0_1_2_3 {n1 : Int} {n2 : Int} {n3 : Int} {n4 : Int} {n5 : Int} {n6 : Int} {n7 : Int} {b8 : Bool} {n9 : Int} {n10 : Int} {n11 : Int} {n12 : Int} {n13 : Int} {n14 : Int} {n15 : Int} {b16 : Bool} {n17 : Int} {n18 : Int} {n19 : Int} {n20 : Int} {n21 : Int} {n22 : Int} {n23 : Int} {b24 : Bool} {n25 : Int} {n26 : Int} {n27 : Int} {n28 : Int} {n29 : Int} {n30 : Int} {n31 : Int} {b32 : Bool} (w : World) : (Instr.buildSlice 64 4 [(0, .agg #[.int .i64 n1, .int .i8 n2, .int .i64 n3, .int .i64 n4, .int .i64 n5, .int .i64 n6, .int .i64 n7, .bool b8]), (1, .agg #[.int .i64 n9, .int .i8 n10, .int .i64 n11, .int .i64 n12, .int .i64 n13, .int .i64 n14, .int .i64 n15, .bool b16]), (2, .agg #[.int .i64 n17, .int .i8 n18, .int .i64 n19, .int .i64 n20, .int .i64 n21, .int .i64 n22, .int .i64 n23, .bool b24]), (3, .agg #[.int .i64 n25, .int .i8 n26, .int .i64 n27, .int .i64 n28, .int .i64 n29, .int .i64 n30, .int .i64 n31, .bool b32])].toArray).run Tryd.prog w = .ok (.slice (some ⟨w.heap.size, 0, none⟩) 4 4) (w.alloc (.cells [.int .i64 n1, .int .i8 n2, .int .i64 n3, .int .i64 n4, .int .i64 n5, .int .i64 n6, .int .i64 n7, .bool b8, .int .i64 n9, .int .i8 n10, .int .i64 n11, .int .i64 n12, .int .i64 n13, .int .i64 n14, .int .i64 n15, .bool b16, .int .i64 n17, .int .i8 n18, .int .i64 n19, .int .i64 n20, .int .i64 n21, .int .i64 n22, .int .i64 n23, .bool b24, .int .i64 n25, .int .i8 n26, .int .i64 n27, .int .i64 n28, .int .i64 n29, .int .i64 n30, .int .i64 n31, .bool b32].toArray 71 (0, 0))) := by kernel_rfl
theorem cf_34 : CallF Tryd.prog 34 := fun args w => by kernel_rfl
theorem bld_58_0_1_6 {n1 : Int} {n2 : Int} {n3 : Int} (w : World) : (Instr.build 58 [(0, .int .i8 n1), (1, .int .i64 n2), (6, .int .i64 n3)].toArray).run Tryd.prog w = .ok (.agg #[.int .i8 n1, .int .i64 n2, .int .i64 0, .int .i64 0, .bool false, .int .i64 0, .int .i64 n3]) w := by kernel_rfl
theorem bld_58_0_3_4_5_6 {n1 : Int} {n2 : Int} {b3 : Bool} {n4 : Int} {n5 : Int} (w : World) : (Instr.build 58 [(0, .int .i8 n1), (3, .int .i64 n2), (4, .bool b3), (5, .int .i64 n4), (6, .int .i64 n5)].toArray).run Tryd.prog w = .ok (.agg #[.int .i8 n1, .int .i64 0, .int .i64 0, .int .i64 n2, .bool b3, .int .i64 n4, .int .i64 n5]) w := by kernel_rfl
theorem bs_22_2_0_1 {n1 : Int} {n2 : Int} {n3 : Int} {n4 : Int} {b5 : Bool} {n6 : Int} {n7 : Int} {n8 : Int} {n9 : Int} {n10 : Int} {n11 : Int} {b12 : Bool} {n13 : Int} {n14 : Int} (w : World) : (Instr.buildSlice 22 2 [(0, .agg #[.int .i8 n1, .int .i64 n2, .int .i64 n3, .int .i64 n4, .bool b5, .int .i64 n6, .int .i64 n7]), (1, .agg #[.int .i8 n8, .int .i64 n9, .int .i64 n10, .int .i64 n11, .bool b12, .int .i64 n13, .int .i64 n14])].toArray).run Tryd.prog w = .ok (.slice (some ⟨w.heap.size, 0, none⟩) 2 2) (w.alloc (.cells [.int .i8 n1, .int .i64 n2, .int .i64 n3, .int .i64 n4, .bool b5, .int .i64 n6, .int .i64 n7, .int .i8 n8, .int .i64 n9, .int .i64 n10, .int .i64 n11, .bool b12, .int .i64 n13, .int .i64 n14].toArray 58 (0, 0))) := by kernel_rfl
theorem cf_12 : CallF Tryd.prog 12 := fun args w => by kernel_rfl
theorem bld_87_1 {n1 : Int} (w : World) : (Instr.build 87 [(1, .int .i64 n1)].toArray).run Tryd.prog w = .ok (.agg #[.int .i64 0, .int .i64 n1]) w := by kernel_rfl
theorem z_66 : ZeroT Tryd.prog 66 (.agg (List.replicate 1600 (.bool false)).toArray) (List.replicate 1600 (.bool false)) := ⟨fun w => by kernel_rfl, by kernel_rfl⟩
theorem cf_24 : CallF Tryd.prog 24 := fun args w => by kernel_rfl
theorem cf_23 : CallF Tryd.prog 23 := fun args w => by kernel_rfl
theorem cf_10 : CallF Tryd.prog 10 := fun args w => by kernel_rfl
theorem ar_66 : ArT Tryd.prog 66 40 65 40 := ⟨by kernel_rfl, fun w => by kernel_rfl⟩
theorem ar_65 : ArT Tryd.prog 65 40 4 1 := ⟨by kernel_rfl, fun w => by kernel_rfl⟩
theorem bld_58_0_1 {n1 : Int} {n2 : Int} (w : World) : (Instr.build 58 [(0, .int .i8 n1), (1, .int .i64 n2)].toArray).run Tryd.prog w = .ok (.agg #[.int .i8 n1, .int .i64 n2, .int .i64 0, .int .i64 0, .bool false, .int .i64 0, .int .i64 0]) w := by kernel_rfl
theorem bld_58_0 {n1 : Int} (w : World) : (Instr.build 58 [(0, .int .i8 n1)].toArray).run Tryd.prog w = .ok (.agg #[.int .i8 n1, .int .i64 0, .int .i64 0, .int .i64 0, .bool false, .int .i64 0, .int .i64 0]) w := by kernel_rfl
theorem cf_19 : CallF Tryd.prog 19 := fun args w => by kernel_rfl
theorem cf_20 : CallF Tryd.prog 20 := fun args w => by kernel_rfl
theorem cf_21 : CallF Tryd.prog 21 := fun args w => by kernel_rfl
theorem sl_53 : SlT Tryd.prog 53 5 1 1 := SlT.ofB (by kernel_rfl)
theorem sz_5 : SzT Tryd.prog 5 1 false := fun w => ⟨by kernel_rfl, by kernel_rfl⟩
theorem bs_22_1_0 {n1 : Int} {n2 : Int} {n3 : Int} {n4 : Int} {b5 : Bool} {n6 : Int} {n7 : Int} (w : World) : (Instr.buildSlice 22 1 [(0, .agg #[.int .i8 n1, .int .i64 n2, .int .i64 n3, .int .i64 n4, .bool b5, .int .i64 n6, .int .i64 n7])].toArray).run Tryd.prog w = .ok (.slice (some ⟨w.heap.size, 0, none⟩) 1 1) (w.alloc (.cells [.int .i8 n1, .int .i64 n2, .int .i64 n3, .int .i64 n4, .bool b5, .int .i64 n6, .int .i64 n7].toArray 58 (0, 0))) := by kernel_rfl
theorem cf_22 : CallF Tryd.prog 22 := fun args w => by kernel_rfl
theorem z_62 : ZeroT Tryd.prog 62 (.agg ([.bool false, .bool false, .bool false, .bool false, .bool false, .bool false, .bool false, .bool false, .bool false, .bool false, .bool false, .bool false]).toArray) ([.bool false, .bool false, .bool false, .bool false, .bool false, .bool false, .bool false, .bool false, .bool false, .bool false, .bool false, .bool false]) := ⟨fun w => by kernel_rfl, by kernel_rfl⟩
theorem ar_62 : ArT Tryd.prog 62 12 4 1 := ⟨by kernel_rfl, fun w => by kernel_rfl⟩
theorem fo_100_1 : FieldOff Tryd.prog 100 1 1 := fun a w => by kernel_rfl
theorem fo_100_2 : FieldOff Tryd.prog 100 2 2 := fun a w => by kernel_rfl
theorem fo_100_3 : FieldOff Tryd.prog 100 3 3 := fun a w => by kernel_rfl
theorem sl_37 : SlT Tryd.prog 37 54 1 24 := SlT.ofB (by kernel_rfl)
theorem cf_76 : CallF Tryd.prog 76 := fun args w => by kernel_rfl
theorem cf_77 : CallF Tryd.prog 77 := fun args w => by kernel_rfl
theorem fo_100_0 : FieldOff Tryd.prog 100 0 0 := fun a w => by kernel_rfl
theorem cf_78 : CallF Tryd.prog 78 := fun args w => by kernel_rfl
theorem cf_48 : CallF Tryd.prog 48 := fun args w => by kernel_rfl
theorem bs_37_1_0 {a1 : Option Addr} {l1 c1 : Nat} (w : World) : (Instr.buildSlice 37 1 [(0, .slice a1 l1 c1)].toArray).run Tryd.prog w = .ok (.slice (some ⟨w.heap.size, 0, none⟩) 1 1) (w.alloc (.cells [.slice a1 l1 c1].toArray 54 (0, 0))) := by kernel_rfl
theorem sz_54 : SzT Tryd.prog 54 1 false := fun w => ⟨by kernel_rfl, by kernel_rfl⟩
theorem cf_47 : CallF Tryd.prog 47 := fun args w => by kernel_rfl
theorem bld_100_0_1 {n1 : Int} {a2 : Option Addr} {l2 c2 : Nat} (w : World) : (Instr.build 100 [(0, .int .i64 n1), (1, .slice a2 l2 c2)].toArray).run Tryd.prog w = .ok (.agg #[.int .i64 n1, .slice a2 l2 c2, .slice none 0 0, .slice none 0 0]) w := by kernel_rfl
theorem cf_8 : CallF Tryd.prog 8 := fun args w => by kernel_rfl
theorem cf_9 : CallF Tryd.prog 9 := fun args w => by kernel_rfl
end Go.Proofs
