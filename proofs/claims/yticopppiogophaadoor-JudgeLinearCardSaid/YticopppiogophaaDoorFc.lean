/-
  Facts of the seat's types and functions.
-/
import Derived.Test.YticopppiogophaaDoorTj
import Derived.Test.YticopppiogophaaDoorProg
set_option linter.unusedVariables false
set_option linter.unusedSimpArgs false
set_option maxRecDepth 100000
set_option maxHeartbeats 1000000
namespace Go.Proofs
open Go Go.TL Go.RowKit
theorem cf_11 : CallF Tryd.prog 11 := fun args w => by kernel_rfl
theorem cf_13 : CallF Tryd.prog 13 := fun args w => by kernel_rfl
theorem cf_14 : CallF Tryd.prog 14 := fun args w => by kernel_rfl
theorem cf_15 : CallF Tryd.prog 15 := fun args w => by kernel_rfl
theorem cf_16 : CallF Tryd.prog 16 := fun args w => by kernel_rfl
theorem bld_50_  (w : World) : (Instr.build 50 [].toArray).run Tryd.prog w = .ok (.agg #[.slice none 0 0, .slice none 0 0, .slice none 0 0, .slice none 0 0, .slice none 0 0, .slice none 0 0, .slice none 0 0, .slice none 0 0, .slice none 0 0, .slice none 0 0, .slice none 0 0, .slice none 0 0, .slice none 0 0, .slice none 0 0]) w := by kernel_rfl
theorem cf_17 : CallF Tryd.prog 17 := fun args w => by kernel_rfl
theorem cf_18 : CallF Tryd.prog 18 := fun args w => by kernel_rfl
end Go.Proofs
