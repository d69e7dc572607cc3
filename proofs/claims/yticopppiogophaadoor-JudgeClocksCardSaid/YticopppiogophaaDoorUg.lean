/-
  Walks of long.
-/
import Derived.Test.YticopppiogophaaDoorTv
import Derived.Test.YticopppiogophaaDoorTp
import Derived.Test.YticopppiogophaaDoorSx
import Derived.Test.YticopppiogophaaDoorFa
import Derived.Test.YticopppiogophaaDoorFb
import Derived.Test.YticopppiogophaaDoorFc
set_option linter.unusedVariables false
set_option linter.unusedSimpArgs false
set_option maxRecDepth 100000
set_option maxHeartbeats 1000000
namespace Go.Proofs
open Go Go.TL Go.RowKit
theorem long_spec (w0 : World) (a : Option Addr) (n c : Nat) :
    Calls Tryd.prog 25 [.slice a n c].toArray w0 (fun e w => e = .returned (.bool (decide (2048 < (n : Int)))) ∧ Ext w0 w) := by
 have S := Sat.refl w0
 refine calls_of_W (args := [.slice a n c]) 6 Tryd.func25 rfl Tryd.ntmps25 rfl ?_
 refine W.seq ?_
 refine W.region rfl ?_
 refine WO.q (Y.assign (v := .bool _) rfl) ?_
 refine WO.nil ?_
 refine Then.nx ?_
 refine W.seq ?_
 refine W.region rfl ?_
 refine WO.q (Y.move (v := .slice _ _ _) rfl) ?_
 refine WO.q (Y.len (t' := 0) Tryd.underlying64 rfl) ?_
 refine WO.q (Y.gtr rfl rfl) ?_
 refine WO.q (Y.assign (v := .bool _) rfl) ?_
 refine WO.nil ?_
 refine Then.nx ?_
 refine W.ret ?_
 refine BodyQ.ret1 Tryd.results25 (ResV.tmp _ rfl) ?_
 exact ⟨rfl, S.ext⟩
end Go.Proofs
