/-
  Walks of fits1.
-/
import Derived.Test.YtlnimgpfopaicaaGe
import Derived.Test.YtlnimgpfopaicaaGh
import Derived.Test.YtlnimgpfopaicaaSx
import Derived.Test.YtlnimgpfopaicaaFa
import Derived.Test.YtlnimgpfopaicaaFb
set_option linter.unusedVariables false
set_option linter.unusedSimpArgs false
set_option maxRecDepth 100000
set_option maxHeartbeats 1000000
namespace Go.Proofs
open Go Go.TL Go.RowKit
theorem fits1_spec (w0 : World) (be bx : Nat) (ea : Option Addr) (ec : Nat) (es : List GEnd) (e : GEnd) (k : Int) (hb1 : w0.heap[be]? = some (.cells [.slice ea es.length ec].toArray 33 (0, 0))) (hb2 : w0.heap[bx]? = some (.cells (tEnd.enc e).toArray 30 (0, 0))) (R2 : Rd tEnd w0 ea es) (hk0 : 0 ≤ k) (hk1 : k < es.length) :
    Calls Try.prog 38 ([.int .i64 k] ++ [.pointer (some ⟨be, 0, none⟩), .pointer (some ⟨bx, 0, none⟩)] : List Value).toArray w0 (fun r w => r = .returned (.bool (decide (es.getD k.toNat ⟨0, 0⟩ = e))) ∧ Ext w0 w) := by
 have S := Sat.refl w0
 obtain ⟨k, rfl⟩ := Int.eq_ofNat_of_zero_le hk0
 obtain ⟨u, hu⟩ := at_ex (xs := es) (k := k) (by omega)
 have ha := R2.1 (by omega)
 have hd : es.getD k ⟨0, 0⟩ = u := getD_at hu
 refine calls_of_W (args := [.int .i64 k, .pointer (some ⟨be, 0, none⟩), .pointer (some ⟨bx, 0, none⟩)]) 11 Try.func38 rfl Try.ntmps38 rfl ?_
 refine W.seq ?_
 refine W.region rfl ?_
 refine WO.q (Y.assign (v := .bool _) rfl) ?_
 refine WO.nil ?_
 refine Then.nx ?_
 refine W.seq ?_
 refine W.draw (.q 0 (.q 1 (.q 2 (.q 3 (.q 4 (.q 5 (.q 6 .nil))))))) (fun w => Sat _ w _) rfl rfl (by kernel_rfl) rfl (by kernel_rfl) (by repeat (first | exact BodyQ.noFrame | refine Then.noFrame ?_ | refine InB.noFrame ?_)) S.drew ?_
 clear S
 first | refine Plan.q rfl (fun w S => Y.load rfl (loadB1 sz_33 (S.ext.heap hb1) rfl)) ?_ | refine Plan.q rfl (fun w S => Y.load rfl (loadS1 sz_33 S 0 rfl rfl)) ?_ | refine Plan.q rfl (fun w S => Y.load rfl (loadS1 sz_33 S 1 rfl rfl)) ?_ | refine Plan.q rfl (fun w S => Y.load rfl (loadRdF sz_33 (R2.ext S.ext) (by assumption) rfl)) ?_ | refine Plan.q rfl (fun w S => Y.load rfl (loadRd1 sz_33 (R2.ext S.ext) (by assumption) rfl)) ?_
 refine Plan.q rfl (fun w S => Y.move (v := .int .i64 _) rfl) ?_
 first | refine Plan.q rfl (fun w S => Y.ixN sl_33 rfl rfl (by (first | assumption | rfl)) (by (first | assumption | omega))) ?_ | refine Plan.q rfl (fun w S => Y.ix sl_33 rfl rfl (by (first | assumption | rfl)) (by (first | assumption | omega)) (by (first | assumption | omega))) ?_
 first | refine Plan.q rfl (fun w S => Y.load rfl (loadBN sz_30 (S.ext.heap hb2) rfl rfl)) ?_ | refine Plan.q rfl (fun w S => Y.load rfl (loadRdN sz_30 (R2.ext S.ext) (by assumption))) ?_
 first | refine Plan.q rfl (fun w S => Y.load rfl (loadBN sz_30 (S.ext.heap hb2) rfl rfl)) ?_ | refine Plan.q rfl (fun w S => Y.load rfl (loadSN sz_30 S 0 rfl rfl rfl)) ?_ | refine Plan.q rfl (fun w S => Y.load rfl (loadSN sz_30 S 1 rfl rfl rfl)) ?_ | refine Plan.q rfl (fun w S => Y.load rfl (loadRdN sz_30 (R2.ext S.ext) (by assumption))) ?_
 refine Plan.q rfl (fun w S => Y.eqlA eqt_30 rfl rfl) ?_
 refine Plan.q rfl (fun w S => Y.assign (v := .bool _) rfl) ?_
 refine Plan.nil (fun w S => ?_)
 replace S : Sat _ _ _ := S
 refine Then.nx ?_
 refine W.ret ?_
 refine BodyQ.ret1 Try.results38 (ResV.tmp _ rfl) ?_
 exact ⟨by (rw [Int.toNat_natCast, hd]; rfl), S.ext⟩
end Go.Proofs
