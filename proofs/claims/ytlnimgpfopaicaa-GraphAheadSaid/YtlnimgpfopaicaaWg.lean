/-
  Walks of fits.
-/
import Derived.Test.YtlnimgpfopaicaaGe
import Derived.Test.YtlnimgpfopaicaaGh
import Derived.Test.YtlnimgpfopaicaaSx
import Derived.Test.YtlnimgpfopaicaaFa
import Derived.Test.YtlnimgpfopaicaaFb
import Derived.Test.YtlnimgpfopaicaaWb
import Derived.Test.YtlnimgpfopaicaaWf
import Derived.Test.YtlnimgpfopaicaaVc
import Derived.Test.YtlnimgpfopaicaaVd
set_option linter.unusedVariables false
set_option linter.unusedSimpArgs false
set_option maxRecDepth 100000
set_option maxHeartbeats 1000000
namespace Go.Proofs
open Go Go.TL Go.RowKit
theorem fits_spec (w0 : World) (v : FIn) (f : GFlow) (R : RdFlow w0 v f) (hck : (checkM f).1 = 0) (n : Nat) (m : GMaker) (ea : Option Addr) (ec : Nat) (es : List GEnd) (R2 : Rd tEnd w0 ea es) (hn : n < f.lets.length) (hes : es.length = f.lets.length) :
    Calls Try.prog 26 [.agg (fL v f).toArray, .int .i64 (n : Int), .agg (tMaker.enc m).toArray, .slice ea es.length ec].toArray w0 (fun r w => r = .returned (.bool (fitM f.lets n m es)) ∧ Ext w0 w) := by
 have S := Sat.refl w0
 have hR := R
 obtain ⟨⟨raws, R1, hraw⟩, Ro, hlc, hoc, hln, hon, htn⟩ := R
 have hrl := hraw.1
 have ha := R1.1 (by omega)
 obtain ⟨x, hx⟩ := at_ex (xs := f.lets) (k := n) (by omega)
 obtain ⟨ra, rc, hr, hrc, hrt⟩ := hraw.get hx
 obtain ⟨htr, hft, hot⟩ := checked2 hck hx
 have htl := htn n x hx
 obtain ⟨nd, hnd⟩ := at_ex (xs := x.tree) (k := 0) (by (rw [htr]; exact flat_pos _))
 have hrm := rootM_at hnd
 have hnq := needsR_eq hck hx
 have hnql := needsR_len x
 obtain ⟨en, hen⟩ := at_ex (xs := es) (k := n) (by omega)
 have hea := R2.1 (by omega)
 refine calls_of_W (args := [.agg (fL v f).toArray, .int .i64 (n : Int), .agg (tMaker.enc m).toArray, .slice ea es.length ec]) 107 Try.func26 rfl Try.ntmps26 rfl ?_
 refine W.seq ?_
 refine W.region rfl ?_
 refine WO.e (O.box rfl rfl S (fun b4 w S => ?_))
 refine WO.e (O.box rfl rfl S (fun b6 w S => ?_))
 refine WO.e (O.box rfl rfl S (fun b7 w S => ?_))
 refine WO.q (Y.assign (v := .bool _) rfl) ?_
 refine WO.nil ?_
 refine Then.nx ?_
 refine W.cut2 [9, 10, 17, 18, 19, 20, 21, 22, 23, 24, 25] 9 10 (fun v9 v10 w => ∃ bx be : Nat, v9 = .pointer (some ⟨bx, 0, none⟩) ∧ v10 = .pointer (some ⟨be, 0, none⟩) ∧ Sat w0 w [Cel bx (tRLet.enc ⟨x.name, (ra, x.tree.length, rc), x.at_⟩) 51, Cel be (tEnd.enc en) 30, Cel b4 (fL v f) 25, Cel b6 (tMaker.enc m) 27, Cel b7 [.slice ea es.length ec] 33]) ?_ ?_
 ·
  refine W.drawT (.q 0 (.q 1 (.q 2 (.q 3 (.q 4 (.q 5 (.q 6 (.q 7 (.q 8 (.br 9 (.e 10 (.e 11 (.e 12 .nil))) 10 (.e 9 (.e 11 (.e 12 .nil))))))))))))) (fun w => Sat w0 w [Cel b7 [.slice ea es.length ec] 33, Cel b6 (tMaker.enc m) 27, Cel b4 (fL v f) 25]) (fun w => Sat _ w _) rfl rfl (by kernel_rfl) rfl (by kernel_rfl) (by repeat (first | exact BodyQ.noFrame | refine Then.noFrame ?_ | refine InB.noFrame ?_)) (fun w S => S.pk (by repeat (first | exact Pk.nil _ | exact Pk.refl _ | refine Pk.cons 0 rfl ?_ | refine Pk.cons 1 rfl ?_ | refine Pk.cons 2 rfl ?_ | refine Pk.cons 3 rfl ?_ | refine Pk.cons 4 rfl ?_ | refine Pk.cons 5 rfl ?_ | refine Pk.cons 6 rfl ?_ | refine Pk.cons 7 rfl ?_ | refine Pk.cons 8 rfl ?_ | refine Pk.cons 9 rfl ?_ | refine Pk.cons 10 rfl ?_ | refine Pk.cons 11 rfl ?_ | refine Pk.cons 12 rfl ?_ | refine Pk.cons 13 rfl ?_ | refine Pk.drop ?_))) S.drew ?_
  clear S
  refine PlanT.q rfl (fun w S => Y.fieldB fo_25_0 rfl) ?_
  first | refine PlanT.q rfl (fun w S => Y.load rfl (loadS1 sz_22 S 0 rfl rfl)) ?_ | refine PlanT.q rfl (fun w S => Y.load rfl (loadS1 sz_22 S 1 rfl rfl)) ?_ | refine PlanT.q rfl (fun w S => Y.load rfl (loadS1 sz_22 S 2 rfl rfl)) ?_ | refine PlanT.q rfl (fun w S => Y.load rfl (loadS1 sz_22 S 3 rfl rfl)) ?_ | refine PlanT.q rfl (fun w S => Y.load rfl (loadS1 sz_22 S 4 rfl rfl)) ?_ | refine PlanT.q rfl (fun w S => Y.load rfl (loadS1 sz_22 S 5 rfl rfl)) ?_ | refine PlanT.q rfl (fun w S => Y.load rfl (loadS1 sz_22 S 6 rfl rfl)) ?_ | refine PlanT.q rfl (fun w S => Y.load rfl (loadS1 sz_22 S 7 rfl rfl)) ?_
  refine PlanT.q rfl (fun w S => Y.move (v := .int .i64 _) rfl) ?_
  first | refine PlanT.q rfl (fun w S => Y.ixN sl_22 rfl rfl (by (first | assumption | rfl)) (by (first | assumption | omega))) ?_ | refine PlanT.q rfl (fun w S => Y.ix sl_22 rfl rfl (by (first | assumption | rfl)) (by (first | assumption | omega)) (by (first | assumption | omega))) ?_
  first | refine PlanT.q rfl (fun w S => Y.load rfl (loadRdN sz_51 (R1.ext S.ext) (by assumption))) ?_ | refine PlanT.q rfl (fun w S => Y.load rfl (loadRdN sz_51 (R2.ext S.ext) (by assumption))) ?_ | refine PlanT.q rfl (fun w S => Y.load rfl (loadRdN sz_51 (hyt.ext S.ext) (by assumption))) ?_ | refine PlanT.q rfl (fun w S => Y.load rfl (loadRdN sz_51 (hrt.ext S.ext) (by assumption))) ?_
  first | refine PlanT.q rfl (fun w S => Y.load rfl (loadS1 sz_33 S 0 rfl rfl)) ?_ | refine PlanT.q rfl (fun w S => Y.load rfl (loadS1 sz_33 S 1 rfl rfl)) ?_ | refine PlanT.q rfl (fun w S => Y.load rfl (loadS1 sz_33 S 2 rfl rfl)) ?_ | refine PlanT.q rfl (fun w S => Y.load rfl (loadS1 sz_33 S 3 rfl rfl)) ?_ | refine PlanT.q rfl (fun w S => Y.load rfl (loadS1 sz_33 S 4 rfl rfl)) ?_ | refine PlanT.q rfl (fun w S => Y.load rfl (loadS1 sz_33 S 5 rfl rfl)) ?_ | refine PlanT.q rfl (fun w S => Y.load rfl (loadS1 sz_33 S 6 rfl rfl)) ?_ | refine PlanT.q rfl (fun w S => Y.load rfl (loadS1 sz_33 S 7 rfl rfl)) ?_
  refine PlanT.q rfl (fun w S => Y.move (v := .int .i64 _) rfl) ?_
  first | refine PlanT.q rfl (fun w S => Y.ixN sl_33 rfl rfl (by (first | assumption | rfl)) (by (first | assumption | omega))) ?_ | refine PlanT.q rfl (fun w S => Y.ix sl_33 rfl rfl (by (first | assumption | rfl)) (by (first | assumption | omega)) (by (first | assumption | omega))) ?_
  first | refine PlanT.q rfl (fun w S => Y.load rfl (loadRdN sz_30 (R1.ext S.ext) (by assumption))) ?_ | refine PlanT.q rfl (fun w S => Y.load rfl (loadRdN sz_30 (R2.ext S.ext) (by assumption))) ?_ | refine PlanT.q rfl (fun w S => Y.load rfl (loadRdN sz_30 (hyt.ext S.ext) (by assumption))) ?_ | refine PlanT.q rfl (fun w S => Y.load rfl (loadRdN sz_30 (hrt.ext S.ext) (by assumption))) ?_
  refine PlanT.br ?_ ?_
  ·
   refine PlanT.e1 rfl (fun w S => O.alloc z_51 S (fun b9 w S => ?_))
   refine ⟨(fun w => Sat w0 w [Cel b7 [.slice ea es.length ec] 33, Cel b6 (tMaker.enc m) 27, Cel b4 (fL v f) 25]), (fun w => Sat _ w _), S, (.inr (fun _ h => h)), (fun w S => S.pk (by repeat (first | exact Pk.nil _ | exact Pk.refl _ | refine Pk.cons 0 rfl ?_ | refine Pk.cons 1 rfl ?_ | refine Pk.cons 2 rfl ?_ | refine Pk.cons 3 rfl ?_ | refine Pk.cons 4 rfl ?_ | refine Pk.cons 5 rfl ?_ | refine Pk.cons 6 rfl ?_ | refine Pk.cons 7 rfl ?_ | refine Pk.cons 8 rfl ?_ | refine Pk.cons 9 rfl ?_ | refine Pk.cons 10 rfl ?_ | refine Pk.cons 11 rfl ?_ | refine Pk.cons 12 rfl ?_ | refine Pk.cons 13 rfl ?_ | refine Pk.drop ?_))), ?_⟩
   clear S
   refine PlanT.e1 rfl (fun w S => O.alloc z_30 S (fun b10 w S => ?_))
   refine ⟨(fun w => Sat w0 w [Cel b7 [.slice ea es.length ec] 33, Cel b6 (tMaker.enc m) 27, Cel b4 (fL v f) 25]), (fun w => Sat _ w _), S, (.inr (fun _ h => h)), (fun w S => S.pk (by repeat (first | exact Pk.nil _ | exact Pk.refl _ | refine Pk.cons 0 rfl ?_ | refine Pk.cons 1 rfl ?_ | refine Pk.cons 2 rfl ?_ | refine Pk.cons 3 rfl ?_ | refine Pk.cons 4 rfl ?_ | refine Pk.cons 5 rfl ?_ | refine Pk.cons 6 rfl ?_ | refine Pk.cons 7 rfl ?_ | refine Pk.cons 8 rfl ?_ | refine Pk.cons 9 rfl ?_ | refine Pk.cons 10 rfl ?_ | refine Pk.cons 11 rfl ?_ | refine Pk.cons 12 rfl ?_ | refine Pk.cons 13 rfl ?_ | refine Pk.drop ?_))), ?_⟩
   clear S
   first | refine PlanT.e0 rfl (fun w S => O.store (v := .agg _) 0 S rfl rfl rfl sz_51 rfl rfl rfl rfl (fun w S => ?_)) | refine PlanT.e0 rfl (fun w S => O.store (v := .agg _) 1 S rfl rfl rfl sz_51 rfl rfl rfl rfl (fun w S => ?_)) | refine PlanT.e0 rfl (fun w S => O.store (v := .agg _) 2 S rfl rfl rfl sz_51 rfl rfl rfl rfl (fun w S => ?_)) | refine PlanT.e0 rfl (fun w S => O.store (v := .agg _) 3 S rfl rfl rfl sz_51 rfl rfl rfl rfl (fun w S => ?_)) | refine PlanT.e0 rfl (fun w S => O.store (v := .agg _) 4 S rfl rfl rfl sz_51 rfl rfl rfl rfl (fun w S => ?_)) | refine PlanT.e0 rfl (fun w S => O.store (v := .agg _) 5 S rfl rfl rfl sz_51 rfl rfl rfl rfl (fun w S => ?_)) | refine PlanT.e0 rfl (fun w S => O.store (v := .agg _) 6 S rfl rfl rfl sz_51 rfl rfl rfl rfl (fun w S => ?_)) | refine PlanT.e0 rfl (fun w S => O.store (v := .agg _) 7 S rfl rfl rfl sz_51 rfl rfl rfl rfl (fun w S => ?_))
   refine ⟨(fun w => Sat w0 w [Cel b7 [.slice ea es.length ec] 33, Cel b6 (tMaker.enc m) 27, Cel b4 (fL v f) 25]), (fun w => Sat _ w _), S, (.inr (fun _ h => h)), (fun w S => S.pk (by repeat (first | exact Pk.nil _ | exact Pk.refl _ | refine Pk.cons 0 rfl ?_ | refine Pk.cons 1 rfl ?_ | refine Pk.cons 2 rfl ?_ | refine Pk.cons 3 rfl ?_ | refine Pk.cons 4 rfl ?_ | refine Pk.cons 5 rfl ?_ | refine Pk.cons 6 rfl ?_ | refine Pk.cons 7 rfl ?_ | refine Pk.cons 8 rfl ?_ | refine Pk.cons 9 rfl ?_ | refine Pk.cons 10 rfl ?_ | refine Pk.cons 11 rfl ?_ | refine Pk.cons 12 rfl ?_ | refine Pk.cons 13 rfl ?_ | refine Pk.drop ?_))), ?_⟩
   clear S
   first | refine PlanT.e0 rfl (fun w S => O.store (v := .agg _) 0 S rfl rfl rfl sz_30 rfl rfl rfl rfl (fun w S => ?_)) | refine PlanT.e0 rfl (fun w S => O.store (v := .agg _) 1 S rfl rfl rfl sz_30 rfl rfl rfl rfl (fun w S => ?_)) | refine PlanT.e0 rfl (fun w S => O.store (v := .agg _) 2 S rfl rfl rfl sz_30 rfl rfl rfl rfl (fun w S => ?_)) | refine PlanT.e0 rfl (fun w S => O.store (v := .agg _) 3 S rfl rfl rfl sz_30 rfl rfl rfl rfl (fun w S => ?_)) | refine PlanT.e0 rfl (fun w S => O.store (v := .agg _) 4 S rfl rfl rfl sz_30 rfl rfl rfl rfl (fun w S => ?_)) | refine PlanT.e0 rfl (fun w S => O.store (v := .agg _) 5 S rfl rfl rfl sz_30 rfl rfl rfl rfl (fun w S => ?_)) | refine PlanT.e0 rfl (fun w S => O.store (v := .agg _) 6 S rfl rfl rfl sz_30 rfl rfl rfl rfl (fun w S => ?_)) | refine PlanT.e0 rfl (fun w S => O.store (v := .agg _) 7 S rfl rfl rfl sz_30 rfl rfl rfl rfl (fun w S => ?_))
   refine ⟨(fun w => Sat _ w _), (fun w => Sat _ w _), S, (.inl (by kernel_rfl)), (fun _ h => h), ?_⟩
   clear S
   refine PlanT.nil (fun w S => ?_)
   replace S : Sat _ _ _ := S
   refine Then.nx ⟨?_, ?_⟩
   ·
    (repeat (first | exact Out.hav _ _ _ | exact Out.refl _ _ | refine Out.up rfl ?_ | refine Out.sub rfl ?_))
   ·
    exact ⟨_, _, rfl, rfl, S.pk (by repeat (first | exact Pk.nil _ | exact Pk.refl _ | refine Pk.cons 0 rfl ?_ | refine Pk.cons 1 rfl ?_ | refine Pk.cons 2 rfl ?_ | refine Pk.cons 3 rfl ?_ | refine Pk.cons 4 rfl ?_ | refine Pk.cons 5 rfl ?_ | refine Pk.cons 6 rfl ?_ | refine Pk.cons 7 rfl ?_ | refine Pk.cons 8 rfl ?_ | refine Pk.cons 9 rfl ?_ | refine Pk.cons 10 rfl ?_ | refine Pk.cons 11 rfl ?_ | refine Pk.cons 12 rfl ?_ | refine Pk.cons 13 rfl ?_ | refine Pk.drop ?_))⟩
  ·
   refine PlanT.e1 rfl (fun w S => O.alloc z_30 S (fun b10 w S => ?_))
   refine ⟨(fun w => Sat w0 w [Cel b7 [.slice ea es.length ec] 33, Cel b6 (tMaker.enc m) 27, Cel b4 (fL v f) 25]), (fun w => Sat _ w _), S, (.inr (fun _ h => h)), (fun w S => S.pk (by repeat (first | exact Pk.nil _ | exact Pk.refl _ | refine Pk.cons 0 rfl ?_ | refine Pk.cons 1 rfl ?_ | refine Pk.cons 2 rfl ?_ | refine Pk.cons 3 rfl ?_ | refine Pk.cons 4 rfl ?_ | refine Pk.cons 5 rfl ?_ | refine Pk.cons 6 rfl ?_ | refine Pk.cons 7 rfl ?_ | refine Pk.cons 8 rfl ?_ | refine Pk.cons 9 rfl ?_ | refine Pk.cons 10 rfl ?_ | refine Pk.cons 11 rfl ?_ | refine Pk.cons 12 rfl ?_ | refine Pk.cons 13 rfl ?_ | refine Pk.drop ?_))), ?_⟩
   clear S
   refine PlanT.e1 rfl (fun w S => O.alloc z_51 S (fun b9 w S => ?_))
   refine ⟨(fun w => Sat w0 w [Cel b7 [.slice ea es.length ec] 33, Cel b6 (tMaker.enc m) 27, Cel b4 (fL v f) 25]), (fun w => Sat _ w _), S, (.inr (fun _ h => h)), (fun w S => S.pk (by repeat (first | exact Pk.nil _ | exact Pk.refl _ | refine Pk.cons 0 rfl ?_ | refine Pk.cons 1 rfl ?_ | refine Pk.cons 2 rfl ?_ | refine Pk.cons 3 rfl ?_ | refine Pk.cons 4 rfl ?_ | refine Pk.cons 5 rfl ?_ | refine Pk.cons 6 rfl ?_ | refine Pk.cons 7 rfl ?_ | refine Pk.cons 8 rfl ?_ | refine Pk.cons 9 rfl ?_ | refine Pk.cons 10 rfl ?_ | refine Pk.cons 11 rfl ?_ | refine Pk.cons 12 rfl ?_ | refine Pk.cons 13 rfl ?_ | refine Pk.drop ?_))), ?_⟩
   clear S
   first | refine PlanT.e0 rfl (fun w S => O.store (v := .agg _) 0 S rfl rfl rfl sz_51 rfl rfl rfl rfl (fun w S => ?_)) | refine PlanT.e0 rfl (fun w S => O.store (v := .agg _) 1 S rfl rfl rfl sz_51 rfl rfl rfl rfl (fun w S => ?_)) | refine PlanT.e0 rfl (fun w S => O.store (v := .agg _) 2 S rfl rfl rfl sz_51 rfl rfl rfl rfl (fun w S => ?_)) | refine PlanT.e0 rfl (fun w S => O.store (v := .agg _) 3 S rfl rfl rfl sz_51 rfl rfl rfl rfl (fun w S => ?_)) | refine PlanT.e0 rfl (fun w S => O.store (v := .agg _) 4 S rfl rfl rfl sz_51 rfl rfl rfl rfl (fun w S => ?_)) | refine PlanT.e0 rfl (fun w S => O.store (v := .agg _) 5 S rfl rfl rfl sz_51 rfl rfl rfl rfl (fun w S => ?_)) | refine PlanT.e0 rfl (fun w S => O.store (v := .agg _) 6 S rfl rfl rfl sz_51 rfl rfl rfl rfl (fun w S => ?_)) | refine PlanT.e0 rfl (fun w S => O.store (v := .agg _) 7 S rfl rfl rfl sz_51 rfl rfl rfl rfl (fun w S => ?_))
   refine ⟨(fun w => Sat w0 w [Cel b7 [.slice ea es.length ec] 33, Cel b6 (tMaker.enc m) 27, Cel b4 (fL v f) 25]), (fun w => Sat _ w _), S, (.inr (fun _ h => h)), (fun w S => S.pk (by repeat (first | exact Pk.nil _ | exact Pk.refl _ | refine Pk.cons 0 rfl ?_ | refine Pk.cons 1 rfl ?_ | refine Pk.cons 2 rfl ?_ | refine Pk.cons 3 rfl ?_ | refine Pk.cons 4 rfl ?_ | refine Pk.cons 5 rfl ?_ | refine Pk.cons 6 rfl ?_ | refine Pk.cons 7 rfl ?_ | refine Pk.cons 8 rfl ?_ | refine Pk.cons 9 rfl ?_ | refine Pk.cons 10 rfl ?_ | refine Pk.cons 11 rfl ?_ | refine Pk.cons 12 rfl ?_ | refine Pk.cons 13 rfl ?_ | refine Pk.drop ?_))), ?_⟩
   clear S
   first | refine PlanT.e0 rfl (fun w S => O.store (v := .agg _) 0 S rfl rfl rfl sz_30 rfl rfl rfl rfl (fun w S => ?_)) | refine PlanT.e0 rfl (fun w S => O.store (v := .agg _) 1 S rfl rfl rfl sz_30 rfl rfl rfl rfl (fun w S => ?_)) | refine PlanT.e0 rfl (fun w S => O.store (v := .agg _) 2 S rfl rfl rfl sz_30 rfl rfl rfl rfl (fun w S => ?_)) | refine PlanT.e0 rfl (fun w S => O.store (v := .agg _) 3 S rfl rfl rfl sz_30 rfl rfl rfl rfl (fun w S => ?_)) | refine PlanT.e0 rfl (fun w S => O.store (v := .agg _) 4 S rfl rfl rfl sz_30 rfl rfl rfl rfl (fun w S => ?_)) | refine PlanT.e0 rfl (fun w S => O.store (v := .agg _) 5 S rfl rfl rfl sz_30 rfl rfl rfl rfl (fun w S => ?_)) | refine PlanT.e0 rfl (fun w S => O.store (v := .agg _) 6 S rfl rfl rfl sz_30 rfl rfl rfl rfl (fun w S => ?_)) | refine PlanT.e0 rfl (fun w S => O.store (v := .agg _) 7 S rfl rfl rfl sz_30 rfl rfl rfl rfl (fun w S => ?_))
   refine ⟨(fun w => Sat _ w _), (fun w => Sat _ w _), S, (.inl (by kernel_rfl)), (fun _ h => h), ?_⟩
   clear S
   refine PlanT.nil (fun w S => ?_)
   replace S : Sat _ _ _ := S
   refine Then.nx ⟨?_, ?_⟩
   ·
    (repeat (first | exact Out.hav _ _ _ | exact Out.refl _ _ | refine Out.up rfl ?_ | refine Out.sub rfl ?_))
   ·
    exact ⟨_, _, rfl, rfl, S.pk (by repeat (first | exact Pk.nil _ | exact Pk.refl _ | refine Pk.cons 0 rfl ?_ | refine Pk.cons 1 rfl ?_ | refine Pk.cons 2 rfl ?_ | refine Pk.cons 3 rfl ?_ | refine Pk.cons 4 rfl ?_ | refine Pk.cons 5 rfl ?_ | refine Pk.cons 6 rfl ?_ | refine Pk.cons 7 rfl ?_ | refine Pk.cons 8 rfl ?_ | refine Pk.cons 9 rfl ?_ | refine Pk.cons 10 rfl ?_ | refine Pk.cons 11 rfl ?_ | refine Pk.cons 12 rfl ?_ | refine Pk.cons 13 rfl ?_ | refine Pk.drop ?_))⟩
 ·
  rintro gj79 v9 v10 w ⟨bx, be, rfl, rfl, S⟩
  refine W.cut1 [11, 26] 11 (fun v11 w => ∃ b11 : Nat, v11 = .pointer (some ⟨b11, 0, none⟩) ∧ Sat w0 w [Cel b11 (tEnd.enc one1) 30, Cel bx (tRLet.enc ⟨x.name, (ra, x.tree.length, rc), x.at_⟩) 51, Cel be (tEnd.enc en) 30, Cel b4 (fL v f) 25, Cel b6 (tMaker.enc m) 27, Cel b7 [.slice ea es.length ec] 33]) ?_ ?_
  ·
   refine W.region rfl ?_
   refine WO.q (Y.build rfl (bld_30_0_1)) ?_
   refine WO.e (O.alloc z_30 S (fun b11 w S => ?_))
   first | refine WO.e0 (O.store (v := .agg _) 0 S rfl rfl rfl sz_30 rfl rfl rfl rfl (fun w S => ?_)) | refine WO.e0 (O.store (v := .agg _) 1 S rfl rfl rfl sz_30 rfl rfl rfl rfl (fun w S => ?_)) | refine WO.e0 (O.store (v := .agg _) 2 S rfl rfl rfl sz_30 rfl rfl rfl rfl (fun w S => ?_)) | refine WO.e0 (O.store (v := .agg _) 3 S rfl rfl rfl sz_30 rfl rfl rfl rfl (fun w S => ?_)) | refine WO.e0 (O.store (v := .agg _) 4 S rfl rfl rfl sz_30 rfl rfl rfl rfl (fun w S => ?_)) | refine WO.e0 (O.store (v := .agg _) 5 S rfl rfl rfl sz_30 rfl rfl rfl rfl (fun w S => ?_)) | refine WO.e0 (O.store (v := .agg _) 6 S rfl rfl rfl sz_30 rfl rfl rfl rfl (fun w S => ?_)) | refine WO.e0 (O.store (v := .agg _) 7 S rfl rfl rfl sz_30 rfl rfl rfl rfl (fun w S => ?_))
   refine WO.nil ?_
   refine Then.nx ⟨?_, ?_⟩
   ·
    (repeat (first | exact Out.hav _ _ _ | exact Out.refl _ _ | refine Out.up rfl ?_ | refine Out.sub rfl ?_))
   ·
    exact ⟨_, rfl, S⟩
  ·
   rintro gj93 v11 w ⟨b11, rfl, S⟩
   refine W.seq ?_
   refine W.seq ?_
   refine W.region rfl ?_
   first | refine WO.q (Y.load rfl (loadSN sz_30 S 0 rfl rfl rfl)) ?_ | refine WO.q (Y.load rfl (loadSN sz_30 S 1 rfl rfl rfl)) ?_ | refine WO.q (Y.load rfl (loadSN sz_30 S 2 rfl rfl rfl)) ?_ | refine WO.q (Y.load rfl (loadSN sz_30 S 3 rfl rfl rfl)) ?_ | refine WO.q (Y.load rfl (loadSN sz_30 S 4 rfl rfl rfl)) ?_ | refine WO.q (Y.load rfl (loadSN sz_30 S 5 rfl rfl rfl)) ?_ | refine WO.q (Y.load rfl (loadSN sz_30 S 6 rfl rfl rfl)) ?_ | refine WO.q (Y.load rfl (loadSN sz_30 S 7 rfl rfl rfl)) ?_
   refine WO.q (Y.move (v := .int .i64 _) rfl) ?_
   refine WO.q (Y.build rfl (bld_30_0_1)) ?_
   first | refine WO.q (Y.eqlA eqt_30 rfl rfl) ?_ | refine WO.q (Y.eqlA (x := en) (y := (⟨4, (n : Int)⟩ : GEnd)) eqt_30 rfl rfl) ?_ | refine WO.q (Y.eqlA (x := eh) (y := one1) eqt_30 rfl rfl) ?_ | refine WO.q (Y.eqlA (x := en) (y := (⟨1, 0⟩ : GEnd)) eqt_30 rfl rfl) ?_ | refine WO.q (Y.eqlA (x := en) (y := one1) eqt_30 rfl rfl) ?_ | refine WO.q (Y.eqlA (x := ek) (y := (⟨4, ka.n⟩ : GEnd)) eqt_30 rfl rfl) ?_ | refine WO.q (Y.eqlA (x := (evalT es m (treeOf x)).fin) (y := en) eqt_30 rfl rfl) ?_
   refine WO.nil ?_
   refine Then.nx ?_
   refine W.cond rfl (fun h1 => ?_) (fun h1 => ?_) -- cond 0
   ·
    have rh1 := h1
    (try simp only [Q1, Q2, Q3, Q4, Q5, Q6, Q7, Q8, Q9, Qa] at h1)
    refine W.seq ?_
    refine W.region rfl ?_
    refine WO.q (Y.assign (v := .int .i64 _) rfl) ?_
    refine WO.nil ?_
    refine Then.nx ?_
    refine W.seq ?_
    refine W.seq ?_
    refine W.region rfl ?_
    refine WO.q (Y.fieldB fo_25_0 rfl) ?_
    first | refine WO.q (Y.load rfl (loadS1 sz_22 S 0 rfl rfl)) ?_ | refine WO.q (Y.load rfl (loadS1 sz_22 S 1 rfl rfl)) ?_ | refine WO.q (Y.load rfl (loadS1 sz_22 S 2 rfl rfl)) ?_ | refine WO.q (Y.load rfl (loadS1 sz_22 S 3 rfl rfl)) ?_ | refine WO.q (Y.load rfl (loadS1 sz_22 S 4 rfl rfl)) ?_ | refine WO.q (Y.load rfl (loadS1 sz_22 S 5 rfl rfl)) ?_ | refine WO.q (Y.load rfl (loadS1 sz_22 S 6 rfl rfl)) ?_ | refine WO.q (Y.load rfl (loadS1 sz_22 S 7 rfl rfl)) ?_
    refine WO.q (Y.len (t' := 0) Try.underlying22 rfl) ?_
    refine WO.q (Y.move (v := .int .i64 _) rfl) ?_
    refine WO.nil ?_
    refine Then.nx ?_
    refine W.block ?_
    -- loop 0 carries 12:hits, 34
    refine W.loop2 [12, 13, 14, 34, 35, 36, 37, 38, 39, 40, 41, 42, 43, 44, 45, 46, 47, 48, 49, 50, 51, 52, 53, 54, 55, 56, 57, 58, 59, 60, 61] 12 34 (fun v12 v34 w => ∃ i : Nat, v34 = .int .i64 (i : Int) ∧ v12 = .int .i64 ((hitsTo f.lets es n i : Nat) : Int) ∧ i ≤ f.lets.length ∧ Sat w0 w [Cel b11 (tEnd.enc one1) 30, Cel bx (tRLet.enc ⟨x.name, (ra, x.tree.length, rc), x.at_⟩) 51, Cel be (tEnd.enc en) 30, Cel b4 (fL v f) 25, Cel b6 (tMaker.enc m) 27, Cel b7 [.slice ea es.length ec] 33]) (fun v12 v34 w => f.lets.length - (intOf v34).toNat) ?_ ?_
    ·
     exact ⟨0, rfl, rfl, Nat.zero_le _, S⟩
    ·
     rintro g0 v12 v34 w ⟨i, rfl, rfl, hi, S⟩
     refine W.seq ?_
     refine W.region rfl ?_
     refine WO.q (Y.lss rfl rfl) ?_
     refine WO.nil ?_
     refine Then.nx ?_
     refine W.seq ?_
     refine W.cond rfl (fun h2 => ?_) (fun h2 => ?_) -- cond 1
     ·
      have rh2 := h2
      (try simp only [Q1, Q2, Q3, Q4, Q5, Q6, Q7, Q8, Q9, Qa] at h2)
      refine W.skip ?_
      refine Then.nx ?_
      refine W.seq ?_
      refine W.block ?_
      refine W.seq ?_
      obtain ⟨y, hy⟩ := at_ex (xs := f.lets) (k := i) (by omega)
      obtain ⟨ya, yc, hyr, hyc, hyt⟩ := hraw.get hy
      obtain ⟨htr2, hft2, hot2⟩ := checked2 hck hy
      obtain ⟨nd2, hnd2⟩ := at_ex (xs := y.tree) (k := 0) (by (rw [htr2]; exact flat_pos _))
      have hrm2 := rootM_at hnd2
      obtain ⟨eh, heh⟩ := at_ex (xs := es) (k := i) (by omega)
      have hhl := hitsTo_le f.lets es n i
      refine W.region rfl ?_
      refine WO.q (Y.move (v := .int .i64 _) rfl) ?_
      first | refine WO.q (Y.ixN sl_22 rfl rfl (by (first | assumption | rfl)) (by (first | assumption | omega))) ?_ | refine WO.q (Y.ix sl_22 rfl rfl (by (first | assumption | rfl)) (by (first | assumption | omega)) (by (first | assumption | omega))) ?_
      first | refine WO.q (Y.load rfl (loadRdN sz_51 (R1.ext S.ext) (by assumption))) ?_ | refine WO.q (Y.load rfl (loadRdN sz_51 (R2.ext S.ext) (by assumption))) ?_ | refine WO.q (Y.load rfl (loadRdN sz_51 (hyt.ext S.ext) (by assumption))) ?_ | refine WO.q (Y.load rfl (loadRdN sz_51 (hrt.ext S.ext) (by assumption))) ?_
      refine WO.e (O.alloc z_51 S (fun b14 w S => ?_))
      refine WO.q (Y.assign (v := .int .i64 _) rfl) ?_
      first | refine WO.e0 (O.store (v := .agg _) 0 S rfl rfl rfl sz_51 rfl rfl rfl rfl (fun w S => ?_)) | refine WO.e0 (O.store (v := .agg _) 1 S rfl rfl rfl sz_51 rfl rfl rfl rfl (fun w S => ?_)) | refine WO.e0 (O.store (v := .agg _) 2 S rfl rfl rfl sz_51 rfl rfl rfl rfl (fun w S => ?_)) | refine WO.e0 (O.store (v := .agg _) 3 S rfl rfl rfl sz_51 rfl rfl rfl rfl (fun w S => ?_)) | refine WO.e0 (O.store (v := .agg _) 4 S rfl rfl rfl sz_51 rfl rfl rfl rfl (fun w S => ?_)) | refine WO.e0 (O.store (v := .agg _) 5 S rfl rfl rfl sz_51 rfl rfl rfl rfl (fun w S => ?_)) | refine WO.e0 (O.store (v := .agg _) 6 S rfl rfl rfl sz_51 rfl rfl rfl rfl (fun w S => ?_)) | refine WO.e0 (O.store (v := .agg _) 7 S rfl rfl rfl sz_51 rfl rfl rfl rfl (fun w S => ?_))
      refine WO.nil ?_
      refine Then.nx ?_
      refine W.seq ?_
      refine W.draw (.q 0 (.e 1 (.q 2 (.q 3 (.q 4 (.q 5 (.q 6 (.q 7 (.q 8 (.q 9 (.q 10 (.q 11 (.q 12 (.q 13 (.q 14 (.q 15 (.q 16 (.q 17 (.q 18 (.q 19 .nil)))))))))))))))))))) (fun w => Sat _ w _) rfl rfl (by kernel_rfl) rfl (by kernel_rfl) (by repeat (first | exact BodyQ.noFrame | refine Then.noFrame ?_ | refine InB.noFrame ?_)) S.drew ?_
      clear S
      first | refine Plan.q rfl (fun w S => Y.load rfl (loadSN sz_51 S 0 rfl rfl rfl)) ?_ | refine Plan.q rfl (fun w S => Y.load rfl (loadSN sz_51 S 1 rfl rfl rfl)) ?_ | refine Plan.q rfl (fun w S => Y.load rfl (loadSN sz_51 S 2 rfl rfl rfl)) ?_ | refine Plan.q rfl (fun w S => Y.load rfl (loadSN sz_51 S 3 rfl rfl rfl)) ?_ | refine Plan.q rfl (fun w S => Y.load rfl (loadSN sz_51 S 4 rfl rfl rfl)) ?_ | refine Plan.q rfl (fun w S => Y.load rfl (loadSN sz_51 S 5 rfl rfl rfl)) ?_ | refine Plan.q rfl (fun w S => Y.load rfl (loadSN sz_51 S 6 rfl rfl rfl)) ?_ | refine Plan.q rfl (fun w S => Y.load rfl (loadSN sz_51 S 7 rfl rfl rfl)) ?_
      refine Plan.e1 rfl (fun w S => O.call cf_22 rfl (root_spec _ y ya yc nd2 (hyt.ext S.ext) hnd2) ?_)
      rintro _ w ⟨rfl, E⟩
      replace S := S.keep E
      refine ⟨_, rfl, ?_⟩
      refine ⟨(fun w => Sat _ w _), S, (.inr (fun w S => S.pk (by repeat (first | exact Pk.nil _ | exact Pk.refl _ | refine Pk.cons 0 rfl ?_ | refine Pk.cons 1 rfl ?_ | refine Pk.cons 2 rfl ?_ | refine Pk.cons 3 rfl ?_ | refine Pk.cons 4 rfl ?_ | refine Pk.cons 5 rfl ?_ | refine Pk.cons 6 rfl ?_ | refine Pk.cons 7 rfl ?_ | refine Pk.cons 8 rfl ?_ | refine Pk.cons 9 rfl ?_ | refine Pk.cons 10 rfl ?_ | refine Pk.cons 11 rfl ?_ | refine Pk.cons 12 rfl ?_ | refine Pk.cons 13 rfl ?_ | refine Pk.drop ?_)))), ?_⟩
      clear S
      refine Plan.q rfl (fun w S => Y.eql rfl rfl) ?_
      refine Plan.q rfl (fun w S => Y.move (v := .bool _) rfl) ?_
      refine Plan.splitB (fun h3 => ?_) (fun h3 => ?_)
      ·
       (try simp only [Q1, Q2, Q3, Q4, Q5, Q6, Q7, Q8, Q9, Qa] at h3)
       obtain ⟨k1, hk1, _⟩ := cancel_aim hck hy (by omega)
       have hk1l := at_lt hk1
       have hya := hyt.1 (by omega)
       refine Plan.qT rfl rfl (fun w S => Y.fieldB fo_51_1 rfl) ?_
       first | refine Plan.qT rfl rfl (fun w S => Y.load rfl (loadS1 sz_49 S 0 rfl rfl)) ?_ | refine Plan.qT rfl rfl (fun w S => Y.load rfl (loadS1 sz_49 S 1 rfl rfl)) ?_ | refine Plan.qT rfl rfl (fun w S => Y.load rfl (loadS1 sz_49 S 2 rfl rfl)) ?_ | refine Plan.qT rfl rfl (fun w S => Y.load rfl (loadS1 sz_49 S 3 rfl rfl)) ?_ | refine Plan.qT rfl rfl (fun w S => Y.load rfl (loadS1 sz_49 S 4 rfl rfl)) ?_ | refine Plan.qT rfl rfl (fun w S => Y.load rfl (loadS1 sz_49 S 5 rfl rfl)) ?_ | refine Plan.qT rfl rfl (fun w S => Y.load rfl (loadS1 sz_49 S 6 rfl rfl)) ?_ | refine Plan.qT rfl rfl (fun w S => Y.load rfl (loadS1 sz_49 S 7 rfl rfl)) ?_
       first | refine Plan.qT rfl rfl (fun w S => Y.ixN sl_49 rfl rfl (by (first | assumption | rfl)) (by (first | assumption | omega))) ?_ | refine Plan.qT rfl rfl (fun w S => Y.ix sl_49 rfl rfl (by (first | assumption | rfl)) (by (first | assumption | omega)) (by (first | assumption | omega))) ?_
       refine Plan.qT rfl rfl (fun w S => Y.fieldE fo_75_1 rfl) ?_
       first | refine Plan.qT rfl rfl (fun w S => Y.load rfl (loadRdF sz_2 (R1.ext S.ext) (by assumption) rfl)) ?_ | refine Plan.qT rfl rfl (fun w S => Y.load rfl (loadRdF sz_2 (R2.ext S.ext) (by assumption) rfl)) ?_ | refine Plan.qT rfl rfl (fun w S => Y.load rfl (loadRdF sz_2 (hyt.ext S.ext) (by assumption) rfl)) ?_ | refine Plan.qT rfl rfl (fun w S => Y.load rfl (loadRdF sz_2 (hrt.ext S.ext) (by assumption) rfl)) ?_
       refine Plan.qT rfl rfl (fun w S => Y.move (v := .int .i64 _) rfl) ?_
       refine Plan.qT rfl rfl (fun w S => Y.eql rfl rfl) ?_
       refine Plan.q rfl (fun w S => Y.pickT (u := .bool _) rfl rfl) ?_
       refine Plan.q rfl (fun w S => Y.move (v := .bool _) rfl) ?_
       refine Plan.splitB (fun h4 => ?_) (fun h4 => ?_)
       ·
        (try simp only [Q1, Q2, Q3, Q4, Q5, Q6, Q7, Q8, Q9, Qa] at h4)
        first | refine Plan.qT rfl rfl (fun w S => Y.load rfl (loadS1 sz_33 S 0 rfl rfl)) ?_ | refine Plan.qT rfl rfl (fun w S => Y.load rfl (loadS1 sz_33 S 1 rfl rfl)) ?_ | refine Plan.qT rfl rfl (fun w S => Y.load rfl (loadS1 sz_33 S 2 rfl rfl)) ?_ | refine Plan.qT rfl rfl (fun w S => Y.load rfl (loadS1 sz_33 S 3 rfl rfl)) ?_ | refine Plan.qT rfl rfl (fun w S => Y.load rfl (loadS1 sz_33 S 4 rfl rfl)) ?_ | refine Plan.qT rfl rfl (fun w S => Y.load rfl (loadS1 sz_33 S 5 rfl rfl)) ?_ | refine Plan.qT rfl rfl (fun w S => Y.load rfl (loadS1 sz_33 S 6 rfl rfl)) ?_ | refine Plan.qT rfl rfl (fun w S => Y.load rfl (loadS1 sz_33 S 7 rfl rfl)) ?_
        refine Plan.qT rfl rfl (fun w S => Y.move (v := .int .i64 _) rfl) ?_
        first | refine Plan.qT rfl rfl (fun w S => Y.ixN sl_33 rfl rfl (by (first | assumption | rfl)) (by (first | assumption | omega))) ?_ | refine Plan.qT rfl rfl (fun w S => Y.ix sl_33 rfl rfl (by (first | assumption | rfl)) (by (first | assumption | omega)) (by (first | assumption | omega))) ?_
        first | refine Plan.qT rfl rfl (fun w S => Y.load rfl (loadRdN sz_30 (R1.ext S.ext) (by assumption))) ?_ | refine Plan.qT rfl rfl (fun w S => Y.load rfl (loadRdN sz_30 (R2.ext S.ext) (by assumption))) ?_ | refine Plan.qT rfl rfl (fun w S => Y.load rfl (loadRdN sz_30 (hyt.ext S.ext) (by assumption))) ?_ | refine Plan.qT rfl rfl (fun w S => Y.load rfl (loadRdN sz_30 (hrt.ext S.ext) (by assumption))) ?_
        first | refine Plan.qT rfl rfl (fun w S => Y.load rfl (loadSN sz_30 S 0 rfl rfl rfl)) ?_ | refine Plan.qT rfl rfl (fun w S => Y.load rfl (loadSN sz_30 S 1 rfl rfl rfl)) ?_ | refine Plan.qT rfl rfl (fun w S => Y.load rfl (loadSN sz_30 S 2 rfl rfl rfl)) ?_ | refine Plan.qT rfl rfl (fun w S => Y.load rfl (loadSN sz_30 S 3 rfl rfl rfl)) ?_ | refine Plan.qT rfl rfl (fun w S => Y.load rfl (loadSN sz_30 S 4 rfl rfl rfl)) ?_ | refine Plan.qT rfl rfl (fun w S => Y.load rfl (loadSN sz_30 S 5 rfl rfl rfl)) ?_ | refine Plan.qT rfl rfl (fun w S => Y.load rfl (loadSN sz_30 S 6 rfl rfl rfl)) ?_ | refine Plan.qT rfl rfl (fun w S => Y.load rfl (loadSN sz_30 S 7 rfl rfl rfl)) ?_
        first | refine Plan.qT rfl rfl (fun w S => Y.eqlA eqt_30 rfl rfl) ?_ | refine Plan.qT rfl rfl (fun w S => Y.eqlA (x := en) (y := (⟨4, (n : Int)⟩ : GEnd)) eqt_30 rfl rfl) ?_ | refine Plan.qT rfl rfl (fun w S => Y.eqlA (x := eh) (y := one1) eqt_30 rfl rfl) ?_ | refine Plan.qT rfl rfl (fun w S => Y.eqlA (x := en) (y := (⟨1, 0⟩ : GEnd)) eqt_30 rfl rfl) ?_ | refine Plan.qT rfl rfl (fun w S => Y.eqlA (x := en) (y := one1) eqt_30 rfl rfl) ?_ | refine Plan.qT rfl rfl (fun w S => Y.eqlA (x := ek) (y := (⟨4, ka.n⟩ : GEnd)) eqt_30 rfl rfl) ?_ | refine Plan.qT rfl rfl (fun w S => Y.eqlA (x := (evalT es m (treeOf x)).fin) (y := en) eqt_30 rfl rfl) ?_
        refine Plan.q rfl (fun w S => Y.pickT (u := .bool _) rfl rfl) ?_
        refine Plan.nil (fun w S => ?_)
        replace S : Sat _ _ _ := S
        refine Then.nx ?_
        refine W.cond rfl (fun h5 => ?_) (fun h5 => ?_) -- cond 2
        ·
         have rh5 := h5
         (try simp only [Q1, Q2, Q3, Q4, Q5, Q6, Q7, Q8, Q9, Qa] at h5)
         refine W.region rfl ?_
         refine WO.q (Y.move (v := .int .i64 _) rfl) ?_
         first | refine WO.q (Y.addI rfl rfl (by omega)) ?_ | refine WO.q (Y.add rfl rfl) ?_
         refine WO.q (Y.assign (v := .int .i64 _) rfl) ?_
         refine WO.nil ?_
         refine InB.nx ?_
         refine Then.nx ?_
         refine W.region rfl ?_
         first | refine WO.q (Y.addI rfl rfl (by omega)) ?_ | refine WO.q (Y.add rfl rfl) ?_
         refine WO.q (Y.move (v := .int .i64 _) rfl) ?_
         refine WO.nil ?_
         refine Then.nx ⟨?_, ?_, ?_⟩
         ·
          (repeat (first | exact Out.hav _ _ _ | exact Out.refl _ _ | refine Out.up rfl ?_ | refine Out.sub rfl ?_))
         ·
          have e9 := hitsTo_succ f.lets es n i; first | (rw [if_pos (hit_yes hy hk1 heh (by omega) (by omega) (by assumption))] at e9; exact ⟨i + 1, rfl, (by (show Value.int .i64 _ = Value.int .i64 _; congr 1; omega)), by omega, S.pk (by repeat (first | exact Pk.nil _ | exact Pk.refl _ | refine Pk.cons 0 rfl ?_ | refine Pk.cons 1 rfl ?_ | refine Pk.cons 2 rfl ?_ | refine Pk.cons 3 rfl ?_ | refine Pk.cons 4 rfl ?_ | refine Pk.cons 5 rfl ?_ | refine Pk.cons 6 rfl ?_ | refine Pk.cons 7 rfl ?_ | refine Pk.cons 8 rfl ?_ | refine Pk.cons 9 rfl ?_ | refine Pk.cons 10 rfl ?_ | refine Pk.cons 11 rfl ?_ | refine Pk.cons 12 rfl ?_ | refine Pk.cons 13 rfl ?_ | refine Pk.drop ?_))⟩) | (rw [if_neg (hit_no1 hy (by omega))] at e9; exact ⟨i + 1, rfl, (by (rw [e9]; rfl)), by omega, S.pk (by repeat (first | exact Pk.nil _ | exact Pk.refl _ | refine Pk.cons 0 rfl ?_ | refine Pk.cons 1 rfl ?_ | refine Pk.cons 2 rfl ?_ | refine Pk.cons 3 rfl ?_ | refine Pk.cons 4 rfl ?_ | refine Pk.cons 5 rfl ?_ | refine Pk.cons 6 rfl ?_ | refine Pk.cons 7 rfl ?_ | refine Pk.cons 8 rfl ?_ | refine Pk.cons 9 rfl ?_ | refine Pk.cons 10 rfl ?_ | refine Pk.cons 11 rfl ?_ | refine Pk.cons 12 rfl ?_ | refine Pk.cons 13 rfl ?_ | refine Pk.drop ?_))⟩) | (rw [if_neg (hit_no2 hy hk1 (by omega))] at e9; exact ⟨i + 1, rfl, (by (rw [e9]; rfl)), by omega, S.pk (by repeat (first | exact Pk.nil _ | exact Pk.refl _ | refine Pk.cons 0 rfl ?_ | refine Pk.cons 1 rfl ?_ | refine Pk.cons 2 rfl ?_ | refine Pk.cons 3 rfl ?_ | refine Pk.cons 4 rfl ?_ | refine Pk.cons 5 rfl ?_ | refine Pk.cons 6 rfl ?_ | refine Pk.cons 7 rfl ?_ | refine Pk.cons 8 rfl ?_ | refine Pk.cons 9 rfl ?_ | refine Pk.cons 10 rfl ?_ | refine Pk.cons 11 rfl ?_ | refine Pk.cons 12 rfl ?_ | refine Pk.cons 13 rfl ?_ | refine Pk.drop ?_))⟩) | (rw [if_neg (hit_no3 hy heh (by assumption))] at e9; exact ⟨i + 1, rfl, (by (rw [e9]; rfl)), by omega, S.pk (by repeat (first | exact Pk.nil _ | exact Pk.refl _ | refine Pk.cons 0 rfl ?_ | refine Pk.cons 1 rfl ?_ | refine Pk.cons 2 rfl ?_ | refine Pk.cons 3 rfl ?_ | refine Pk.cons 4 rfl ?_ | refine Pk.cons 5 rfl ?_ | refine Pk.cons 6 rfl ?_ | refine Pk.cons 7 rfl ?_ | refine Pk.cons 8 rfl ?_ | refine Pk.cons 9 rfl ?_ | refine Pk.cons 10 rfl ?_ | refine Pk.cons 11 rfl ?_ | refine Pk.cons 12 rfl ?_ | refine Pk.cons 13 rfl ?_ | refine Pk.drop ?_))⟩)
         ·
          (show f.lets.length - (i + 1) < f.lets.length - i; omega)
        ·
         have rh5 := h5
         (try simp only [Q1, Q2, Q3, Q4, Q5, Q6, Q7, Q8, Q9, Qa] at h5)
         refine W.skip ?_
         refine InB.nx ?_
         refine Then.nx ?_
         refine W.region rfl ?_
         first | refine WO.q (Y.addI rfl rfl (by omega)) ?_ | refine WO.q (Y.add rfl rfl) ?_
         refine WO.q (Y.move (v := .int .i64 _) rfl) ?_
         refine WO.nil ?_
         refine Then.nx ⟨?_, ?_, ?_⟩
         ·
          (repeat (first | exact Out.hav _ _ _ | exact Out.refl _ _ | refine Out.up rfl ?_ | refine Out.sub rfl ?_))
         ·
          have e9 := hitsTo_succ f.lets es n i; first | (rw [if_pos (hit_yes hy hk1 heh (by omega) (by omega) (by assumption))] at e9; exact ⟨i + 1, rfl, (by (show Value.int .i64 _ = Value.int .i64 _; congr 1; omega)), by omega, S.pk (by repeat (first | exact Pk.nil _ | exact Pk.refl _ | refine Pk.cons 0 rfl ?_ | refine Pk.cons 1 rfl ?_ | refine Pk.cons 2 rfl ?_ | refine Pk.cons 3 rfl ?_ | refine Pk.cons 4 rfl ?_ | refine Pk.cons 5 rfl ?_ | refine Pk.cons 6 rfl ?_ | refine Pk.cons 7 rfl ?_ | refine Pk.cons 8 rfl ?_ | refine Pk.cons 9 rfl ?_ | refine Pk.cons 10 rfl ?_ | refine Pk.cons 11 rfl ?_ | refine Pk.cons 12 rfl ?_ | refine Pk.cons 13 rfl ?_ | refine Pk.drop ?_))⟩) | (rw [if_neg (hit_no1 hy (by omega))] at e9; exact ⟨i + 1, rfl, (by (rw [e9]; rfl)), by omega, S.pk (by repeat (first | exact Pk.nil _ | exact Pk.refl _ | refine Pk.cons 0 rfl ?_ | refine Pk.cons 1 rfl ?_ | refine Pk.cons 2 rfl ?_ | refine Pk.cons 3 rfl ?_ | refine Pk.cons 4 rfl ?_ | refine Pk.cons 5 rfl ?_ | refine Pk.cons 6 rfl ?_ | refine Pk.cons 7 rfl ?_ | refine Pk.cons 8 rfl ?_ | refine Pk.cons 9 rfl ?_ | refine Pk.cons 10 rfl ?_ | refine Pk.cons 11 rfl ?_ | refine Pk.cons 12 rfl ?_ | refine Pk.cons 13 rfl ?_ | refine Pk.drop ?_))⟩) | (rw [if_neg (hit_no2 hy hk1 (by omega))] at e9; exact ⟨i + 1, rfl, (by (rw [e9]; rfl)), by omega, S.pk (by repeat (first | exact Pk.nil _ | exact Pk.refl _ | refine Pk.cons 0 rfl ?_ | refine Pk.cons 1 rfl ?_ | refine Pk.cons 2 rfl ?_ | refine Pk.cons 3 rfl ?_ | refine Pk.cons 4 rfl ?_ | refine Pk.cons 5 rfl ?_ | refine Pk.cons 6 rfl ?_ | refine Pk.cons 7 rfl ?_ | refine Pk.cons 8 rfl ?_ | refine Pk.cons 9 rfl ?_ | refine Pk.cons 10 rfl ?_ | refine Pk.cons 11 rfl ?_ | refine Pk.cons 12 rfl ?_ | refine Pk.cons 13 rfl ?_ | refine Pk.drop ?_))⟩) | (rw [if_neg (hit_no3 hy heh (by assumption))] at e9; exact ⟨i + 1, rfl, (by (rw [e9]; rfl)), by omega, S.pk (by repeat (first | exact Pk.nil _ | exact Pk.refl _ | refine Pk.cons 0 rfl ?_ | refine Pk.cons 1 rfl ?_ | refine Pk.cons 2 rfl ?_ | refine Pk.cons 3 rfl ?_ | refine Pk.cons 4 rfl ?_ | refine Pk.cons 5 rfl ?_ | refine Pk.cons 6 rfl ?_ | refine Pk.cons 7 rfl ?_ | refine Pk.cons 8 rfl ?_ | refine Pk.cons 9 rfl ?_ | refine Pk.cons 10 rfl ?_ | refine Pk.cons 11 rfl ?_ | refine Pk.cons 12 rfl ?_ | refine Pk.cons 13 rfl ?_ | refine Pk.drop ?_))⟩)
         ·
          (show f.lets.length - (i + 1) < f.lets.length - i; omega)
       ·
        (try simp only [Q1, Q2, Q3, Q4, Q5, Q6, Q7, Q8, Q9, Qa] at h4)
        refine Plan.qF rfl rfl ?_
        refine Plan.qF rfl rfl ?_
        refine Plan.qF rfl rfl ?_
        refine Plan.qF rfl rfl ?_
        refine Plan.qF rfl rfl ?_
        refine Plan.qF rfl rfl ?_
        refine Plan.q rfl (fun w S => Y.pickF (u := .bool _) rfl rfl) ?_
        refine Plan.nil (fun w S => ?_)
        replace S : Sat _ _ _ := S
        refine Then.nx ?_
        first | refine W.condF rfl ?_ | refine W.condF (congrArg Value.bool (by assumption)) ?_
        refine W.skip ?_
        refine InB.nx ?_
        refine Then.nx ?_
        refine W.region rfl ?_
        first | refine WO.q (Y.addI rfl rfl (by omega)) ?_ | refine WO.q (Y.add rfl rfl) ?_
        refine WO.q (Y.move (v := .int .i64 _) rfl) ?_
        refine WO.nil ?_
        refine Then.nx ⟨?_, ?_, ?_⟩
        ·
         (repeat (first | exact Out.hav _ _ _ | exact Out.refl _ _ | refine Out.up rfl ?_ | refine Out.sub rfl ?_))
        ·
         have e9 := hitsTo_succ f.lets es n i; first | (rw [if_pos (hit_yes hy hk1 heh (by omega) (by omega) (by assumption))] at e9; exact ⟨i + 1, rfl, (by (show Value.int .i64 _ = Value.int .i64 _; congr 1; omega)), by omega, S.pk (by repeat (first | exact Pk.nil _ | exact Pk.refl _ | refine Pk.cons 0 rfl ?_ | refine Pk.cons 1 rfl ?_ | refine Pk.cons 2 rfl ?_ | refine Pk.cons 3 rfl ?_ | refine Pk.cons 4 rfl ?_ | refine Pk.cons 5 rfl ?_ | refine Pk.cons 6 rfl ?_ | refine Pk.cons 7 rfl ?_ | refine Pk.cons 8 rfl ?_ | refine Pk.cons 9 rfl ?_ | refine Pk.cons 10 rfl ?_ | refine Pk.cons 11 rfl ?_ | refine Pk.cons 12 rfl ?_ | refine Pk.cons 13 rfl ?_ | refine Pk.drop ?_))⟩) | (rw [if_neg (hit_no1 hy (by omega))] at e9; exact ⟨i + 1, rfl, (by (rw [e9]; rfl)), by omega, S.pk (by repeat (first | exact Pk.nil _ | exact Pk.refl _ | refine Pk.cons 0 rfl ?_ | refine Pk.cons 1 rfl ?_ | refine Pk.cons 2 rfl ?_ | refine Pk.cons 3 rfl ?_ | refine Pk.cons 4 rfl ?_ | refine Pk.cons 5 rfl ?_ | refine Pk.cons 6 rfl ?_ | refine Pk.cons 7 rfl ?_ | refine Pk.cons 8 rfl ?_ | refine Pk.cons 9 rfl ?_ | refine Pk.cons 10 rfl ?_ | refine Pk.cons 11 rfl ?_ | refine Pk.cons 12 rfl ?_ | refine Pk.cons 13 rfl ?_ | refine Pk.drop ?_))⟩) | (rw [if_neg (hit_no2 hy hk1 (by omega))] at e9; exact ⟨i + 1, rfl, (by (rw [e9]; rfl)), by omega, S.pk (by repeat (first | exact Pk.nil _ | exact Pk.refl _ | refine Pk.cons 0 rfl ?_ | refine Pk.cons 1 rfl ?_ | refine Pk.cons 2 rfl ?_ | refine Pk.cons 3 rfl ?_ | refine Pk.cons 4 rfl ?_ | refine Pk.cons 5 rfl ?_ | refine Pk.cons 6 rfl ?_ | refine Pk.cons 7 rfl ?_ | refine Pk.cons 8 rfl ?_ | refine Pk.cons 9 rfl ?_ | refine Pk.cons 10 rfl ?_ | refine Pk.cons 11 rfl ?_ | refine Pk.cons 12 rfl ?_ | refine Pk.cons 13 rfl ?_ | refine Pk.drop ?_))⟩) | (rw [if_neg (hit_no3 hy heh (by assumption))] at e9; exact ⟨i + 1, rfl, (by (rw [e9]; rfl)), by omega, S.pk (by repeat (first | exact Pk.nil _ | exact Pk.refl _ | refine Pk.cons 0 rfl ?_ | refine Pk.cons 1 rfl ?_ | refine Pk.cons 2 rfl ?_ | refine Pk.cons 3 rfl ?_ | refine Pk.cons 4 rfl ?_ | refine Pk.cons 5 rfl ?_ | refine Pk.cons 6 rfl ?_ | refine Pk.cons 7 rfl ?_ | refine Pk.cons 8 rfl ?_ | refine Pk.cons 9 rfl ?_ | refine Pk.cons 10 rfl ?_ | refine Pk.cons 11 rfl ?_ | refine Pk.cons 12 rfl ?_ | refine Pk.cons 13 rfl ?_ | refine Pk.drop ?_))⟩)
        ·
         (show f.lets.length - (i + 1) < f.lets.length - i; omega)
      ·
       (try simp only [Q1, Q2, Q3, Q4, Q5, Q6, Q7, Q8, Q9, Qa] at h3)
       refine Plan.qF rfl rfl ?_
       refine Plan.qF rfl rfl ?_
       refine Plan.qF rfl rfl ?_
       refine Plan.qF rfl rfl ?_
       refine Plan.qF rfl rfl ?_
       refine Plan.qF rfl rfl ?_
       refine Plan.qF rfl rfl ?_
       refine Plan.q rfl (fun w S => Y.pickF (u := .bool _) rfl rfl) ?_
       refine Plan.q rfl (fun w S => Y.move (v := .bool _) rfl) ?_
       refine Plan.qF rfl rfl ?_
       refine Plan.qF rfl rfl ?_
       refine Plan.qF rfl rfl ?_
       refine Plan.qF rfl rfl ?_
       refine Plan.qF rfl rfl ?_
       refine Plan.qF rfl rfl ?_
       refine Plan.q rfl (fun w S => Y.pickF (u := .bool _) rfl rfl) ?_
       refine Plan.nil (fun w S => ?_)
       replace S : Sat _ _ _ := S
       refine Then.nx ?_
       first | refine W.condF rfl ?_ | refine W.condF (congrArg Value.bool (by assumption)) ?_
       refine W.skip ?_
       refine InB.nx ?_
       refine Then.nx ?_
       refine W.region rfl ?_
       first | refine WO.q (Y.addI rfl rfl (by omega)) ?_ | refine WO.q (Y.add rfl rfl) ?_
       refine WO.q (Y.move (v := .int .i64 _) rfl) ?_
       refine WO.nil ?_
       refine Then.nx ⟨?_, ?_, ?_⟩
       ·
        (repeat (first | exact Out.hav _ _ _ | exact Out.refl _ _ | refine Out.up rfl ?_ | refine Out.sub rfl ?_))
       ·
        have e9 := hitsTo_succ f.lets es n i; first | (rw [if_pos (hit_yes hy hk1 heh (by omega) (by omega) (by assumption))] at e9; exact ⟨i + 1, rfl, (by (show Value.int .i64 _ = Value.int .i64 _; congr 1; omega)), by omega, S.pk (by repeat (first | exact Pk.nil _ | exact Pk.refl _ | refine Pk.cons 0 rfl ?_ | refine Pk.cons 1 rfl ?_ | refine Pk.cons 2 rfl ?_ | refine Pk.cons 3 rfl ?_ | refine Pk.cons 4 rfl ?_ | refine Pk.cons 5 rfl ?_ | refine Pk.cons 6 rfl ?_ | refine Pk.cons 7 rfl ?_ | refine Pk.cons 8 rfl ?_ | refine Pk.cons 9 rfl ?_ | refine Pk.cons 10 rfl ?_ | refine Pk.cons 11 rfl ?_ | refine Pk.cons 12 rfl ?_ | refine Pk.cons 13 rfl ?_ | refine Pk.drop ?_))⟩) | (rw [if_neg (hit_no1 hy (by omega))] at e9; exact ⟨i + 1, rfl, (by (rw [e9]; rfl)), by omega, S.pk (by repeat (first | exact Pk.nil _ | exact Pk.refl _ | refine Pk.cons 0 rfl ?_ | refine Pk.cons 1 rfl ?_ | refine Pk.cons 2 rfl ?_ | refine Pk.cons 3 rfl ?_ | refine Pk.cons 4 rfl ?_ | refine Pk.cons 5 rfl ?_ | refine Pk.cons 6 rfl ?_ | refine Pk.cons 7 rfl ?_ | refine Pk.cons 8 rfl ?_ | refine Pk.cons 9 rfl ?_ | refine Pk.cons 10 rfl ?_ | refine Pk.cons 11 rfl ?_ | refine Pk.cons 12 rfl ?_ | refine Pk.cons 13 rfl ?_ | refine Pk.drop ?_))⟩) | (rw [if_neg (hit_no2 hy hk1 (by omega))] at e9; exact ⟨i + 1, rfl, (by (rw [e9]; rfl)), by omega, S.pk (by repeat (first | exact Pk.nil _ | exact Pk.refl _ | refine Pk.cons 0 rfl ?_ | refine Pk.cons 1 rfl ?_ | refine Pk.cons 2 rfl ?_ | refine Pk.cons 3 rfl ?_ | refine Pk.cons 4 rfl ?_ | refine Pk.cons 5 rfl ?_ | refine Pk.cons 6 rfl ?_ | refine Pk.cons 7 rfl ?_ | refine Pk.cons 8 rfl ?_ | refine Pk.cons 9 rfl ?_ | refine Pk.cons 10 rfl ?_ | refine Pk.cons 11 rfl ?_ | refine Pk.cons 12 rfl ?_ | refine Pk.cons 13 rfl ?_ | refine Pk.drop ?_))⟩) | (rw [if_neg (hit_no3 hy heh (by assumption))] at e9; exact ⟨i + 1, rfl, (by (rw [e9]; rfl)), by omega, S.pk (by repeat (first | exact Pk.nil _ | exact Pk.refl _ | refine Pk.cons 0 rfl ?_ | refine Pk.cons 1 rfl ?_ | refine Pk.cons 2 rfl ?_ | refine Pk.cons 3 rfl ?_ | refine Pk.cons 4 rfl ?_ | refine Pk.cons 5 rfl ?_ | refine Pk.cons 6 rfl ?_ | refine Pk.cons 7 rfl ?_ | refine Pk.cons 8 rfl ?_ | refine Pk.cons 9 rfl ?_ | refine Pk.cons 10 rfl ?_ | refine Pk.cons 11 rfl ?_ | refine Pk.cons 12 rfl ?_ | refine Pk.cons 13 rfl ?_ | refine Pk.drop ?_))⟩)
       ·
        (show f.lets.length - (i + 1) < f.lets.length - i; omega)
     ·
      have rh2 := h2
      (try simp only [Q1, Q2, Q3, Q4, Q5, Q6, Q7, Q8, Q9, Qa] at h2)
      refine W.exit ?_
      refine Then.x ?_
      refine Then.x ?_
      refine InB.e ?_
      refine Then.nx ?_
      refine W.seq ?_
      refine W.region rfl ?_
      refine WO.q (Y.move (v := .int .i64 _) rfl) ?_
      refine WO.q (Y.eql rfl rfl) ?_
      refine WO.q (Y.assign (v := .bool _) rfl) ?_
      refine WO.nil ?_
      refine Then.nx ?_
      refine W.ret ?_
      refine Then.r ?_
      refine BodyQ.ret1 Try.results26 (ResV.tmp _ rfl) ?_
      first | ((have ei : i = f.lets.length := by omega); subst ei; exact ⟨by (rw [fitM_gone hx hen (by assumption)]; show Ending.returned (.bool _) = Ending.returned (.bool _); congr 2; rw [Bool.eq_iff_iff]; simp only [decide_eq_true_eq]; omega), S.ext⟩) | exact ⟨by (rw [fitM_race hx hen (by assumption) (by omega)]; rfl), S.ext⟩ | exact ⟨by (rw [fitM_cancel hx hen (by assumption) (by omega) hka hek]; show Ending.returned (.bool _) = Ending.returned (.bool _); congr 2; simp_all), S.ext⟩ | exact ⟨by (rw [fitM_expr hx hen (by assumption) (by omega) (by omega)]; rfl), S.ext⟩
   ·
    have rh1 := h1
    (try simp only [Q1, Q2, Q3, Q4, Q5, Q6, Q7, Q8, Q9, Qa] at h1)
    refine W.skip ?_
    refine Then.nx ?_
    refine W.seq ?_
    refine W.seq ?_
    refine W.region rfl ?_
    first | refine WO.q (Y.load rfl (loadSN sz_51 S 0 rfl rfl rfl)) ?_ | refine WO.q (Y.load rfl (loadSN sz_51 S 1 rfl rfl rfl)) ?_ | refine WO.q (Y.load rfl (loadSN sz_51 S 2 rfl rfl rfl)) ?_ | refine WO.q (Y.load rfl (loadSN sz_51 S 3 rfl rfl rfl)) ?_ | refine WO.q (Y.load rfl (loadSN sz_51 S 4 rfl rfl rfl)) ?_ | refine WO.q (Y.load rfl (loadSN sz_51 S 5 rfl rfl rfl)) ?_ | refine WO.q (Y.load rfl (loadSN sz_51 S 6 rfl rfl rfl)) ?_ | refine WO.q (Y.load rfl (loadSN sz_51 S 7 rfl rfl rfl)) ?_
    refine WO.e (O.call cf_22 rfl (root_spec _ x ra rc nd (hrt.ext S.ext) hnd) ?_)
    rintro _ w ⟨rfl, E⟩
    replace S := S.keep E
    refine ⟨_, rfl, ?_⟩
    refine WO.nil ?_
    refine Then.nx ?_
    refine W.block ?_
    refine W.seq ?_
    refine W.region rfl ?_
    refine WO.q (Y.eql rfl rfl) ?_
    refine WO.q (Y.assign (v := .bool _) rfl) ?_
    refine WO.nil ?_
    refine Then.nx ?_
    refine W.cond rfl (fun h6 => ?_) (fun h6 => ?_) -- cond 3
    ·
     have rh6 := h6
     (try simp only [Q1, Q2, Q3, Q4, Q5, Q6, Q7, Q8, Q9, Qa] at h6)
     refine W.seq ?_
     refine W.region rfl ?_
     first | refine WO.q (Y.load rfl (loadSN sz_51 S 0 rfl rfl rfl)) ?_ | refine WO.q (Y.load rfl (loadSN sz_51 S 1 rfl rfl rfl)) ?_ | refine WO.q (Y.load rfl (loadSN sz_51 S 2 rfl rfl rfl)) ?_ | refine WO.q (Y.load rfl (loadSN sz_51 S 3 rfl rfl rfl)) ?_ | refine WO.q (Y.load rfl (loadSN sz_51 S 4 rfl rfl rfl)) ?_ | refine WO.q (Y.load rfl (loadSN sz_51 S 5 rfl rfl rfl)) ?_ | refine WO.q (Y.load rfl (loadSN sz_51 S 6 rfl rfl rfl)) ?_ | refine WO.q (Y.load rfl (loadSN sz_51 S 7 rfl rfl rfl)) ?_
     refine WO.e (O.call cf_28 rfl (needs_spec _ x ra rc nd (hrt.ext S.ext) hnd htl) ?_)
     rintro _ w ⟨nb, nk, rfl, SN⟩
     replace S := S.trans SN
     rw [hnq] at S hnql ⊢
     refine ⟨_, rfl, ?_⟩
     refine WO.q (Y.makeFunc rfl rfl) ?_
     refine WO.e (O.call cf_37 rfl (ContainsFuncI_spec _ 38 [.pointer (some ⟨b7, 0, none⟩), .pointer (some ⟨be, 0, none⟩)] (fun k => decide (es.getD k.toNat ⟨0, 0⟩ = en)) nb nk (needL x n) (S.rd 0 rfl) (by omega) (fun args w => by kernel_rfl) (fun w k hk E => fits1_spec w b7 be ea ec es en k (E.heap (S.hasBlk 6 rfl (HasBlk.cel _ _ _))) (E.heap (S.hasBlk 3 rfl (HasBlk.cel _ _ _))) (R2.ext (S.ext.trans E)) (needL_bd hk).1 (by (have := (needL_bd hk).2; omega)))) ?_)
     rintro _ w ⟨rfl, E⟩
     replace S := S.keep E
     refine ⟨_, rfl, ?_⟩
     refine WO.q (Y.assign (v := .bool _) rfl) ?_
     refine WO.nil ?_
     refine Then.nx ?_
     refine W.ret ?_
     refine InB.r ?_
     refine Then.r ?_
     refine BodyQ.ret1 Try.results26 (ResV.tmp _ rfl) ?_
     first | ((have ei : i = f.lets.length := by omega); subst ei; exact ⟨by (rw [fitM_gone hx hen (by assumption)]; show Ending.returned (.bool _) = Ending.returned (.bool _); congr 2; rw [Bool.eq_iff_iff]; simp only [decide_eq_true_eq]; omega), S.ext⟩) | exact ⟨by (rw [fitM_race hx hen (by assumption) (by omega)]; rfl), S.ext⟩ | exact ⟨by (rw [fitM_cancel hx hen (by assumption) (by omega) hka hek]; show Ending.returned (.bool _) = Ending.returned (.bool _); congr 2; simp_all), S.ext⟩ | exact ⟨by (rw [fitM_expr hx hen (by assumption) (by omega) (by omega)]; rfl), S.ext⟩
    ·
     have rh6 := h6
     (try simp only [Q1, Q2, Q3, Q4, Q5, Q6, Q7, Q8, Q9, Qa] at h6)
     refine W.seq ?_
     refine W.region rfl ?_
     refine WO.q (Y.eql rfl rfl) ?_
     refine WO.q (Y.assign (v := .bool _) rfl) ?_
     refine WO.nil ?_
     refine Then.nx ?_
     refine W.cond rfl (fun h7 => ?_) (fun h7 => ?_) -- cond 4
     ·
      have rh7 := h7
      (try simp only [Q1, Q2, Q3, Q4, Q5, Q6, Q7, Q8, Q9, Qa] at h7)
      refine W.seq ?_
      obtain ⟨ka, hka, hka2, hka0, hka1⟩ := cancel_aim hck hx (by omega)
      have hxa := hrt.1 (by (have := at_lt hka; omega))
      have hkal := at_lt hka
      obtain ⟨ek, hek⟩ := at_ex (xs := es) (k := ka.n.toNat) (by omega)
      refine W.region rfl ?_
      refine WO.q (Y.fieldB fo_51_1 rfl) ?_
      first | refine WO.q (Y.load rfl (loadS1 sz_49 S 0 rfl rfl)) ?_ | refine WO.q (Y.load rfl (loadS1 sz_49 S 1 rfl rfl)) ?_ | refine WO.q (Y.load rfl (loadS1 sz_49 S 2 rfl rfl)) ?_ | refine WO.q (Y.load rfl (loadS1 sz_49 S 3 rfl rfl)) ?_ | refine WO.q (Y.load rfl (loadS1 sz_49 S 4 rfl rfl)) ?_ | refine WO.q (Y.load rfl (loadS1 sz_49 S 5 rfl rfl)) ?_ | refine WO.q (Y.load rfl (loadS1 sz_49 S 6 rfl rfl)) ?_ | refine WO.q (Y.load rfl (loadS1 sz_49 S 7 rfl rfl)) ?_
      first | refine WO.q (Y.ixN sl_49 rfl rfl (by (first | assumption | rfl)) (by (first | assumption | omega))) ?_ | refine WO.q (Y.ix sl_49 rfl rfl (by (first | assumption | rfl)) (by (first | assumption | omega)) (by (first | assumption | omega))) ?_
      refine WO.q (Y.fieldE fo_75_1 rfl) ?_
      first | refine WO.q (Y.load rfl (loadRdF sz_2 (R1.ext S.ext) (by assumption) rfl)) ?_ | refine WO.q (Y.load rfl (loadRdF sz_2 (R2.ext S.ext) (by assumption) rfl)) ?_ | refine WO.q (Y.load rfl (loadRdF sz_2 (hyt.ext S.ext) (by assumption) rfl)) ?_ | refine WO.q (Y.load rfl (loadRdF sz_2 (hrt.ext S.ext) (by assumption) rfl)) ?_
      refine WO.q (Y.assign (v := .int .i64 _) rfl) ?_
      refine WO.nil ?_
      refine Then.nx ?_
      refine W.seq ?_
      refine W.region rfl ?_
      first | refine WO.q (Y.load rfl (loadSN sz_30 S 0 rfl rfl rfl)) ?_ | refine WO.q (Y.load rfl (loadSN sz_30 S 1 rfl rfl rfl)) ?_ | refine WO.q (Y.load rfl (loadSN sz_30 S 2 rfl rfl rfl)) ?_ | refine WO.q (Y.load rfl (loadSN sz_30 S 3 rfl rfl rfl)) ?_ | refine WO.q (Y.load rfl (loadSN sz_30 S 4 rfl rfl rfl)) ?_ | refine WO.q (Y.load rfl (loadSN sz_30 S 5 rfl rfl rfl)) ?_ | refine WO.q (Y.load rfl (loadSN sz_30 S 6 rfl rfl rfl)) ?_ | refine WO.q (Y.load rfl (loadSN sz_30 S 7 rfl rfl rfl)) ?_
      refine WO.q (Y.build rfl (bld_30_0)) ?_
      first | refine WO.q (Y.eqlA eqt_30 rfl rfl) ?_ | refine WO.q (Y.eqlA (x := en) (y := (⟨4, (n : Int)⟩ : GEnd)) eqt_30 rfl rfl) ?_ | refine WO.q (Y.eqlA (x := eh) (y := one1) eqt_30 rfl rfl) ?_ | refine WO.q (Y.eqlA (x := en) (y := (⟨1, 0⟩ : GEnd)) eqt_30 rfl rfl) ?_ | refine WO.q (Y.eqlA (x := en) (y := one1) eqt_30 rfl rfl) ?_ | refine WO.q (Y.eqlA (x := ek) (y := (⟨4, ka.n⟩ : GEnd)) eqt_30 rfl rfl) ?_ | refine WO.q (Y.eqlA (x := (evalT es m (treeOf x)).fin) (y := en) eqt_30 rfl rfl) ?_
      refine WO.q (Y.move (v := .bool _) rfl) ?_
      refine WO.splitB (fun h8 => ?_) (fun h8 => ?_)
      ·
       (try simp only [Q1, Q2, Q3, Q4, Q5, Q6, Q7, Q8, Q9, Qa] at h8)
       refine WO.qF rfl ?_
       refine WO.qF rfl ?_
       refine WO.qF rfl ?_
       refine WO.qF rfl ?_
       refine WO.qF rfl ?_
       refine WO.qF rfl ?_
       refine WO.qF rfl ?_
       refine WO.qF rfl ?_
       refine WO.qF rfl ?_
       refine WO.qF rfl ?_
       refine WO.qF rfl ?_
       refine WO.qF rfl ?_
       refine WO.q (Y.pickT (u := .bool _) rfl rfl) ?_
       refine WO.q (Y.assign (v := .bool _) rfl) ?_
       refine WO.nil ?_
       refine Then.nx ?_
       refine W.ret ?_
       refine InB.r ?_
       refine Then.r ?_
       refine BodyQ.ret1 Try.results26 (ResV.tmp _ rfl) ?_
       first | ((have ei : i = f.lets.length := by omega); subst ei; exact ⟨by (rw [fitM_gone hx hen (by assumption)]; show Ending.returned (.bool _) = Ending.returned (.bool _); congr 2; rw [Bool.eq_iff_iff]; simp only [decide_eq_true_eq]; omega), S.ext⟩) | exact ⟨by (rw [fitM_race hx hen (by assumption) (by omega)]; rfl), S.ext⟩ | exact ⟨by (rw [fitM_cancel hx hen (by assumption) (by omega) hka hek]; show Ending.returned (.bool _) = Ending.returned (.bool _); congr 2; simp_all), S.ext⟩ | exact ⟨by (rw [fitM_expr hx hen (by assumption) (by omega) (by omega)]; rfl), S.ext⟩
      ·
       (try simp only [Q1, Q2, Q3, Q4, Q5, Q6, Q7, Q8, Q9, Qa] at h8)
       first | refine WO.qT rfl (Y.load rfl (loadSN sz_30 S 0 rfl rfl rfl)) ?_ | refine WO.qT rfl (Y.load rfl (loadSN sz_30 S 1 rfl rfl rfl)) ?_ | refine WO.qT rfl (Y.load rfl (loadSN sz_30 S 2 rfl rfl rfl)) ?_ | refine WO.qT rfl (Y.load rfl (loadSN sz_30 S 3 rfl rfl rfl)) ?_ | refine WO.qT rfl (Y.load rfl (loadSN sz_30 S 4 rfl rfl rfl)) ?_ | refine WO.qT rfl (Y.load rfl (loadSN sz_30 S 5 rfl rfl rfl)) ?_ | refine WO.qT rfl (Y.load rfl (loadSN sz_30 S 6 rfl rfl rfl)) ?_ | refine WO.qT rfl (Y.load rfl (loadSN sz_30 S 7 rfl rfl rfl)) ?_
       first | refine WO.qT rfl (Y.load rfl (loadSN sz_30 S 0 rfl rfl rfl)) ?_ | refine WO.qT rfl (Y.load rfl (loadSN sz_30 S 1 rfl rfl rfl)) ?_ | refine WO.qT rfl (Y.load rfl (loadSN sz_30 S 2 rfl rfl rfl)) ?_ | refine WO.qT rfl (Y.load rfl (loadSN sz_30 S 3 rfl rfl rfl)) ?_ | refine WO.qT rfl (Y.load rfl (loadSN sz_30 S 4 rfl rfl rfl)) ?_ | refine WO.qT rfl (Y.load rfl (loadSN sz_30 S 5 rfl rfl rfl)) ?_ | refine WO.qT rfl (Y.load rfl (loadSN sz_30 S 6 rfl rfl rfl)) ?_ | refine WO.qT rfl (Y.load rfl (loadSN sz_30 S 7 rfl rfl rfl)) ?_
       first | refine WO.qT rfl (Y.eqlA eqt_30 rfl rfl) ?_ | refine WO.qT rfl (Y.eqlA (x := en) (y := (⟨4, (n : Int)⟩ : GEnd)) eqt_30 rfl rfl) ?_ | refine WO.qT rfl (Y.eqlA (x := eh) (y := one1) eqt_30 rfl rfl) ?_ | refine WO.qT rfl (Y.eqlA (x := en) (y := (⟨1, 0⟩ : GEnd)) eqt_30 rfl rfl) ?_ | refine WO.qT rfl (Y.eqlA (x := en) (y := one1) eqt_30 rfl rfl) ?_ | refine WO.qT rfl (Y.eqlA (x := ek) (y := (⟨4, ka.n⟩ : GEnd)) eqt_30 rfl rfl) ?_ | refine WO.qT rfl (Y.eqlA (x := (evalT es m (treeOf x)).fin) (y := en) eqt_30 rfl rfl) ?_
       refine WO.qT rfl (Y.move (v := .bool _) rfl) ?_
       refine WO.splitB (fun h9 => ?_) (fun h9 => ?_)
       ·
        (try simp only [Q1, Q2, Q3, Q4, Q5, Q6, Q7, Q8, Q9, Qa] at h9)
        first | refine WO.qT rfl (Y.load rfl (loadS1 sz_33 S 0 rfl rfl)) ?_ | refine WO.qT rfl (Y.load rfl (loadS1 sz_33 S 1 rfl rfl)) ?_ | refine WO.qT rfl (Y.load rfl (loadS1 sz_33 S 2 rfl rfl)) ?_ | refine WO.qT rfl (Y.load rfl (loadS1 sz_33 S 3 rfl rfl)) ?_ | refine WO.qT rfl (Y.load rfl (loadS1 sz_33 S 4 rfl rfl)) ?_ | refine WO.qT rfl (Y.load rfl (loadS1 sz_33 S 5 rfl rfl)) ?_ | refine WO.qT rfl (Y.load rfl (loadS1 sz_33 S 6 rfl rfl)) ?_ | refine WO.qT rfl (Y.load rfl (loadS1 sz_33 S 7 rfl rfl)) ?_
        refine WO.qT rfl (Y.move (v := .int .i64 _) rfl) ?_
        first | refine WO.qT rfl (Y.ixN sl_33 rfl rfl (by (first | assumption | rfl)) (by (first | assumption | omega))) ?_ | refine WO.qT rfl (Y.ix sl_33 rfl rfl (by (first | assumption | rfl)) (by (first | assumption | omega)) (by (first | assumption | omega))) ?_
        refine WO.qT rfl (Y.load rfl (loadRdN sz_30 (R2.ext S.ext) hek)) ?_
        refine WO.qT rfl (Y.move (v := .int .i64 _) rfl) ?_
        refine WO.qT rfl (Y.build rfl (bld_30_0_1)) ?_
        first | refine WO.qT rfl (Y.eqlA eqt_30 rfl rfl) ?_ | refine WO.qT rfl (Y.eqlA (x := en) (y := (⟨4, (n : Int)⟩ : GEnd)) eqt_30 rfl rfl) ?_ | refine WO.qT rfl (Y.eqlA (x := eh) (y := one1) eqt_30 rfl rfl) ?_ | refine WO.qT rfl (Y.eqlA (x := en) (y := (⟨1, 0⟩ : GEnd)) eqt_30 rfl rfl) ?_ | refine WO.qT rfl (Y.eqlA (x := en) (y := one1) eqt_30 rfl rfl) ?_ | refine WO.qT rfl (Y.eqlA (x := ek) (y := (⟨4, ka.n⟩ : GEnd)) eqt_30 rfl rfl) ?_ | refine WO.qT rfl (Y.eqlA (x := (evalT es m (treeOf x)).fin) (y := en) eqt_30 rfl rfl) ?_
        refine WO.qT rfl (Y.pickT (u := .bool _) rfl rfl) ?_
        refine WO.q (Y.pickF (u := .bool _) rfl rfl) ?_
        refine WO.q (Y.assign (v := .bool _) rfl) ?_
        refine WO.nil ?_
        refine Then.nx ?_
        refine W.ret ?_
        refine InB.r ?_
        refine Then.r ?_
        refine BodyQ.ret1 Try.results26 (ResV.tmp _ rfl) ?_
        first | ((have ei : i = f.lets.length := by omega); subst ei; exact ⟨by (rw [fitM_gone hx hen (by assumption)]; show Ending.returned (.bool _) = Ending.returned (.bool _); congr 2; rw [Bool.eq_iff_iff]; simp only [decide_eq_true_eq]; omega), S.ext⟩) | exact ⟨by (rw [fitM_race hx hen (by assumption) (by omega)]; rfl), S.ext⟩ | exact ⟨by (rw [fitM_cancel hx hen (by assumption) (by omega) hka hek]; show Ending.returned (.bool _) = Ending.returned (.bool _); congr 2; simp_all), S.ext⟩ | exact ⟨by (rw [fitM_expr hx hen (by assumption) (by omega) (by omega)]; rfl), S.ext⟩
       ·
        (try simp only [Q1, Q2, Q3, Q4, Q5, Q6, Q7, Q8, Q9, Qa] at h9)
        refine WO.qF rfl ?_
        refine WO.qF rfl ?_
        refine WO.qF rfl ?_
        refine WO.qF rfl ?_
        refine WO.qF rfl ?_
        refine WO.qF rfl ?_
        refine WO.qF rfl ?_
        refine WO.qT rfl (Y.pickF (u := .bool _) rfl rfl) ?_
        refine WO.q (Y.pickF (u := .bool _) rfl rfl) ?_
        refine WO.q (Y.assign (v := .bool _) rfl) ?_
        refine WO.nil ?_
        refine Then.nx ?_
        refine W.ret ?_
        refine InB.r ?_
        refine Then.r ?_
        refine BodyQ.ret1 Try.results26 (ResV.tmp _ rfl) ?_
        first | ((have ei : i = f.lets.length := by omega); subst ei; exact ⟨by (rw [fitM_gone hx hen (by assumption)]; show Ending.returned (.bool _) = Ending.returned (.bool _); congr 2; rw [Bool.eq_iff_iff]; simp only [decide_eq_true_eq]; omega), S.ext⟩) | exact ⟨by (rw [fitM_race hx hen (by assumption) (by omega)]; rfl), S.ext⟩ | exact ⟨by (rw [fitM_cancel hx hen (by assumption) (by omega) hka hek]; show Ending.returned (.bool _) = Ending.returned (.bool _); congr 2; simp_all), S.ext⟩ | exact ⟨by (rw [fitM_expr hx hen (by assumption) (by omega) (by omega)]; rfl), S.ext⟩
     ·
      have rh7 := h7
      (try simp only [Q1, Q2, Q3, Q4, Q5, Q6, Q7, Q8, Q9, Qa] at h7)
      refine W.skip ?_
      refine InB.nx ?_
      refine Then.nx ?_
      refine W.seq ?_
      refine W.region rfl ?_
      refine WO.q (Y.fieldB fo_51_1 rfl) ?_
      first | refine WO.q (Y.load rfl (loadS1 sz_49 S 0 rfl rfl)) ?_ | refine WO.q (Y.load rfl (loadS1 sz_49 S 1 rfl rfl)) ?_ | refine WO.q (Y.load rfl (loadS1 sz_49 S 2 rfl rfl)) ?_ | refine WO.q (Y.load rfl (loadS1 sz_49 S 3 rfl rfl)) ?_ | refine WO.q (Y.load rfl (loadS1 sz_49 S 4 rfl rfl)) ?_ | refine WO.q (Y.load rfl (loadS1 sz_49 S 5 rfl rfl)) ?_ | refine WO.q (Y.load rfl (loadS1 sz_49 S 6 rfl rfl)) ?_ | refine WO.q (Y.load rfl (loadS1 sz_49 S 7 rfl rfl)) ?_
      first | refine WO.q (Y.load rfl (loadS1 sz_33 S 0 rfl rfl)) ?_ | refine WO.q (Y.load rfl (loadS1 sz_33 S 1 rfl rfl)) ?_ | refine WO.q (Y.load rfl (loadS1 sz_33 S 2 rfl rfl)) ?_ | refine WO.q (Y.load rfl (loadS1 sz_33 S 3 rfl rfl)) ?_ | refine WO.q (Y.load rfl (loadS1 sz_33 S 4 rfl rfl)) ?_ | refine WO.q (Y.load rfl (loadS1 sz_33 S 5 rfl rfl)) ?_ | refine WO.q (Y.load rfl (loadS1 sz_33 S 6 rfl rfl)) ?_ | refine WO.q (Y.load rfl (loadS1 sz_33 S 7 rfl rfl)) ?_
      first | refine WO.q (Y.load rfl (loadSN sz_27 S 0 rfl rfl rfl)) ?_ | refine WO.q (Y.load rfl (loadSN sz_27 S 1 rfl rfl rfl)) ?_ | refine WO.q (Y.load rfl (loadSN sz_27 S 2 rfl rfl rfl)) ?_ | refine WO.q (Y.load rfl (loadSN sz_27 S 3 rfl rfl rfl)) ?_ | refine WO.q (Y.load rfl (loadSN sz_27 S 4 rfl rfl rfl)) ?_ | refine WO.q (Y.load rfl (loadSN sz_27 S 5 rfl rfl rfl)) ?_ | refine WO.q (Y.load rfl (loadSN sz_27 S 6 rfl rfl rfl)) ?_ | refine WO.q (Y.load rfl (loadSN sz_27 S 7 rfl rfl rfl)) ?_
      refine WO.q (Y.build rfl (bld_61_0_1_2)) ?_
      refine WO.e (O.box rfl rfl S (fun b101 w S => ?_))
      first | refine WO.q (Y.assign (v := .pointer (some _)) rfl) ?_ | refine WO.q (Y.assign (v := .pointer _) rfl) ?_
      refine WO.nil ?_
      refine Then.nx ?_
      refine W.seq ?_
      refine W.draw (.q 0 (.q 3 (.e 1 (.e 2 (.q 4 (.q 5 .nil)))))) (fun w => Sat _ w _) rfl rfl (by kernel_rfl) rfl (by kernel_rfl) (by repeat (first | exact BodyQ.noFrame | refine Then.noFrame ?_ | refine InB.noFrame ?_)) S.drew ?_
      clear S
      first | refine Plan.q rfl (fun w S => Y.move (v := .pointer (some _)) rfl) ?_ | refine Plan.q rfl (fun w S => Y.move (v := .pointer _) rfl) ?_
      first | refine Plan.q rfl (fun w S => Y.load rfl (loadSN sz_30 S 0 rfl rfl rfl)) ?_ | refine Plan.q rfl (fun w S => Y.load rfl (loadSN sz_30 S 1 rfl rfl rfl)) ?_ | refine Plan.q rfl (fun w S => Y.load rfl (loadSN sz_30 S 2 rfl rfl rfl)) ?_ | refine Plan.q rfl (fun w S => Y.load rfl (loadSN sz_30 S 3 rfl rfl rfl)) ?_ | refine Plan.q rfl (fun w S => Y.load rfl (loadSN sz_30 S 4 rfl rfl rfl)) ?_ | refine Plan.q rfl (fun w S => Y.load rfl (loadSN sz_30 S 5 rfl rfl rfl)) ?_ | refine Plan.q rfl (fun w S => Y.load rfl (loadSN sz_30 S 6 rfl rfl rfl)) ?_ | refine Plan.q rfl (fun w S => Y.load rfl (loadSN sz_30 S 7 rfl rfl rfl)) ?_
      refine Plan.e1 rfl (fun w S => O.call cf_23 rfl (node_spec ((flat (treeOf x)).length + 1) _ b101 ⟨ra, rc, ea, ec⟩ x.tree es m 0 (treeOf x) [] (by omega) ⟨S.hasBlk 0 rfl (HasBlk.cel _ _ _), hrt.ext S.ext, R2.ext S.ext, htl⟩ (by (rw [List.append_nil]; exact htr)) (okT_mono (by omega) hot) hft) ?_)
      rintro _ w ⟨rfl, E⟩
      replace S := S.keep E
      refine ⟨_, rfl, ?_⟩
      refine ⟨(fun w => Sat _ w _), S, (.inr (fun w S => S.pk (by repeat (first | exact Pk.nil _ | exact Pk.refl _ | refine Pk.cons 0 rfl ?_ | refine Pk.cons 1 rfl ?_ | refine Pk.cons 2 rfl ?_ | refine Pk.cons 3 rfl ?_ | refine Pk.cons 4 rfl ?_ | refine Pk.cons 5 rfl ?_ | refine Pk.cons 6 rfl ?_ | refine Pk.cons 7 rfl ?_ | refine Pk.cons 8 rfl ?_ | refine Pk.cons 9 rfl ?_ | refine Pk.cons 10 rfl ?_ | refine Pk.cons 11 rfl ?_ | refine Pk.cons 12 rfl ?_ | refine Pk.cons 13 rfl ?_ | refine Pk.drop ?_)))), ?_⟩
      clear S
      refine Plan.e1 rfl (fun w S => O.endOf (o := evalT es m (treeOf x)) endM1 endM2 (fun v => vend_spec _ v) (fun e => tend_spec _ e) rfl ?_)
      intro w E
      replace S := S.keep E
      refine ⟨(fun w => Sat _ w _), S, (.inr (fun w S => S.pk (by repeat (first | exact Pk.nil _ | exact Pk.refl _ | refine Pk.cons 0 rfl ?_ | refine Pk.cons 1 rfl ?_ | refine Pk.cons 2 rfl ?_ | refine Pk.cons 3 rfl ?_ | refine Pk.cons 4 rfl ?_ | refine Pk.cons 5 rfl ?_ | refine Pk.cons 6 rfl ?_ | refine Pk.cons 7 rfl ?_ | refine Pk.cons 8 rfl ?_ | refine Pk.cons 9 rfl ?_ | refine Pk.cons 10 rfl ?_ | refine Pk.cons 11 rfl ?_ | refine Pk.cons 12 rfl ?_ | refine Pk.cons 13 rfl ?_ | refine Pk.drop ?_)))), ?_⟩
      clear S
      first | refine Plan.q rfl (fun w S => Y.eqlA eqt_30 rfl rfl) ?_ | refine Plan.q rfl (fun w S => Y.eqlA (x := en) (y := (⟨4, (n : Int)⟩ : GEnd)) eqt_30 rfl rfl) ?_ | refine Plan.q rfl (fun w S => Y.eqlA (x := eh) (y := one1) eqt_30 rfl rfl) ?_ | refine Plan.q rfl (fun w S => Y.eqlA (x := en) (y := (⟨1, 0⟩ : GEnd)) eqt_30 rfl rfl) ?_ | refine Plan.q rfl (fun w S => Y.eqlA (x := en) (y := one1) eqt_30 rfl rfl) ?_ | refine Plan.q rfl (fun w S => Y.eqlA (x := ek) (y := (⟨4, ka.n⟩ : GEnd)) eqt_30 rfl rfl) ?_ | refine Plan.q rfl (fun w S => Y.eqlA (x := (evalT es m (treeOf x)).fin) (y := en) eqt_30 rfl rfl) ?_
      refine Plan.q rfl (fun w S => Y.assign (v := .bool _) rfl) ?_
      refine Plan.nil (fun w S => ?_)
      replace S : Sat _ _ _ := S
      refine Then.nx ?_
      refine W.ret ?_
      refine BodyQ.ret1 Try.results26 (ResV.tmp _ rfl) ?_
      first | ((have ei : i = f.lets.length := by omega); subst ei; exact ⟨by (rw [fitM_gone hx hen (by assumption)]; show Ending.returned (.bool _) = Ending.returned (.bool _); congr 2; rw [Bool.eq_iff_iff]; simp only [decide_eq_true_eq]; omega), S.ext⟩) | exact ⟨by (rw [fitM_race hx hen (by assumption) (by omega)]; rfl), S.ext⟩ | exact ⟨by (rw [fitM_cancel hx hen (by assumption) (by omega) hka hek]; show Ending.returned (.bool _) = Ending.returned (.bool _); congr 2; simp_all), S.ext⟩ | exact ⟨by (rw [fitM_expr hx hen (by assumption) (by omega) (by omega)]; rfl), S.ext⟩
end Go.Proofs
