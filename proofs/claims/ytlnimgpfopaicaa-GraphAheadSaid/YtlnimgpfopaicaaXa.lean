/-
  Walks of Let.
-/
import Derived.Test.YtlnimgpfopaicaaGd
import Derived.Test.YtlnimgpfopaicaaFa
import Derived.Test.YtlnimgpfopaicaaFb
import Derived.Test.YtlnimgpfopaicaaUe
import Derived.Test.YtlnimgpfopaicaaVc
import Derived.Test.YtlnimgpfopaicaaVd
set_option linter.unusedVariables false
set_option linter.unusedSimpArgs false
set_option maxRecDepth 100000
set_option maxHeartbeats 1000000
namespace Go.Proofs
open Go Go.TL Go.RowKit
theorem Let_spec (w0 : World) (v : FIn) (f : GFlow) (n : Int) (m : GMaker) (ea : Option Addr) (ec : Nat) (es : List GEnd) (R : RdFlow w0 v f) (R2 : Rd tEnd w0 ea es) (hec : es.length ≤ ec) (hes : es.length ≤ 2147483647) :
    Calls Try.prog 11 [.agg (fL v f).toArray, .int .i64 n, .agg (tMaker.enc m).toArray, .slice ea es.length ec].toArray w0 (fun r w => r = .returned (.tuple #[endV (letM f n m es).1, .int .i64 (letM f n m es).2]) ∧ Ext w0 w) := by
 have S := Sat.refl w0
 have hR := R
 obtain ⟨⟨raws, R1, hraw⟩, Ro, hlc, hoc, hln, hon, htn⟩ := R
 have hrl := hraw.1
 refine calls_of_W (args := [.agg (fL v f).toArray, .int .i64 n, .agg (tMaker.enc m).toArray, .slice ea es.length ec]) 68 Try.func11 rfl Try.ntmps11 rfl ?_
 refine W.seq ?_
 refine W.region rfl ?_
 refine WO.e (O.box rfl rfl S (fun b4 w S => ?_))
 refine WO.e (O.box rfl rfl S (fun b6 w S => ?_))
 refine WO.e (O.alloc z_30 S (fun b8 w S => ?_))
 refine WO.q (Y.assign (v := .int .i64 _) rfl) ?_
 refine WO.nil ?_
 refine Then.nx ?_
 refine W.seq ?_
 refine W.seq ?_
 refine W.region rfl ?_
 first | refine WO.q (Y.load rfl (loadSN sz_25 S 0 rfl rfl rfl)) ?_ | refine WO.q (Y.load rfl (loadSN sz_25 S 1 rfl rfl rfl)) ?_ | refine WO.q (Y.load rfl (loadSN sz_25 S 2 rfl rfl rfl)) ?_ | refine WO.q (Y.load rfl (loadSN sz_25 S 3 rfl rfl rfl)) ?_ | refine WO.q (Y.load rfl (loadSN sz_25 S 4 rfl rfl rfl)) ?_
 refine WO.e (O.call cf_21 rfl (Check_spec _ v f (hR.ext S.ext)) ?_)
 rintro _ w ⟨rfl, E⟩
 replace S := S.keep E
 refine ⟨_, rfl, ?_⟩
 refine WO.q (Y.move (v := .tuple _) rfl) ?_
 refine WO.q (Y.extract (v := .int .i64 _) rfl rfl) ?_
 refine WO.q (Y.extract (v := .int .i64 _) rfl rfl) ?_
 refine WO.q (Y.assign (v := .int .i64 _) rfl) ?_
 refine WO.q (Y.assign (v := .int .i64 _) rfl) ?_
 refine WO.nil ?_
 refine Then.nx ?_
 refine W.seq ?_
 refine W.region rfl ?_
 refine WO.q (Y.move (v := .int .i64 _) rfl) ?_
 refine WO.q (Y.neq rfl rfl) ?_
 refine WO.nil ?_
 refine Then.nx ?_
 refine W.cond rfl (fun h1 => ?_) (fun h1 => ?_) -- cond 0
 ·
  have rh1 := h1
  (try simp only [Q1, Q2, Q3, Q4, Q5, Q6, Q7, Q8, Q9, Qa] at h1)
  refine W.seq ?_
  refine W.region rfl ?_
  refine WO.q (Y.build rfl (bld_30_)) ?_
  refine WO.q (Y.move (v := .int .i64 _) rfl) ?_
  first | refine WO.e0 (O.store (v := .agg _) 0 S rfl rfl rfl sz_30 rfl rfl rfl rfl (fun w S => ?_)) | refine WO.e0 (O.store (v := .agg _) 1 S rfl rfl rfl sz_30 rfl rfl rfl rfl (fun w S => ?_)) | refine WO.e0 (O.store (v := .agg _) 2 S rfl rfl rfl sz_30 rfl rfl rfl rfl (fun w S => ?_)) | refine WO.e0 (O.store (v := .agg _) 3 S rfl rfl rfl sz_30 rfl rfl rfl rfl (fun w S => ?_)) | refine WO.e0 (O.store (v := .agg _) 4 S rfl rfl rfl sz_30 rfl rfl rfl rfl (fun w S => ?_))
  refine WO.q (Y.assign (v := .int .i64 _) rfl) ?_
  refine WO.nil ?_
  refine Then.nx ?_
  refine W.ret ?_
  refine Then.r ?_
  refine BodyQ.ret2 Try.results11 (by first | exact (ResV.cell _ rfl (loadSN sz_30 S 0 rfl rfl rfl)) | exact (ResV.cell _ rfl (loadSN sz_30 S 1 rfl rfl rfl)) | exact (ResV.cell _ rfl (loadSN sz_30 S 2 rfl rfl rfl)) | exact (ResV.cell _ rfl (loadSN sz_30 S 3 rfl rfl rfl)) | exact (ResV.cell _ rfl (loadSN sz_30 S 4 rfl rfl rfl)) | exact (ResV.cell _ rfl (loadSN sz_30 S 5 rfl rfl rfl)) | exact (ResV.cell _ rfl (loadSN sz_30 S 6 rfl rfl rfl)) | exact (ResV.cell _ rfl (loadSN sz_30 S 7 rfl rfl rfl))) (ResV.tmp _ rfl) ?_
  refine ⟨?_, S.ext⟩; first | (show Ending.returned (.tuple #[_, .int .i64 _]) = _; rw [letM_err (by assumption)]; rfl) | (show Ending.returned (.tuple #[_, .int .i64 _]) = _; rw [letM_arg (by assumption) (by (unfold argBad badEnds; first | (left; omega) | (right; left; omega) | (right; right; left; omega) | (right; right; right; rw [Int.toNat_natCast]; simp_all)))]; rfl) | (show Ending.returned (.tuple #[_, .int .i64 _]) = _; rw [letM_in (by assumption) (by omega) (by omega) (by (unfold badEnds; simp_all)) hx, if_pos (by omega)]; rfl) | (show Ending.returned (.tuple #[_, .int .i64 _]) = _; rw [letM_in (by assumption) (by omega) (by omega) (by (unfold badEnds; simp_all)) hx, if_neg (by omega)]; rfl)
 ·
  have rh1 := h1
  (try simp only [Q1, Q2, Q3, Q4, Q5, Q6, Q7, Q8, Q9, Qa] at h1)
  refine W.skip ?_
  refine Then.nx ?_
  refine W.seq ?_
  refine W.seq ?_
  refine W.region rfl ?_
  refine WO.q (Y.move (v := .int .i64 _) rfl) ?_
  refine WO.q (Y.lss rfl rfl) ?_
  refine WO.q (Y.move (v := .bool _) rfl) ?_
  refine WO.splitB (fun h2 => ?_) (fun h2 => ?_)
  ·
   (try simp only [Q1, Q2, Q3, Q4, Q5, Q6, Q7, Q8, Q9, Qa] at h2)
   refine WO.qF rfl ?_
   refine WO.qF rfl ?_
   refine WO.qF rfl ?_
   refine WO.qF rfl ?_
   refine WO.qF rfl ?_
   refine WO.q (Y.pickT (u := .bool _) rfl rfl) ?_
   refine WO.q (Y.move (v := .bool _) rfl) ?_
   refine WO.qF rfl ?_
   refine WO.qF rfl ?_
   refine WO.qF rfl ?_
   refine WO.qF rfl ?_
   refine WO.q (Y.pickT (u := .bool _) rfl rfl) ?_
   refine WO.q (Y.move (v := .bool _) rfl) ?_
   refine WO.qF rfl ?_
   refine WO.qF rfl ?_
   refine WO.qF rfl ?_
   refine WO.qF rfl ?_
   refine WO.q (Y.pickT (u := .bool _) rfl rfl) ?_
   refine WO.nil ?_
   refine Then.nx ?_
   first | refine W.condT rfl ?_ | refine W.condT (congrArg Value.bool (by assumption)) ?_
   refine W.seq ?_
   refine W.region rfl ?_
   refine WO.q (Y.build rfl (bld_30_)) ?_
   first | refine WO.e0 (O.store (v := .agg _) 0 S rfl rfl rfl sz_30 rfl rfl rfl rfl (fun w S => ?_)) | refine WO.e0 (O.store (v := .agg _) 1 S rfl rfl rfl sz_30 rfl rfl rfl rfl (fun w S => ?_)) | refine WO.e0 (O.store (v := .agg _) 2 S rfl rfl rfl sz_30 rfl rfl rfl rfl (fun w S => ?_)) | refine WO.e0 (O.store (v := .agg _) 3 S rfl rfl rfl sz_30 rfl rfl rfl rfl (fun w S => ?_)) | refine WO.e0 (O.store (v := .agg _) 4 S rfl rfl rfl sz_30 rfl rfl rfl rfl (fun w S => ?_))
   refine WO.q (Y.assign (v := .int .i64 _) rfl) ?_
   refine WO.nil ?_
   refine Then.nx ?_
   refine W.ret ?_
   refine Then.r ?_
   refine BodyQ.ret2 Try.results11 (by first | exact (ResV.cell _ rfl (loadSN sz_30 S 0 rfl rfl rfl)) | exact (ResV.cell _ rfl (loadSN sz_30 S 1 rfl rfl rfl)) | exact (ResV.cell _ rfl (loadSN sz_30 S 2 rfl rfl rfl)) | exact (ResV.cell _ rfl (loadSN sz_30 S 3 rfl rfl rfl)) | exact (ResV.cell _ rfl (loadSN sz_30 S 4 rfl rfl rfl)) | exact (ResV.cell _ rfl (loadSN sz_30 S 5 rfl rfl rfl)) | exact (ResV.cell _ rfl (loadSN sz_30 S 6 rfl rfl rfl)) | exact (ResV.cell _ rfl (loadSN sz_30 S 7 rfl rfl rfl))) (ResV.tmp _ rfl) ?_
   refine ⟨?_, S.ext⟩; first | (show Ending.returned (.tuple #[_, .int .i64 _]) = _; rw [letM_err (by assumption)]; rfl) | (show Ending.returned (.tuple #[_, .int .i64 _]) = _; rw [letM_arg (by assumption) (by (unfold argBad badEnds; first | (left; omega) | (right; left; omega) | (right; right; left; omega) | (right; right; right; rw [Int.toNat_natCast]; simp_all)))]; rfl) | (show Ending.returned (.tuple #[_, .int .i64 _]) = _; rw [letM_in (by assumption) (by omega) (by omega) (by (unfold badEnds; simp_all)) hx, if_pos (by omega)]; rfl) | (show Ending.returned (.tuple #[_, .int .i64 _]) = _; rw [letM_in (by assumption) (by omega) (by omega) (by (unfold badEnds; simp_all)) hx, if_neg (by omega)]; rfl)
  ·
   (try simp only [Q1, Q2, Q3, Q4, Q5, Q6, Q7, Q8, Q9, Qa] at h2)
   refine WO.qT rfl (Y.move (v := .int .i64 _) rfl) ?_
   refine WO.qT rfl (Y.fieldB fo_25_0 rfl) ?_
   first | refine WO.qT rfl (Y.load rfl (loadS1 sz_22 S 0 rfl rfl)) ?_ | refine WO.qT rfl (Y.load rfl (loadS1 sz_22 S 1 rfl rfl)) ?_ | refine WO.qT rfl (Y.load rfl (loadS1 sz_22 S 2 rfl rfl)) ?_ | refine WO.qT rfl (Y.load rfl (loadS1 sz_22 S 3 rfl rfl)) ?_ | refine WO.qT rfl (Y.load rfl (loadS1 sz_22 S 4 rfl rfl)) ?_
   refine WO.qT rfl (Y.len (t' := 0) Try.underlying22 rfl) ?_
   refine WO.qT rfl (Y.geq rfl rfl) ?_
   refine WO.q (Y.pickF (u := .bool _) rfl rfl) ?_
   refine WO.q (Y.move (v := .bool _) rfl) ?_
   refine WO.splitB (fun h3 => ?_) (fun h3 => ?_)
   ·
    (try simp only [Q1, Q2, Q3, Q4, Q5, Q6, Q7, Q8, Q9, Qa] at h3)
    refine WO.qF rfl ?_
    refine WO.qF rfl ?_
    refine WO.qF rfl ?_
    refine WO.qF rfl ?_
    refine WO.q (Y.pickT (u := .bool _) rfl rfl) ?_
    refine WO.q (Y.move (v := .bool _) rfl) ?_
    refine WO.qF rfl ?_
    refine WO.qF rfl ?_
    refine WO.qF rfl ?_
    refine WO.qF rfl ?_
    refine WO.q (Y.pickT (u := .bool _) rfl rfl) ?_
    refine WO.nil ?_
    refine Then.nx ?_
    first | refine W.condT rfl ?_ | refine W.condT (congrArg Value.bool (by assumption)) ?_
    refine W.seq ?_
    refine W.region rfl ?_
    refine WO.q (Y.build rfl (bld_30_)) ?_
    first | refine WO.e0 (O.store (v := .agg _) 0 S rfl rfl rfl sz_30 rfl rfl rfl rfl (fun w S => ?_)) | refine WO.e0 (O.store (v := .agg _) 1 S rfl rfl rfl sz_30 rfl rfl rfl rfl (fun w S => ?_)) | refine WO.e0 (O.store (v := .agg _) 2 S rfl rfl rfl sz_30 rfl rfl rfl rfl (fun w S => ?_)) | refine WO.e0 (O.store (v := .agg _) 3 S rfl rfl rfl sz_30 rfl rfl rfl rfl (fun w S => ?_)) | refine WO.e0 (O.store (v := .agg _) 4 S rfl rfl rfl sz_30 rfl rfl rfl rfl (fun w S => ?_))
    refine WO.q (Y.assign (v := .int .i64 _) rfl) ?_
    refine WO.nil ?_
    refine Then.nx ?_
    refine W.ret ?_
    refine Then.r ?_
    refine BodyQ.ret2 Try.results11 (by first | exact (ResV.cell _ rfl (loadSN sz_30 S 0 rfl rfl rfl)) | exact (ResV.cell _ rfl (loadSN sz_30 S 1 rfl rfl rfl)) | exact (ResV.cell _ rfl (loadSN sz_30 S 2 rfl rfl rfl)) | exact (ResV.cell _ rfl (loadSN sz_30 S 3 rfl rfl rfl)) | exact (ResV.cell _ rfl (loadSN sz_30 S 4 rfl rfl rfl)) | exact (ResV.cell _ rfl (loadSN sz_30 S 5 rfl rfl rfl)) | exact (ResV.cell _ rfl (loadSN sz_30 S 6 rfl rfl rfl)) | exact (ResV.cell _ rfl (loadSN sz_30 S 7 rfl rfl rfl))) (ResV.tmp _ rfl) ?_
    refine ⟨?_, S.ext⟩; first | (show Ending.returned (.tuple #[_, .int .i64 _]) = _; rw [letM_err (by assumption)]; rfl) | (show Ending.returned (.tuple #[_, .int .i64 _]) = _; rw [letM_arg (by assumption) (by (unfold argBad badEnds; first | (left; omega) | (right; left; omega) | (right; right; left; omega) | (right; right; right; rw [Int.toNat_natCast]; simp_all)))]; rfl) | (show Ending.returned (.tuple #[_, .int .i64 _]) = _; rw [letM_in (by assumption) (by omega) (by omega) (by (unfold badEnds; simp_all)) hx, if_pos (by omega)]; rfl) | (show Ending.returned (.tuple #[_, .int .i64 _]) = _; rw [letM_in (by assumption) (by omega) (by omega) (by (unfold badEnds; simp_all)) hx, if_neg (by omega)]; rfl)
   ·
    (try simp only [Q1, Q2, Q3, Q4, Q5, Q6, Q7, Q8, Q9, Qa] at h3)
    refine WO.qT rfl (Y.move (v := .slice _ _ _) rfl) ?_
    refine WO.qT rfl (Y.len (t' := 0) Try.underlying33 rfl) ?_
    refine WO.qT rfl (Y.move (v := .int .i64 _) rfl) ?_
    refine WO.qT rfl (Y.lss rfl rfl) ?_
    refine WO.q (Y.pickF (u := .bool _) rfl rfl) ?_
    refine WO.q (Y.move (v := .bool _) rfl) ?_
    refine WO.splitB (fun h4 => ?_) (fun h4 => ?_)
    ·
     (try simp only [Q1, Q2, Q3, Q4, Q5, Q6, Q7, Q8, Q9, Qa] at h4)
     refine WO.qF rfl ?_
     refine WO.qF rfl ?_
     refine WO.qF rfl ?_
     refine WO.qF rfl ?_
     refine WO.q (Y.pickT (u := .bool _) rfl rfl) ?_
     refine WO.nil ?_
     refine Then.nx ?_
     first | refine W.condT rfl ?_ | refine W.condT (congrArg Value.bool (by assumption)) ?_
     refine W.seq ?_
     refine W.region rfl ?_
     refine WO.q (Y.build rfl (bld_30_)) ?_
     first | refine WO.e0 (O.store (v := .agg _) 0 S rfl rfl rfl sz_30 rfl rfl rfl rfl (fun w S => ?_)) | refine WO.e0 (O.store (v := .agg _) 1 S rfl rfl rfl sz_30 rfl rfl rfl rfl (fun w S => ?_)) | refine WO.e0 (O.store (v := .agg _) 2 S rfl rfl rfl sz_30 rfl rfl rfl rfl (fun w S => ?_)) | refine WO.e0 (O.store (v := .agg _) 3 S rfl rfl rfl sz_30 rfl rfl rfl rfl (fun w S => ?_)) | refine WO.e0 (O.store (v := .agg _) 4 S rfl rfl rfl sz_30 rfl rfl rfl rfl (fun w S => ?_))
     refine WO.q (Y.assign (v := .int .i64 _) rfl) ?_
     refine WO.nil ?_
     refine Then.nx ?_
     refine W.ret ?_
     refine Then.r ?_
     refine BodyQ.ret2 Try.results11 (by first | exact (ResV.cell _ rfl (loadSN sz_30 S 0 rfl rfl rfl)) | exact (ResV.cell _ rfl (loadSN sz_30 S 1 rfl rfl rfl)) | exact (ResV.cell _ rfl (loadSN sz_30 S 2 rfl rfl rfl)) | exact (ResV.cell _ rfl (loadSN sz_30 S 3 rfl rfl rfl)) | exact (ResV.cell _ rfl (loadSN sz_30 S 4 rfl rfl rfl)) | exact (ResV.cell _ rfl (loadSN sz_30 S 5 rfl rfl rfl)) | exact (ResV.cell _ rfl (loadSN sz_30 S 6 rfl rfl rfl)) | exact (ResV.cell _ rfl (loadSN sz_30 S 7 rfl rfl rfl))) (ResV.tmp _ rfl) ?_
     refine ⟨?_, S.ext⟩; first | (show Ending.returned (.tuple #[_, .int .i64 _]) = _; rw [letM_err (by assumption)]; rfl) | (show Ending.returned (.tuple #[_, .int .i64 _]) = _; rw [letM_arg (by assumption) (by (unfold argBad badEnds; first | (left; omega) | (right; left; omega) | (right; right; left; omega) | (right; right; right; rw [Int.toNat_natCast]; simp_all)))]; rfl) | (show Ending.returned (.tuple #[_, .int .i64 _]) = _; rw [letM_in (by assumption) (by omega) (by omega) (by (unfold badEnds; simp_all)) hx, if_pos (by omega)]; rfl) | (show Ending.returned (.tuple #[_, .int .i64 _]) = _; rw [letM_in (by assumption) (by omega) (by omega) (by (unfold badEnds; simp_all)) hx, if_neg (by omega)]; rfl)
    ·
     (try simp only [Q1, Q2, Q3, Q4, Q5, Q6, Q7, Q8, Q9, Qa] at h4)
     obtain ⟨k, rfl⟩ := Int.eq_ofNat_of_zero_le (show 0 ≤ n by omega)
     refine WO.qT rfl (Y.move (v := .slice _ _ _) rfl) ?_
     refine WO.qT rfl (Y.move (v := .int .i64 _) rfl) ?_
     refine WO.eT rfl (O.call cf_25 rfl (all_spec _ ea ec es k (R2.ext S.ext) (by omega) hec (by omega)) ?_)
     rintro _ w ⟨rfl, E⟩
     replace S := S.keep E
     refine ⟨_, rfl, ?_⟩
     refine WO.qT rfl (Y.not rfl) ?_
     refine WO.q (Y.pickF (u := .bool _) rfl rfl) ?_
     refine WO.nil ?_
     refine Then.nx ?_
     refine W.cond rfl (fun h5 => ?_) (fun h5 => ?_) -- cond 1
     ·
      have rh5 := h5
      (try simp only [Q1, Q2, Q3, Q4, Q5, Q6, Q7, Q8, Q9, Qa] at h5)
      refine W.seq ?_
      refine W.region rfl ?_
      refine WO.q (Y.build rfl (bld_30_)) ?_
      first | refine WO.e0 (O.store (v := .agg _) 0 S rfl rfl rfl sz_30 rfl rfl rfl rfl (fun w S => ?_)) | refine WO.e0 (O.store (v := .agg _) 1 S rfl rfl rfl sz_30 rfl rfl rfl rfl (fun w S => ?_)) | refine WO.e0 (O.store (v := .agg _) 2 S rfl rfl rfl sz_30 rfl rfl rfl rfl (fun w S => ?_)) | refine WO.e0 (O.store (v := .agg _) 3 S rfl rfl rfl sz_30 rfl rfl rfl rfl (fun w S => ?_)) | refine WO.e0 (O.store (v := .agg _) 4 S rfl rfl rfl sz_30 rfl rfl rfl rfl (fun w S => ?_))
      refine WO.q (Y.assign (v := .int .i64 _) rfl) ?_
      refine WO.nil ?_
      refine Then.nx ?_
      refine W.ret ?_
      refine Then.r ?_
      refine BodyQ.ret2 Try.results11 (by first | exact (ResV.cell _ rfl (loadSN sz_30 S 0 rfl rfl rfl)) | exact (ResV.cell _ rfl (loadSN sz_30 S 1 rfl rfl rfl)) | exact (ResV.cell _ rfl (loadSN sz_30 S 2 rfl rfl rfl)) | exact (ResV.cell _ rfl (loadSN sz_30 S 3 rfl rfl rfl)) | exact (ResV.cell _ rfl (loadSN sz_30 S 4 rfl rfl rfl)) | exact (ResV.cell _ rfl (loadSN sz_30 S 5 rfl rfl rfl)) | exact (ResV.cell _ rfl (loadSN sz_30 S 6 rfl rfl rfl)) | exact (ResV.cell _ rfl (loadSN sz_30 S 7 rfl rfl rfl))) (ResV.tmp _ rfl) ?_
      refine ⟨?_, S.ext⟩; first | (show Ending.returned (.tuple #[_, .int .i64 _]) = _; rw [letM_err (by assumption)]; rfl) | (show Ending.returned (.tuple #[_, .int .i64 _]) = _; rw [letM_arg (by assumption) (by (unfold argBad badEnds; first | (left; omega) | (right; left; omega) | (right; right; left; omega) | (right; right; right; rw [Int.toNat_natCast]; simp_all)))]; rfl) | (show Ending.returned (.tuple #[_, .int .i64 _]) = _; rw [letM_in (by assumption) (by omega) (by omega) (by (unfold badEnds; simp_all)) hx, if_pos (by omega)]; rfl) | (show Ending.returned (.tuple #[_, .int .i64 _]) = _; rw [letM_in (by assumption) (by omega) (by omega) (by (unfold badEnds; simp_all)) hx, if_neg (by omega)]; rfl)
     ·
      have rh5 := h5
      (try simp only [Q1, Q2, Q3, Q4, Q5, Q6, Q7, Q8, Q9, Qa] at h5)
      refine W.skip ?_
      refine Then.nx ?_
      refine W.seq ?_
      have ha := R1.1 (by omega)
      obtain ⟨x, hx⟩ := at_ex (xs := f.lets) (k := k) (by omega)
      obtain ⟨ra, rc, hr, hrc, hrt⟩ := hraw.get hx
      obtain ⟨htr, hft, hot⟩ := checked2 (by assumption) hx
      have htl := htn k x hx
      obtain ⟨nd, hnd⟩ := at_ex (xs := x.tree) (k := 0) (by (rw [htr]; exact flat_pos _))
      have hrm := rootM_at hnd
      refine W.region rfl ?_
      refine WO.q (Y.fieldB fo_25_0 rfl) ?_
      first | refine WO.q (Y.load rfl (loadS1 sz_22 S 0 rfl rfl)) ?_ | refine WO.q (Y.load rfl (loadS1 sz_22 S 1 rfl rfl)) ?_ | refine WO.q (Y.load rfl (loadS1 sz_22 S 2 rfl rfl)) ?_ | refine WO.q (Y.load rfl (loadS1 sz_22 S 3 rfl rfl)) ?_ | refine WO.q (Y.load rfl (loadS1 sz_22 S 4 rfl rfl)) ?_
      refine WO.q (Y.move (v := .int .i64 _) rfl) ?_
      first | refine WO.q (Y.ixN sl_22 rfl rfl (by (first | assumption | rfl)) (by (first | assumption | omega))) ?_ | refine WO.q (Y.ix sl_22 rfl rfl (by (first | assumption | rfl)) (by (first | assumption | omega)) (by (first | assumption | omega))) ?_
      first | refine WO.q (Y.load rfl (loadRdN sz_51 (R1.ext S.ext) (by assumption))) ?_ | refine WO.q (Y.load rfl (loadRdN sz_51 (R2.ext S.ext) (by assumption))) ?_
      refine WO.e (O.alloc z_51 S (fun b12 w S => ?_))
      first | refine WO.e0 (O.store (v := .agg _) 0 S rfl rfl rfl sz_51 rfl rfl rfl rfl (fun w S => ?_)) | refine WO.e0 (O.store (v := .agg _) 1 S rfl rfl rfl sz_51 rfl rfl rfl rfl (fun w S => ?_)) | refine WO.e0 (O.store (v := .agg _) 2 S rfl rfl rfl sz_51 rfl rfl rfl rfl (fun w S => ?_)) | refine WO.e0 (O.store (v := .agg _) 3 S rfl rfl rfl sz_51 rfl rfl rfl rfl (fun w S => ?_)) | refine WO.e0 (O.store (v := .agg _) 4 S rfl rfl rfl sz_51 rfl rfl rfl rfl (fun w S => ?_))
      refine WO.nil ?_
      refine Then.nx ?_
      refine W.seq ?_
      refine W.seq ?_
      refine W.region rfl ?_
      first | refine WO.q (Y.load rfl (loadSN sz_51 S 0 rfl rfl rfl)) ?_ | refine WO.q (Y.load rfl (loadSN sz_51 S 1 rfl rfl rfl)) ?_ | refine WO.q (Y.load rfl (loadSN sz_51 S 2 rfl rfl rfl)) ?_ | refine WO.q (Y.load rfl (loadSN sz_51 S 3 rfl rfl rfl)) ?_ | refine WO.q (Y.load rfl (loadSN sz_51 S 4 rfl rfl rfl)) ?_
      refine WO.e (O.call cf_22 rfl (root_spec _ x ra rc nd (hrt.ext S.ext) hnd) ?_)
      rintro _ w ⟨rfl, E⟩
      replace S := S.keep E
      refine ⟨_, rfl, ?_⟩
      refine WO.q (Y.eql rfl rfl) ?_
      refine WO.q (Y.move (v := .bool _) rfl) ?_
      refine WO.splitB (fun h6 => ?_) (fun h6 => ?_)
      ·
       (try simp only [Q1, Q2, Q3, Q4, Q5, Q6, Q7, Q8, Q9, Qa] at h6)
       refine WO.qF rfl ?_
       refine WO.qF rfl ?_
       refine WO.qF rfl ?_
       refine WO.q (Y.pickT (u := .bool _) rfl rfl) ?_
       refine WO.nil ?_
       refine Then.nx ?_
       first | refine W.condT rfl ?_ | refine W.condT (congrArg Value.bool (by assumption)) ?_
       refine W.seq ?_
       refine W.region rfl ?_
       refine WO.q (Y.build rfl (bld_30_)) ?_
       first | refine WO.e0 (O.store (v := .agg _) 0 S rfl rfl rfl sz_30 rfl rfl rfl rfl (fun w S => ?_)) | refine WO.e0 (O.store (v := .agg _) 1 S rfl rfl rfl sz_30 rfl rfl rfl rfl (fun w S => ?_)) | refine WO.e0 (O.store (v := .agg _) 2 S rfl rfl rfl sz_30 rfl rfl rfl rfl (fun w S => ?_)) | refine WO.e0 (O.store (v := .agg _) 3 S rfl rfl rfl sz_30 rfl rfl rfl rfl (fun w S => ?_)) | refine WO.e0 (O.store (v := .agg _) 4 S rfl rfl rfl sz_30 rfl rfl rfl rfl (fun w S => ?_))
       refine WO.q (Y.assign (v := .int .i64 _) rfl) ?_
       refine WO.nil ?_
       refine Then.nx ?_
       refine W.ret ?_
       refine Then.r ?_
       refine BodyQ.ret2 Try.results11 (by first | exact (ResV.cell _ rfl (loadSN sz_30 S 0 rfl rfl rfl)) | exact (ResV.cell _ rfl (loadSN sz_30 S 1 rfl rfl rfl)) | exact (ResV.cell _ rfl (loadSN sz_30 S 2 rfl rfl rfl)) | exact (ResV.cell _ rfl (loadSN sz_30 S 3 rfl rfl rfl)) | exact (ResV.cell _ rfl (loadSN sz_30 S 4 rfl rfl rfl)) | exact (ResV.cell _ rfl (loadSN sz_30 S 5 rfl rfl rfl)) | exact (ResV.cell _ rfl (loadSN sz_30 S 6 rfl rfl rfl)) | exact (ResV.cell _ rfl (loadSN sz_30 S 7 rfl rfl rfl))) (ResV.tmp _ rfl) ?_
       refine ⟨?_, S.ext⟩; first | (show Ending.returned (.tuple #[_, .int .i64 _]) = _; rw [letM_err (by assumption)]; rfl) | (show Ending.returned (.tuple #[_, .int .i64 _]) = _; rw [letM_arg (by assumption) (by (unfold argBad badEnds; first | (left; omega) | (right; left; omega) | (right; right; left; omega) | (right; right; right; rw [Int.toNat_natCast]; simp_all)))]; rfl) | (show Ending.returned (.tuple #[_, .int .i64 _]) = _; rw [letM_in (by assumption) (by omega) (by omega) (by (unfold badEnds; simp_all)) hx, if_pos (by omega)]; rfl) | (show Ending.returned (.tuple #[_, .int .i64 _]) = _; rw [letM_in (by assumption) (by omega) (by omega) (by (unfold badEnds; simp_all)) hx, if_neg (by omega)]; rfl)
      ·
       (try simp only [Q1, Q2, Q3, Q4, Q5, Q6, Q7, Q8, Q9, Qa] at h6)
       first | refine WO.qT rfl (Y.load rfl (loadSN sz_51 S 0 rfl rfl rfl)) ?_ | refine WO.qT rfl (Y.load rfl (loadSN sz_51 S 1 rfl rfl rfl)) ?_ | refine WO.qT rfl (Y.load rfl (loadSN sz_51 S 2 rfl rfl rfl)) ?_ | refine WO.qT rfl (Y.load rfl (loadSN sz_51 S 3 rfl rfl rfl)) ?_ | refine WO.qT rfl (Y.load rfl (loadSN sz_51 S 4 rfl rfl rfl)) ?_
       refine WO.eT rfl (O.call cf_22 rfl (root_spec _ x ra rc nd (hrt.ext S.ext) hnd) ?_)
       rintro _ w ⟨rfl, E⟩
       replace S := S.keep E
       refine ⟨_, rfl, ?_⟩
       refine WO.qT rfl (Y.eql rfl rfl) ?_
       refine WO.q (Y.pickF (u := .bool _) rfl rfl) ?_
       refine WO.nil ?_
       refine Then.nx ?_
       refine W.cond rfl (fun h7 => ?_) (fun h7 => ?_) -- cond 2
       ·
        have rh7 := h7
        (try simp only [Q1, Q2, Q3, Q4, Q5, Q6, Q7, Q8, Q9, Qa] at h7)
        refine W.seq ?_
        refine W.region rfl ?_
        refine WO.q (Y.build rfl (bld_30_)) ?_
        first | refine WO.e0 (O.store (v := .agg _) 0 S rfl rfl rfl sz_30 rfl rfl rfl rfl (fun w S => ?_)) | refine WO.e0 (O.store (v := .agg _) 1 S rfl rfl rfl sz_30 rfl rfl rfl rfl (fun w S => ?_)) | refine WO.e0 (O.store (v := .agg _) 2 S rfl rfl rfl sz_30 rfl rfl rfl rfl (fun w S => ?_)) | refine WO.e0 (O.store (v := .agg _) 3 S rfl rfl rfl sz_30 rfl rfl rfl rfl (fun w S => ?_)) | refine WO.e0 (O.store (v := .agg _) 4 S rfl rfl rfl sz_30 rfl rfl rfl rfl (fun w S => ?_))
        refine WO.q (Y.assign (v := .int .i64 _) rfl) ?_
        refine WO.nil ?_
        refine Then.nx ?_
        refine W.ret ?_
        refine Then.r ?_
        refine BodyQ.ret2 Try.results11 (by first | exact (ResV.cell _ rfl (loadSN sz_30 S 0 rfl rfl rfl)) | exact (ResV.cell _ rfl (loadSN sz_30 S 1 rfl rfl rfl)) | exact (ResV.cell _ rfl (loadSN sz_30 S 2 rfl rfl rfl)) | exact (ResV.cell _ rfl (loadSN sz_30 S 3 rfl rfl rfl)) | exact (ResV.cell _ rfl (loadSN sz_30 S 4 rfl rfl rfl)) | exact (ResV.cell _ rfl (loadSN sz_30 S 5 rfl rfl rfl)) | exact (ResV.cell _ rfl (loadSN sz_30 S 6 rfl rfl rfl)) | exact (ResV.cell _ rfl (loadSN sz_30 S 7 rfl rfl rfl))) (ResV.tmp _ rfl) ?_
        refine ⟨?_, S.ext⟩; first | (show Ending.returned (.tuple #[_, .int .i64 _]) = _; rw [letM_err (by assumption)]; rfl) | (show Ending.returned (.tuple #[_, .int .i64 _]) = _; rw [letM_arg (by assumption) (by (unfold argBad badEnds; first | (left; omega) | (right; left; omega) | (right; right; left; omega) | (right; right; right; rw [Int.toNat_natCast]; simp_all)))]; rfl) | (show Ending.returned (.tuple #[_, .int .i64 _]) = _; rw [letM_in (by assumption) (by omega) (by omega) (by (unfold badEnds; simp_all)) hx, if_pos (by omega)]; rfl) | (show Ending.returned (.tuple #[_, .int .i64 _]) = _; rw [letM_in (by assumption) (by omega) (by omega) (by (unfold badEnds; simp_all)) hx, if_neg (by omega)]; rfl)
       ·
        have rh7 := h7
        (try simp only [Q1, Q2, Q3, Q4, Q5, Q6, Q7, Q8, Q9, Qa] at h7)
        refine W.skip ?_
        refine Then.nx ?_
        refine W.seq ?_
        refine W.region rfl ?_
        refine WO.q (Y.fieldB fo_51_1 rfl) ?_
        first | refine WO.q (Y.load rfl (loadS1 sz_49 S 0 rfl rfl)) ?_ | refine WO.q (Y.load rfl (loadS1 sz_49 S 1 rfl rfl)) ?_ | refine WO.q (Y.load rfl (loadS1 sz_49 S 2 rfl rfl)) ?_ | refine WO.q (Y.load rfl (loadS1 sz_49 S 3 rfl rfl)) ?_ | refine WO.q (Y.load rfl (loadS1 sz_49 S 4 rfl rfl)) ?_
        refine WO.q (Y.move (v := .slice _ _ _) rfl) ?_
        first | refine WO.q (Y.load rfl (loadSN sz_27 S 0 rfl rfl rfl)) ?_ | refine WO.q (Y.load rfl (loadSN sz_27 S 1 rfl rfl rfl)) ?_ | refine WO.q (Y.load rfl (loadSN sz_27 S 2 rfl rfl rfl)) ?_ | refine WO.q (Y.load rfl (loadSN sz_27 S 3 rfl rfl rfl)) ?_ | refine WO.q (Y.load rfl (loadSN sz_27 S 4 rfl rfl rfl)) ?_
        refine WO.q (Y.build rfl (bld_61_0_1_2)) ?_
        refine WO.e (O.box rfl rfl S (fun b64 w S => ?_))
        first | refine WO.q (Y.assign (v := .pointer (some _)) rfl) ?_ | refine WO.q (Y.assign (v := .pointer _) rfl) ?_
        refine WO.nil ?_
        refine Then.nx ?_
        refine W.seq ?_
        refine W.region rfl ?_
        first | refine WO.q (Y.move (v := .pointer (some _)) rfl) ?_ | refine WO.q (Y.move (v := .pointer _) rfl) ?_
        refine WO.e (O.call cf_23 rfl (node_spec ((flat (treeOf x)).length + 1) _ b64 ⟨ra, rc, ea, ec⟩ x.tree es m 0 (treeOf x) [] (by omega) ⟨S.hasBlk 0 rfl (HasBlk.cel _ _ _), hrt.ext S.ext, R2.ext S.ext, htl⟩ (by (rw [List.append_nil]; exact htr)) (okT_mono (by omega) hot) hft) ?_)
        rintro _ w ⟨rfl, E⟩
        replace S := S.keep E
        refine ⟨_, rfl, ?_⟩
        refine WO.e (O.endOf (o := evalT es m (treeOf x)) endM1 endM2 (fun v => vend_spec _ v) (fun e => tend_spec _ e) rfl ?_)
        intro w E
        replace S := S.keep E
        first | refine WO.e0 (O.store (v := .agg _) 0 S rfl rfl rfl sz_30 rfl rfl rfl rfl (fun w S => ?_)) | refine WO.e0 (O.store (v := .agg _) 1 S rfl rfl rfl sz_30 rfl rfl rfl rfl (fun w S => ?_)) | refine WO.e0 (O.store (v := .agg _) 2 S rfl rfl rfl sz_30 rfl rfl rfl rfl (fun w S => ?_)) | refine WO.e0 (O.store (v := .agg _) 3 S rfl rfl rfl sz_30 rfl rfl rfl rfl (fun w S => ?_)) | refine WO.e0 (O.store (v := .agg _) 4 S rfl rfl rfl sz_30 rfl rfl rfl rfl (fun w S => ?_))
        refine WO.q (Y.assign (v := .int .i64 _) rfl) ?_
        refine WO.nil ?_
        refine Then.nx ?_
        refine W.ret ?_
        refine BodyQ.ret2 Try.results11 (by first | exact (ResV.cell _ rfl (loadSN sz_30 S 0 rfl rfl rfl)) | exact (ResV.cell _ rfl (loadSN sz_30 S 1 rfl rfl rfl)) | exact (ResV.cell _ rfl (loadSN sz_30 S 2 rfl rfl rfl)) | exact (ResV.cell _ rfl (loadSN sz_30 S 3 rfl rfl rfl)) | exact (ResV.cell _ rfl (loadSN sz_30 S 4 rfl rfl rfl)) | exact (ResV.cell _ rfl (loadSN sz_30 S 5 rfl rfl rfl)) | exact (ResV.cell _ rfl (loadSN sz_30 S 6 rfl rfl rfl)) | exact (ResV.cell _ rfl (loadSN sz_30 S 7 rfl rfl rfl))) (ResV.tmp _ rfl) ?_
        refine ⟨?_, S.ext⟩; first | (show Ending.returned (.tuple #[_, .int .i64 _]) = _; rw [letM_err (by assumption)]; rfl) | (show Ending.returned (.tuple #[_, .int .i64 _]) = _; rw [letM_arg (by assumption) (by (unfold argBad badEnds; first | (left; omega) | (right; left; omega) | (right; right; left; omega) | (right; right; right; rw [Int.toNat_natCast]; simp_all)))]; rfl) | (show Ending.returned (.tuple #[_, .int .i64 _]) = _; rw [letM_in (by assumption) (by omega) (by omega) (by (unfold badEnds; simp_all)) hx, if_pos (by omega)]; rfl) | (show Ending.returned (.tuple #[_, .int .i64 _]) = _; rw [letM_in (by assumption) (by omega) (by omega) (by (unfold badEnds; simp_all)) hx, if_neg (by omega)]; rfl)
end Go.Proofs
