/-
  Walks of Fits, Fits2.
-/
import Derived.Test.YtlnimgpfopaicaaGe
import Derived.Test.YtlnimgpfopaicaaGh
import Derived.Test.YtlnimgpfopaicaaSx
import Derived.Test.YtlnimgpfopaicaaFa
import Derived.Test.YtlnimgpfopaicaaFb
import Derived.Test.YtlnimgpfopaicaaWg
import Derived.Test.YtlnimgpfopaicaaUe
set_option linter.unusedVariables false
set_option linter.unusedSimpArgs false
set_option maxRecDepth 100000
set_option maxHeartbeats 1000000
namespace Go.Proofs
open Go Go.TL Go.RowKit
theorem Fits_spec (w0 : World) (v : FIn) (f : GFlow) (R : RdFlow w0 v f) (m : GMaker) (ea : Option Addr) (ec : Nat) (es : List GEnd) (R2 : Rd tEnd w0 ea es) (hec : es.length ≤ ec) (hes : es.length ≤ 2147483647) :
    Calls Try.prog 9 [.agg (fL v f).toArray, .agg (tMaker.enc m).toArray, .slice ea es.length ec].toArray w0 (fun r w => r = .returned (.tuple #[.int .i64 (fitsM f m es).1, .int .i64 (fitsM f m es).2]) ∧ Ext w0 w) := by
 have S := Sat.refl w0
 have hR := R
 obtain ⟨⟨raws, R1, hraw⟩, Ro, hlc, hoc, hln, hon, htn⟩ := R
 have hrl := hraw.1
 refine calls_of_W (args := [.agg (fL v f).toArray, .agg (tMaker.enc m).toArray, .slice ea es.length ec]) 47 Try.func9 rfl Try.ntmps9 rfl ?_
 refine W.seq ?_
 refine W.region rfl ?_
 refine WO.e (O.box rfl rfl S (fun b3 w S => ?_))
 refine WO.e (O.box rfl rfl S (fun b4 w S => ?_))
 refine WO.q (Y.assign (v := .int .i64 _) rfl) ?_
 refine WO.q (Y.assign (v := .int .i64 _) rfl) ?_
 refine WO.nil ?_
 refine Then.nx ?_
 refine W.seq ?_
 refine W.seq ?_
 refine W.region rfl ?_
 first | refine WO.q (Y.load rfl (loadSN sz_25 S 0 rfl rfl rfl)) ?_ | refine WO.q (Y.load rfl (loadSN sz_25 S 1 rfl rfl rfl)) ?_ | refine WO.q (Y.load rfl (loadSN sz_25 S 2 rfl rfl rfl)) ?_ | refine WO.q (Y.load rfl (loadSN sz_25 S 3 rfl rfl rfl)) ?_ | refine WO.q (Y.load rfl (loadSN sz_25 S 4 rfl rfl rfl)) ?_ | refine WO.q (Y.load rfl (loadSN sz_25 S 5 rfl rfl rfl)) ?_
 refine WO.e (O.call cf_21 rfl (Check_spec _ v f (hR.ext S.ext)) ?_)
 rintro _ w ⟨rfl, E⟩
 replace S := S.keep E
 refine ⟨_, rfl, ?_⟩
 refine WO.q (Y.move (v := .tuple _) rfl) ?_
 refine WO.q (Y.extract (v := .int .i64 _) rfl rfl) ?_
 refine WO.q (Y.extract (v := .int .i64 _) rfl rfl) ?_
 refine WO.q (Y.assign (v := .int .i64 _) rfl) ?_
 refine WO.q (Y.assign (v := .int .i64 _) rfl) ?_
 refine WO.nil ?_
 refine Then.nx ?_
 refine W.seq ?_
 refine W.region rfl ?_
 refine WO.q (Y.move (v := .int .i64 _) rfl) ?_
 refine WO.q (Y.neq rfl rfl) ?_
 refine WO.nil ?_
 refine Then.nx ?_
 refine W.cond rfl (fun h1 => ?_) (fun h1 => ?_) -- cond 0
 ·
  have rh1 := h1
  (try simp only [Q1, Q2, Q3, Q4, Q5, Q6, Q7, Q8, Q9, Qa] at h1)
  refine W.seq ?_
  refine W.region rfl ?_
  refine WO.q (Y.move (v := .int .i64 _) rfl) ?_
  refine WO.q (Y.move (v := .int .i64 _) rfl) ?_
  refine WO.q (Y.assign (v := .int .i64 _) rfl) ?_
  refine WO.q (Y.assign (v := .int .i64 _) rfl) ?_
  refine WO.nil ?_
  refine Then.nx ?_
  refine W.ret ?_
  refine Then.r ?_
  refine BodyQ.ret2 Try.results9 (ResV.tmp _ rfl) (ResV.tmp _ rfl) ?_
  refine ⟨?_, S.ext⟩; show Ending.returned (.tuple #[.int .i64 _, .int .i64 _]) = _; first | rw [fitsM_err (by assumption)] | rw [fitsM_arg (by assumption) (by (unfold badEnds; first | (left; omega) | (right; assumption)))] | rw [fitsM_bad (by assumption) (by omega) (by (unfold badEnds; assumption)) (by omega) hall (by assumption)] | rw [fitsM_ok (by assumption) (by omega) (by (unfold badEnds; assumption)) (fun j hj => hall j (by omega))]
 ·
  have rh1 := h1
  (try simp only [Q1, Q2, Q3, Q4, Q5, Q6, Q7, Q8, Q9, Qa] at h1)
  refine W.skip ?_
  refine Then.nx ?_
  refine W.seq ?_
  refine W.seq ?_
  refine W.region rfl ?_
  refine WO.q (Y.move (v := .slice _ _ _) rfl) ?_
  refine WO.q (Y.len (t' := 0) Try.underlying33 rfl) ?_
  refine WO.q (Y.fieldB fo_25_0 rfl) ?_
  first | refine WO.q (Y.load rfl (loadS1 sz_22 S 0 rfl rfl)) ?_ | refine WO.q (Y.load rfl (loadS1 sz_22 S 1 rfl rfl)) ?_ | refine WO.q (Y.load rfl (loadS1 sz_22 S 2 rfl rfl)) ?_ | refine WO.q (Y.load rfl (loadS1 sz_22 S 3 rfl rfl)) ?_ | refine WO.q (Y.load rfl (loadS1 sz_22 S 4 rfl rfl)) ?_ | refine WO.q (Y.load rfl (loadS1 sz_22 S 5 rfl rfl)) ?_
  refine WO.q (Y.len (t' := 0) Try.underlying22 rfl) ?_
  refine WO.q (Y.neq rfl rfl) ?_
  refine WO.q (Y.move (v := .bool _) rfl) ?_
  refine WO.splitB (fun h2 => ?_) (fun h2 => ?_)
  ·
   (try simp only [Q1, Q2, Q3, Q4, Q5, Q6, Q7, Q8, Q9, Qa] at h2)
   refine WO.qF rfl ?_
   refine WO.qF rfl ?_
   refine WO.qF rfl ?_
   refine WO.qF rfl ?_
   refine WO.qF rfl ?_
   refine WO.q (Y.pickT (u := .bool _) rfl rfl) ?_
   refine WO.nil ?_
   refine Then.nx ?_
   first | refine W.condT rfl ?_ | refine W.condT (congrArg Value.bool (by assumption)) ?_
   refine W.seq ?_
   refine W.region rfl ?_
   refine WO.q (Y.assign (v := .int .i64 _) rfl) ?_
   refine WO.q (Y.assign (v := .int .i64 _) rfl) ?_
   refine WO.nil ?_
   refine Then.nx ?_
   refine W.ret ?_
   refine Then.r ?_
   refine BodyQ.ret2 Try.results9 (ResV.tmp _ rfl) (ResV.tmp _ rfl) ?_
   refine ⟨?_, S.ext⟩; show Ending.returned (.tuple #[.int .i64 _, .int .i64 _]) = _; first | rw [fitsM_err (by assumption)] | rw [fitsM_arg (by assumption) (by (unfold badEnds; first | (left; omega) | (right; assumption)))] | rw [fitsM_bad (by assumption) (by omega) (by (unfold badEnds; assumption)) (by omega) hall (by assumption)] | rw [fitsM_ok (by assumption) (by omega) (by (unfold badEnds; assumption)) (fun j hj => hall j (by omega))]
  ·
   (try simp only [Q1, Q2, Q3, Q4, Q5, Q6, Q7, Q8, Q9, Qa] at h2)
   refine WO.qT rfl (Y.move (v := .slice _ _ _) rfl) ?_
   refine WO.qT rfl (Y.move (v := .slice _ _ _) rfl) ?_
   refine WO.qT rfl (Y.len (t' := 0) Try.underlying33 rfl) ?_
   refine WO.eT rfl (O.call cf_25 rfl ((all_spec _ ea ec es es.length (R2.ext S.ext) (by omega) hec (by omega)).mono (fun r w h => (by rw [List.take_length] at h; exact h))) ?_)
   rintro _ w ⟨rfl, E⟩
   replace S := S.keep E
   refine ⟨_, rfl, ?_⟩
   refine WO.qT rfl (Y.not rfl) ?_
   refine WO.q (Y.pickF (u := .bool _) rfl rfl) ?_
   refine WO.nil ?_
   refine Then.nx ?_
   refine W.cond rfl (fun h3 => ?_) (fun h3 => ?_) -- cond 1
   ·
    have rh3 := h3
    (try simp only [Q1, Q2, Q3, Q4, Q5, Q6, Q7, Q8, Q9, Qa] at h3)
    refine W.seq ?_
    refine W.region rfl ?_
    refine WO.q (Y.assign (v := .int .i64 _) rfl) ?_
    refine WO.q (Y.assign (v := .int .i64 _) rfl) ?_
    refine WO.nil ?_
    refine Then.nx ?_
    refine W.ret ?_
    refine Then.r ?_
    refine BodyQ.ret2 Try.results9 (ResV.tmp _ rfl) (ResV.tmp _ rfl) ?_
    refine ⟨?_, S.ext⟩; show Ending.returned (.tuple #[.int .i64 _, .int .i64 _]) = _; first | rw [fitsM_err (by assumption)] | rw [fitsM_arg (by assumption) (by (unfold badEnds; first | (left; omega) | (right; assumption)))] | rw [fitsM_bad (by assumption) (by omega) (by (unfold badEnds; assumption)) (by omega) hall (by assumption)] | rw [fitsM_ok (by assumption) (by omega) (by (unfold badEnds; assumption)) (fun j hj => hall j (by omega))]
   ·
    have rh3 := h3
    (try simp only [Q1, Q2, Q3, Q4, Q5, Q6, Q7, Q8, Q9, Qa] at h3)
    refine W.skip ?_
    refine Then.nx ?_
    refine W.seq ?_
    refine W.seq ?_
    refine W.region rfl ?_
    refine WO.q (Y.fieldB fo_25_0 rfl) ?_
    first | refine WO.q (Y.load rfl (loadS1 sz_22 S 0 rfl rfl)) ?_ | refine WO.q (Y.load rfl (loadS1 sz_22 S 1 rfl rfl)) ?_ | refine WO.q (Y.load rfl (loadS1 sz_22 S 2 rfl rfl)) ?_ | refine WO.q (Y.load rfl (loadS1 sz_22 S 3 rfl rfl)) ?_ | refine WO.q (Y.load rfl (loadS1 sz_22 S 4 rfl rfl)) ?_ | refine WO.q (Y.load rfl (loadS1 sz_22 S 5 rfl rfl)) ?_
    refine WO.q (Y.len (t' := 0) Try.underlying22 rfl) ?_
    refine WO.q (Y.move (v := .int .i64 _) rfl) ?_
    refine WO.nil ?_
    refine Then.nx ?_
    refine W.block ?_
    -- loop 0 carries 36
    refine W.loop1 [6, 7, 10, 36, 37, 38, 39, 40, 41, 42, 43, 44, 45, 46] 36 (fun v36 w => ∃ i : Nat, v36 = .int .i64 (i : Int) ∧ i ≤ f.lets.length ∧ (∀ j, j < i → fitM f.lets j m es = true) ∧ Sat w0 w [Cel b4 (tMaker.enc m) 27, Cel b3 (fL v f) 25]) (fun v36 w => f.lets.length - (intOf v36).toNat) ?_ ?_
    ·
     exact ⟨0, rfl, Nat.zero_le _, fun j hj => absurd hj (by omega), S⟩
    ·
     rintro g0 v36 w ⟨i, rfl, hi, hall, S⟩
     refine W.seq ?_
     refine W.region rfl ?_
     refine WO.q (Y.lss rfl rfl) ?_
     refine WO.nil ?_
     refine Then.nx ?_
     refine W.seq ?_
     refine W.cond rfl (fun h4 => ?_) (fun h4 => ?_) -- cond 2
     ·
      have rh4 := h4
      (try simp only [Q1, Q2, Q3, Q4, Q5, Q6, Q7, Q8, Q9, Qa] at h4)
      refine W.skip ?_
      refine Then.nx ?_
      refine W.seq ?_
      refine W.block ?_
      refine W.seq ?_
      refine W.region rfl ?_
      refine WO.q (Y.move (v := .int .i64 _) rfl) ?_
      refine WO.q (Y.assign (v := .int .i64 _) rfl) ?_
      refine WO.nil ?_
      refine Then.nx ?_
      refine W.seq ?_
      refine W.region rfl ?_
      first | refine WO.q (Y.load rfl (loadSN sz_25 S 0 rfl rfl rfl)) ?_ | refine WO.q (Y.load rfl (loadSN sz_25 S 1 rfl rfl rfl)) ?_ | refine WO.q (Y.load rfl (loadSN sz_25 S 2 rfl rfl rfl)) ?_ | refine WO.q (Y.load rfl (loadSN sz_25 S 3 rfl rfl rfl)) ?_ | refine WO.q (Y.load rfl (loadSN sz_25 S 4 rfl rfl rfl)) ?_ | refine WO.q (Y.load rfl (loadSN sz_25 S 5 rfl rfl rfl)) ?_
      refine WO.q (Y.move (v := .int .i64 _) rfl) ?_
      first | refine WO.q (Y.load rfl (loadSN sz_27 S 0 rfl rfl rfl)) ?_ | refine WO.q (Y.load rfl (loadSN sz_27 S 1 rfl rfl rfl)) ?_ | refine WO.q (Y.load rfl (loadSN sz_27 S 2 rfl rfl rfl)) ?_ | refine WO.q (Y.load rfl (loadSN sz_27 S 3 rfl rfl rfl)) ?_ | refine WO.q (Y.load rfl (loadSN sz_27 S 4 rfl rfl rfl)) ?_ | refine WO.q (Y.load rfl (loadSN sz_27 S 5 rfl rfl rfl)) ?_
      refine WO.q (Y.move (v := .slice _ _ _) rfl) ?_
      refine WO.e (O.call cf_26 rfl (fits_spec _ v f (hR.ext S.ext) (by assumption) i m ea ec es (R2.ext S.ext) (by omega) (by omega)) ?_)
      rintro _ w ⟨rfl, E⟩
      replace S := S.keep E
      refine ⟨_, rfl, ?_⟩
      refine WO.q (Y.not rfl) ?_
      refine WO.nil ?_
      refine Then.nx ?_
      refine W.cond rfl (fun h5 => ?_) (fun h5 => ?_) -- cond 3
      ·
       have rh5 := h5
       (try simp only [Q1, Q2, Q3, Q4, Q5, Q6, Q7, Q8, Q9, Qa] at h5)
       refine W.seq ?_
       refine W.region rfl ?_
       refine WO.q (Y.move (v := .int .i64 _) rfl) ?_
       refine WO.q (Y.assign (v := .int .i64 _) rfl) ?_
       refine WO.q (Y.assign (v := .int .i64 _) rfl) ?_
       refine WO.nil ?_
       refine Then.nx ?_
       refine W.ret ?_
       refine InB.r ?_
       refine Then.r ?_
       refine Then.r ?_
       refine InB.r ?_
       refine Then.r ?_
       refine BodyQ.ret2 Try.results9 (ResV.tmp _ rfl) (ResV.tmp _ rfl) ?_
       refine ⟨?_, S.ext⟩; show Ending.returned (.tuple #[.int .i64 _, .int .i64 _]) = _; first | rw [fitsM_err (by assumption)] | rw [fitsM_arg (by assumption) (by (unfold badEnds; first | (left; omega) | (right; assumption)))] | rw [fitsM_bad (by assumption) (by omega) (by (unfold badEnds; assumption)) (by omega) hall (by assumption)] | rw [fitsM_ok (by assumption) (by omega) (by (unfold badEnds; assumption)) (fun j hj => hall j (by omega))]
      ·
       have rh5 := h5
       (try simp only [Q1, Q2, Q3, Q4, Q5, Q6, Q7, Q8, Q9, Qa] at h5)
       refine W.skip ?_
       refine InB.nx ?_
       refine Then.nx ?_
       refine W.region rfl ?_
       first | refine WO.q (Y.addI rfl rfl (by omega)) ?_ | refine WO.q (Y.add rfl rfl) ?_
       refine WO.q (Y.move (v := .int .i64 _) rfl) ?_
       refine WO.nil ?_
       refine Then.nx ⟨?_, ?_, ?_⟩
       ·
        (repeat (first | exact Out.hav _ _ _ | exact Out.refl _ _ | refine Out.up rfl ?_ | refine Out.sub rfl ?_))
       ·
        exact ⟨i + 1, rfl, by omega, fun j hj => by (by_cases hji : j < i; exact hall j hji; (have e : j = i := by omega); subst e; simp_all), S⟩
       ·
        (show f.lets.length - (i + 1) < f.lets.length - i; omega)
     ·
      have rh4 := h4
      (try simp only [Q1, Q2, Q3, Q4, Q5, Q6, Q7, Q8, Q9, Qa] at h4)
      refine W.exit ?_
      refine Then.x ?_
      refine Then.x ?_
      refine InB.e ?_
      refine Then.nx ?_
      refine W.seq ?_
      refine W.region rfl ?_
      refine WO.q (Y.assign (v := .int .i64 _) rfl) ?_
      refine WO.q (Y.assign (v := .int .i64 _) rfl) ?_
      refine WO.nil ?_
      refine Then.nx ?_
      refine W.ret ?_
      refine BodyQ.ret2 Try.results9 (ResV.tmp _ rfl) (ResV.tmp _ rfl) ?_
      refine ⟨?_, S.ext⟩; show Ending.returned (.tuple #[.int .i64 _, .int .i64 _]) = _; first | rw [fitsM_err (by assumption)] | rw [fitsM_arg (by assumption) (by (unfold badEnds; first | (left; omega) | (right; assumption)))] | rw [fitsM_bad (by assumption) (by omega) (by (unfold badEnds; assumption)) (by omega) hall (by assumption)] | rw [fitsM_ok (by assumption) (by omega) (by (unfold badEnds; assumption)) (fun j hj => hall j (by omega))]
theorem Fits2_spec (w0 : World) (v : FIn) (f : GFlow) (R : RdFlow w0 v f) (m : GMaker) (ea : Option Addr) (ec en : Nat) (es : List GEnd) (R2 : Rd tEnd w0 ea es) (hen : en = es.length) (hec : es.length ≤ ec) (hes : es.length ≤ 2147483647) :
    Calls Try.prog 9 [.agg (fL v f).toArray, .agg (tMaker.enc m).toArray, .slice ea en ec].toArray w0 (fun r w => r = .returned (.tuple #[.int .i64 (fitsM f m es).1, .int .i64 (fitsM f m es).2]) ∧ Ext w0 w) := by
  subst hen
  exact Fits_spec w0 v f R m ea ec es R2 hec hes
end Go.Proofs
