/-
  Walks of Needs, Users.
-/
import Derived.Test.YtlnimgpfopaicaaGe
import Derived.Test.YtlnimgpfopaicaaGh
import Derived.Test.YtlnimgpfopaicaaSx
import Derived.Test.YtlnimgpfopaicaaFa
import Derived.Test.YtlnimgpfopaicaaFb
import Derived.Test.YtlnimgpfopaicaaWb
import Derived.Test.YtlnimgpfopaicaaUe
set_option linter.unusedVariables false
set_option linter.unusedSimpArgs false
set_option maxRecDepth 100000
set_option maxHeartbeats 1000000
namespace Go.Proofs
open Go Go.TL Go.RowKit
theorem Needs_spec (w0 : World) (n : Int) (v : FIn) (f : GFlow) (R : RdFlow w0 v f) :
    Calls Try.prog 13 [.agg (fL v f).toArray, .int .i64 n].toArray w0 (fun r w => ∃ a c, r = .returned (.slice a (needsM f n).length c) ∧ Sat w0 w [Own (tI .i64) 3 a c (needsM f n)]) := by
 have S := Sat.refl w0
 have hR := R
 obtain ⟨⟨raws, R1, hraw⟩, Ro, hlc, hoc, hln, hon, htn⟩ := R
 have hrl := hraw.1
 refine calls_of_W (args := [.agg (fL v f).toArray, .int .i64 n]) 31 Try.func13 rfl Try.ntmps13 rfl ?_
 refine W.seq ?_
 refine W.region rfl ?_
 refine WO.e (O.box rfl rfl S (fun b2 w S => ?_))
 refine WO.q (Y.assign (v := .slice _ _ _) rfl) ?_
 refine WO.nil ?_
 refine Then.nx ?_
 refine W.seq ?_
 refine W.seq ?_
 refine W.region rfl ?_
 first | refine WO.q (Y.load rfl (loadSN sz_25 S 0 rfl rfl rfl)) ?_ | refine WO.q (Y.load rfl (loadSN sz_25 S 1 rfl rfl rfl)) ?_ | refine WO.q (Y.load rfl (loadSN sz_25 S 2 rfl rfl rfl)) ?_
 refine WO.e (O.call cf_21 rfl (Check_spec _ v f (hR.ext S.ext)) ?_)
 rintro _ w ⟨rfl, E⟩
 replace S := S.keep E
 refine ⟨_, rfl, ?_⟩
 refine WO.q (Y.move (v := .tuple _) rfl) ?_
 refine WO.q (Y.extract (v := .int .i64 _) rfl rfl) ?_
 refine WO.q (Y.extract (v := .int .i64 _) rfl rfl) ?_
 refine WO.q (Y.assign (v := .int .i64 _) rfl) ?_
 refine WO.q (Y.assign (v := .int .i64 _) rfl) ?_
 refine WO.nil ?_
 refine Then.nx ?_
 refine W.seq ?_
 refine W.region rfl ?_
 refine WO.q (Y.move (v := .int .i64 _) rfl) ?_
 refine WO.q (Y.neq rfl rfl) ?_
 refine WO.q (Y.move (v := .bool _) rfl) ?_
 refine WO.splitB (fun h1 => ?_) (fun h1 => ?_)
 ·
  (try simp only [Q1, Q2, Q3, Q4, Q5, Q6, Q7, Q8, Q9, Qa] at h1)
  refine WO.qF rfl ?_
  refine WO.qF rfl ?_
  refine WO.q (Y.pickT (u := .bool _) rfl rfl) ?_
  refine WO.q (Y.move (v := .bool _) rfl) ?_
  refine WO.qF rfl ?_
  refine WO.qF rfl ?_
  refine WO.qF rfl ?_
  refine WO.qF rfl ?_
  refine WO.qF rfl ?_
  refine WO.q (Y.pickT (u := .bool _) rfl rfl) ?_
  refine WO.nil ?_
  refine Then.nx ?_
  first | refine W.condT rfl ?_ | refine W.condT (congrArg Value.bool (by assumption)) ?_
  refine W.seq ?_
  refine W.region rfl ?_
  refine WO.q (Y.assign (v := .slice _ _ _) rfl) ?_
  refine WO.nil ?_
  refine Then.nx ?_
  refine W.ret ?_
  refine Then.r ?_
  refine BodyQ.ret1 Try.results13 (ResV.tmp _ rfl) ?_
  first | (have e9 := needsM_in (by assumption) hx; exact ⟨nb, nk, by (rw [e9]; rfl), by (rw [e9]; exact S.pk (by repeat (first | exact Pk.nil _ | exact Pk.refl _ | refine Pk.cons 0 rfl ?_ | refine Pk.cons 1 rfl ?_ | refine Pk.cons 2 rfl ?_ | refine Pk.cons 3 rfl ?_ | refine Pk.cons 4 rfl ?_ | refine Pk.cons 5 rfl ?_ | refine Pk.cons 6 rfl ?_ | refine Pk.cons 7 rfl ?_ | refine Pk.cons 8 rfl ?_ | refine Pk.cons 9 rfl ?_ | refine Pk.cons 10 rfl ?_ | refine Pk.cons 11 rfl ?_ | refine Pk.cons 12 rfl ?_ | refine Pk.cons 13 rfl ?_ | refine Pk.drop ?_)))⟩) | (have e9 := needsM_no (f := f) (n := n) (by omega); exact ⟨none, 0, by (rw [e9]; rfl), by (rw [e9]; exact (S.pk (.nil _)).nilOwn (tI .i64) 3)⟩)
 ·
  (try simp only [Q1, Q2, Q3, Q4, Q5, Q6, Q7, Q8, Q9, Qa] at h1)
  refine WO.qT rfl (Y.move (v := .int .i64 _) rfl) ?_
  refine WO.qT rfl (Y.lss rfl rfl) ?_
  refine WO.q (Y.pickF (u := .bool _) rfl rfl) ?_
  refine WO.q (Y.move (v := .bool _) rfl) ?_
  refine WO.splitB (fun h2 => ?_) (fun h2 => ?_)
  ·
   (try simp only [Q1, Q2, Q3, Q4, Q5, Q6, Q7, Q8, Q9, Qa] at h2)
   refine WO.qF rfl ?_
   refine WO.qF rfl ?_
   refine WO.qF rfl ?_
   refine WO.qF rfl ?_
   refine WO.qF rfl ?_
   refine WO.q (Y.pickT (u := .bool _) rfl rfl) ?_
   refine WO.nil ?_
   refine Then.nx ?_
   first | refine W.condT rfl ?_ | refine W.condT (congrArg Value.bool (by assumption)) ?_
   refine W.seq ?_
   refine W.region rfl ?_
   refine WO.q (Y.assign (v := .slice _ _ _) rfl) ?_
   refine WO.nil ?_
   refine Then.nx ?_
   refine W.ret ?_
   refine Then.r ?_
   refine BodyQ.ret1 Try.results13 (ResV.tmp _ rfl) ?_
   first | (have e9 := needsM_in (by assumption) hx; exact ⟨nb, nk, by (rw [e9]; rfl), by (rw [e9]; exact S.pk (by repeat (first | exact Pk.nil _ | exact Pk.refl _ | refine Pk.cons 0 rfl ?_ | refine Pk.cons 1 rfl ?_ | refine Pk.cons 2 rfl ?_ | refine Pk.cons 3 rfl ?_ | refine Pk.cons 4 rfl ?_ | refine Pk.cons 5 rfl ?_ | refine Pk.cons 6 rfl ?_ | refine Pk.cons 7 rfl ?_ | refine Pk.cons 8 rfl ?_ | refine Pk.cons 9 rfl ?_ | refine Pk.cons 10 rfl ?_ | refine Pk.cons 11 rfl ?_ | refine Pk.cons 12 rfl ?_ | refine Pk.cons 13 rfl ?_ | refine Pk.drop ?_)))⟩) | (have e9 := needsM_no (f := f) (n := n) (by omega); exact ⟨none, 0, by (rw [e9]; rfl), by (rw [e9]; exact (S.pk (.nil _)).nilOwn (tI .i64) 3)⟩)
  ·
   (try simp only [Q1, Q2, Q3, Q4, Q5, Q6, Q7, Q8, Q9, Qa] at h2)
   refine WO.qT rfl (Y.move (v := .int .i64 _) rfl) ?_
   refine WO.qT rfl (Y.fieldB fo_25_0 rfl) ?_
   first | refine WO.qT rfl (Y.load rfl (loadS1 sz_22 S 0 rfl rfl)) ?_ | refine WO.qT rfl (Y.load rfl (loadS1 sz_22 S 1 rfl rfl)) ?_ | refine WO.qT rfl (Y.load rfl (loadS1 sz_22 S 2 rfl rfl)) ?_
   refine WO.qT rfl (Y.len (t' := 0) Try.underlying22 rfl) ?_
   refine WO.qT rfl (Y.geq rfl rfl) ?_
   refine WO.q (Y.pickF (u := .bool _) rfl rfl) ?_
   refine WO.nil ?_
   refine Then.nx ?_
   refine W.cond rfl (fun h3 => ?_) (fun h3 => ?_) -- cond 0
   ·
    have rh3 := h3
    (try simp only [Q1, Q2, Q3, Q4, Q5, Q6, Q7, Q8, Q9, Qa] at h3)
    refine W.seq ?_
    refine W.region rfl ?_
    refine WO.q (Y.assign (v := .slice _ _ _) rfl) ?_
    refine WO.nil ?_
    refine Then.nx ?_
    refine W.ret ?_
    refine Then.r ?_
    refine BodyQ.ret1 Try.results13 (ResV.tmp _ rfl) ?_
    first | (have e9 := needsM_in (by assumption) hx; exact ⟨nb, nk, by (rw [e9]; rfl), by (rw [e9]; exact S.pk (by repeat (first | exact Pk.nil _ | exact Pk.refl _ | refine Pk.cons 0 rfl ?_ | refine Pk.cons 1 rfl ?_ | refine Pk.cons 2 rfl ?_ | refine Pk.cons 3 rfl ?_ | refine Pk.cons 4 rfl ?_ | refine Pk.cons 5 rfl ?_ | refine Pk.cons 6 rfl ?_ | refine Pk.cons 7 rfl ?_ | refine Pk.cons 8 rfl ?_ | refine Pk.cons 9 rfl ?_ | refine Pk.cons 10 rfl ?_ | refine Pk.cons 11 rfl ?_ | refine Pk.cons 12 rfl ?_ | refine Pk.cons 13 rfl ?_ | refine Pk.drop ?_)))⟩) | (have e9 := needsM_no (f := f) (n := n) (by omega); exact ⟨none, 0, by (rw [e9]; rfl), by (rw [e9]; exact (S.pk (.nil _)).nilOwn (tI .i64) 3)⟩)
   ·
    have rh3 := h3
    (try simp only [Q1, Q2, Q3, Q4, Q5, Q6, Q7, Q8, Q9, Qa] at h3)
    refine W.skip ?_
    refine Then.nx ?_
    refine W.seq ?_
    obtain ⟨k, rfl⟩ := Int.eq_ofNat_of_zero_le (show 0 ≤ n by omega)
    have ha := R1.1 (by omega)
    obtain ⟨x, hx⟩ := at_ex (xs := f.lets) (k := k) (by omega)
    obtain ⟨ra, rc, hr, hrc, hrt⟩ := hraw.get hx
    obtain ⟨htr, hft, hot⟩ := checked2 (by assumption) hx
    have htl := htn k x hx
    obtain ⟨nd, hnd⟩ := at_ex (xs := x.tree) (k := 0) (by (rw [htr]; exact flat_pos _))
    have hrm := rootM_at hnd
    have hnq := needsR_eq (by assumption) hx
    have hnql := needsR_len x
    refine W.region rfl ?_
    refine WO.q (Y.fieldB fo_25_0 rfl) ?_
    first | refine WO.q (Y.load rfl (loadS1 sz_22 S 0 rfl rfl)) ?_ | refine WO.q (Y.load rfl (loadS1 sz_22 S 1 rfl rfl)) ?_ | refine WO.q (Y.load rfl (loadS1 sz_22 S 2 rfl rfl)) ?_
    refine WO.q (Y.move (v := .int .i64 _) rfl) ?_
    first | refine WO.q (Y.ixN sl_22 rfl rfl (by (first | assumption | rfl)) (by (first | assumption | omega))) ?_ | refine WO.q (Y.ix sl_22 rfl rfl (by (first | assumption | rfl)) (by (first | assumption | omega)) (by (first | assumption | omega))) ?_
    refine WO.q (Y.load rfl (loadRdN sz_51 (R1.ext S.ext) (by assumption))) ?_
    refine WO.e (O.call cf_28 rfl (needs_spec _ x ra rc nd (hrt.ext S.ext) hnd htl) ?_)
    rintro _ w ⟨nb, nk, rfl, SN⟩
    replace S := S.trans SN
    rw [hnq] at S hnql ⊢
    refine ⟨_, rfl, ?_⟩
    refine WO.q (Y.assign (v := .slice _ _ _) rfl) ?_
    refine WO.nil ?_
    refine Then.nx ?_
    refine W.ret ?_
    refine BodyQ.ret1 Try.results13 (ResV.tmp _ rfl) ?_
    first | (have e9 := needsM_in (by assumption) hx; exact ⟨nb, nk, by (rw [e9]; rfl), by (rw [e9]; exact S.pk (by repeat (first | exact Pk.nil _ | exact Pk.refl _ | refine Pk.cons 0 rfl ?_ | refine Pk.cons 1 rfl ?_ | refine Pk.cons 2 rfl ?_ | refine Pk.cons 3 rfl ?_ | refine Pk.cons 4 rfl ?_ | refine Pk.cons 5 rfl ?_ | refine Pk.cons 6 rfl ?_ | refine Pk.cons 7 rfl ?_ | refine Pk.cons 8 rfl ?_ | refine Pk.cons 9 rfl ?_ | refine Pk.cons 10 rfl ?_ | refine Pk.cons 11 rfl ?_ | refine Pk.cons 12 rfl ?_ | refine Pk.cons 13 rfl ?_ | refine Pk.drop ?_)))⟩) | (have e9 := needsM_no (f := f) (n := n) (by omega); exact ⟨none, 0, by (rw [e9]; rfl), by (rw [e9]; exact (S.pk (.nil _)).nilOwn (tI .i64) 3)⟩)
theorem Users_spec (w0 : World) (n : Int) (v : FIn) (f : GFlow) (R : RdFlow w0 v f) :
    Calls Try.prog 15 [.agg (fL v f).toArray, .int .i64 n].toArray w0 (fun r w => ∃ a c, r = .returned (.slice a (usersM f n).length c) ∧ Sat w0 w [Own (tI .i64) 3 a c (usersM f n)]) := by
 have S := Sat.refl w0
 have hR := R
 obtain ⟨⟨raws, R1, hraw⟩, Ro, hlc, hoc, hln, hon, htn⟩ := R
 have hrl := hraw.1
 refine calls_of_W (args := [.agg (fL v f).toArray, .int .i64 n]) 46 Try.func15 rfl Try.ntmps15 rfl ?_
 refine W.seq ?_
 refine W.region rfl ?_
 refine WO.e (O.box rfl rfl S (fun b2 w S => ?_))
 refine WO.q (Y.assign (v := .slice _ _ _) rfl) ?_
 refine WO.nil ?_
 refine Then.nx ?_
 refine W.seq ?_
 refine W.seq ?_
 refine W.region rfl ?_
 first | refine WO.q (Y.load rfl (loadSN sz_25 S 0 rfl rfl rfl)) ?_ | refine WO.q (Y.load rfl (loadSN sz_25 S 1 rfl rfl rfl)) ?_ | refine WO.q (Y.load rfl (loadSN sz_25 S 2 rfl rfl rfl)) ?_
 refine WO.e (O.call cf_21 rfl (Check_spec _ v f (hR.ext S.ext)) ?_)
 rintro _ w ⟨rfl, E⟩
 replace S := S.keep E
 refine ⟨_, rfl, ?_⟩
 refine WO.q (Y.move (v := .tuple _) rfl) ?_
 refine WO.q (Y.extract (v := .int .i64 _) rfl rfl) ?_
 refine WO.q (Y.extract (v := .int .i64 _) rfl rfl) ?_
 refine WO.q (Y.assign (v := .int .i64 _) rfl) ?_
 refine WO.q (Y.assign (v := .int .i64 _) rfl) ?_
 refine WO.nil ?_
 refine Then.nx ?_
 refine W.seq ?_
 refine W.region rfl ?_
 refine WO.q (Y.move (v := .int .i64 _) rfl) ?_
 refine WO.q (Y.neq rfl rfl) ?_
 refine WO.q (Y.move (v := .bool _) rfl) ?_
 refine WO.splitB (fun h1 => ?_) (fun h1 => ?_)
 ·
  (try simp only [Q1, Q2, Q3, Q4, Q5, Q6, Q7, Q8, Q9, Qa] at h1)
  refine WO.qF rfl ?_
  refine WO.qF rfl ?_
  refine WO.q (Y.pickT (u := .bool _) rfl rfl) ?_
  refine WO.q (Y.move (v := .bool _) rfl) ?_
  refine WO.qF rfl ?_
  refine WO.qF rfl ?_
  refine WO.qF rfl ?_
  refine WO.qF rfl ?_
  refine WO.qF rfl ?_
  refine WO.q (Y.pickT (u := .bool _) rfl rfl) ?_
  refine WO.nil ?_
  refine Then.nx ?_
  first | refine W.condT rfl ?_ | refine W.condT (congrArg Value.bool (by assumption)) ?_
  refine W.seq ?_
  refine W.region rfl ?_
  refine WO.q (Y.assign (v := .slice _ _ _) rfl) ?_
  refine WO.nil ?_
  refine Then.nx ?_
  refine W.ret ?_
  refine Then.r ?_
  refine BodyQ.ret1 Try.results15 (ResV.tmp _ rfl) ?_
  first | (have e9 := usersM_no (f := f) (n := n) (by omega); exact ⟨none, 0, by (rw [e9]; rfl), by (rw [e9]; exact (S.pk (.nil _)).nilOwn (tI .i64) 3)⟩) | ((have ei : i = f.lets.length := by omega); subst ei; have e9 := usersM_in (f := f) (n := n) (by assumption) (by omega) (by omega); exact ⟨la, lc, by (rw [e9]; rfl), by (rw [e9]; exact S.pk (by repeat (first | exact Pk.nil _ | exact Pk.refl _ | refine Pk.cons 0 rfl ?_ | refine Pk.cons 1 rfl ?_ | refine Pk.cons 2 rfl ?_ | refine Pk.cons 3 rfl ?_ | refine Pk.cons 4 rfl ?_ | refine Pk.cons 5 rfl ?_ | refine Pk.cons 6 rfl ?_ | refine Pk.cons 7 rfl ?_ | refine Pk.cons 8 rfl ?_ | refine Pk.cons 9 rfl ?_ | refine Pk.cons 10 rfl ?_ | refine Pk.cons 11 rfl ?_ | refine Pk.cons 12 rfl ?_ | refine Pk.cons 13 rfl ?_ | refine Pk.drop ?_)))⟩)
 ·
  (try simp only [Q1, Q2, Q3, Q4, Q5, Q6, Q7, Q8, Q9, Qa] at h1)
  refine WO.qT rfl (Y.move (v := .int .i64 _) rfl) ?_
  refine WO.qT rfl (Y.lss rfl rfl) ?_
  refine WO.q (Y.pickF (u := .bool _) rfl rfl) ?_
  refine WO.q (Y.move (v := .bool _) rfl) ?_
  refine WO.splitB (fun h2 => ?_) (fun h2 => ?_)
  ·
   (try simp only [Q1, Q2, Q3, Q4, Q5, Q6, Q7, Q8, Q9, Qa] at h2)
   refine WO.qF rfl ?_
   refine WO.qF rfl ?_
   refine WO.qF rfl ?_
   refine WO.qF rfl ?_
   refine WO.qF rfl ?_
   refine WO.q (Y.pickT (u := .bool _) rfl rfl) ?_
   refine WO.nil ?_
   refine Then.nx ?_
   first | refine W.condT rfl ?_ | refine W.condT (congrArg Value.bool (by assumption)) ?_
   refine W.seq ?_
   refine W.region rfl ?_
   refine WO.q (Y.assign (v := .slice _ _ _) rfl) ?_
   refine WO.nil ?_
   refine Then.nx ?_
   refine W.ret ?_
   refine Then.r ?_
   refine BodyQ.ret1 Try.results15 (ResV.tmp _ rfl) ?_
   first | (have e9 := usersM_no (f := f) (n := n) (by omega); exact ⟨none, 0, by (rw [e9]; rfl), by (rw [e9]; exact (S.pk (.nil _)).nilOwn (tI .i64) 3)⟩) | ((have ei : i = f.lets.length := by omega); subst ei; have e9 := usersM_in (f := f) (n := n) (by assumption) (by omega) (by omega); exact ⟨la, lc, by (rw [e9]; rfl), by (rw [e9]; exact S.pk (by repeat (first | exact Pk.nil _ | exact Pk.refl _ | refine Pk.cons 0 rfl ?_ | refine Pk.cons 1 rfl ?_ | refine Pk.cons 2 rfl ?_ | refine Pk.cons 3 rfl ?_ | refine Pk.cons 4 rfl ?_ | refine Pk.cons 5 rfl ?_ | refine Pk.cons 6 rfl ?_ | refine Pk.cons 7 rfl ?_ | refine Pk.cons 8 rfl ?_ | refine Pk.cons 9 rfl ?_ | refine Pk.cons 10 rfl ?_ | refine Pk.cons 11 rfl ?_ | refine Pk.cons 12 rfl ?_ | refine Pk.cons 13 rfl ?_ | refine Pk.drop ?_)))⟩)
  ·
   (try simp only [Q1, Q2, Q3, Q4, Q5, Q6, Q7, Q8, Q9, Qa] at h2)
   refine WO.qT rfl (Y.move (v := .int .i64 _) rfl) ?_
   refine WO.qT rfl (Y.fieldB fo_25_0 rfl) ?_
   first | refine WO.qT rfl (Y.load rfl (loadS1 sz_22 S 0 rfl rfl)) ?_ | refine WO.qT rfl (Y.load rfl (loadS1 sz_22 S 1 rfl rfl)) ?_ | refine WO.qT rfl (Y.load rfl (loadS1 sz_22 S 2 rfl rfl)) ?_
   refine WO.qT rfl (Y.len (t' := 0) Try.underlying22 rfl) ?_
   refine WO.qT rfl (Y.geq rfl rfl) ?_
   refine WO.q (Y.pickF (u := .bool _) rfl rfl) ?_
   refine WO.nil ?_
   refine Then.nx ?_
   refine W.cond rfl (fun h3 => ?_) (fun h3 => ?_) -- cond 0
   ·
    have rh3 := h3
    (try simp only [Q1, Q2, Q3, Q4, Q5, Q6, Q7, Q8, Q9, Qa] at h3)
    refine W.seq ?_
    refine W.region rfl ?_
    refine WO.q (Y.assign (v := .slice _ _ _) rfl) ?_
    refine WO.nil ?_
    refine Then.nx ?_
    refine W.ret ?_
    refine Then.r ?_
    refine BodyQ.ret1 Try.results15 (ResV.tmp _ rfl) ?_
    first | (have e9 := usersM_no (f := f) (n := n) (by omega); exact ⟨none, 0, by (rw [e9]; rfl), by (rw [e9]; exact (S.pk (.nil _)).nilOwn (tI .i64) 3)⟩) | ((have ei : i = f.lets.length := by omega); subst ei; have e9 := usersM_in (f := f) (n := n) (by assumption) (by omega) (by omega); exact ⟨la, lc, by (rw [e9]; rfl), by (rw [e9]; exact S.pk (by repeat (first | exact Pk.nil _ | exact Pk.refl _ | refine Pk.cons 0 rfl ?_ | refine Pk.cons 1 rfl ?_ | refine Pk.cons 2 rfl ?_ | refine Pk.cons 3 rfl ?_ | refine Pk.cons 4 rfl ?_ | refine Pk.cons 5 rfl ?_ | refine Pk.cons 6 rfl ?_ | refine Pk.cons 7 rfl ?_ | refine Pk.cons 8 rfl ?_ | refine Pk.cons 9 rfl ?_ | refine Pk.cons 10 rfl ?_ | refine Pk.cons 11 rfl ?_ | refine Pk.cons 12 rfl ?_ | refine Pk.cons 13 rfl ?_ | refine Pk.drop ?_)))⟩)
   ·
    have rh3 := h3
    (try simp only [Q1, Q2, Q3, Q4, Q5, Q6, Q7, Q8, Q9, Qa] at h3)
    refine W.skip ?_
    refine Then.nx ?_
    refine W.seq ?_
    refine W.region rfl ?_
    refine WO.q (Y.assign (v := .slice _ _ _) rfl) ?_
    refine WO.nil ?_
    refine Then.nx ?_
    refine W.seq ?_
    refine W.seq ?_
    refine W.region rfl ?_
    refine WO.q (Y.fieldB fo_25_0 rfl) ?_
    first | refine WO.q (Y.load rfl (loadS1 sz_22 S 0 rfl rfl)) ?_ | refine WO.q (Y.load rfl (loadS1 sz_22 S 1 rfl rfl)) ?_ | refine WO.q (Y.load rfl (loadS1 sz_22 S 2 rfl rfl)) ?_
    refine WO.q (Y.len (t' := 0) Try.underlying22 rfl) ?_
    refine WO.q (Y.move (v := .int .i64 _) rfl) ?_
    refine WO.nil ?_
    refine Then.nx ?_
    refine W.block ?_
    -- loop 0 carries 7:l, 31
    refine W.loop2 [7, 8, 9, 31, 32, 33, 34, 35, 36, 37, 38, 39, 40, 41, 42, 43, 44] 7 31 (fun v7 v31 w => ∃ (i : Nat) (la : Option Addr) (lc : Nat), v31 = .int .i64 (i : Int) ∧ v7 = .slice la (usersTo f.lets n i).length lc ∧ i ≤ f.lets.length ∧ Sat w0 w [Own (tI .i64) 3 la lc (usersTo f.lets n i), Cel b2 (fL v f) 25]) (fun v7 v31 w => f.lets.length - (intOf v31).toNat) ?_ ?_
    ·
     exact ⟨0, none, 0, rfl, rfl, Nat.zero_le _, S.nilOwn (tI .i64) 3⟩
    ·
     rintro g0 v7 v31 w ⟨i, la, lc, rfl, rfl, hi, S⟩
     refine W.seq ?_
     refine W.region rfl ?_
     refine WO.q (Y.lss rfl rfl) ?_
     refine WO.nil ?_
     refine Then.nx ?_
     refine W.seq ?_
     refine W.cond rfl (fun h4 => ?_) (fun h4 => ?_) -- cond 1
     ·
      have rh4 := h4
      (try simp only [Q1, Q2, Q3, Q4, Q5, Q6, Q7, Q8, Q9, Qa] at h4)
      refine W.skip ?_
      refine Then.nx ?_
      refine W.seq ?_
      refine W.block ?_
      refine W.seq ?_
      have ha := R1.1 (by omega)
      obtain ⟨x, hx⟩ := at_ex (xs := f.lets) (k := i) (by omega)
      obtain ⟨ra, rc, hr, hrc, hrt⟩ := hraw.get hx
      obtain ⟨htr, hft, hot⟩ := checked2 (by assumption) hx
      have htl := htn i x hx
      obtain ⟨nd, hnd⟩ := at_ex (xs := x.tree) (k := 0) (by (rw [htr]; exact flat_pos _))
      have hrm := rootM_at hnd
      have hnq := needsR_eq (by assumption) hx
      have hnql := needsR_len x
      have hul := usersTo_len f.lets n i
      refine W.region rfl ?_
      refine WO.q (Y.move (v := .int .i64 _) rfl) ?_
      first | refine WO.q (Y.ixN sl_22 rfl rfl (by (first | assumption | rfl)) (by (first | assumption | omega))) ?_ | refine WO.q (Y.ix sl_22 rfl rfl (by (first | assumption | rfl)) (by (first | assumption | omega)) (by (first | assumption | omega))) ?_
      refine WO.q (Y.load rfl (loadRdN sz_51 (R1.ext S.ext) (by assumption))) ?_
      refine WO.e (O.alloc z_51 S (fun b9 w S => ?_))
      refine WO.q (Y.assign (v := .int .i64 _) rfl) ?_
      first | refine WO.e0 (O.store (v := .agg _) 0 S rfl rfl rfl sz_51 rfl rfl rfl rfl (fun w S => ?_)) | refine WO.e0 (O.store (v := .agg _) 1 S rfl rfl rfl sz_51 rfl rfl rfl rfl (fun w S => ?_)) | refine WO.e0 (O.store (v := .agg _) 2 S rfl rfl rfl sz_51 rfl rfl rfl rfl (fun w S => ?_))
      refine WO.nil ?_
      refine Then.nx ?_
      refine W.seq ?_
      refine W.region rfl ?_
      first | refine WO.q (Y.load rfl (loadSN sz_51 S 0 rfl rfl rfl)) ?_ | refine WO.q (Y.load rfl (loadSN sz_51 S 1 rfl rfl rfl)) ?_ | refine WO.q (Y.load rfl (loadSN sz_51 S 2 rfl rfl rfl)) ?_
      refine WO.e (O.call cf_28 rfl (needs_spec _ x ra rc nd (hrt.ext S.ext) hnd htl) ?_)
      rintro _ w ⟨nb, nk, rfl, SN⟩
      replace S := S.trans SN
      rw [hnq] at S hnql ⊢
      refine ⟨_, rfl, ?_⟩
      refine WO.q (Y.move (v := .int .i64 _) rfl) ?_
      refine WO.e (O.call cf_29 rfl (ContainsI_spec _ nb nk (needL x i) n (S.rd 0 rfl) (by omega)) ?_)
      rintro _ w ⟨rfl, E⟩
      replace S := S.keep E
      refine ⟨_, rfl, ?_⟩
      refine WO.nil ?_
      refine Then.nx ?_
      refine W.cond rfl (fun h5 => ?_) (fun h5 => ?_) -- cond 2
      ·
       have rh5 := h5
       (try simp only [Q1, Q2, Q3, Q4, Q5, Q6, Q7, Q8, Q9, Qa] at h5)
       refine W.region rfl ?_
       refine WO.q (Y.move (v := .slice _ _ _) rfl) ?_
       refine WO.q (Y.move (v := .int .i64 _) rfl) ?_
       first | refine WO.e (O.buildSlice rfl (buildOne sl_23 (by decide) rfl rfl) S (fun b42 w S => ?_)) | refine WO.e (O.buildSlice rfl (buildOne sl_23 (by decide) rfl (by simp)) S (fun b42 w S => ?_)) | refine WO.e (O.buildSlice rfl (bs_23_1_0) S (fun b42 w S => ?_))
       refine WO.e (O.append (T := tI .i64) (ys := [(i : Int)]) 3 sl_23 S rfl rfl rfl rfl (S.rd1 (T := tI .i64) (x := (i : Int)) 0 rfl) rfl (by (simp only [List.length_singleton]; omega)) (by (simp only [List.length_singleton, maxLen]; omega)) (fun a43 c43 w S hn43 => ?_))
       refine WO.q (Y.assign (v := .slice _ _ _) rfl) ?_
       refine WO.nil ?_
       refine InB.nx ?_
       refine Then.nx ?_
       refine W.region rfl ?_
       first | refine WO.q (Y.addI rfl rfl (by omega)) ?_ | refine WO.q (Y.add rfl rfl) ?_
       refine WO.q (Y.move (v := .int .i64 _) rfl) ?_
       refine WO.nil ?_
       refine Then.nx ⟨?_, ?_, ?_⟩
       ·
        (repeat (first | exact Out.hav _ _ _ | exact Out.refl _ _ | refine Out.up rfl ?_ | refine Out.sub rfl ?_))
       ·
        first | ((have e9 : usersTo f.lets n (i + 1) = usersTo f.lets n i ++ [(i : Int)] := by (rw [usersTo_succ hx, if_pos (by assumption)])); exact ⟨i + 1, a43, c43, rfl, by (rw [e9]; rfl), by omega, by (rw [e9]; exact S.pk (by repeat (first | exact Pk.nil _ | exact Pk.refl _ | refine Pk.cons 0 rfl ?_ | refine Pk.cons 1 rfl ?_ | refine Pk.cons 2 rfl ?_ | refine Pk.cons 3 rfl ?_ | refine Pk.cons 4 rfl ?_ | refine Pk.cons 5 rfl ?_ | refine Pk.cons 6 rfl ?_ | refine Pk.cons 7 rfl ?_ | refine Pk.cons 8 rfl ?_ | refine Pk.cons 9 rfl ?_ | refine Pk.cons 10 rfl ?_ | refine Pk.cons 11 rfl ?_ | refine Pk.cons 12 rfl ?_ | refine Pk.cons 13 rfl ?_ | refine Pk.drop ?_)))⟩) | ((have e9 : usersTo f.lets n (i + 1) = usersTo f.lets n i := by (rw [usersTo_succ hx, if_neg (by simp_all), List.append_nil])); exact ⟨i + 1, la, lc, rfl, by (rw [e9]; rfl), by omega, by (rw [e9]; exact S.pk (by repeat (first | exact Pk.nil _ | exact Pk.refl _ | refine Pk.cons 0 rfl ?_ | refine Pk.cons 1 rfl ?_ | refine Pk.cons 2 rfl ?_ | refine Pk.cons 3 rfl ?_ | refine Pk.cons 4 rfl ?_ | refine Pk.cons 5 rfl ?_ | refine Pk.cons 6 rfl ?_ | refine Pk.cons 7 rfl ?_ | refine Pk.cons 8 rfl ?_ | refine Pk.cons 9 rfl ?_ | refine Pk.cons 10 rfl ?_ | refine Pk.cons 11 rfl ?_ | refine Pk.cons 12 rfl ?_ | refine Pk.cons 13 rfl ?_ | refine Pk.drop ?_)))⟩)
       ·
        (show f.lets.length - (i + 1) < f.lets.length - i; omega)
      ·
       have rh5 := h5
       (try simp only [Q1, Q2, Q3, Q4, Q5, Q6, Q7, Q8, Q9, Qa] at h5)
       refine W.skip ?_
       refine InB.nx ?_
       refine Then.nx ?_
       refine W.region rfl ?_
       first | refine WO.q (Y.addI rfl rfl (by omega)) ?_ | refine WO.q (Y.add rfl rfl) ?_
       refine WO.q (Y.move (v := .int .i64 _) rfl) ?_
       refine WO.nil ?_
       refine Then.nx ⟨?_, ?_, ?_⟩
       ·
        (repeat (first | exact Out.hav _ _ _ | exact Out.refl _ _ | refine Out.up rfl ?_ | refine Out.sub rfl ?_))
       ·
        first | ((have e9 : usersTo f.lets n (i + 1) = usersTo f.lets n i ++ [(i : Int)] := by (rw [usersTo_succ hx, if_pos (by assumption)])); exact ⟨i + 1, a43, c43, rfl, by (rw [e9]; rfl), by omega, by (rw [e9]; exact S.pk (by repeat (first | exact Pk.nil _ | exact Pk.refl _ | refine Pk.cons 0 rfl ?_ | refine Pk.cons 1 rfl ?_ | refine Pk.cons 2 rfl ?_ | refine Pk.cons 3 rfl ?_ | refine Pk.cons 4 rfl ?_ | refine Pk.cons 5 rfl ?_ | refine Pk.cons 6 rfl ?_ | refine Pk.cons 7 rfl ?_ | refine Pk.cons 8 rfl ?_ | refine Pk.cons 9 rfl ?_ | refine Pk.cons 10 rfl ?_ | refine Pk.cons 11 rfl ?_ | refine Pk.cons 12 rfl ?_ | refine Pk.cons 13 rfl ?_ | refine Pk.drop ?_)))⟩) | ((have e9 : usersTo f.lets n (i + 1) = usersTo f.lets n i := by (rw [usersTo_succ hx, if_neg (by simp_all), List.append_nil])); exact ⟨i + 1, la, lc, rfl, by (rw [e9]; rfl), by omega, by (rw [e9]; exact S.pk (by repeat (first | exact Pk.nil _ | exact Pk.refl _ | refine Pk.cons 0 rfl ?_ | refine Pk.cons 1 rfl ?_ | refine Pk.cons 2 rfl ?_ | refine Pk.cons 3 rfl ?_ | refine Pk.cons 4 rfl ?_ | refine Pk.cons 5 rfl ?_ | refine Pk.cons 6 rfl ?_ | refine Pk.cons 7 rfl ?_ | refine Pk.cons 8 rfl ?_ | refine Pk.cons 9 rfl ?_ | refine Pk.cons 10 rfl ?_ | refine Pk.cons 11 rfl ?_ | refine Pk.cons 12 rfl ?_ | refine Pk.cons 13 rfl ?_ | refine Pk.drop ?_)))⟩)
       ·
        (show f.lets.length - (i + 1) < f.lets.length - i; omega)
     ·
      have rh4 := h4
      (try simp only [Q1, Q2, Q3, Q4, Q5, Q6, Q7, Q8, Q9, Qa] at h4)
      refine W.exit ?_
      refine Then.x ?_
      refine Then.x ?_
      refine InB.e ?_
      refine Then.nx ?_
      refine W.seq ?_
      refine W.region rfl ?_
      refine WO.q (Y.move (v := .slice _ _ _) rfl) ?_
      refine WO.q (Y.assign (v := .slice _ _ _) rfl) ?_
      refine WO.nil ?_
      refine Then.nx ?_
      refine W.ret ?_
      refine BodyQ.ret1 Try.results15 (ResV.tmp _ rfl) ?_
      first | (have e9 := usersM_no (f := f) (n := n) (by omega); exact ⟨none, 0, by (rw [e9]; rfl), by (rw [e9]; exact (S.pk (.nil _)).nilOwn (tI .i64) 3)⟩) | ((have ei : i = f.lets.length := by omega); subst ei; have e9 := usersM_in (f := f) (n := n) (by assumption) (by omega) (by omega); exact ⟨la, lc, by (rw [e9]; rfl), by (rw [e9]; exact S.pk (by repeat (first | exact Pk.nil _ | exact Pk.refl _ | refine Pk.cons 0 rfl ?_ | refine Pk.cons 1 rfl ?_ | refine Pk.cons 2 rfl ?_ | refine Pk.cons 3 rfl ?_ | refine Pk.cons 4 rfl ?_ | refine Pk.cons 5 rfl ?_ | refine Pk.cons 6 rfl ?_ | refine Pk.cons 7 rfl ?_ | refine Pk.cons 8 rfl ?_ | refine Pk.cons 9 rfl ?_ | refine Pk.cons 10 rfl ?_ | refine Pk.cons 11 rfl ?_ | refine Pk.cons 12 rfl ?_ | refine Pk.cons 13 rfl ?_ | refine Pk.drop ?_)))⟩)
end Go.Proofs
