/-
  Walks of Plain.
-/
import Derived.Test.YtlnimgpfopaicaaGd
import Derived.Test.YtlnimgpfopaicaaFa
import Derived.Test.YtlnimgpfopaicaaFb
import Derived.Test.YtlnimgpfopaicaaUe
import Derived.Test.YtlnimgpfopaicaaVc
import Derived.Test.YtlnimgpfopaicaaVd
set_option linter.unusedVariables false
set_option linter.unusedSimpArgs false
set_option maxRecDepth 100000
set_option maxHeartbeats 1000000
namespace Go.Proofs
open Go Go.TL Go.RowKit
theorem Plain_spec (w0 w : World) (L : List HA) (v : FIn) (f : GFlow) (m : GMaker) (R : RdFlow w0 v f) (S : Sat w0 w L) :
    Calls Try.prog 7 [.agg (fL v f).toArray, .agg (tMaker.enc m).toArray].toArray w (fun r w' => ∃ a c, r = .returned (.tuple #[.slice a (plainM f m).1.length c, .int .i64 (plainM f m).2]) ∧ Sat w0 w' (Own tEnd 30 a c (plainM f m).1 :: L)) := by
 have hR := R
 obtain ⟨⟨raws, R1, hraw⟩, Ro, hlc, hoc, hln, hon, htn⟩ := R
 have hrl := hraw.1
 refine calls_of_W (args := [.agg (fL v f).toArray, .agg (tMaker.enc m).toArray]) 59 Try.func7 rfl Try.ntmps7 rfl ?_
 refine W.seq ?_
 refine W.region rfl ?_
 refine WO.e (O.box rfl rfl S (fun b2 w S => ?_))
 refine WO.e (O.box rfl rfl S (fun b3 w S => ?_))
 refine WO.q (Y.assign (v := .slice _ _ _) rfl) ?_
 refine WO.q (Y.assign (v := .int .i64 _) rfl) ?_
 refine WO.nil ?_
 refine Then.nx ?_
 refine W.seq ?_
 refine W.seq ?_
 refine W.region rfl ?_
 first | refine WO.q (Y.load rfl (loadSN sz_25 S 0 rfl rfl rfl)) ?_ | refine WO.q (Y.load rfl (loadSN sz_25 S 1 rfl rfl rfl)) ?_ | refine WO.q (Y.load rfl (loadSN sz_25 S 2 rfl rfl rfl)) ?_ | refine WO.q (Y.load rfl (loadSN sz_25 S 3 rfl rfl rfl)) ?_ | refine WO.q (Y.load rfl (loadSN sz_25 S 4 rfl rfl rfl)) ?_
 refine WO.e (O.call cf_21 rfl (Check_spec _ v f (hR.ext S.ext)) ?_)
 rintro _ w ⟨rfl, E⟩
 replace S := S.keep E
 refine ⟨_, rfl, ?_⟩
 refine WO.q (Y.move (v := .tuple _) rfl) ?_
 refine WO.q (Y.extract (v := .int .i64 _) rfl rfl) ?_
 refine WO.q (Y.extract (v := .int .i64 _) rfl rfl) ?_
 refine WO.q (Y.assign (v := .int .i64 _) rfl) ?_
 refine WO.q (Y.assign (v := .int .i64 _) rfl) ?_
 refine WO.nil ?_
 refine Then.nx ?_
 refine W.seq ?_
 refine W.region rfl ?_
 refine WO.q (Y.move (v := .int .i64 _) rfl) ?_
 refine WO.q (Y.neq rfl rfl) ?_
 refine WO.nil ?_
 refine Then.nx ?_
 refine W.cond rfl (fun h1 => ?_) (fun h1 => ?_) -- cond 0
 ·
  have rh1 := h1
  (try simp only [Q1, Q2, Q3, Q4, Q5, Q6, Q7, Q8, Q9, Qa] at h1)
  refine W.seq ?_
  refine W.region rfl ?_
  refine WO.q (Y.move (v := .int .i64 _) rfl) ?_
  refine WO.q (Y.assign (v := .slice _ _ _) rfl) ?_
  refine WO.q (Y.assign (v := .int .i64 _) rfl) ?_
  refine WO.nil ?_
  refine Then.nx ?_
  refine W.ret ?_
  refine Then.r ?_
  refine BodyQ.ret2 Try.results7 (ResV.tmp _ rfl) (ResV.tmp _ rfl) ?_
  first | exact ⟨none, 0, by (rw [plainM_err (by assumption)]; rfl), by (rw [plainM_err (by assumption)]; exact (S.pk (by repeat (first | exact Pk.nil _ | exact Pk.refl _ | refine Pk.cons 0 rfl ?_ | refine Pk.cons 1 rfl ?_ | refine Pk.cons 2 rfl ?_ | refine Pk.cons 3 rfl ?_ | refine Pk.cons 4 rfl ?_ | refine Pk.cons 5 rfl ?_ | refine Pk.cons 6 rfl ?_ | refine Pk.cons 7 rfl ?_ | refine Pk.cons 8 rfl ?_ | refine Pk.cons 9 rfl ?_ | refine Pk.cons 10 rfl ?_ | refine Pk.cons 11 rfl ?_ | refine Pk.cons 12 rfl ?_ | refine Pk.cons 13 rfl ?_ | refine Pk.drop ?_))).nilOwn tEnd 30)⟩ | exact ⟨none, 0, by (rw [plainM_odd (by assumption) (any_at hx (decide_eq_true (by omega)))]; rfl), by (rw [plainM_odd (by assumption) (any_at hx (decide_eq_true (by omega)))]; exact (S.pk (by repeat (first | exact Pk.nil _ | exact Pk.refl _ | refine Pk.cons 0 rfl ?_ | refine Pk.cons 1 rfl ?_ | refine Pk.cons 2 rfl ?_ | refine Pk.cons 3 rfl ?_ | refine Pk.cons 4 rfl ?_ | refine Pk.cons 5 rfl ?_ | refine Pk.cons 6 rfl ?_ | refine Pk.cons 7 rfl ?_ | refine Pk.cons 8 rfl ?_ | refine Pk.cons 9 rfl ?_ | refine Pk.cons 10 rfl ?_ | refine Pk.cons 11 rfl ?_ | refine Pk.cons 12 rfl ?_ | refine Pk.cons 13 rfl ?_ | refine Pk.drop ?_))).nilOwn tEnd 30)⟩ | ((have ei : i = f.lets.length := by omega); subst ei; exact ⟨la, lc, by (rw [plainM_ok (by assumption) hodd]; rfl), by (rw [plainM_ok (by assumption) hodd]; exact S.pk (by repeat (first | exact Pk.nil _ | exact Pk.refl _ | refine Pk.cons 0 rfl ?_ | refine Pk.cons 1 rfl ?_ | refine Pk.cons 2 rfl ?_ | refine Pk.cons 3 rfl ?_ | refine Pk.cons 4 rfl ?_ | refine Pk.cons 5 rfl ?_ | refine Pk.cons 6 rfl ?_ | refine Pk.cons 7 rfl ?_ | refine Pk.cons 8 rfl ?_ | refine Pk.cons 9 rfl ?_ | refine Pk.cons 10 rfl ?_ | refine Pk.cons 11 rfl ?_ | refine Pk.cons 12 rfl ?_ | refine Pk.cons 13 rfl ?_ | refine Pk.drop ?_)))⟩)
 ·
  have rh1 := h1
  (try simp only [Q1, Q2, Q3, Q4, Q5, Q6, Q7, Q8, Q9, Qa] at h1)
  refine W.skip ?_
  refine Then.nx ?_
  refine W.seq ?_
  refine W.seq ?_
  refine W.region rfl ?_
  refine WO.q (Y.fieldB fo_25_0 rfl) ?_
  first | refine WO.q (Y.load rfl (loadS1 sz_22 S 0 rfl rfl)) ?_ | refine WO.q (Y.load rfl (loadS1 sz_22 S 1 rfl rfl)) ?_ | refine WO.q (Y.load rfl (loadS1 sz_22 S 2 rfl rfl)) ?_ | refine WO.q (Y.load rfl (loadS1 sz_22 S 3 rfl rfl)) ?_ | refine WO.q (Y.load rfl (loadS1 sz_22 S 4 rfl rfl)) ?_
  refine WO.q (Y.len (t' := 0) Try.underlying22 rfl) ?_
  refine WO.q (Y.move (v := .int .i64 _) rfl) ?_
  refine WO.nil ?_
  refine Then.nx ?_
  refine W.block ?_
  -- loop 0 carries 25
  refine W.loop1 [4, 5, 9, 25, 26, 27, 28, 29, 30, 31, 32, 33, 34, 35, 36, 37] 25 (fun v25 w => ∃ i : Nat, v25 = .int .i64 (i : Int) ∧ i ≤ f.lets.length ∧ (∀ (j : Nat) x, j < i → f.lets[j]? = some x → odd x = false) ∧ Sat w0 w (Cel b3 (tMaker.enc m) 27 :: Cel b2 (fL v f) 25 :: L)) (fun v25 w => f.lets.length - (intOf v25).toNat) ?_ ?_
  ·
   exact ⟨0, rfl, Nat.zero_le _, fun j x hj _ => absurd hj (by omega), S⟩
  ·
   rintro g0 v25 w ⟨i, rfl, hi, hall, S⟩
   refine W.seq ?_
   refine W.region rfl ?_
   refine WO.q (Y.lss rfl rfl) ?_
   refine WO.nil ?_
   refine Then.nx ?_
   refine W.seq ?_
   refine W.cond rfl (fun h2 => ?_) (fun h2 => ?_) -- cond 1
   ·
    have rh2 := h2
    (try simp only [Q1, Q2, Q3, Q4, Q5, Q6, Q7, Q8, Q9, Qa] at h2)
    refine W.skip ?_
    refine Then.nx ?_
    refine W.seq ?_
    refine W.block ?_
    refine W.seq ?_
    have ha := R1.1 (by omega)
    obtain ⟨x, hx⟩ := at_ex (xs := f.lets) (k := i) (by omega)
    obtain ⟨ra, rc, hr, hrc, hrt⟩ := hraw.get hx
    obtain ⟨htr, hft, hot⟩ := checked2 (by assumption) hx
    have htl := htn i x hx
    obtain ⟨nd, hnd⟩ := at_ex (xs := x.tree) (k := 0) (by (rw [htr]; exact flat_pos _))
    have hrm := rootM_at hnd
    refine W.region rfl ?_
    first | refine WO.q (Y.ixN sl_22 rfl rfl (by (first | assumption | rfl)) (by (first | assumption | omega))) ?_ | refine WO.q (Y.ix sl_22 rfl rfl (by (first | assumption | rfl)) (by (first | assumption | omega)) (by (first | assumption | omega))) ?_
    refine WO.q (Y.load rfl (loadRdN sz_51 (R1.ext S.ext) (by assumption))) ?_
    refine WO.e (O.alloc z_51 S (fun b9 w S => ?_))
    first | refine WO.e0 (O.store (v := .agg _) 0 S rfl rfl rfl sz_51 rfl rfl rfl rfl (fun w S => ?_)) | refine WO.e0 (O.store (v := .agg _) 1 S rfl rfl rfl sz_51 rfl rfl rfl rfl (fun w S => ?_)) | refine WO.e0 (O.store (v := .agg _) 2 S rfl rfl rfl sz_51 rfl rfl rfl rfl (fun w S => ?_)) | refine WO.e0 (O.store (v := .agg _) 3 S rfl rfl rfl sz_51 rfl rfl rfl rfl (fun w S => ?_)) | refine WO.e0 (O.store (v := .agg _) 4 S rfl rfl rfl sz_51 rfl rfl rfl rfl (fun w S => ?_))
    refine WO.nil ?_
    refine Then.nx ?_
    refine W.seq ?_
    refine W.region rfl ?_
    first | refine WO.q (Y.load rfl (loadSN sz_51 S 0 rfl rfl rfl)) ?_ | refine WO.q (Y.load rfl (loadSN sz_51 S 1 rfl rfl rfl)) ?_ | refine WO.q (Y.load rfl (loadSN sz_51 S 2 rfl rfl rfl)) ?_ | refine WO.q (Y.load rfl (loadSN sz_51 S 3 rfl rfl rfl)) ?_ | refine WO.q (Y.load rfl (loadSN sz_51 S 4 rfl rfl rfl)) ?_
    refine WO.e (O.call cf_22 rfl (root_spec _ x ra rc nd (hrt.ext S.ext) hnd) ?_)
    rintro _ w ⟨rfl, E⟩
    replace S := S.keep E
    refine ⟨_, rfl, ?_⟩
    refine WO.q (Y.eql rfl rfl) ?_
    refine WO.q (Y.move (v := .bool _) rfl) ?_
    refine WO.splitB (fun h3 => ?_) (fun h3 => ?_)
    ·
     (try simp only [Q1, Q2, Q3, Q4, Q5, Q6, Q7, Q8, Q9, Qa] at h3)
     refine WO.qF rfl ?_
     refine WO.qF rfl ?_
     refine WO.qF rfl ?_
     refine WO.q (Y.pickT (u := .bool _) rfl rfl) ?_
     refine WO.nil ?_
     refine Then.nx ?_
     first | refine W.condT rfl ?_ | refine W.condT (congrArg Value.bool (by assumption)) ?_
     refine W.seq ?_
     refine W.region rfl ?_
     refine WO.q (Y.assign (v := .slice _ _ _) rfl) ?_
     refine WO.q (Y.assign (v := .int .i64 _) rfl) ?_
     refine WO.nil ?_
     refine Then.nx ?_
     refine W.ret ?_
     refine InB.r ?_
     refine Then.r ?_
     refine Then.r ?_
     refine InB.r ?_
     refine Then.r ?_
     refine BodyQ.ret2 Try.results7 (ResV.tmp _ rfl) (ResV.tmp _ rfl) ?_
     first | exact ⟨none, 0, by (rw [plainM_err (by assumption)]; rfl), by (rw [plainM_err (by assumption)]; exact (S.pk (by repeat (first | exact Pk.nil _ | exact Pk.refl _ | refine Pk.cons 0 rfl ?_ | refine Pk.cons 1 rfl ?_ | refine Pk.cons 2 rfl ?_ | refine Pk.cons 3 rfl ?_ | refine Pk.cons 4 rfl ?_ | refine Pk.cons 5 rfl ?_ | refine Pk.cons 6 rfl ?_ | refine Pk.cons 7 rfl ?_ | refine Pk.cons 8 rfl ?_ | refine Pk.cons 9 rfl ?_ | refine Pk.cons 10 rfl ?_ | refine Pk.cons 11 rfl ?_ | refine Pk.cons 12 rfl ?_ | refine Pk.cons 13 rfl ?_ | refine Pk.drop ?_))).nilOwn tEnd 30)⟩ | exact ⟨none, 0, by (rw [plainM_odd (by assumption) (any_at hx (decide_eq_true (by omega)))]; rfl), by (rw [plainM_odd (by assumption) (any_at hx (decide_eq_true (by omega)))]; exact (S.pk (by repeat (first | exact Pk.nil _ | exact Pk.refl _ | refine Pk.cons 0 rfl ?_ | refine Pk.cons 1 rfl ?_ | refine Pk.cons 2 rfl ?_ | refine Pk.cons 3 rfl ?_ | refine Pk.cons 4 rfl ?_ | refine Pk.cons 5 rfl ?_ | refine Pk.cons 6 rfl ?_ | refine Pk.cons 7 rfl ?_ | refine Pk.cons 8 rfl ?_ | refine Pk.cons 9 rfl ?_ | refine Pk.cons 10 rfl ?_ | refine Pk.cons 11 rfl ?_ | refine Pk.cons 12 rfl ?_ | refine Pk.cons 13 rfl ?_ | refine Pk.drop ?_))).nilOwn tEnd 30)⟩ | ((have ei : i = f.lets.length := by omega); subst ei; exact ⟨la, lc, by (rw [plainM_ok (by assumption) hodd]; rfl), by (rw [plainM_ok (by assumption) hodd]; exact S.pk (by repeat (first | exact Pk.nil _ | exact Pk.refl _ | refine Pk.cons 0 rfl ?_ | refine Pk.cons 1 rfl ?_ | refine Pk.cons 2 rfl ?_ | refine Pk.cons 3 rfl ?_ | refine Pk.cons 4 rfl ?_ | refine Pk.cons 5 rfl ?_ | refine Pk.cons 6 rfl ?_ | refine Pk.cons 7 rfl ?_ | refine Pk.cons 8 rfl ?_ | refine Pk.cons 9 rfl ?_ | refine Pk.cons 10 rfl ?_ | refine Pk.cons 11 rfl ?_ | refine Pk.cons 12 rfl ?_ | refine Pk.cons 13 rfl ?_ | refine Pk.drop ?_)))⟩)
    ·
     (try simp only [Q1, Q2, Q3, Q4, Q5, Q6, Q7, Q8, Q9, Qa] at h3)
     first | refine WO.qT rfl (Y.load rfl (loadSN sz_51 S 0 rfl rfl rfl)) ?_ | refine WO.qT rfl (Y.load rfl (loadSN sz_51 S 1 rfl rfl rfl)) ?_ | refine WO.qT rfl (Y.load rfl (loadSN sz_51 S 2 rfl rfl rfl)) ?_ | refine WO.qT rfl (Y.load rfl (loadSN sz_51 S 3 rfl rfl rfl)) ?_ | refine WO.qT rfl (Y.load rfl (loadSN sz_51 S 4 rfl rfl rfl)) ?_
     refine WO.eT rfl (O.call cf_22 rfl (root_spec _ x ra rc nd (hrt.ext S.ext) hnd) ?_)
     rintro _ w ⟨rfl, E⟩
     replace S := S.keep E
     refine ⟨_, rfl, ?_⟩
     refine WO.qT rfl (Y.eql rfl rfl) ?_
     refine WO.q (Y.pickF (u := .bool _) rfl rfl) ?_
     refine WO.nil ?_
     refine Then.nx ?_
     refine W.cond rfl (fun h4 => ?_) (fun h4 => ?_) -- cond 2
     ·
      have rh4 := h4
      (try simp only [Q1, Q2, Q3, Q4, Q5, Q6, Q7, Q8, Q9, Qa] at h4)
      refine W.seq ?_
      refine W.region rfl ?_
      refine WO.q (Y.assign (v := .slice _ _ _) rfl) ?_
      refine WO.q (Y.assign (v := .int .i64 _) rfl) ?_
      refine WO.nil ?_
      refine Then.nx ?_
      refine W.ret ?_
      refine InB.r ?_
      refine Then.r ?_
      refine Then.r ?_
      refine InB.r ?_
      refine Then.r ?_
      refine BodyQ.ret2 Try.results7 (ResV.tmp _ rfl) (ResV.tmp _ rfl) ?_
      first | exact ⟨none, 0, by (rw [plainM_err (by assumption)]; rfl), by (rw [plainM_err (by assumption)]; exact (S.pk (by repeat (first | exact Pk.nil _ | exact Pk.refl _ | refine Pk.cons 0 rfl ?_ | refine Pk.cons 1 rfl ?_ | refine Pk.cons 2 rfl ?_ | refine Pk.cons 3 rfl ?_ | refine Pk.cons 4 rfl ?_ | refine Pk.cons 5 rfl ?_ | refine Pk.cons 6 rfl ?_ | refine Pk.cons 7 rfl ?_ | refine Pk.cons 8 rfl ?_ | refine Pk.cons 9 rfl ?_ | refine Pk.cons 10 rfl ?_ | refine Pk.cons 11 rfl ?_ | refine Pk.cons 12 rfl ?_ | refine Pk.cons 13 rfl ?_ | refine Pk.drop ?_))).nilOwn tEnd 30)⟩ | exact ⟨none, 0, by (rw [plainM_odd (by assumption) (any_at hx (decide_eq_true (by omega)))]; rfl), by (rw [plainM_odd (by assumption) (any_at hx (decide_eq_true (by omega)))]; exact (S.pk (by repeat (first | exact Pk.nil _ | exact Pk.refl _ | refine Pk.cons 0 rfl ?_ | refine Pk.cons 1 rfl ?_ | refine Pk.cons 2 rfl ?_ | refine Pk.cons 3 rfl ?_ | refine Pk.cons 4 rfl ?_ | refine Pk.cons 5 rfl ?_ | refine Pk.cons 6 rfl ?_ | refine Pk.cons 7 rfl ?_ | refine Pk.cons 8 rfl ?_ | refine Pk.cons 9 rfl ?_ | refine Pk.cons 10 rfl ?_ | refine Pk.cons 11 rfl ?_ | refine Pk.cons 12 rfl ?_ | refine Pk.cons 13 rfl ?_ | refine Pk.drop ?_))).nilOwn tEnd 30)⟩ | ((have ei : i = f.lets.length := by omega); subst ei; exact ⟨la, lc, by (rw [plainM_ok (by assumption) hodd]; rfl), by (rw [plainM_ok (by assumption) hodd]; exact S.pk (by repeat (first | exact Pk.nil _ | exact Pk.refl _ | refine Pk.cons 0 rfl ?_ | refine Pk.cons 1 rfl ?_ | refine Pk.cons 2 rfl ?_ | refine Pk.cons 3 rfl ?_ | refine Pk.cons 4 rfl ?_ | refine Pk.cons 5 rfl ?_ | refine Pk.cons 6 rfl ?_ | refine Pk.cons 7 rfl ?_ | refine Pk.cons 8 rfl ?_ | refine Pk.cons 9 rfl ?_ | refine Pk.cons 10 rfl ?_ | refine Pk.cons 11 rfl ?_ | refine Pk.cons 12 rfl ?_ | refine Pk.cons 13 rfl ?_ | refine Pk.drop ?_)))⟩)
     ·
      have rh4 := h4
      (try simp only [Q1, Q2, Q3, Q4, Q5, Q6, Q7, Q8, Q9, Qa] at h4)
      refine W.skip ?_
      refine InB.nx ?_
      refine Then.nx ?_
      refine W.region rfl ?_
      first | refine WO.q (Y.addI rfl rfl (by omega)) ?_ | refine WO.q (Y.add rfl rfl) ?_
      refine WO.q (Y.move (v := .int .i64 _) rfl) ?_
      refine WO.nil ?_
      refine Then.nx ⟨?_, ?_, ?_⟩
      ·
       (repeat (first | exact Out.hav _ _ _ | exact Out.refl _ _ | refine Out.up rfl ?_ | refine Out.sub rfl ?_))
      ·
       exact ⟨i + 1, rfl, by omega, fun j x2 hj hx2 => by (by_cases hji : j < i; exact hall j x2 hji hx2; (have e : j = i := by omega); subst e; rw [hx] at hx2; obtain rfl := Option.some.inj hx2; exact decide_eq_false (by omega)), S.tl⟩
      ·
       (show f.lets.length - (i + 1) < f.lets.length - i; omega)
   ·
    have rh2 := h2
    (try simp only [Q1, Q2, Q3, Q4, Q5, Q6, Q7, Q8, Q9, Qa] at h2)
    refine W.exit ?_
    refine Then.x ?_
    refine Then.x ?_
    refine InB.e ?_
    refine Then.nx ?_
    refine W.seq ?_
    have hodd : f.lets.any odd = false := any_none (fun j x hx => hall j x (by (have := at_lt hx; omega)) hx)
    refine W.region rfl ?_
    refine WO.q (Y.assign (v := .slice _ _ _) rfl) ?_
    refine WO.nil ?_
    refine Then.nx ?_
    refine W.seq ?_
    refine W.seq ?_
    refine W.region rfl ?_
    refine WO.q (Y.fieldB fo_25_0 rfl) ?_
    first | refine WO.q (Y.load rfl (loadS1 sz_22 S 0 rfl rfl)) ?_ | refine WO.q (Y.load rfl (loadS1 sz_22 S 1 rfl rfl)) ?_ | refine WO.q (Y.load rfl (loadS1 sz_22 S 2 rfl rfl)) ?_ | refine WO.q (Y.load rfl (loadS1 sz_22 S 3 rfl rfl)) ?_ | refine WO.q (Y.load rfl (loadS1 sz_22 S 4 rfl rfl)) ?_
    refine WO.q (Y.len (t' := 0) Try.underlying22 rfl) ?_
    refine WO.q (Y.move (v := .int .i64 _) rfl) ?_
    refine WO.nil ?_
    refine Then.nx ?_
    refine W.block ?_
    -- loop 1 carries 10:l, 41
    refine W.loop2 [10, 12, 13, 41, 42, 43, 44, 45, 46, 47, 48, 49, 50, 51, 52, 53, 54, 55, 56, 57] 10 41 (fun v10 v41 w => ∃ (i : Nat) (la : Option Addr) (lc : Nat), v41 = .int .i64 (i : Int) ∧ v10 = .slice la (plainL f m i).length lc ∧ i ≤ f.lets.length ∧ Sat w0 w (Own tEnd 30 la lc (plainL f m i) :: Cel b3 (tMaker.enc m) 27 :: Cel b2 (fL v f) 25 :: L)) (fun v10 v41 w => f.lets.length - (intOf v41).toNat) ?_ ?_
    ·
     exact ⟨0, none, 0, rfl, rfl, Nat.zero_le _, S.nilOwn tEnd 30⟩
    ·
     rintro g1 v10 v41 w ⟨i, la, lc, rfl, rfl, hi, S⟩
     refine W.seq ?_
     refine W.region rfl ?_
     refine WO.q (Y.lss rfl rfl) ?_
     refine WO.nil ?_
     refine Then.nx ?_
     refine W.seq ?_
     refine W.cond rfl (fun h5 => ?_) (fun h5 => ?_) -- cond 3
     ·
      have rh5 := h5
      (try simp only [Q1, Q2, Q3, Q4, Q5, Q6, Q7, Q8, Q9, Qa] at h5)
      refine W.skip ?_
      refine Then.nx ?_
      refine W.seq ?_
      refine W.block ?_
      refine W.seq ?_
      have ha := R1.1 (by omega)
      obtain ⟨x, hx⟩ := at_ex (xs := f.lets) (k := i) (by omega)
      obtain ⟨ra, rc, hr, hrc, hrt⟩ := hraw.get hx
      obtain ⟨htr, hft, hot⟩ := checked2 (by assumption) hx
      have htl := htn i x hx
      obtain ⟨nd, hnd⟩ := at_ex (xs := x.tree) (k := 0) (by (rw [htr]; exact flat_pos _))
      have hrm := rootM_at hnd
      have hpl := plainL_len f m i
      refine W.region rfl ?_
      first | refine WO.q (Y.ixN sl_22 rfl rfl (by (first | assumption | rfl)) (by (first | assumption | omega))) ?_ | refine WO.q (Y.ix sl_22 rfl rfl (by (first | assumption | rfl)) (by (first | assumption | omega)) (by (first | assumption | omega))) ?_
      refine WO.q (Y.load rfl (loadRdN sz_51 (R1.ext S.ext) (by assumption))) ?_
      refine WO.e (O.alloc z_51 S (fun b12 w S => ?_))
      first | refine WO.e0 (O.store (v := .agg _) 0 S rfl rfl rfl sz_51 rfl rfl rfl rfl (fun w S => ?_)) | refine WO.e0 (O.store (v := .agg _) 1 S rfl rfl rfl sz_51 rfl rfl rfl rfl (fun w S => ?_)) | refine WO.e0 (O.store (v := .agg _) 2 S rfl rfl rfl sz_51 rfl rfl rfl rfl (fun w S => ?_)) | refine WO.e0 (O.store (v := .agg _) 3 S rfl rfl rfl sz_51 rfl rfl rfl rfl (fun w S => ?_)) | refine WO.e0 (O.store (v := .agg _) 4 S rfl rfl rfl sz_51 rfl rfl rfl rfl (fun w S => ?_))
      refine WO.nil ?_
      refine Then.nx ?_
      refine W.seq ?_
      refine W.region rfl ?_
      refine WO.q (Y.fieldB fo_51_1 rfl) ?_
      first | refine WO.q (Y.load rfl (loadS1 sz_49 S 0 rfl rfl)) ?_ | refine WO.q (Y.load rfl (loadS1 sz_49 S 1 rfl rfl)) ?_ | refine WO.q (Y.load rfl (loadS1 sz_49 S 2 rfl rfl)) ?_ | refine WO.q (Y.load rfl (loadS1 sz_49 S 3 rfl rfl)) ?_ | refine WO.q (Y.load rfl (loadS1 sz_49 S 4 rfl rfl)) ?_
      refine WO.q (Y.move (v := .slice _ _ _) rfl) ?_
      first | refine WO.q (Y.load rfl (loadSN sz_27 S 0 rfl rfl rfl)) ?_ | refine WO.q (Y.load rfl (loadSN sz_27 S 1 rfl rfl rfl)) ?_ | refine WO.q (Y.load rfl (loadSN sz_27 S 2 rfl rfl rfl)) ?_ | refine WO.q (Y.load rfl (loadSN sz_27 S 3 rfl rfl rfl)) ?_ | refine WO.q (Y.load rfl (loadSN sz_27 S 4 rfl rfl rfl)) ?_
      refine WO.q (Y.build rfl (bld_61_0_1_2)) ?_
      refine WO.e (O.box rfl rfl S (fun b50 w S => ?_))
      first | refine WO.q (Y.assign (v := .pointer (some _)) rfl) ?_ | refine WO.q (Y.assign (v := .pointer _) rfl) ?_
      refine WO.nil ?_
      refine Then.nx ?_
      refine W.region rfl ?_
      refine WO.q (Y.move (v := .slice _ _ _) rfl) ?_
      first | refine WO.q (Y.move (v := .pointer (some _)) rfl) ?_ | refine WO.q (Y.move (v := .pointer _) rfl) ?_
      refine WO.e (O.call cf_23 rfl (node_spec ((flat (treeOf x)).length + 1) _ b50 ⟨ra, rc, la, lc⟩ x.tree (plainL f m i) m 0 (treeOf x) [] (by omega) ⟨S.hasBlk 0 rfl (HasBlk.cel _ _ _), hrt.ext S.ext, S.rd 2 rfl, htl⟩ (by (rw [List.append_nil]; exact htr)) (okT_mono (by omega) hot) hft) ?_)
      rintro _ w ⟨rfl, E⟩
      replace S := S.keep E
      refine ⟨_, rfl, ?_⟩
      refine WO.e (O.endOf (o := evalT (plainL f m i) m (treeOf x)) endM1 endM2 (fun v => vend_spec _ v) (fun e => tend_spec _ e) rfl ?_)
      intro w E
      replace S := S.keep E
      first | refine WO.e (O.buildSlice rfl (buildOne sl_33 (by decide) rfl rfl) S (fun b55 w S => ?_)) | refine WO.e (O.buildSlice rfl (buildOne sl_33 (by decide) rfl (by simp)) S (fun b55 w S => ?_)) | refine WO.e (O.buildSlice rfl (bs_33_1_0) S (fun b55 w S => ?_))
      refine WO.e (O.append (T := tEnd) (ys := [(evalT (plainL f m i) m (treeOf x)).fin]) 3 sl_33 S rfl rfl rfl rfl (S.rd1 (T := tEnd) (x := (evalT (plainL f m i) m (treeOf x)).fin) 0 rfl) rfl (by (simp only [List.length_singleton]; omega)) (by (simp only [List.length_singleton, maxLen]; omega)) (fun a56 c56 w S hn56 => ?_))
      refine WO.q (Y.assign (v := .slice _ _ _) rfl) ?_
      refine WO.nil ?_
      refine InB.nx ?_
      refine Then.nx ?_
      refine W.region rfl ?_
      first | refine WO.q (Y.addI rfl rfl (by omega)) ?_ | refine WO.q (Y.add rfl rfl) ?_
      refine WO.q (Y.move (v := .int .i64 _) rfl) ?_
      refine WO.nil ?_
      refine Then.nx ⟨?_, ?_, ?_⟩
      ·
       (repeat (first | exact Out.hav _ _ _ | exact Out.refl _ _ | refine Out.up rfl ?_ | refine Out.sub rfl ?_))
      ·
       exact ⟨i + 1, a56, c56, rfl, by (rw [plainL_succ hx]; rfl), by omega, by (rw [plainL_succ hx]; exact S.pk (by repeat (first | exact Pk.nil _ | exact Pk.refl _ | refine Pk.cons 0 rfl ?_ | refine Pk.cons 1 rfl ?_ | refine Pk.cons 2 rfl ?_ | refine Pk.cons 3 rfl ?_ | refine Pk.cons 4 rfl ?_ | refine Pk.cons 5 rfl ?_ | refine Pk.cons 6 rfl ?_ | refine Pk.cons 7 rfl ?_ | refine Pk.cons 8 rfl ?_ | refine Pk.cons 9 rfl ?_ | refine Pk.cons 10 rfl ?_ | refine Pk.cons 11 rfl ?_ | refine Pk.cons 12 rfl ?_ | refine Pk.cons 13 rfl ?_ | refine Pk.drop ?_)))⟩
      ·
       (show f.lets.length - (i + 1) < f.lets.length - i; omega)
     ·
      have rh5 := h5
      (try simp only [Q1, Q2, Q3, Q4, Q5, Q6, Q7, Q8, Q9, Qa] at h5)
      refine W.exit ?_
      refine Then.x ?_
      refine Then.x ?_
      refine InB.e ?_
      refine Then.nx ?_
      refine W.seq ?_
      refine W.region rfl ?_
      refine WO.q (Y.move (v := .slice _ _ _) rfl) ?_
      refine WO.q (Y.assign (v := .slice _ _ _) rfl) ?_
      refine WO.q (Y.assign (v := .int .i64 _) rfl) ?_
      refine WO.nil ?_
      refine Then.nx ?_
      refine W.ret ?_
      refine BodyQ.ret2 Try.results7 (ResV.tmp _ rfl) (ResV.tmp _ rfl) ?_
      first | exact ⟨none, 0, by (rw [plainM_err (by assumption)]; rfl), by (rw [plainM_err (by assumption)]; exact (S.pk (by repeat (first | exact Pk.nil _ | exact Pk.refl _ | refine Pk.cons 0 rfl ?_ | refine Pk.cons 1 rfl ?_ | refine Pk.cons 2 rfl ?_ | refine Pk.cons 3 rfl ?_ | refine Pk.cons 4 rfl ?_ | refine Pk.cons 5 rfl ?_ | refine Pk.cons 6 rfl ?_ | refine Pk.cons 7 rfl ?_ | refine Pk.cons 8 rfl ?_ | refine Pk.cons 9 rfl ?_ | refine Pk.cons 10 rfl ?_ | refine Pk.cons 11 rfl ?_ | refine Pk.cons 12 rfl ?_ | refine Pk.cons 13 rfl ?_ | refine Pk.drop ?_))).nilOwn tEnd 30)⟩ | exact ⟨none, 0, by (rw [plainM_odd (by assumption) (any_at hx (decide_eq_true (by omega)))]; rfl), by (rw [plainM_odd (by assumption) (any_at hx (decide_eq_true (by omega)))]; exact (S.pk (by repeat (first | exact Pk.nil _ | exact Pk.refl _ | refine Pk.cons 0 rfl ?_ | refine Pk.cons 1 rfl ?_ | refine Pk.cons 2 rfl ?_ | refine Pk.cons 3 rfl ?_ | refine Pk.cons 4 rfl ?_ | refine Pk.cons 5 rfl ?_ | refine Pk.cons 6 rfl ?_ | refine Pk.cons 7 rfl ?_ | refine Pk.cons 8 rfl ?_ | refine Pk.cons 9 rfl ?_ | refine Pk.cons 10 rfl ?_ | refine Pk.cons 11 rfl ?_ | refine Pk.cons 12 rfl ?_ | refine Pk.cons 13 rfl ?_ | refine Pk.drop ?_))).nilOwn tEnd 30)⟩ | ((have ei : i = f.lets.length := by omega); subst ei; exact ⟨la, lc, by (rw [plainM_ok (by assumption) hodd]; rfl), by (rw [plainM_ok (by assumption) hodd]; exact S.pk (by repeat (first | exact Pk.nil _ | exact Pk.refl _ | refine Pk.cons 0 rfl ?_ | refine Pk.cons 1 rfl ?_ | refine Pk.cons 2 rfl ?_ | refine Pk.cons 3 rfl ?_ | refine Pk.cons 4 rfl ?_ | refine Pk.cons 5 rfl ?_ | refine Pk.cons 6 rfl ?_ | refine Pk.cons 7 rfl ?_ | refine Pk.cons 8 rfl ?_ | refine Pk.cons 9 rfl ?_ | refine Pk.cons 10 rfl ?_ | refine Pk.cons 11 rfl ?_ | refine Pk.cons 12 rfl ?_ | refine Pk.cons 13 rfl ?_ | refine Pk.drop ?_)))⟩)
end Go.Proofs
