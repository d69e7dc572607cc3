/-
  Walks of Levels.
-/
import Derived.Test.YtlnimgpfopaicaaGe
import Derived.Test.YtlnimgpfopaicaaGh
import Derived.Test.YtlnimgpfopaicaaSx
import Derived.Test.YtlnimgpfopaicaaFa
import Derived.Test.YtlnimgpfopaicaaFb
import Derived.Test.YtlnimgpfopaicaaWd
import Derived.Test.YtlnimgpfopaicaaUe
set_option linter.unusedVariables false
set_option linter.unusedSimpArgs false
set_option maxRecDepth 100000
set_option maxHeartbeats 1000000
namespace Go.Proofs
open Go Go.TL Go.RowKit
theorem Levels_spec (w0 : World) (v : FIn) (f : GFlow) (R : RdFlow w0 v f) :
    Calls Try.prog 12 [.agg (fL v f).toArray].toArray w0 (fun r w => ∃ a c, r = .returned (.tuple #[.slice a (levelsM f).1.length c, .int .i64 (levelsM f).2]) ∧ Sat w0 w [Own (tI .i64) 3 a c (levelsM f).1]) := by
 have S := Sat.refl w0
 have hR := R
 obtain ⟨⟨raws, R1, hraw⟩, Ro, hlc, hoc, hln, hon, htn⟩ := R
 have hrl := hraw.1
 refine calls_of_W (args := [.agg (fL v f).toArray]) 34 Try.func12 rfl Try.ntmps12 rfl ?_
 refine W.seq ?_
 refine W.region rfl ?_
 refine WO.e (O.box rfl rfl S (fun b1 w S => ?_))
 refine WO.q (Y.assign (v := .slice _ _ _) rfl) ?_
 refine WO.q (Y.assign (v := .int .i64 _) rfl) ?_
 refine WO.nil ?_
 refine Then.nx ?_
 refine W.seq ?_
 refine W.seq ?_
 refine W.region rfl ?_
 first | refine WO.q (Y.load rfl (loadSN sz_25 S 0 rfl rfl rfl)) ?_ | refine WO.q (Y.load rfl (loadSN sz_25 S 1 rfl rfl rfl)) ?_ | refine WO.q (Y.load rfl (loadSN sz_25 S 2 rfl rfl rfl)) ?_ | refine WO.q (Y.load rfl (loadSN sz_25 S 3 rfl rfl rfl)) ?_ | refine WO.q (Y.load rfl (loadSN sz_25 S 4 rfl rfl rfl)) ?_ | refine WO.q (Y.load rfl (loadSN sz_25 S 5 rfl rfl rfl)) ?_ | refine WO.q (Y.load rfl (loadSN sz_25 S 6 rfl rfl rfl)) ?_ | refine WO.q (Y.load rfl (loadSN sz_25 S 7 rfl rfl rfl)) ?_
 refine WO.e (O.call cf_21 rfl (Check_spec _ v f (hR.ext S.ext)) ?_)
 rintro _ w ⟨rfl, E⟩
 replace S := S.keep E
 refine ⟨_, rfl, ?_⟩
 refine WO.q (Y.move (v := .tuple _) rfl) ?_
 refine WO.q (Y.extract (v := .int .i64 _) rfl rfl) ?_
 refine WO.q (Y.extract (v := .int .i64 _) rfl rfl) ?_
 refine WO.q (Y.assign (v := .int .i64 _) rfl) ?_
 refine WO.q (Y.assign (v := .int .i64 _) rfl) ?_
 refine WO.nil ?_
 refine Then.nx ?_
 refine W.seq ?_
 refine W.region rfl ?_
 refine WO.q (Y.move (v := .int .i64 _) rfl) ?_
 refine WO.q (Y.neq rfl rfl) ?_
 refine WO.nil ?_
 refine Then.nx ?_
 refine W.cond rfl (fun h1 => ?_) (fun h1 => ?_) -- cond 0
 ·
  have rh1 := h1
  (try simp only [Q1, Q2, Q3, Q4, Q5, Q6, Q7, Q8, Q9, Qa] at h1)
  refine W.seq ?_
  refine W.region rfl ?_
  refine WO.q (Y.move (v := .int .i64 _) rfl) ?_
  refine WO.q (Y.assign (v := .slice _ _ _) rfl) ?_
  refine WO.q (Y.assign (v := .int .i64 _) rfl) ?_
  refine WO.nil ?_
  refine Then.nx ?_
  refine W.ret ?_
  refine Then.r ?_
  refine BodyQ.ret2 Try.results12 (ResV.tmp _ rfl) (ResV.tmp _ rfl) ?_
  first | exact ⟨none, 0, by (rw [levelsM_err (by assumption)]; rfl), by (rw [levelsM_err (by assumption)]; exact (S.pk (.nil _)).nilOwn (tI .i64) 3)⟩ | ((have ei : i = f.lets.length := by omega); subst ei; exact ⟨la, lc, by (rw [levelsM_ok (by assumption)]; rfl), by (rw [levelsM_ok (by assumption)]; exact S.pk (by repeat (first | exact Pk.nil _ | exact Pk.refl _ | refine Pk.cons 0 rfl ?_ | refine Pk.cons 1 rfl ?_ | refine Pk.cons 2 rfl ?_ | refine Pk.cons 3 rfl ?_ | refine Pk.cons 4 rfl ?_ | refine Pk.cons 5 rfl ?_ | refine Pk.cons 6 rfl ?_ | refine Pk.cons 7 rfl ?_ | refine Pk.cons 8 rfl ?_ | refine Pk.cons 9 rfl ?_ | refine Pk.cons 10 rfl ?_ | refine Pk.cons 11 rfl ?_ | refine Pk.cons 12 rfl ?_ | refine Pk.cons 13 rfl ?_ | refine Pk.drop ?_)))⟩)
 ·
  have rh1 := h1
  (try simp only [Q1, Q2, Q3, Q4, Q5, Q6, Q7, Q8, Q9, Qa] at h1)
  refine W.skip ?_
  refine Then.nx ?_
  refine W.seq ?_
  refine W.region rfl ?_
  refine WO.e (O.makeMap (fun n : Int => Value.int .i64 n) (fun n : Int => Value.int .i64 n) S (fun b18 w S => ?_))
  refine WO.e (O.alloc z_69 S (fun b6 w S => ?_))
  first | refine WO.e0 (O.store (v := .map _) 0 S rfl rfl rfl sz_69 rfl rfl rfl rfl (fun w S => ?_)) | refine WO.e0 (O.store (v := .map _) 1 S rfl rfl rfl sz_69 rfl rfl rfl rfl (fun w S => ?_)) | refine WO.e0 (O.store (v := .map _) 2 S rfl rfl rfl sz_69 rfl rfl rfl rfl (fun w S => ?_)) | refine WO.e0 (O.store (v := .map _) 3 S rfl rfl rfl sz_69 rfl rfl rfl rfl (fun w S => ?_)) | refine WO.e0 (O.store (v := .map _) 4 S rfl rfl rfl sz_69 rfl rfl rfl rfl (fun w S => ?_)) | refine WO.e0 (O.store (v := .map _) 5 S rfl rfl rfl sz_69 rfl rfl rfl rfl (fun w S => ?_)) | refine WO.e0 (O.store (v := .map _) 6 S rfl rfl rfl sz_69 rfl rfl rfl rfl (fun w S => ?_)) | refine WO.e0 (O.store (v := .map _) 7 S rfl rfl rfl sz_69 rfl rfl rfl rfl (fun w S => ?_))
  refine WO.nil ?_
  refine Then.nx ?_
  refine W.seq ?_
  refine W.region rfl ?_
  refine WO.e (O.alloc z_70 S (fun b7 w S => ?_))
  refine WO.nil ?_
  refine Then.nx ?_
  refine W.seq ?_
  refine W.region rfl ?_
  refine WO.q (Y.makeFunc rfl rfl) ?_
  first | refine WO.e0 (O.store (v := .func _ _ _) 0 S rfl rfl rfl sz_70 rfl rfl rfl rfl (fun w S => ?_)) | refine WO.e0 (O.store (v := .nilFunc) 0 S rfl rfl rfl sz_70 rfl rfl rfl rfl (fun w S => ?_)) | refine WO.e0 (O.store (v := .func _ _ _) 1 S rfl rfl rfl sz_70 rfl rfl rfl rfl (fun w S => ?_)) | refine WO.e0 (O.store (v := .nilFunc) 1 S rfl rfl rfl sz_70 rfl rfl rfl rfl (fun w S => ?_)) | refine WO.e0 (O.store (v := .func _ _ _) 2 S rfl rfl rfl sz_70 rfl rfl rfl rfl (fun w S => ?_)) | refine WO.e0 (O.store (v := .nilFunc) 2 S rfl rfl rfl sz_70 rfl rfl rfl rfl (fun w S => ?_)) | refine WO.e0 (O.store (v := .func _ _ _) 3 S rfl rfl rfl sz_70 rfl rfl rfl rfl (fun w S => ?_)) | refine WO.e0 (O.store (v := .nilFunc) 3 S rfl rfl rfl sz_70 rfl rfl rfl rfl (fun w S => ?_)) | refine WO.e0 (O.store (v := .func _ _ _) 4 S rfl rfl rfl sz_70 rfl rfl rfl rfl (fun w S => ?_)) | refine WO.e0 (O.store (v := .nilFunc) 4 S rfl rfl rfl sz_70 rfl rfl rfl rfl (fun w S => ?_)) | refine WO.e0 (O.store (v := .func _ _ _) 5 S rfl rfl rfl sz_70 rfl rfl rfl rfl (fun w S => ?_)) | refine WO.e0 (O.store (v := .nilFunc) 5 S rfl rfl rfl sz_70 rfl rfl rfl rfl (fun w S => ?_)) | refine WO.e0 (O.store (v := .func _ _ _) 6 S rfl rfl rfl sz_70 rfl rfl rfl rfl (fun w S => ?_)) | refine WO.e0 (O.store (v := .nilFunc) 6 S rfl rfl rfl sz_70 rfl rfl rfl rfl (fun w S => ?_)) | refine WO.e0 (O.store (v := .func _ _ _) 7 S rfl rfl rfl sz_70 rfl rfl rfl rfl (fun w S => ?_)) | refine WO.e0 (O.store (v := .nilFunc) 7 S rfl rfl rfl sz_70 rfl rfl rfl rfl (fun w S => ?_))
  refine WO.nil ?_
  refine Then.nx ?_
  refine W.seq ?_
  refine W.region rfl ?_
  refine WO.q (Y.assign (v := .slice _ _ _) rfl) ?_
  refine WO.nil ?_
  refine Then.nx ?_
  refine W.seq ?_
  refine W.seq ?_
  refine W.region rfl ?_
  refine WO.q (Y.fieldB fo_25_0 rfl) ?_
  first | refine WO.q (Y.load rfl (loadS1 sz_22 S 0 rfl rfl)) ?_ | refine WO.q (Y.load rfl (loadS1 sz_22 S 1 rfl rfl)) ?_ | refine WO.q (Y.load rfl (loadS1 sz_22 S 2 rfl rfl)) ?_ | refine WO.q (Y.load rfl (loadS1 sz_22 S 3 rfl rfl)) ?_ | refine WO.q (Y.load rfl (loadS1 sz_22 S 4 rfl rfl)) ?_ | refine WO.q (Y.load rfl (loadS1 sz_22 S 5 rfl rfl)) ?_ | refine WO.q (Y.load rfl (loadS1 sz_22 S 6 rfl rfl)) ?_ | refine WO.q (Y.load rfl (loadS1 sz_22 S 7 rfl rfl)) ?_
  refine WO.q (Y.len (t' := 0) Try.underlying22 rfl) ?_
  refine WO.q (Y.move (v := .int .i64 _) rfl) ?_
  refine WO.nil ?_
  refine Then.nx ?_
  refine W.block ?_
  -- loop 0 carries 8:l, 23
  refine W.loop2 [8, 9, 23, 24, 25, 26, 27, 28, 29, 30, 31, 32] 8 23 (fun v8 v23 w => ∃ (i : Nat) (la : Option Addr) (lc : Nat) (m : Int → Option Int), v23 = .int .i64 (i : Int) ∧ v8 = .slice la (levL f.lets i).length lc ∧ i ≤ f.lets.length ∧ (∀ (j : Nat) (u : Int), m (j : Int) = some u → u = levM f.lets j) ∧ Sat w0 w [Own (tI .i64) 3 la lc (levL f.lets i), MapF b18 (fun n : Int => Value.int .i64 n) (fun n : Int => Value.int .i64 n) m, Cel b6 [.map (some b18)] 69, Cel b1 (fL v f) 25, Cel b7 [.func (.func 27) #[] #[.pointer (some ⟨b6, 0, none⟩), .pointer (some ⟨b1, 0, none⟩), .pointer (some ⟨b7, 0, none⟩)]] 70]) (fun v8 v23 w => f.lets.length - (intOf v23).toNat) ?_ ?_
  ·
   exact ⟨0, none, 0, fun _ => none, rfl, rfl, Nat.zero_le _, (fun j u hu => by cases hu), (S.pk (by repeat (first | exact Pk.nil _ | exact Pk.refl _ | refine Pk.cons 0 rfl ?_ | refine Pk.cons 1 rfl ?_ | refine Pk.cons 2 rfl ?_ | refine Pk.cons 3 rfl ?_ | refine Pk.cons 4 rfl ?_ | refine Pk.cons 5 rfl ?_ | refine Pk.cons 6 rfl ?_ | refine Pk.cons 7 rfl ?_ | refine Pk.cons 8 rfl ?_ | refine Pk.cons 9 rfl ?_ | refine Pk.cons 10 rfl ?_ | refine Pk.cons 11 rfl ?_ | refine Pk.cons 12 rfl ?_ | refine Pk.cons 13 rfl ?_ | refine Pk.drop ?_))).nilOwn (tI .i64) 3⟩
  ·
   rintro g0 v8 v23 w ⟨i, la, lc, m, rfl, rfl, hi, hm, S⟩
   refine W.seq ?_
   refine W.region rfl ?_
   refine WO.q (Y.lss rfl rfl) ?_
   refine WO.nil ?_
   refine Then.nx ?_
   refine W.seq ?_
   refine W.cond rfl (fun h2 => ?_) (fun h2 => ?_) -- cond 1
   ·
    have rh2 := h2
    (try simp only [Q1, Q2, Q3, Q4, Q5, Q6, Q7, Q8, Q9, Qa] at h2)
    refine W.skip ?_
    refine Then.nx ?_
    refine W.seq ?_
    refine W.block ?_
    refine W.seq ?_
    refine W.region rfl ?_
    refine WO.q (Y.move (v := .int .i64 _) rfl) ?_
    refine WO.q (Y.assign (v := .int .i64 _) rfl) ?_
    refine WO.nil ?_
    refine Then.nx ?_
    refine W.region rfl ?_
    refine WO.q (Y.move (v := .slice _ _ _) rfl) ?_
    first | refine WO.q (Y.load rfl (loadS1 sz_70 S 0 rfl rfl)) ?_ | refine WO.q (Y.load rfl (loadS1 sz_70 S 1 rfl rfl)) ?_ | refine WO.q (Y.load rfl (loadS1 sz_70 S 2 rfl rfl)) ?_ | refine WO.q (Y.load rfl (loadS1 sz_70 S 3 rfl rfl)) ?_ | refine WO.q (Y.load rfl (loadS1 sz_70 S 4 rfl rfl)) ?_ | refine WO.q (Y.load rfl (loadS1 sz_70 S 5 rfl rfl)) ?_ | refine WO.q (Y.load rfl (loadS1 sz_70 S 6 rfl rfl)) ?_ | refine WO.q (Y.load rfl (loadS1 sz_70 S 7 rfl rfl)) ?_
    refine WO.q (Y.move (v := .int .i64 _) rfl) ?_
    refine WO.e (O.callV (fun args w => by kernel_rfl) rfl rfl (level_spec w0 v f hR (by assumption) b18 b6 b1 b7 (i + 1) _ [Own (tI .i64) 3 la lc (levL f.lets i)] i m (by omega) (by omega) hm (S.pk (by repeat (first | exact Pk.nil _ | exact Pk.refl _ | refine Pk.cons 0 rfl ?_ | refine Pk.cons 1 rfl ?_ | refine Pk.cons 2 rfl ?_ | refine Pk.cons 3 rfl ?_ | refine Pk.cons 4 rfl ?_ | refine Pk.cons 5 rfl ?_ | refine Pk.cons 6 rfl ?_ | refine Pk.cons 7 rfl ?_ | refine Pk.cons 8 rfl ?_ | refine Pk.cons 9 rfl ?_ | refine Pk.cons 10 rfl ?_ | refine Pk.cons 11 rfl ?_ | refine Pk.cons 12 rfl ?_ | refine Pk.cons 13 rfl ?_ | refine Pk.drop ?_)))) ?_)
    rintro _ w ⟨rfl, m3, hm3, S⟩
    refine ⟨_, rfl, ?_⟩
    have hll := levL_len f.lets i
    first | refine WO.e (O.buildSlice rfl (buildOne sl_23 (by decide) rfl rfl) S (fun b30 w S => ?_)) | refine WO.e (O.buildSlice rfl (buildOne sl_23 (by decide) rfl (by simp)) S (fun b30 w S => ?_)) | refine WO.e (O.buildSlice rfl (bs_23_1_0) S (fun b30 w S => ?_))
    refine WO.e (O.append (T := tI .i64) (ys := [levM f.lets i]) 5 sl_23 S rfl rfl rfl rfl (S.rd1 (T := tI .i64) (x := levM f.lets i) 0 rfl) rfl (by (simp only [List.length_singleton]; omega)) (by (simp only [List.length_singleton, maxLen]; omega)) (fun a31 c31 w S hn31 => ?_))
    refine WO.q (Y.assign (v := .slice _ _ _) rfl) ?_
    refine WO.nil ?_
    refine InB.nx ?_
    refine Then.nx ?_
    refine W.region rfl ?_
    first | refine WO.q (Y.addI rfl rfl (by omega)) ?_ | refine WO.q (Y.add rfl rfl) ?_
    refine WO.q (Y.move (v := .int .i64 _) rfl) ?_
    refine WO.nil ?_
    refine Then.nx ⟨?_, ?_, ?_⟩
    ·
     (repeat (first | exact Out.hav _ _ _ | exact Out.refl _ _ | refine Out.up rfl ?_ | refine Out.sub rfl ?_))
    ·
     (have e9 := levL_succ f.lets i); exact ⟨i + 1, a31, c31, m3, rfl, by (rw [e9]; rfl), by omega, hm3, by (rw [e9]; exact S.pk (by repeat (first | exact Pk.nil _ | exact Pk.refl _ | refine Pk.cons 0 rfl ?_ | refine Pk.cons 1 rfl ?_ | refine Pk.cons 2 rfl ?_ | refine Pk.cons 3 rfl ?_ | refine Pk.cons 4 rfl ?_ | refine Pk.cons 5 rfl ?_ | refine Pk.cons 6 rfl ?_ | refine Pk.cons 7 rfl ?_ | refine Pk.cons 8 rfl ?_ | refine Pk.cons 9 rfl ?_ | refine Pk.cons 10 rfl ?_ | refine Pk.cons 11 rfl ?_ | refine Pk.cons 12 rfl ?_ | refine Pk.cons 13 rfl ?_ | refine Pk.drop ?_)))⟩
    ·
     (show f.lets.length - (i + 1) < f.lets.length - i; omega)
   ·
    have rh2 := h2
    (try simp only [Q1, Q2, Q3, Q4, Q5, Q6, Q7, Q8, Q9, Qa] at h2)
    refine W.exit ?_
    refine Then.x ?_
    refine Then.x ?_
    refine InB.e ?_
    refine Then.nx ?_
    refine W.seq ?_
    refine W.region rfl ?_
    refine WO.q (Y.move (v := .slice _ _ _) rfl) ?_
    refine WO.q (Y.assign (v := .slice _ _ _) rfl) ?_
    refine WO.q (Y.assign (v := .int .i64 _) rfl) ?_
    refine WO.nil ?_
    refine Then.nx ?_
    refine W.ret ?_
    refine BodyQ.ret2 Try.results12 (ResV.tmp _ rfl) (ResV.tmp _ rfl) ?_
    first | exact ⟨none, 0, by (rw [levelsM_err (by assumption)]; rfl), by (rw [levelsM_err (by assumption)]; exact (S.pk (.nil _)).nilOwn (tI .i64) 3)⟩ | ((have ei : i = f.lets.length := by omega); subst ei; exact ⟨la, lc, by (rw [levelsM_ok (by assumption)]; rfl), by (rw [levelsM_ok (by assumption)]; exact S.pk (by repeat (first | exact Pk.nil _ | exact Pk.refl _ | refine Pk.cons 0 rfl ?_ | refine Pk.cons 1 rfl ?_ | refine Pk.cons 2 rfl ?_ | refine Pk.cons 3 rfl ?_ | refine Pk.cons 4 rfl ?_ | refine Pk.cons 5 rfl ?_ | refine Pk.cons 6 rfl ?_ | refine Pk.cons 7 rfl ?_ | refine Pk.cons 8 rfl ?_ | refine Pk.cons 9 rfl ?_ | refine Pk.cons 10 rfl ?_ | refine Pk.cons 11 rfl ?_ | refine Pk.cons 12 rfl ?_ | refine Pk.cons 13 rfl ?_ | refine Pk.drop ?_)))⟩)
end Go.Proofs
