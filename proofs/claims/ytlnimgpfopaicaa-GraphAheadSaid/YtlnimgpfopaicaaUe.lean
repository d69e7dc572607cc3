/-
  Walks of Check.
-/
import Derived.Test.YtlnimgpfopaicaaGb
import Derived.Test.YtlnimgpfopaicaaFa
import Derived.Test.YtlnimgpfopaicaaFb
import Derived.Test.YtlnimgpfopaicaaUd
set_option linter.unusedVariables false
set_option linter.unusedSimpArgs false
set_option maxRecDepth 100000
set_option maxHeartbeats 1000000
namespace Go.Proofs
open Go Go.TL Go.RowKit
theorem Check_spec (w0 : World) (v : FIn) (f : GFlow) (R : RdFlow w0 v f) :
    Calls Try.prog 21 [.agg (fL v f).toArray].toArray w0 (fun e w => e = .returned (.tuple #[.int .i64 (checkM f).1, .int .i64 (checkM f).2]) ∧ Ext w0 w) := by
 have S := Sat.refl w0
 obtain ⟨⟨raws, R1, hraw⟩, R2, hlc, hoc, hln, hon, htn⟩ := R
 have hrl := hraw.1
 refine calls_of_W (args := [.agg (fL v f).toArray]) 61 Try.func21 rfl Try.ntmps21 rfl ?_
 refine W.seq ?_
 refine W.region rfl ?_
 refine WO.e (O.box rfl rfl S (fun b1 w S => ?_))
 refine WO.q (Y.assign (v := .int .i64 _) rfl) ?_
 refine WO.q (Y.assign (v := .int .i64 _) rfl) ?_
 refine WO.nil ?_
 refine Then.nx ?_
 refine W.seq ?_
 refine W.region rfl ?_
 refine WO.e (O.makeMap (fun s : ByteArray => Value.string s) (fun b : Bool => Value.bool b) S (fun b10 w S => ?_))
 refine WO.q (Y.assign (v := .map _) rfl) ?_
 refine WO.nil ?_
 refine Then.nx ?_
 refine W.seq ?_
 refine W.seq ?_
 refine W.region rfl ?_
 refine WO.q (Y.fieldB fo_25_0 rfl) ?_
 first | refine WO.q (Y.load rfl (loadS1 sz_22 S 0 rfl rfl)) ?_ | refine WO.q (Y.load rfl (loadS1 sz_22 S 1 rfl rfl)) ?_ | refine WO.q (Y.load rfl (loadS1 sz_22 S 2 rfl rfl)) ?_
 refine WO.q (Y.len (t' := 0) Try.underlying22 rfl) ?_
 refine WO.q (Y.move (v := .int .i64 _) rfl) ?_
 refine WO.nil ?_
 refine Then.nx ?_
 refine W.block ?_
 -- loop 0 carries 14
 refine W.loop1 [2, 3, 5, 6, 7, 14, 15, 16, 17, 18, 19, 20, 21, 22, 23, 24, 25, 26, 27, 28, 29, 30] 14 (fun v14 w => ∃ (i : Nat) (m : ByteArray → Option Bool), v14 = .int .i64 (i : Int) ∧ i ≤ f.lets.length ∧ (∀ j, j < i → badLet f.lets j = 0) ∧ (∀ s, (m s).getD false = namesOf f.lets i s) ∧ Sat w0 w [MapF b10 (fun s : ByteArray => Value.string s) (fun b : Bool => Value.bool b) m, Cel b1 (fL v f) 25]) (fun v14 w => f.lets.length - (intOf v14).toNat) ?_ ?_
 ·
  exact ⟨0, fun _ => none, rfl, Nat.zero_le _, fun j hj => absurd hj (by omega), fun s => (namesOf_zero _ s).symm, S⟩
 ·
  rintro g0 v14 w ⟨i, m, rfl, hi, hb, hm, S⟩
  refine W.seq ?_
  refine W.region rfl ?_
  refine WO.q (Y.lss rfl rfl) ?_
  refine WO.nil ?_
  refine Then.nx ?_
  refine W.seq ?_
  refine W.cond rfl (fun h1 => ?_) (fun h1 => ?_) -- cond 0
  ·
   have rh1 := h1
   (try simp only [Q1, Q2, Q3, Q4, Q5, Q6, Q7, Q8, Q9, Qa] at h1)
   refine W.skip ?_
   refine Then.nx ?_
   refine W.seq ?_
   refine W.block ?_
   refine W.seq ?_
   have ha := R1.1 (by omega)
   obtain ⟨x, hx⟩ := at_ex (xs := f.lets) (k := i) (by omega)
   obtain ⟨ra, rc, hr, hrc, hrt⟩ := hraw.get hx
   refine W.region rfl ?_
   refine WO.q (Y.move (v := .int .i64 _) rfl) ?_
   first | refine WO.q (Y.ixN sl_22 rfl rfl (by (first | assumption | rfl)) (by (first | assumption | omega))) ?_ | refine WO.q (Y.ix sl_22 rfl rfl (by (first | assumption | rfl)) (by (first | assumption | omega)) (by (first | assumption | omega))) ?_
   first | refine WO.q (Y.load rfl (loadRdN sz_51 (R1.ext S.ext) (by assumption))) ?_ | refine WO.q (Y.load rfl (loadRdN sz_51 (R2.ext S.ext) (by assumption))) ?_
   refine WO.e (O.alloc z_51 S (fun b6 w S => ?_))
   refine WO.q (Y.assign (v := .int .i64 _) rfl) ?_
   first | refine WO.e0 (O.store (v := .agg _) 0 S rfl rfl rfl sz_51 rfl rfl rfl rfl (fun w S => ?_)) | refine WO.e0 (O.store (v := .agg _) 1 S rfl rfl rfl sz_51 rfl rfl rfl rfl (fun w S => ?_)) | refine WO.e0 (O.store (v := .agg _) 2 S rfl rfl rfl sz_51 rfl rfl rfl rfl (fun w S => ?_))
   refine WO.nil ?_
   refine Then.nx ?_
   refine W.seq ?_
   refine W.seq ?_
   refine W.region rfl ?_
   first | refine WO.q (Y.load rfl (loadSN sz_51 S 0 rfl rfl rfl)) ?_ | refine WO.q (Y.load rfl (loadSN sz_51 S 1 rfl rfl rfl)) ?_ | refine WO.q (Y.load rfl (loadSN sz_51 S 2 rfl rfl rfl)) ?_
   refine WO.q (Y.move (v := .int .i64 _) rfl) ?_
   refine WO.q (Y.move (v := .map _) rfl) ?_
   refine WO.e (O.call cf_31 rfl (sound_spec w0 _ x ra rc i b10 m (namesOf f.lets i) _ hm hrc (htn i x hx) hrt (S.pk (.cons 1 rfl (.refl _)))) ?_)
   rintro _ w ⟨rfl, S⟩
   refine ⟨_, rfl, ?_⟩
   refine WO.q (Y.assign (v := .int .i64 _) rfl) ?_
   refine WO.nil ?_
   refine Then.nx ?_
   refine W.seq ?_
   refine W.region rfl ?_
   refine WO.q (Y.move (v := .int .i64 _) rfl) ?_
   refine WO.q (Y.neq rfl rfl) ?_
   refine WO.nil ?_
   refine Then.nx ?_
   refine W.cond rfl (fun h2 => ?_) (fun h2 => ?_) -- cond 1
   ·
    have rh2 := h2
    (try simp only [Q1, Q2, Q3, Q4, Q5, Q6, Q7, Q8, Q9, Qa] at h2)
    refine W.seq ?_
    refine W.region rfl ?_
    refine WO.q (Y.move (v := .int .i64 _) rfl) ?_
    refine WO.q (Y.move (v := .int .i64 _) rfl) ?_
    refine WO.q (Y.assign (v := .int .i64 _) rfl) ?_
    refine WO.q (Y.assign (v := .int .i64 _) rfl) ?_
    refine WO.nil ?_
    refine Then.nx ?_
    refine W.ret ?_
    refine Then.r ?_
    refine InB.r ?_
    refine Then.r ?_
    refine Then.r ?_
    refine InB.r ?_
    refine Then.r ?_
    refine BodyQ.ret2 Try.results21 (ResV.tmp _ rfl) (ResV.tmp _ rfl) ?_
    refine ⟨?_, S.ext⟩; show Ending.returned (.tuple #[.int .i64 _, .int .i64 _]) = _; first | rw [checkM_let hb (by omega) (by (rw [badLet_at hx]; assumption)), badLet_at hx] | rw [checkM_out hlets hb2 (by omega) (by (rw [badOut_many (by omega)]; decide)), badOut_many (by omega)] | rw [checkM_out hlets hb2 (by omega) (by (rw [badOut_bad (by omega) hn (by omega)]; decide)), badOut_bad (by omega) hn (by omega)] | rw [checkM_ok hlets (fun j hj => hb2 j (by omega))]
   ·
    have rh2 := h2
    (try simp only [Q1, Q2, Q3, Q4, Q5, Q6, Q7, Q8, Q9, Qa] at h2)
    refine W.skip ?_
    refine Then.nx ?_
    refine W.region rfl ?_
    refine WO.q (Y.move (v := .map _) rfl) ?_
    refine WO.q (Y.fieldB fo_51_0 rfl) ?_
    first | refine WO.q (Y.load rfl (loadS1 sz_9 S 0 rfl rfl)) ?_ | refine WO.q (Y.load rfl (loadS1 sz_9 S 1 rfl rfl)) ?_ | refine WO.q (Y.load rfl (loadS1 sz_9 S 2 rfl rfl)) ?_
    refine WO.e0 (O.mapUpdate x.name true Try.underlying76 (keyStr Try.underlying9) 0 S rfl rfl rfl rfl (fun w S => ?_))
    refine WO.nil ?_
    refine InB.nx ?_
    refine Then.nx ?_
    refine W.region rfl ?_
    first | refine WO.q (Y.addI rfl rfl (by omega)) ?_ | refine WO.q (Y.add rfl rfl) ?_
    refine WO.q (Y.move (v := .int .i64 _) rfl) ?_
    refine WO.nil ?_
    refine Then.nx ⟨?_, ?_, ?_⟩
    ·
     (repeat (first | exact Out.hav _ _ _ | exact Out.refl _ _ | refine Out.up rfl ?_ | refine Out.sub rfl ?_))
    ·
     exact ⟨i + 1, _, rfl, by omega, fun j hj => by (by_cases hji : j < i; exact hb j hji; (have e : j = i := by omega); subst e; rw [badLet_at hx]; assumption), namesOf_succ hm hx, S.pk (.cons 0 rfl (.cons 1 rfl (.nil _)))⟩
    ·
     (show f.lets.length - (i + 1) < f.lets.length - i; omega)
  ·
   have rh1 := h1
   (try simp only [Q1, Q2, Q3, Q4, Q5, Q6, Q7, Q8, Q9, Qa] at h1)
   refine W.exit ?_
   refine Then.x ?_
   refine Then.x ?_
   refine InB.e ?_
   refine Then.nx ?_
   refine W.seq ?_
   refine W.seq ?_
   have hlets : ∀ j, j < f.lets.length → badLet f.lets j = 0 := fun j hj => hb j (by omega)
   refine W.region rfl ?_
   refine WO.q (Y.fieldB fo_25_1 rfl) ?_
   first | refine WO.q (Y.load rfl (loadS1 sz_23 S 0 rfl rfl)) ?_ | refine WO.q (Y.load rfl (loadS1 sz_23 S 1 rfl rfl)) ?_ | refine WO.q (Y.load rfl (loadS1 sz_23 S 2 rfl rfl)) ?_
   refine WO.q (Y.len (t' := 0) Try.underlying23 rfl) ?_
   refine WO.q (Y.move (v := .int .i64 _) rfl) ?_
   refine WO.nil ?_
   refine Then.nx ?_
   refine W.block ?_
   -- loop 1 carries 34
   refine W.loop1 [2, 3, 8, 9, 34, 35, 36, 37, 38, 39, 40, 41, 42, 43, 44, 45, 46, 47, 48, 49, 50, 51, 52, 53, 54, 55, 56, 57, 58, 59, 60] 34 (fun v34 w => ∃ i : Nat, v34 = .int .i64 (i : Int) ∧ i ≤ f.outs.length ∧ (∀ j, j < i → badOut f j = 0) ∧ Sat w0 w [MapF b10 (fun s : ByteArray => Value.string s) (fun b : Bool => Value.bool b) m, Cel b1 (fL v f) 25]) (fun v34 w => f.outs.length - (intOf v34).toNat) ?_ ?_
   ·
    exact ⟨0, rfl, Nat.zero_le _, fun j hj => absurd hj (by omega), S⟩
   ·
    rintro g1 v34 w ⟨i, rfl, hi, hb2, S⟩
    refine W.seq ?_
    refine W.region rfl ?_
    refine WO.q (Y.lss rfl rfl) ?_
    refine WO.nil ?_
    refine Then.nx ?_
    refine W.seq ?_
    refine W.cond rfl (fun h3 => ?_) (fun h3 => ?_) -- cond 2
    ·
     have rh3 := h3
     (try simp only [Q1, Q2, Q3, Q4, Q5, Q6, Q7, Q8, Q9, Qa] at h3)
     refine W.skip ?_
     refine Then.nx ?_
     refine W.seq ?_
     refine W.block ?_
     refine W.seq ?_
     have ha := R2.1 (by omega)
     obtain ⟨n, hn⟩ := at_ex (xs := f.outs) (k := i) (by omega)
     refine W.region rfl ?_
     refine WO.q (Y.move (v := .int .i64 _) rfl) ?_
     first | refine WO.q (Y.ixN sl_23 rfl rfl (by (first | assumption | rfl)) (by (first | assumption | omega))) ?_ | refine WO.q (Y.ix sl_23 rfl rfl (by (first | assumption | rfl)) (by (first | assumption | omega)) (by (first | assumption | omega))) ?_
     first | refine WO.q (Y.load rfl (loadRd1 sz_3 (R1.ext S.ext) (by assumption) rfl)) ?_ | refine WO.q (Y.load rfl (loadRd1 sz_3 (R2.ext S.ext) (by assumption) rfl)) ?_
     refine WO.q (Y.assign (v := .int .i64 _) rfl) ?_
     refine WO.q (Y.assign (v := .int .i64 _) rfl) ?_
     refine WO.nil ?_
     refine Then.nx ?_
     refine W.seq ?_
     refine W.seq ?_
     refine W.region rfl ?_
     refine WO.q (Y.move (v := .int .i64 _) rfl) ?_
     refine WO.q (Y.geq rfl rfl) ?_
     refine WO.nil ?_
     refine Then.nx ?_
     refine W.cond rfl (fun h4 => ?_) (fun h4 => ?_) -- cond 3
     ·
      have rh4 := h4
      (try simp only [Q1, Q2, Q3, Q4, Q5, Q6, Q7, Q8, Q9, Qa] at h4)
      refine W.seq ?_
      refine W.draw (.q 0 (.q 1 (.q 2 (.q 3 (.q 4 (.q 5 (.q 6 .nil))))))) (fun w => Sat _ w _) rfl rfl (by kernel_rfl) rfl (by kernel_rfl) (by repeat (first | exact BodyQ.noFrame | refine Then.noFrame ?_ | refine InB.noFrame ?_)) S.drew ?_
      clear S
      refine Plan.q rfl (fun w S => Y.fieldB fo_25_0 rfl) ?_
      first | refine Plan.q rfl (fun w S => Y.load rfl (loadS1 sz_22 S 0 rfl rfl)) ?_ | refine Plan.q rfl (fun w S => Y.load rfl (loadS1 sz_22 S 1 rfl rfl)) ?_ | refine Plan.q rfl (fun w S => Y.load rfl (loadS1 sz_22 S 2 rfl rfl)) ?_
      refine Plan.q rfl (fun w S => Y.len (t' := 0) Try.underlying22 rfl) ?_
      refine Plan.q rfl (fun w S => Y.move (v := .int .i64 _) rfl) ?_
      first | refine Plan.q rfl (fun w S => Y.addI rfl rfl (by omega)) ?_ | refine Plan.q rfl (fun w S => Y.add rfl rfl) ?_
      refine Plan.q rfl (fun w S => Y.assign (v := .int .i64 _) rfl) ?_
      refine Plan.q rfl (fun w S => Y.assign (v := .int .i64 _) rfl) ?_
      refine Plan.nil (fun w S => ?_)
      replace S : Sat _ _ _ := S
      refine Then.nx ?_
      refine W.ret ?_
      refine Then.r ?_
      refine InB.r ?_
      refine Then.r ?_
      refine Then.r ?_
      refine InB.r ?_
      refine Then.r ?_
      refine BodyQ.ret2 Try.results21 (ResV.tmp _ rfl) (ResV.tmp _ rfl) ?_
      refine ⟨?_, S.ext⟩; show Ending.returned (.tuple #[.int .i64 _, .int .i64 _]) = _; first | rw [checkM_let hb (by omega) (by (rw [badLet_at hx]; assumption)), badLet_at hx] | rw [checkM_out hlets hb2 (by omega) (by (rw [badOut_many (by omega)]; decide)), badOut_many (by omega)] | rw [checkM_out hlets hb2 (by omega) (by (rw [badOut_bad (by omega) hn (by omega)]; decide)), badOut_bad (by omega) hn (by omega)] | rw [checkM_ok hlets (fun j hj => hb2 j (by omega))]
     ·
      have rh4 := h4
      (try simp only [Q1, Q2, Q3, Q4, Q5, Q6, Q7, Q8, Q9, Qa] at h4)
      refine W.skip ?_
      refine Then.nx ?_
      refine W.seq ?_
      refine W.region rfl ?_
      refine WO.q (Y.move (v := .int .i64 _) rfl) ?_
      refine WO.q (Y.lss rfl rfl) ?_
      refine WO.q (Y.move (v := .bool _) rfl) ?_
      refine WO.splitB (fun h5 => ?_) (fun h5 => ?_)
      ·
       (try simp only [Q1, Q2, Q3, Q4, Q5, Q6, Q7, Q8, Q9, Qa] at h5)
       refine WO.qF rfl ?_
       refine WO.qF rfl ?_
       refine WO.qF rfl ?_
       refine WO.qF rfl ?_
       refine WO.qF rfl ?_
       refine WO.q (Y.pickT (u := .bool _) rfl rfl) ?_
       refine WO.nil ?_
       refine Then.nx ?_
       first | refine W.condT rfl ?_ | refine W.condT (congrArg Value.bool (by assumption)) ?_
       refine W.seq ?_
       refine W.draw (.q 0 (.q 1 (.q 2 (.q 3 (.q 4 (.q 5 (.q 6 .nil))))))) (fun w => Sat _ w _) rfl rfl (by kernel_rfl) rfl (by kernel_rfl) (by repeat (first | exact BodyQ.noFrame | refine Then.noFrame ?_ | refine InB.noFrame ?_)) S.drew ?_
       clear S
       refine Plan.q rfl (fun w S => Y.fieldB fo_25_0 rfl) ?_
       first | refine Plan.q rfl (fun w S => Y.load rfl (loadS1 sz_22 S 0 rfl rfl)) ?_ | refine Plan.q rfl (fun w S => Y.load rfl (loadS1 sz_22 S 1 rfl rfl)) ?_ | refine Plan.q rfl (fun w S => Y.load rfl (loadS1 sz_22 S 2 rfl rfl)) ?_
       refine Plan.q rfl (fun w S => Y.len (t' := 0) Try.underlying22 rfl) ?_
       refine Plan.q rfl (fun w S => Y.move (v := .int .i64 _) rfl) ?_
       first | refine Plan.q rfl (fun w S => Y.addI rfl rfl (by omega)) ?_ | refine Plan.q rfl (fun w S => Y.add rfl rfl) ?_
       refine Plan.q rfl (fun w S => Y.assign (v := .int .i64 _) rfl) ?_
       refine Plan.q rfl (fun w S => Y.assign (v := .int .i64 _) rfl) ?_
       refine Plan.nil (fun w S => ?_)
       replace S : Sat _ _ _ := S
       refine Then.nx ?_
       refine W.ret ?_
       refine InB.r ?_
       refine Then.r ?_
       refine Then.r ?_
       refine InB.r ?_
       refine Then.r ?_
       refine BodyQ.ret2 Try.results21 (ResV.tmp _ rfl) (ResV.tmp _ rfl) ?_
       refine ⟨?_, S.ext⟩; show Ending.returned (.tuple #[.int .i64 _, .int .i64 _]) = _; first | rw [checkM_let hb (by omega) (by (rw [badLet_at hx]; assumption)), badLet_at hx] | rw [checkM_out hlets hb2 (by omega) (by (rw [badOut_many (by omega)]; decide)), badOut_many (by omega)] | rw [checkM_out hlets hb2 (by omega) (by (rw [badOut_bad (by omega) hn (by omega)]; decide)), badOut_bad (by omega) hn (by omega)] | rw [checkM_ok hlets (fun j hj => hb2 j (by omega))]
      ·
       (try simp only [Q1, Q2, Q3, Q4, Q5, Q6, Q7, Q8, Q9, Qa] at h5)
       refine WO.qT rfl (Y.move (v := .int .i64 _) rfl) ?_
       refine WO.qT rfl (Y.fieldB fo_25_0 rfl) ?_
       first | refine WO.qT rfl (Y.load rfl (loadS1 sz_22 S 0 rfl rfl)) ?_ | refine WO.qT rfl (Y.load rfl (loadS1 sz_22 S 1 rfl rfl)) ?_ | refine WO.qT rfl (Y.load rfl (loadS1 sz_22 S 2 rfl rfl)) ?_
       refine WO.qT rfl (Y.len (t' := 0) Try.underlying22 rfl) ?_
       refine WO.qT rfl (Y.geq rfl rfl) ?_
       refine WO.q (Y.pickF (u := .bool _) rfl rfl) ?_
       refine WO.nil ?_
       refine Then.nx ?_
       refine W.cond rfl (fun h6 => ?_) (fun h6 => ?_) -- cond 4
       ·
        have rh6 := h6
        (try simp only [Q1, Q2, Q3, Q4, Q5, Q6, Q7, Q8, Q9, Qa] at h6)
        refine W.seq ?_
        refine W.draw (.q 0 (.q 1 (.q 2 (.q 3 (.q 4 (.q 5 (.q 6 .nil))))))) (fun w => Sat _ w _) rfl rfl (by kernel_rfl) rfl (by kernel_rfl) (by repeat (first | exact BodyQ.noFrame | refine Then.noFrame ?_ | refine InB.noFrame ?_)) S.drew ?_
        clear S
        refine Plan.q rfl (fun w S => Y.fieldB fo_25_0 rfl) ?_
        first | refine Plan.q rfl (fun w S => Y.load rfl (loadS1 sz_22 S 0 rfl rfl)) ?_ | refine Plan.q rfl (fun w S => Y.load rfl (loadS1 sz_22 S 1 rfl rfl)) ?_ | refine Plan.q rfl (fun w S => Y.load rfl (loadS1 sz_22 S 2 rfl rfl)) ?_
        refine Plan.q rfl (fun w S => Y.len (t' := 0) Try.underlying22 rfl) ?_
        refine Plan.q rfl (fun w S => Y.move (v := .int .i64 _) rfl) ?_
        first | refine Plan.q rfl (fun w S => Y.addI rfl rfl (by omega)) ?_ | refine Plan.q rfl (fun w S => Y.add rfl rfl) ?_
        refine Plan.q rfl (fun w S => Y.assign (v := .int .i64 _) rfl) ?_
        refine Plan.q rfl (fun w S => Y.assign (v := .int .i64 _) rfl) ?_
        refine Plan.nil (fun w S => ?_)
        replace S : Sat _ _ _ := S
        refine Then.nx ?_
        refine W.ret ?_
        refine InB.r ?_
        refine Then.r ?_
        refine Then.r ?_
        refine InB.r ?_
        refine Then.r ?_
        refine BodyQ.ret2 Try.results21 (ResV.tmp _ rfl) (ResV.tmp _ rfl) ?_
        refine ⟨?_, S.ext⟩; show Ending.returned (.tuple #[.int .i64 _, .int .i64 _]) = _; first | rw [checkM_let hb (by omega) (by (rw [badLet_at hx]; assumption)), badLet_at hx] | rw [checkM_out hlets hb2 (by omega) (by (rw [badOut_many (by omega)]; decide)), badOut_many (by omega)] | rw [checkM_out hlets hb2 (by omega) (by (rw [badOut_bad (by omega) hn (by omega)]; decide)), badOut_bad (by omega) hn (by omega)] | rw [checkM_ok hlets (fun j hj => hb2 j (by omega))]
       ·
        have rh6 := h6
        (try simp only [Q1, Q2, Q3, Q4, Q5, Q6, Q7, Q8, Q9, Qa] at h6)
        refine W.skip ?_
        refine InB.nx ?_
        refine Then.nx ?_
        refine W.region rfl ?_
        first | refine WO.q (Y.addI rfl rfl (by omega)) ?_ | refine WO.q (Y.add rfl rfl) ?_
        refine WO.q (Y.move (v := .int .i64 _) rfl) ?_
        refine WO.nil ?_
        refine Then.nx ⟨?_, ?_, ?_⟩
        ·
         (repeat (first | exact Out.hav _ _ _ | exact Out.refl _ _ | refine Out.up rfl ?_ | refine Out.sub rfl ?_))
        ·
         exact ⟨i + 1, rfl, by omega, fun j hj => by (by_cases hji : j < i; exact hb2 j hji; (have e : j = i := by omega); subst e; exact badOut_ok (by omega) hn (by omega)), S⟩
        ·
         (show f.outs.length - (i + 1) < f.outs.length - i; omega)
    ·
     have rh3 := h3
     (try simp only [Q1, Q2, Q3, Q4, Q5, Q6, Q7, Q8, Q9, Qa] at h3)
     refine W.exit ?_
     refine Then.x ?_
     refine Then.x ?_
     refine InB.e ?_
     refine Then.nx ?_
     refine W.seq ?_
     refine W.region rfl ?_
     refine WO.q (Y.assign (v := .int .i64 _) rfl) ?_
     refine WO.q (Y.assign (v := .int .i64 _) rfl) ?_
     refine WO.nil ?_
     refine Then.nx ?_
     refine W.ret ?_
     refine BodyQ.ret2 Try.results21 (ResV.tmp _ rfl) (ResV.tmp _ rfl) ?_
     refine ⟨?_, S.ext⟩; show Ending.returned (.tuple #[.int .i64 _, .int .i64 _]) = _; first | rw [checkM_let hb (by omega) (by (rw [badLet_at hx]; assumption)), badLet_at hx] | rw [checkM_out hlets hb2 (by omega) (by (rw [badOut_many (by omega)]; decide)), badOut_many (by omega)] | rw [checkM_out hlets hb2 (by omega) (by (rw [badOut_bad (by omega) hn (by omega)]; decide)), badOut_bad (by omega) hn (by omega)] | rw [checkM_ok hlets (fun j hj => hb2 j (by omega))]
end Go.Proofs
