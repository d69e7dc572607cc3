/-
  Walks of rRaces, rOnce.
-/
import Derived.Test.YticopppiogophaaDoorTv
import Derived.Test.YticopppiogophaaDoorTp
import Derived.Test.YticopppiogophaaDoorSx
import Derived.Test.YticopppiogophaaDoorFa
import Derived.Test.YticopppiogophaaDoorFb
import Derived.Test.YticopppiogophaaDoorFc
import Derived.Test.YticopppiogophaaDoorUb
import Derived.Test.YticopppiogophaaDoorUc
set_option linter.unusedVariables false
set_option linter.unusedSimpArgs false
set_option maxRecDepth 100000
set_option maxHeartbeats 1000000
namespace Go.Proofs
open Go Go.TL Go.RowKit
theorem rRaces_spec (w0 : World) (a : Option Addr) (c : Nat) (l : List Access) (R1 : Rd tAccess w0 a l) (hx : l.length ≤ 4096) :
    Calls Tryd.prog 35 [.slice a l.length c].toArray w0 (fun e w => ∃ a' c', e = .returned (.tuple #[.slice a' (racesR l).length c', .int .i64 (mayE l)]) ∧ Sat w0 w [Own tRace 87 a' c' (racesR l)]) := by
 have S := Sat.refl w0
 refine calls_of_W (args := [.slice a l.length c]) 88 Tryd.func35 rfl Tryd.ntmps35 rfl ?_
 refine W.seq ?_
 refine W.region rfl ?_
 refine WO.q (Y.assign (v := .slice _ _ _) rfl) ?_
 refine WO.q (Y.assign (v := .int .i64 _) rfl) ?_
 refine WO.nil ?_
 refine Then.nx ?_
 refine W.seq ?_
 refine W.seq ?_
 refine W.region rfl ?_
 refine WO.q (Y.move (v := .slice _ _ _) rfl) ?_
 refine WO.e (O.call cf_66 rfl (rMay_spec _ a c l (R1.ext S.ext) (by omega)) ?_)
 rintro _ w ⟨rfl, E⟩
 replace S := S.keep E
 refine ⟨_, rfl, ?_⟩
 refine WO.q (Y.not rfl) ?_
 refine WO.nil ?_
 refine Then.nx ?_
 refine W.cond rfl (fun h1 => ?_) (fun h1 => ?_) -- cond 0
 ·
  have rh1 := h1
  (try simp only [Q1, Q2, Q3, Q4, Q5, Q6, Q7, Q8, Q9, Qa] at h1)
  refine W.seq ?_
  refine W.region rfl ?_
  refine WO.q (Y.assign (v := .slice _ _ _) rfl) ?_
  refine WO.q (Y.assign (v := .int .i64 _) rfl) ?_
  refine WO.nil ?_
  refine Then.nx ?_
  refine W.ret ?_
  refine Then.r ?_
  refine BodyQ.ret2 Tryd.results35 (ResV.tmp _ rfl) (ResV.tmp _ rfl) ?_
  first | (obtain ⟨e1, e2⟩ := races_no (l := l) (by assumption); rw [e1, e2]; exact ⟨none, 0, rfl, S.nilOwn tRace 87⟩) | (obtain ⟨e1, e2⟩ := races_yes (l := l) (by assumption); have e : b = l.length := (by omega); subst e; have e3 : refOut l l.length = races l := refOut_eq l l.length (Nat.le_refl _); rw [e3] at S ⊢; rw [e1, e2]; exact ⟨ao, co, rfl, S.pk (.cons 0 rfl (.nil _))⟩)
 ·
  have rh1 := h1
  (try simp only [Q1, Q2, Q3, Q4, Q5, Q6, Q7, Q8, Q9, Qa] at h1)
  refine W.skip ?_
  refine Then.nx ?_
  refine W.seq ?_
  refine W.region rfl ?_
  refine WO.q (Y.move (v := .slice _ _ _) rfl) ?_
  refine WO.e (O.call cf_67 rfl (All_spec _ a c l (R1.ext S.ext) hx (by assumption)) ?_)
  rintro _ w ⟨a12, c12, outs, P, rfl, hol, hrw, S2⟩
  replace S := S.trans S2
  refine ⟨_, rfl, ?_⟩
  refine WO.q (Y.assign (v := .slice _ _ _) rfl) ?_
  refine WO.nil ?_
  refine Then.nx ?_
  refine W.seq ?_
  have hmo : mayOk l = true := by assumption
  have hnt : ∀ x ∈ l, 0 ≤ x.thread ∧ x.thread < ((mayN l).toNat : Int) := fun x hx2 => (by (have h1 := (mayN_bd hmo).2.2 x hx2; have h2 := (okA_iff x).1 (List.all_eq_true.1 hmo x hx2); omega))
  refine W.region rfl ?_
  refine WO.q (Y.assign (v := .slice _ _ _) rfl) ?_
  replace S := S.nilOwn tRace 87
  refine WO.nil ?_
  refine Then.nx ?_
  refine W.seq ?_
  refine W.seq ?_
  refine W.region rfl ?_
  refine WO.q (Y.assign (v := .int .i64 _) rfl) ?_
  refine WO.nil ?_
  refine Then.nx ?_
  refine W.block ?_
  -- loop 0 carries 5:out, 6:b
  refine W.loop2 [5, 6, 7, 13, 14, 15, 16, 17, 18, 19, 20, 21, 22, 23, 24, 25, 26, 27, 28, 29, 30, 31, 32, 33, 34, 35, 36, 37, 38, 39, 40, 41, 42, 43, 44, 45, 46, 47, 48, 49, 50, 51, 52, 53, 54, 55, 56, 57, 58, 59, 60, 61, 62, 63, 64, 65, 66, 67, 68, 69, 70, 71, 72, 73, 74, 75, 76, 77, 78, 79, 80, 81, 82, 83, 84, 85, 86] 5 6 (fun v5 v6 w => ∃ (b : Nat) (ao : Option Addr) (co : Nat), v6 = .int .i64 (b : Int) ∧ b ≤ l.length ∧ v5 = .slice ao (refOut l b).length co ∧ Sat w0 w [Own tRace 87 ao co (refOut l b), Own tSl 27 a12 c12 outs, P]) (fun v5 v6 w => l.length - (intOf v6).toNat) ?_ ?_
  ·
   exact ⟨0, none, 0, rfl, Nat.zero_le _, rfl, S⟩
  ·
   rintro g0 v5 v6 w ⟨b, ao, co, rfl, hb, rfl, S⟩
   refine W.seq ?_
   refine W.seq ?_
   refine W.region rfl ?_
   refine WO.q (Y.move (v := .int .i64 _) rfl) ?_
   refine WO.q (Y.move (v := .slice _ _ _) rfl) ?_
   refine WO.q (Y.len (t' := 0) Tryd.underlying64 rfl) ?_
   refine WO.q (Y.lss rfl rfl) ?_
   refine WO.nil ?_
   refine Then.nx ?_
   refine W.cond rfl (fun h2 => ?_) (fun h2 => ?_) -- cond 1
   ·
    have rh2 := h2
    (try simp only [Q1, Q2, Q3, Q4, Q5, Q6, Q7, Q8, Q9, Qa] at h2)
    have ha := R1.1 (by omega)
    obtain ⟨x, hx1⟩ := at_ex (xs := l) (k := b) (by omega)
    have hrl := refOut_len l b
    refine W.skip ?_
    refine Then.nx ?_
    refine W.cut1 [5, 7, 19, 20, 21, 22, 23, 24, 25, 26, 27, 28, 29, 30, 31, 32, 33, 34, 35, 36, 37, 38, 39, 40, 41, 42, 43, 44, 45, 46, 47, 48, 49, 50, 51, 52, 53, 54, 55, 56, 57, 58, 59, 60, 61, 62, 63, 64, 65, 66, 67, 68, 69, 70, 71, 72, 73, 74, 75, 76, 77, 78, 79, 80, 81, 82, 83, 84, 85, 86] 5 (fun v5 w => ∃ (a2 : Option Addr) (c2 : Nat), v5 = .slice a2 (refOut l b ++ refFound l b).length c2 ∧ Sat w0 w [Own tRace 87 a2 c2 (refOut l b ++ refFound l b), Own tSl 27 a12 c12 outs, P]) ?_ ?_
    ·
     refine W.block ?_
     refine W.seq ?_
     refine W.region rfl ?_
     refine WO.q (Y.assign (v := .int .i64 _) rfl) ?_
     refine WO.nil ?_
     refine Then.nx ?_
     refine W.block ?_
     -- loop 1 carries 5:out, 7:a
     refine W.loop2 [5, 7, 19, 20, 21, 22, 23, 24, 25, 26, 27, 28, 29, 30, 31, 32, 33, 34, 35, 36, 37, 38, 39, 40, 41, 42, 43, 44, 45, 46, 47, 48, 49, 50, 51, 52, 53, 54, 55, 56, 57, 58, 59, 60, 61, 62, 63, 64, 65, 66, 67, 68, 69, 70, 71, 72, 73, 74, 75, 76, 77, 78, 79, 80, 81, 82, 83, 84, 85, 86] 5 7 (fun v5 v7 w => ∃ a1 : Nat, v7 = .int .i64 (a1 : Int) ∧ v5 = .slice ao (refOut l b).length co ∧ a1 ≤ b ∧ (∀ j, j < a1 → refRacy l b j = false) ∧ Sat w0 w [Own tRace 87 ao co (refOut l b), Own tSl 27 a12 c12 outs, P]) (fun v5 v7 w => b - (intOf v7).toNat) ?_ ?_
     ·
      exact ⟨0, rfl, rfl, Nat.zero_le _, fun j h => by omega, S⟩
     ·
      rintro g1 v5 v7 w ⟨a1, rfl, rfl, hab, hnr, S⟩
      refine W.seq ?_
      refine W.seq ?_
      refine W.region rfl ?_
      refine WO.q (Y.move (v := .int .i64 _) rfl) ?_
      refine WO.q (Y.move (v := .int .i64 _) rfl) ?_
      refine WO.q (Y.lss rfl rfl) ?_
      refine WO.nil ?_
      refine Then.nx ?_
      refine W.cond rfl (fun h3 => ?_) (fun h3 => ?_) -- cond 2
      ·
       have rh3 := h3
       (try simp only [Q1, Q2, Q3, Q4, Q5, Q6, Q7, Q8, Q9, Qa] at h3)
       obtain ⟨y, hy1⟩ := at_ex (xs := l) (k := a1) (by omega)
       refine W.skip ?_
       refine Then.nx ?_
       refine W.seq ?_
       refine W.block ?_
       refine W.seq ?_
       refine W.seq ?_
       refine W.draw (.q 0 (.q 1 (.q 2 (.q 3 (.e 4 (.q 5 (.q 6 (.q 7 (.q 8 (.q 9 (.q 10 (.e 11 (.q 12 (.q 13 (.q 14 (.q 15 (.q 16 (.q 17 (.q 18 (.q 19 (.q 20 (.q 21 (.q 22 (.q 23 (.q 24 (.q 25 (.q 26 (.q 27 (.q 28 (.q 29 (.q 30 (.q 31 (.q 32 (.q 33 (.q 34 (.q 35 (.q 36 (.q 37 (.q 38 (.q 39 (.q 40 (.q 41 (.q 42 .nil))))))))))))))))))))))))))))))))))))))))))) (fun w => Sat _ w _) rfl rfl (by kernel_rfl) rfl (by kernel_rfl) (by repeat (first | exact BodyQ.noFrame | refine Then.noFrame ?_ | refine InB.noFrame ?_)) S.drew ?_
       clear S
       refine Plan.q rfl (fun w S => Y.move (v := .slice _ _ _) rfl) ?_
       refine Plan.q rfl (fun w S => Y.move (v := .int .i64 _) rfl) ?_
       first | refine Plan.q rfl (fun w S => Y.ixN sl_64 rfl rfl (by (first | assumption | rfl)) (by (first | assumption | omega))) ?_ | refine Plan.q rfl (fun w S => Y.ix sl_64 rfl rfl (by (first | assumption | rfl)) (by (first | assumption | omega)) (by (first | assumption | omega))) ?_
       refine Plan.q rfl (fun w S => Y.load rfl (loadRdN sz_71 (R1.ext S.ext) (by assumption))) ?_
       refine Plan.e1 rfl (fun w S => O.call cf_69 rfl (touch_spec _ y) ?_)
       rintro _ w ⟨rfl, E⟩
       replace S := S.keep E
       refine ⟨_, rfl, ?_⟩
       refine ⟨(fun w => Sat _ w _), S, (.inr (fun w S => S.pk (by repeat (first | exact Pk.nil _ | exact Pk.refl _ | refine Pk.cons 0 rfl ?_ | refine Pk.cons 1 rfl ?_ | refine Pk.cons 2 rfl ?_ | refine Pk.cons 3 rfl ?_ | refine Pk.cons 4 rfl ?_ | refine Pk.cons 5 rfl ?_ | refine Pk.cons 6 rfl ?_ | refine Pk.cons 7 rfl ?_ | refine Pk.cons 8 rfl ?_ | refine Pk.cons 9 rfl ?_ | refine Pk.cons 10 rfl ?_ | refine Pk.cons 11 rfl ?_ | refine Pk.cons 12 rfl ?_ | refine Pk.cons 13 rfl ?_ | refine Pk.drop ?_)))), ?_⟩
       clear S
       refine Plan.q rfl (fun w S => Y.not rfl) ?_
       refine Plan.q rfl (fun w S => Y.move (v := .bool _) rfl) ?_
       refine Plan.splitB (fun h4 => ?_) (fun h4 => ?_)
       ·
        (try simp only [Q1, Q2, Q3, Q4, Q5, Q6, Q7, Q8, Q9, Qa] at h4)
        refine Plan.qF rfl rfl ?_
        refine Plan.qF rfl rfl ?_
        refine Plan.qF rfl rfl ?_
        refine Plan.qF rfl rfl ?_
        refine Plan.eF rfl rfl ?_
        refine Plan.qF rfl rfl ?_
        refine Plan.q rfl (fun w S => Y.pickT (u := .bool _) rfl rfl) ?_
        refine Plan.q rfl (fun w S => Y.move (v := .bool _) rfl) ?_
        refine Plan.qF rfl rfl ?_
        refine Plan.qF rfl rfl ?_
        refine Plan.qF rfl rfl ?_
        refine Plan.qF rfl rfl ?_
        refine Plan.qF rfl rfl ?_
        refine Plan.qF rfl rfl ?_
        refine Plan.qF rfl rfl ?_
        refine Plan.qF rfl rfl ?_
        refine Plan.qF rfl rfl ?_
        refine Plan.qF rfl rfl ?_
        refine Plan.qF rfl rfl ?_
        refine Plan.q rfl (fun w S => Y.pickT (u := .bool _) rfl rfl) ?_
        refine Plan.q rfl (fun w S => Y.move (v := .bool _) rfl) ?_
        refine Plan.qF rfl rfl ?_
        refine Plan.qF rfl rfl ?_
        refine Plan.qF rfl rfl ?_
        refine Plan.qF rfl rfl ?_
        refine Plan.qF rfl rfl ?_
        refine Plan.qF rfl rfl ?_
        refine Plan.qF rfl rfl ?_
        refine Plan.qF rfl rfl ?_
        refine Plan.qF rfl rfl ?_
        refine Plan.qF rfl rfl ?_
        refine Plan.qF rfl rfl ?_
        refine Plan.qF rfl rfl ?_
        refine Plan.qF rfl rfl ?_
        refine Plan.qF rfl rfl ?_
        refine Plan.q rfl (fun w S => Y.pickT (u := .bool _) rfl rfl) ?_
        refine Plan.nil (fun w S => ?_)
        replace S : Sat _ _ _ := S
        refine Then.nx ?_
        first | refine W.condT rfl ?_ | refine W.condT (congrArg Value.bool (by assumption)) ?_
        refine W.exit ?_
        refine Then.x ?_
        refine InB.e ?_
        refine Then.nx ?_
        refine W.region rfl ?_
        refine WO.q (Y.move (v := .int .i64 _) rfl) ?_
        first | refine WO.q (Y.addI rfl rfl (by omega)) ?_ | refine WO.q (Y.add rfl rfl) ?_
        refine WO.q (Y.assign (v := .int .i64 _) rfl) ?_
        refine WO.nil ?_
        refine Then.nx ⟨?_, ?_, ?_⟩
        ·
         (repeat (first | exact Out.hav _ _ _ | exact Out.refl _ _ | refine Out.up rfl ?_ | refine Out.sub rfl ?_))
        ·
         exact ⟨a1 + 1, rfl, rfl, by omega, (fun j hj => by (rcases Nat.lt_succ_iff_lt_or_eq.1 hj with hj | rfl; exact hnr j hj; rw [refRacy_eq hy1 hx1]; simp [*])), S⟩
        ·
         (show b - (a1 + 1) < b - a1; omega)
       ·
        (try simp only [Q1, Q2, Q3, Q4, Q5, Q6, Q7, Q8, Q9, Qa] at h4)
        refine Plan.qT rfl rfl (fun w S => Y.move (v := .slice _ _ _) rfl) ?_
        refine Plan.qT rfl rfl (fun w S => Y.move (v := .int .i64 _) rfl) ?_
        first | refine Plan.qT rfl rfl (fun w S => Y.ixN sl_64 rfl rfl (by (first | assumption | rfl)) (by (first | assumption | omega))) ?_ | refine Plan.qT rfl rfl (fun w S => Y.ix sl_64 rfl rfl (by (first | assumption | rfl)) (by (first | assumption | omega)) (by (first | assumption | omega))) ?_
        refine Plan.qT rfl rfl (fun w S => Y.load rfl (loadRdN sz_71 (R1.ext S.ext) (by assumption))) ?_
        refine Plan.eT rfl rfl (fun w S => O.call cf_69 rfl (touch_spec _ x) ?_)
        rintro _ w ⟨rfl, E⟩
        replace S := S.keep E
        refine ⟨_, rfl, ?_⟩
        refine ⟨(fun w => Sat _ w _), S, (.inr (fun w S => S.pk (by repeat (first | exact Pk.nil _ | exact Pk.refl _ | refine Pk.cons 0 rfl ?_ | refine Pk.cons 1 rfl ?_ | refine Pk.cons 2 rfl ?_ | refine Pk.cons 3 rfl ?_ | refine Pk.cons 4 rfl ?_ | refine Pk.cons 5 rfl ?_ | refine Pk.cons 6 rfl ?_ | refine Pk.cons 7 rfl ?_ | refine Pk.cons 8 rfl ?_ | refine Pk.cons 9 rfl ?_ | refine Pk.cons 10 rfl ?_ | refine Pk.cons 11 rfl ?_ | refine Pk.cons 12 rfl ?_ | refine Pk.cons 13 rfl ?_ | refine Pk.drop ?_)))), ?_⟩
        clear S
        refine Plan.qT rfl rfl (fun w S => Y.not rfl) ?_
        refine Plan.q rfl (fun w S => Y.pickF (u := .bool _) rfl rfl) ?_
        refine Plan.q rfl (fun w S => Y.move (v := .bool _) rfl) ?_
        refine Plan.splitB (fun h5 => ?_) (fun h5 => ?_)
        ·
         (try simp only [Q1, Q2, Q3, Q4, Q5, Q6, Q7, Q8, Q9, Qa] at h5)
         refine Plan.qF rfl rfl ?_
         refine Plan.qF rfl rfl ?_
         refine Plan.qF rfl rfl ?_
         refine Plan.qF rfl rfl ?_
         refine Plan.qF rfl rfl ?_
         refine Plan.qF rfl rfl ?_
         refine Plan.qF rfl rfl ?_
         refine Plan.qF rfl rfl ?_
         refine Plan.qF rfl rfl ?_
         refine Plan.qF rfl rfl ?_
         refine Plan.qF rfl rfl ?_
         refine Plan.q rfl (fun w S => Y.pickT (u := .bool _) rfl rfl) ?_
         refine Plan.q rfl (fun w S => Y.move (v := .bool _) rfl) ?_
         refine Plan.qF rfl rfl ?_
         refine Plan.qF rfl rfl ?_
         refine Plan.qF rfl rfl ?_
         refine Plan.qF rfl rfl ?_
         refine Plan.qF rfl rfl ?_
         refine Plan.qF rfl rfl ?_
         refine Plan.qF rfl rfl ?_
         refine Plan.qF rfl rfl ?_
         refine Plan.qF rfl rfl ?_
         refine Plan.qF rfl rfl ?_
         refine Plan.qF rfl rfl ?_
         refine Plan.qF rfl rfl ?_
         refine Plan.qF rfl rfl ?_
         refine Plan.qF rfl rfl ?_
         refine Plan.q rfl (fun w S => Y.pickT (u := .bool _) rfl rfl) ?_
         refine Plan.nil (fun w S => ?_)
         replace S : Sat _ _ _ := S
         refine Then.nx ?_
         first | refine W.condT rfl ?_ | refine W.condT (congrArg Value.bool (by assumption)) ?_
         refine W.exit ?_
         refine Then.x ?_
         refine InB.e ?_
         refine Then.nx ?_
         refine W.region rfl ?_
         refine WO.q (Y.move (v := .int .i64 _) rfl) ?_
         first | refine WO.q (Y.addI rfl rfl (by omega)) ?_ | refine WO.q (Y.add rfl rfl) ?_
         refine WO.q (Y.assign (v := .int .i64 _) rfl) ?_
         refine WO.nil ?_
         refine Then.nx ⟨?_, ?_, ?_⟩
         ·
          (repeat (first | exact Out.hav _ _ _ | exact Out.refl _ _ | refine Out.up rfl ?_ | refine Out.sub rfl ?_))
         ·
          exact ⟨a1 + 1, rfl, rfl, by omega, (fun j hj => by (rcases Nat.lt_succ_iff_lt_or_eq.1 hj with hj | rfl; exact hnr j hj; rw [refRacy_eq hy1 hx1]; simp [*])), S⟩
         ·
          (show b - (a1 + 1) < b - a1; omega)
        ·
         (try simp only [Q1, Q2, Q3, Q4, Q5, Q6, Q7, Q8, Q9, Qa] at h5)
         refine Plan.qT rfl rfl (fun w S => Y.move (v := .slice _ _ _) rfl) ?_
         refine Plan.qT rfl rfl (fun w S => Y.move (v := .int .i64 _) rfl) ?_
         first | refine Plan.qT rfl rfl (fun w S => Y.ixN sl_64 rfl rfl (by (first | assumption | rfl)) (by (first | assumption | omega))) ?_ | refine Plan.qT rfl rfl (fun w S => Y.ix sl_64 rfl rfl (by (first | assumption | rfl)) (by (first | assumption | omega)) (by (first | assumption | omega))) ?_
         refine Plan.qT rfl rfl (fun w S => Y.fieldE fo_71_3 rfl) ?_
         refine Plan.qT rfl rfl (fun w S => Y.load rfl (loadRdF sz_2 (R1.ext S.ext) (by assumption) rfl)) ?_
         refine Plan.qT rfl rfl (fun w S => Y.move (v := .slice _ _ _) rfl) ?_
         refine Plan.qT rfl rfl (fun w S => Y.move (v := .int .i64 _) rfl) ?_
         first | refine Plan.qT rfl rfl (fun w S => Y.ixN sl_64 rfl rfl (by (first | assumption | rfl)) (by (first | assumption | omega))) ?_ | refine Plan.qT rfl rfl (fun w S => Y.ix sl_64 rfl rfl (by (first | assumption | rfl)) (by (first | assumption | omega)) (by (first | assumption | omega))) ?_
         refine Plan.qT rfl rfl (fun w S => Y.fieldE fo_71_3 rfl) ?_
         refine Plan.qT rfl rfl (fun w S => Y.load rfl (loadRdF sz_2 (R1.ext S.ext) (by assumption) rfl)) ?_
         refine Plan.qT rfl rfl (fun w S => Y.neq rfl rfl) ?_
         refine Plan.q rfl (fun w S => Y.pickF (u := .bool _) rfl rfl) ?_
         refine Plan.q rfl (fun w S => Y.move (v := .bool _) rfl) ?_
         refine Plan.splitB (fun h6 => ?_) (fun h6 => ?_)
         ·
          (try simp only [Q1, Q2, Q3, Q4, Q5, Q6, Q7, Q8, Q9, Qa] at h6)
          refine Plan.qF rfl rfl ?_
          refine Plan.qF rfl rfl ?_
          refine Plan.qF rfl rfl ?_
          refine Plan.qF rfl rfl ?_
          refine Plan.qF rfl rfl ?_
          refine Plan.qF rfl rfl ?_
          refine Plan.qF rfl rfl ?_
          refine Plan.qF rfl rfl ?_
          refine Plan.qF rfl rfl ?_
          refine Plan.qF rfl rfl ?_
          refine Plan.qF rfl rfl ?_
          refine Plan.qF rfl rfl ?_
          refine Plan.qF rfl rfl ?_
          refine Plan.qF rfl rfl ?_
          refine Plan.q rfl (fun w S => Y.pickT (u := .bool _) rfl rfl) ?_
          refine Plan.nil (fun w S => ?_)
          replace S : Sat _ _ _ := S
          refine Then.nx ?_
          first | refine W.condT rfl ?_ | refine W.condT (congrArg Value.bool (by assumption)) ?_
          refine W.exit ?_
          refine Then.x ?_
          refine InB.e ?_
          refine Then.nx ?_
          refine W.region rfl ?_
          refine WO.q (Y.move (v := .int .i64 _) rfl) ?_
          first | refine WO.q (Y.addI rfl rfl (by omega)) ?_ | refine WO.q (Y.add rfl rfl) ?_
          refine WO.q (Y.assign (v := .int .i64 _) rfl) ?_
          refine WO.nil ?_
          refine Then.nx ⟨?_, ?_, ?_⟩
          ·
           (repeat (first | exact Out.hav _ _ _ | exact Out.refl _ _ | refine Out.up rfl ?_ | refine Out.sub rfl ?_))
          ·
           exact ⟨a1 + 1, rfl, rfl, by omega, (fun j hj => by (rcases Nat.lt_succ_iff_lt_or_eq.1 hj with hj | rfl; exact hnr j hj; rw [refRacy_eq hy1 hx1]; simp [*])), S⟩
          ·
           (show b - (a1 + 1) < b - a1; omega)
         ·
          (try simp only [Q1, Q2, Q3, Q4, Q5, Q6, Q7, Q8, Q9, Qa] at h6)
          refine Plan.qT rfl rfl (fun w S => Y.move (v := .slice _ _ _) rfl) ?_
          refine Plan.qT rfl rfl (fun w S => Y.move (v := .int .i64 _) rfl) ?_
          first | refine Plan.qT rfl rfl (fun w S => Y.ixN sl_64 rfl rfl (by (first | assumption | rfl)) (by (first | assumption | omega))) ?_ | refine Plan.qT rfl rfl (fun w S => Y.ix sl_64 rfl rfl (by (first | assumption | rfl)) (by (first | assumption | omega)) (by (first | assumption | omega))) ?_
          refine Plan.qT rfl rfl (fun w S => Y.fieldE fo_71_4 rfl) ?_
          refine Plan.qT rfl rfl (fun w S => Y.load rfl (loadRdF sz_2 (R1.ext S.ext) (by assumption) rfl)) ?_
          refine Plan.qT rfl rfl (fun w S => Y.eql rfl rfl) ?_
          refine Plan.qT rfl rfl (fun w S => Y.move (v := .bool _) rfl) ?_
          refine Plan.splitB (fun h7 => ?_) (fun h7 => ?_)
          ·
           (try simp only [Q1, Q2, Q3, Q4, Q5, Q6, Q7, Q8, Q9, Qa] at h7)
           refine Plan.qT rfl rfl (fun w S => Y.move (v := .slice _ _ _) rfl) ?_
           refine Plan.qT rfl rfl (fun w S => Y.move (v := .int .i64 _) rfl) ?_
           first | refine Plan.qT rfl rfl (fun w S => Y.ixN sl_64 rfl rfl (by (first | assumption | rfl)) (by (first | assumption | omega))) ?_ | refine Plan.qT rfl rfl (fun w S => Y.ix sl_64 rfl rfl (by (first | assumption | rfl)) (by (first | assumption | omega)) (by (first | assumption | omega))) ?_
           refine Plan.qT rfl rfl (fun w S => Y.fieldE fo_71_4 rfl) ?_
           refine Plan.qT rfl rfl (fun w S => Y.load rfl (loadRdF sz_2 (R1.ext S.ext) (by assumption) rfl)) ?_
           refine Plan.qT rfl rfl (fun w S => Y.eql rfl rfl) ?_
           refine Plan.qT rfl rfl (fun w S => Y.pickT (u := .bool _) rfl rfl) ?_
           refine Plan.q rfl (fun w S => Y.pickF (u := .bool _) rfl rfl) ?_
           refine Plan.nil (fun w S => ?_)
           replace S : Sat _ _ _ := S
           refine Then.nx ?_
           refine W.cond rfl (fun h8 => ?_) (fun h8 => ?_) -- cond 3
           ·
            have rh8 := h8
            (try simp only [Q1, Q2, Q3, Q4, Q5, Q6, Q7, Q8, Q9, Qa] at h8)
            refine W.exit ?_
            refine Then.x ?_
            refine InB.e ?_
            refine Then.nx ?_
            refine W.region rfl ?_
            refine WO.q (Y.move (v := .int .i64 _) rfl) ?_
            first | refine WO.q (Y.addI rfl rfl (by omega)) ?_ | refine WO.q (Y.add rfl rfl) ?_
            refine WO.q (Y.assign (v := .int .i64 _) rfl) ?_
            refine WO.nil ?_
            refine Then.nx ⟨?_, ?_, ?_⟩
            ·
             (repeat (first | exact Out.hav _ _ _ | exact Out.refl _ _ | refine Out.up rfl ?_ | refine Out.sub rfl ?_))
            ·
             exact ⟨a1 + 1, rfl, rfl, by omega, (fun j hj => by (rcases Nat.lt_succ_iff_lt_or_eq.1 hj with hj | rfl; exact hnr j hj; rw [refRacy_eq hy1 hx1]; simp [*])), S⟩
            ·
             (show b - (a1 + 1) < b - a1; omega)
           ·
            have rh8 := h8
            (try simp only [Q1, Q2, Q3, Q4, Q5, Q6, Q7, Q8, Q9, Qa] at h8)
            refine W.skip ?_
            refine Then.nx ?_
            refine W.seq ?_
            refine W.region rfl ?_
            refine WO.q (Y.move (v := .slice _ _ _) rfl) ?_
            refine WO.q (Y.move (v := .slice _ _ _) rfl) ?_
            refine WO.q (Y.move (v := .int .i64 _) rfl) ?_
            refine WO.q (Y.move (v := .int .i64 _) rfl) ?_
            refine WO.e (O.call cf_68 rfl (rahead_spec _ a a12 c c12 l outs (mayN l).toNat (R1.ext S.ext) (S.rd 1 rfl) (fun j q hq => ⟨(hrw j q hq).1.trans (rowN_len _ _), S.reads 2 rfl (hrw j q hq).2⟩) hol hnt hx a1 b (by omega) (by omega)) ?_)
            rintro _ w ⟨rfl, E⟩
            replace S := S.keep E
            refine ⟨_, rfl, ?_⟩
            refine WO.q (Y.not rfl) ?_
            refine WO.q (Y.move (v := .bool _) rfl) ?_
            refine WO.splitB (fun h9 => ?_) (fun h9 => ?_)
            ·
             (try simp only [Q1, Q2, Q3, Q4, Q5, Q6, Q7, Q8, Q9, Qa] at h9)
             refine WO.qT rfl (Y.move (v := .slice _ _ _) rfl) ?_
             refine WO.qT rfl (Y.move (v := .slice _ _ _) rfl) ?_
             refine WO.qT rfl (Y.move (v := .int .i64 _) rfl) ?_
             refine WO.qT rfl (Y.move (v := .int .i64 _) rfl) ?_
             refine WO.eT rfl (O.call cf_68 rfl (rahead_spec _ a a12 c c12 l outs (mayN l).toNat (R1.ext S.ext) (S.rd 1 rfl) (fun j q hq => ⟨(hrw j q hq).1.trans (rowN_len _ _), S.reads 2 rfl (hrw j q hq).2⟩) hol hnt hx b a1 (by omega) (by omega)) ?_)
             rintro _ w ⟨rfl, E⟩
             replace S := S.keep E
             refine ⟨_, rfl, ?_⟩
             refine WO.qT rfl (Y.not rfl) ?_
             refine WO.q (Y.pickT (u := .bool _) rfl rfl) ?_
             refine WO.nil ?_
             refine Then.nx ?_
             refine W.cond rfl (fun h10 => ?_) (fun h10 => ?_) -- cond 4
             ·
              have rh10 := h10
              (try simp only [Q1, Q2, Q3, Q4, Q5, Q6, Q7, Q8, Q9, Qa] at h10)
              refine W.seq ?_
              refine W.region rfl ?_
              refine WO.q (Y.move (v := .slice _ _ _) rfl) ?_
              refine WO.q (Y.move (v := .int .i64 _) rfl) ?_
              refine WO.q (Y.move (v := .int .i64 _) rfl) ?_
              refine WO.q (Y.build rfl (bld_87_0_1)) ?_
              first | refine WO.e (O.buildSlice rfl (buildOne sl_79 (by decide) rfl rfl) S (fun b85 w S => ?_)) | refine WO.e (O.buildSlice rfl (buildOne sl_79 (by decide) rfl (by simp)) S (fun b85 w S => ?_)) | refine WO.e (O.buildSlice rfl (bs_79_1_0) S (fun b85 w S => ?_))
              refine WO.e (O.append (T := tRace) (ys := [(⟨(a1 : Int), (b : Int)⟩ : GRace)]) 1 sl_79 S rfl rfl rfl rfl (S.rd1 (T := tRace) (x := ⟨(a1 : Int), (b : Int)⟩) 0 rfl) rfl (by (simp only [List.length_singleton]; omega)) (by (simp only [List.length_singleton, maxLen]; omega)) (fun a86 c86 w S hn86 => ?_))
              refine WO.q (Y.assign (v := .slice _ _ _) rfl) ?_
              refine WO.nil ?_
              refine Then.nx ?_
              refine W.exit ?_
              refine InB.x rfl ?_
              refine Then.x ?_
              refine Then.x ?_
              refine InB.e ?_
              refine InB.nx ?_
              refine Then.nx ⟨?_, ?_⟩
              ·
               (repeat (first | exact Out.hav _ _ _ | exact Out.refl _ _ | refine Out.up rfl ?_ | refine Out.sub rfl ?_))
              ·
               first | (rw [refFound_none (by omega) hnr, List.append_nil]; exact ⟨ao, co, rfl, S⟩) | (rw [refFound_hit (a := a1) (by omega) (by (rw [refRacy_eq hy1 hx1]; simp [*])) hnr]; exact ⟨a86, c86, rfl, S.tl⟩)
             ·
              have rh10 := h10
              (try simp only [Q1, Q2, Q3, Q4, Q5, Q6, Q7, Q8, Q9, Qa] at h10)
              refine W.skip ?_
              refine InB.nx ?_
              refine Then.nx ?_
              refine W.region rfl ?_
              refine WO.q (Y.move (v := .int .i64 _) rfl) ?_
              first | refine WO.q (Y.addI rfl rfl (by omega)) ?_ | refine WO.q (Y.add rfl rfl) ?_
              refine WO.q (Y.assign (v := .int .i64 _) rfl) ?_
              refine WO.nil ?_
              refine Then.nx ⟨?_, ?_, ?_⟩
              ·
               (repeat (first | exact Out.hav _ _ _ | exact Out.refl _ _ | refine Out.up rfl ?_ | refine Out.sub rfl ?_))
              ·
               exact ⟨a1 + 1, rfl, rfl, by omega, (fun j hj => by (rcases Nat.lt_succ_iff_lt_or_eq.1 hj with hj | rfl; exact hnr j hj; rw [refRacy_eq hy1 hx1]; simp [*])), S⟩
              ·
               (show b - (a1 + 1) < b - a1; omega)
            ·
             (try simp only [Q1, Q2, Q3, Q4, Q5, Q6, Q7, Q8, Q9, Qa] at h9)
             refine WO.qF rfl ?_
             refine WO.qF rfl ?_
             refine WO.qF rfl ?_
             refine WO.qF rfl ?_
             refine WO.qF rfl ?_
             refine WO.qF rfl ?_
             refine WO.q (Y.pickF (u := .bool _) rfl rfl) ?_
             refine WO.nil ?_
             refine Then.nx ?_
             first | refine W.condF rfl ?_ | refine W.condF (congrArg Value.bool (by assumption)) ?_
             refine W.skip ?_
             refine InB.nx ?_
             refine Then.nx ?_
             refine W.region rfl ?_
             refine WO.q (Y.move (v := .int .i64 _) rfl) ?_
             first | refine WO.q (Y.addI rfl rfl (by omega)) ?_ | refine WO.q (Y.add rfl rfl) ?_
             refine WO.q (Y.assign (v := .int .i64 _) rfl) ?_
             refine WO.nil ?_
             refine Then.nx ⟨?_, ?_, ?_⟩
             ·
              (repeat (first | exact Out.hav _ _ _ | exact Out.refl _ _ | refine Out.up rfl ?_ | refine Out.sub rfl ?_))
             ·
              exact ⟨a1 + 1, rfl, rfl, by omega, (fun j hj => by (rcases Nat.lt_succ_iff_lt_or_eq.1 hj with hj | rfl; exact hnr j hj; rw [refRacy_eq hy1 hx1]; simp [*])), S⟩
             ·
              (show b - (a1 + 1) < b - a1; omega)
          ·
           (try simp only [Q1, Q2, Q3, Q4, Q5, Q6, Q7, Q8, Q9, Qa] at h7)
           refine Plan.qF rfl rfl ?_
           refine Plan.qF rfl rfl ?_
           refine Plan.qF rfl rfl ?_
           refine Plan.qF rfl rfl ?_
           refine Plan.qF rfl rfl ?_
           refine Plan.qF rfl rfl ?_
           refine Plan.qT rfl rfl (fun w S => Y.pickF (u := .bool _) rfl rfl) ?_
           refine Plan.q rfl (fun w S => Y.pickF (u := .bool _) rfl rfl) ?_
           refine Plan.nil (fun w S => ?_)
           replace S : Sat _ _ _ := S
           refine Then.nx ?_
           first | refine W.condF rfl ?_ | refine W.condF (congrArg Value.bool (by assumption)) ?_
           refine W.skip ?_
           refine Then.nx ?_
           refine W.seq ?_
           refine W.region rfl ?_
           refine WO.q (Y.move (v := .slice _ _ _) rfl) ?_
           refine WO.q (Y.move (v := .slice _ _ _) rfl) ?_
           refine WO.q (Y.move (v := .int .i64 _) rfl) ?_
           refine WO.q (Y.move (v := .int .i64 _) rfl) ?_
           refine WO.e (O.call cf_68 rfl (rahead_spec _ a a12 c c12 l outs (mayN l).toNat (R1.ext S.ext) (S.rd 1 rfl) (fun j q hq => ⟨(hrw j q hq).1.trans (rowN_len _ _), S.reads 2 rfl (hrw j q hq).2⟩) hol hnt hx a1 b (by omega) (by omega)) ?_)
           rintro _ w ⟨rfl, E⟩
           replace S := S.keep E
           refine ⟨_, rfl, ?_⟩
           refine WO.q (Y.not rfl) ?_
           refine WO.q (Y.move (v := .bool _) rfl) ?_
           refine WO.splitB (fun h11 => ?_) (fun h11 => ?_)
           ·
            (try simp only [Q1, Q2, Q3, Q4, Q5, Q6, Q7, Q8, Q9, Qa] at h11)
            refine WO.qT rfl (Y.move (v := .slice _ _ _) rfl) ?_
            refine WO.qT rfl (Y.move (v := .slice _ _ _) rfl) ?_
            refine WO.qT rfl (Y.move (v := .int .i64 _) rfl) ?_
            refine WO.qT rfl (Y.move (v := .int .i64 _) rfl) ?_
            refine WO.eT rfl (O.call cf_68 rfl (rahead_spec _ a a12 c c12 l outs (mayN l).toNat (R1.ext S.ext) (S.rd 1 rfl) (fun j q hq => ⟨(hrw j q hq).1.trans (rowN_len _ _), S.reads 2 rfl (hrw j q hq).2⟩) hol hnt hx b a1 (by omega) (by omega)) ?_)
            rintro _ w ⟨rfl, E⟩
            replace S := S.keep E
            refine ⟨_, rfl, ?_⟩
            refine WO.qT rfl (Y.not rfl) ?_
            refine WO.q (Y.pickT (u := .bool _) rfl rfl) ?_
            refine WO.nil ?_
            refine Then.nx ?_
            refine W.cond rfl (fun h12 => ?_) (fun h12 => ?_) -- cond 5
            ·
             have rh12 := h12
             (try simp only [Q1, Q2, Q3, Q4, Q5, Q6, Q7, Q8, Q9, Qa] at h12)
             refine W.seq ?_
             refine W.region rfl ?_
             refine WO.q (Y.move (v := .slice _ _ _) rfl) ?_
             refine WO.q (Y.move (v := .int .i64 _) rfl) ?_
             refine WO.q (Y.move (v := .int .i64 _) rfl) ?_
             refine WO.q (Y.build rfl (bld_87_0_1)) ?_
             first | refine WO.e (O.buildSlice rfl (buildOne sl_79 (by decide) rfl rfl) S (fun b85 w S => ?_)) | refine WO.e (O.buildSlice rfl (buildOne sl_79 (by decide) rfl (by simp)) S (fun b85 w S => ?_)) | refine WO.e (O.buildSlice rfl (bs_79_1_0) S (fun b85 w S => ?_))
             refine WO.e (O.append (T := tRace) (ys := [(⟨(a1 : Int), (b : Int)⟩ : GRace)]) 1 sl_79 S rfl rfl rfl rfl (S.rd1 (T := tRace) (x := ⟨(a1 : Int), (b : Int)⟩) 0 rfl) rfl (by (simp only [List.length_singleton]; omega)) (by (simp only [List.length_singleton, maxLen]; omega)) (fun a86 c86 w S hn86 => ?_))
             refine WO.q (Y.assign (v := .slice _ _ _) rfl) ?_
             refine WO.nil ?_
             refine Then.nx ?_
             refine W.exit ?_
             refine InB.x rfl ?_
             refine Then.x ?_
             refine Then.x ?_
             refine InB.e ?_
             refine InB.nx ?_
             refine Then.nx ⟨?_, ?_⟩
             ·
              (repeat (first | exact Out.hav _ _ _ | exact Out.refl _ _ | refine Out.up rfl ?_ | refine Out.sub rfl ?_))
             ·
              first | (rw [refFound_none (by omega) hnr, List.append_nil]; exact ⟨ao, co, rfl, S⟩) | (rw [refFound_hit (a := a1) (by omega) (by (rw [refRacy_eq hy1 hx1]; simp [*])) hnr]; exact ⟨a86, c86, rfl, S.tl⟩)
            ·
             have rh12 := h12
             (try simp only [Q1, Q2, Q3, Q4, Q5, Q6, Q7, Q8, Q9, Qa] at h12)
             refine W.skip ?_
             refine InB.nx ?_
             refine Then.nx ?_
             refine W.region rfl ?_
             refine WO.q (Y.move (v := .int .i64 _) rfl) ?_
             first | refine WO.q (Y.addI rfl rfl (by omega)) ?_ | refine WO.q (Y.add rfl rfl) ?_
             refine WO.q (Y.assign (v := .int .i64 _) rfl) ?_
             refine WO.nil ?_
             refine Then.nx ⟨?_, ?_, ?_⟩
             ·
              (repeat (first | exact Out.hav _ _ _ | exact Out.refl _ _ | refine Out.up rfl ?_ | refine Out.sub rfl ?_))
             ·
              exact ⟨a1 + 1, rfl, rfl, by omega, (fun j hj => by (rcases Nat.lt_succ_iff_lt_or_eq.1 hj with hj | rfl; exact hnr j hj; rw [refRacy_eq hy1 hx1]; simp [*])), S⟩
             ·
              (show b - (a1 + 1) < b - a1; omega)
           ·
            (try simp only [Q1, Q2, Q3, Q4, Q5, Q6, Q7, Q8, Q9, Qa] at h11)
            refine WO.qF rfl ?_
            refine WO.qF rfl ?_
            refine WO.qF rfl ?_
            refine WO.qF rfl ?_
            refine WO.qF rfl ?_
            refine WO.qF rfl ?_
            refine WO.q (Y.pickF (u := .bool _) rfl rfl) ?_
            refine WO.nil ?_
            refine Then.nx ?_
            first | refine W.condF rfl ?_ | refine W.condF (congrArg Value.bool (by assumption)) ?_
            refine W.skip ?_
            refine InB.nx ?_
            refine Then.nx ?_
            refine W.region rfl ?_
            refine WO.q (Y.move (v := .int .i64 _) rfl) ?_
            first | refine WO.q (Y.addI rfl rfl (by omega)) ?_ | refine WO.q (Y.add rfl rfl) ?_
            refine WO.q (Y.assign (v := .int .i64 _) rfl) ?_
            refine WO.nil ?_
            refine Then.nx ⟨?_, ?_, ?_⟩
            ·
             (repeat (first | exact Out.hav _ _ _ | exact Out.refl _ _ | refine Out.up rfl ?_ | refine Out.sub rfl ?_))
            ·
             exact ⟨a1 + 1, rfl, rfl, by omega, (fun j hj => by (rcases Nat.lt_succ_iff_lt_or_eq.1 hj with hj | rfl; exact hnr j hj; rw [refRacy_eq hy1 hx1]; simp [*])), S⟩
            ·
             (show b - (a1 + 1) < b - a1; omega)
      ·
       have rh3 := h3
       (try simp only [Q1, Q2, Q3, Q4, Q5, Q6, Q7, Q8, Q9, Qa] at h3)
       refine W.exit ?_
       refine Then.x ?_
       refine Then.x ?_
       refine InB.e ?_
       refine InB.nx ?_
       refine Then.nx ⟨?_, ?_⟩
       ·
        (repeat (first | exact Out.hav _ _ _ | exact Out.refl _ _ | refine Out.up rfl ?_ | refine Out.sub rfl ?_))
       ·
        first | (rw [refFound_none (by omega) hnr, List.append_nil]; exact ⟨ao, co, rfl, S⟩) | (rw [refFound_hit (a := a1) (by omega) (by (rw [refRacy_eq hy1 hx1]; simp [*])) hnr]; exact ⟨a86, c86, rfl, S.tl⟩)
    ·
     rintro gj587 v5 w ⟨a2, c2, rfl, S⟩
     refine W.region rfl ?_
     refine WO.q (Y.move (v := .int .i64 _) rfl) ?_
     first | refine WO.q (Y.addI rfl rfl (by omega)) ?_ | refine WO.q (Y.add rfl rfl) ?_
     refine WO.q (Y.assign (v := .int .i64 _) rfl) ?_
     refine WO.nil ?_
     refine Then.nx ⟨?_, ?_, ?_⟩
     ·
      (repeat (first | exact Out.hav _ _ _ | exact Out.refl _ _ | refine Out.up rfl ?_ | refine Out.sub rfl ?_))
     ·
      exact ⟨b + 1, a2, c2, rfl, by omega, rfl, S⟩
     ·
      (show l.length - (b + 1) < l.length - b; omega)
   ·
    have rh2 := h2
    (try simp only [Q1, Q2, Q3, Q4, Q5, Q6, Q7, Q8, Q9, Qa] at h2)
    refine W.exit ?_
    refine Then.x ?_
    refine Then.x ?_
    refine InB.e ?_
    refine Then.nx ?_
    refine W.seq ?_
    refine W.region rfl ?_
    refine WO.q (Y.move (v := .slice _ _ _) rfl) ?_
    refine WO.q (Y.assign (v := .slice _ _ _) rfl) ?_
    refine WO.q (Y.assign (v := .int .i64 _) rfl) ?_
    refine WO.nil ?_
    refine Then.nx ?_
    refine W.ret ?_
    refine BodyQ.ret2 Tryd.results35 (ResV.tmp _ rfl) (ResV.tmp _ rfl) ?_
    first | (obtain ⟨e1, e2⟩ := races_no (l := l) (by assumption); rw [e1, e2]; exact ⟨none, 0, rfl, S.nilOwn tRace 87⟩) | (obtain ⟨e1, e2⟩ := races_yes (l := l) (by assumption); have e : b = l.length := (by omega); subst e; have e3 : refOut l l.length = races l := refOut_eq l l.length (Nat.le_refl _); rw [e3] at S ⊢; rw [e1, e2]; exact ⟨ao, co, rfl, S.pk (.cons 0 rfl (.nil _))⟩)
theorem rOnce_spec (w0 : World) (a : Option Addr) (c : Nat) (l : List Access) (R1 : Rd tAccess w0 a l) (hx : l.length ≤ 4096) :
    Calls Tryd.prog 37 [.slice a l.length c].toArray w0 (fun e w => e = .returned (.tuple #[.int .i64 (onceE l), .int .i64 (onceP l)]) ∧ Ext w0 w) := by
 have S := Sat.refl w0
 refine calls_of_W (args := [.slice a l.length c]) 80 Tryd.func37 rfl Tryd.ntmps37 rfl ?_
 refine W.seq ?_
 refine W.region rfl ?_
 refine WO.q (Y.assign (v := .int .i64 _) rfl) ?_
 refine WO.q (Y.assign (v := .int .i64 _) rfl) ?_
 refine WO.nil ?_
 refine Then.nx ?_
 refine W.seq ?_
 refine W.seq ?_
 refine W.region rfl ?_
 refine WO.q (Y.move (v := .slice _ _ _) rfl) ?_
 refine WO.e (O.call cf_66 rfl (rMay_spec _ a c l (R1.ext S.ext) (by omega)) ?_)
 rintro _ w ⟨rfl, E⟩
 replace S := S.keep E
 refine ⟨_, rfl, ?_⟩
 refine WO.q (Y.not rfl) ?_
 refine WO.nil ?_
 refine Then.nx ?_
 refine W.cond rfl (fun h1 => ?_) (fun h1 => ?_) -- cond 0
 ·
  have rh1 := h1
  (try simp only [Q1, Q2, Q3, Q4, Q5, Q6, Q7, Q8, Q9, Qa] at h1)
  refine W.seq ?_
  refine W.region rfl ?_
  refine WO.q (Y.assign (v := .int .i64 _) rfl) ?_
  refine WO.q (Y.assign (v := .int .i64 _) rfl) ?_
  refine WO.nil ?_
  refine Then.nx ?_
  refine W.ret ?_
  refine Then.r ?_
  refine BodyQ.ret2 Tryd.results37 (ResV.tmp _ rfl) (ResV.tmp _ rfl) ?_
  first | (obtain ⟨e1, e2⟩ := once_no (l := l) (by assumption); rw [e1, e2]; exact ⟨rfl, S.ext⟩) | (obtain ⟨e1, e2⟩ := once_bad (l := l) (i := i) (by assumption) (by first | (rw [badO_24 hx1 (by omega) (by omega), Bool.or_eq_true, decide_eq_true_eq, decide_eq_true_eq]; omega) | (rw [badO_3 hx1 (by omega) (by omega) (fun _ => hz1), Bool.or_eq_true, Bool.or_eq_true, decide_eq_true_eq, decide_eq_true_eq, decide_eq_true_eq]; omega)) hob; rw [e1, e2]; exact ⟨rfl, S.ext⟩) | (obtain ⟨e1, e2⟩ := once_ok (l := l) (n := i) (by assumption) (by omega) hob; rw [e1, e2]; exact ⟨rfl, S.ext⟩)
 ·
  have rh1 := h1
  (try simp only [Q1, Q2, Q3, Q4, Q5, Q6, Q7, Q8, Q9, Qa] at h1)
  refine W.skip ?_
  refine Then.nx ?_
  refine W.seq ?_
  refine W.seq ?_
  refine W.region rfl ?_
  refine WO.q (Y.assign (v := .int .i64 _) rfl) ?_
  refine WO.nil ?_
  refine Then.nx ?_
  refine W.block ?_
  -- loop 0 carries 4:i
  refine W.loop1 [2, 3, 4, 5, 9, 10, 11, 12, 13, 14, 15, 16, 17, 18, 19, 20, 21, 22, 23, 24, 25, 26, 27, 28, 29, 30, 31, 32, 33, 34, 35, 36, 37, 38, 39, 40, 41, 42, 43, 44, 45, 46, 47, 48, 49, 50, 51, 52, 53, 54, 55, 56, 57, 58, 59, 60, 61, 62, 63, 64, 65, 66, 67, 68, 69, 70, 71, 72, 73, 74, 75, 76, 77, 78, 79] 4 (fun v4 w => ∃ i : Nat, v4 = .int .i64 (i : Int) ∧ i ≤ l.length ∧ (∀ j, j < i → badO l j = false) ∧ Sat w0 w []) (fun v4 w => l.length - (intOf v4).toNat) ?_ ?_
  ·
   exact ⟨0, rfl, Nat.zero_le _, fun j h => by omega, S⟩
  ·
   rintro g0 v4 w ⟨i, rfl, hi, hob, S⟩
   refine W.seq ?_
   refine W.seq ?_
   refine W.region rfl ?_
   refine WO.q (Y.move (v := .int .i64 _) rfl) ?_
   refine WO.q (Y.move (v := .slice _ _ _) rfl) ?_
   refine WO.q (Y.len (t' := 0) Tryd.underlying64 rfl) ?_
   refine WO.q (Y.lss rfl rfl) ?_
   refine WO.nil ?_
   refine Then.nx ?_
   refine W.cond rfl (fun h2 => ?_) (fun h2 => ?_) -- cond 1
   ·
    have rh2 := h2
    (try simp only [Q1, Q2, Q3, Q4, Q5, Q6, Q7, Q8, Q9, Qa] at h2)
    have ha := R1.1 (by omega)
    obtain ⟨x, hx1⟩ := at_ex (xs := l) (k := i) (by omega)
    have hz2 := befZ_lt l i x.arg 2
    have hz3 := befZ_lt l i x.arg 3
    have hz4 := befZ_lt l i x.arg 4
    obtain ⟨z, hz1⟩ := at_ex (xs := l) (k := (befZ l i x.arg 2).toNat) (by omega)
    refine W.skip ?_
    refine Then.nx ?_
    refine W.seq ?_
    refine W.block ?_
    refine W.seq ?_
    refine W.seq ?_
    refine W.region rfl ?_
    refine WO.q (Y.move (v := .slice _ _ _) rfl) ?_
    refine WO.q (Y.move (v := .int .i64 _) rfl) ?_
    first | refine WO.q (Y.ixN sl_64 rfl rfl (by (first | assumption | rfl)) (by (first | assumption | omega))) ?_ | refine WO.q (Y.ix sl_64 rfl rfl (by (first | assumption | rfl)) (by (first | assumption | omega)) (by (first | assumption | omega))) ?_
    refine WO.q (Y.fieldE fo_71_1 rfl) ?_
    refine WO.q (Y.load rfl (loadRdF sz_56 (R1.ext S.ext) (by assumption) rfl)) ?_
    refine WO.q (Y.neq rfl rfl) ?_
    refine WO.nil ?_
    refine Then.nx ?_
    refine W.cond rfl (fun h3 => ?_) (fun h3 => ?_) -- cond 2
    ·
     have rh3 := h3
     (try simp only [Q1, Q2, Q3, Q4, Q5, Q6, Q7, Q8, Q9, Qa] at h3)
     refine W.exit ?_
     refine Then.x ?_
     refine InB.e ?_
     refine Then.nx ?_
     refine W.region rfl ?_
     refine WO.q (Y.move (v := .int .i64 _) rfl) ?_
     first | refine WO.q (Y.addI rfl rfl (by omega)) ?_ | refine WO.q (Y.add rfl rfl) ?_
     refine WO.q (Y.assign (v := .int .i64 _) rfl) ?_
     refine WO.nil ?_
     refine Then.nx ⟨?_, ?_, ?_⟩
     ·
      (repeat (first | exact Out.hav _ _ _ | exact Out.refl _ _ | refine Out.up rfl ?_ | refine Out.sub rfl ?_))
     ·
      exact ⟨i + 1, rfl, by omega, (fun j hj => by (rcases Nat.lt_succ_iff_lt_or_eq.1 hj with hj | rfl; exact hob j hj; first | exact bad_other hx1 (by omega) | (rw [badO_24 hx1 (by omega) (by omega), Bool.or_eq_false_iff, decide_eq_false_iff_not, decide_eq_false_iff_not]; omega) | (rw [badO_3 hx1 (by omega) (by omega) (fun _ => hz1), Bool.or_eq_false_iff, Bool.or_eq_false_iff, decide_eq_false_iff_not, decide_eq_false_iff_not, decide_eq_false_iff_not]; omega))), S⟩
     ·
      (show l.length - (i + 1) < l.length - i; omega)
    ·
     have rh3 := h3
     (try simp only [Q1, Q2, Q3, Q4, Q5, Q6, Q7, Q8, Q9, Qa] at h3)
     refine W.skip ?_
     refine Then.nx ?_
     refine W.seq ?_
     refine W.region rfl ?_
     refine WO.q (Y.move (v := .slice _ _ _) rfl) ?_
     refine WO.q (Y.move (v := .int .i64 _) rfl) ?_
     refine WO.q (Y.move (v := .slice _ _ _) rfl) ?_
     refine WO.q (Y.move (v := .int .i64 _) rfl) ?_
     first | refine WO.q (Y.ixN sl_64 rfl rfl (by (first | assumption | rfl)) (by (first | assumption | omega))) ?_ | refine WO.q (Y.ix sl_64 rfl rfl (by (first | assumption | rfl)) (by (first | assumption | omega)) (by (first | assumption | omega))) ?_
     refine WO.q (Y.fieldE fo_71_3 rfl) ?_
     refine WO.q (Y.load rfl (loadRdF sz_2 (R1.ext S.ext) (by assumption) rfl)) ?_
     refine WO.e (O.call cf_70 rfl (before_spec _ a c l (R1.ext S.ext) (by omega) i (by omega) x.arg 2) ?_)
     rintro _ w ⟨rfl, E⟩
     replace S := S.keep E
     refine ⟨_, rfl, ?_⟩
     refine WO.q (Y.assign (v := .int .i64 _) rfl) ?_
     refine WO.nil ?_
     refine Then.nx ?_
     refine W.seq ?_
     refine W.region rfl ?_
     refine WO.q (Y.move (v := .slice _ _ _) rfl) ?_
     refine WO.q (Y.move (v := .int .i64 _) rfl) ?_
     first | refine WO.q (Y.ixN sl_64 rfl rfl (by (first | assumption | rfl)) (by (first | assumption | omega))) ?_ | refine WO.q (Y.ix sl_64 rfl rfl (by (first | assumption | rfl)) (by (first | assumption | omega)) (by (first | assumption | omega))) ?_
     refine WO.q (Y.fieldE fo_71_4 rfl) ?_
     refine WO.q (Y.load rfl (loadRdF sz_2 (R1.ext S.ext) (by assumption) rfl)) ?_
     refine WO.nil ?_
     refine Then.nx ?_
     refine W.block ?_
     refine W.seq ?_
     refine W.seq ?_
     refine W.region rfl ?_
     refine WO.q (Y.eql rfl rfl) ?_
     refine WO.q (Y.assign (v := .bool _) rfl) ?_
     refine WO.nil ?_
     refine Then.nx ?_
     refine W.cond rfl (fun h4 => ?_) (fun h4 => ?_) -- cond 3
     ·
      have rh4 := h4
      (try simp only [Q1, Q2, Q3, Q4, Q5, Q6, Q7, Q8, Q9, Qa] at h4)
      refine W.skip ?_
      refine Then.nx ?_
      first | refine W.condT rfl ?_ | refine W.condT (congrArg Value.bool (by assumption)) ?_
      refine W.seq ?_
      refine W.region rfl ?_
      refine WO.q (Y.move (v := .int .i64 _) rfl) ?_
      refine WO.q (Y.geq rfl rfl) ?_
      refine WO.q (Y.move (v := .bool _) rfl) ?_
      refine WO.splitB (fun h5 => ?_) (fun h5 => ?_)
      ·
       (try simp only [Q1, Q2, Q3, Q4, Q5, Q6, Q7, Q8, Q9, Qa] at h5)
       refine WO.qF rfl ?_
       refine WO.qF rfl ?_
       refine WO.qF rfl ?_
       refine WO.qF rfl ?_
       refine WO.qF rfl ?_
       refine WO.qF rfl ?_
       refine WO.qF rfl ?_
       refine WO.qF rfl ?_
       refine WO.qF rfl ?_
       refine WO.q (Y.pickT (u := .bool _) rfl rfl) ?_
       refine WO.nil ?_
       refine Then.nx ?_
       first | refine W.condT rfl ?_ | refine W.condT (congrArg Value.bool (by assumption)) ?_
       refine W.seq ?_
       refine W.region rfl ?_
       refine WO.q (Y.move (v := .int .i64 _) rfl) ?_
       refine WO.q (Y.assign (v := .int .i64 _) rfl) ?_
       refine WO.q (Y.assign (v := .int .i64 _) rfl) ?_
       refine WO.nil ?_
       refine Then.nx ?_
       refine W.ret ?_
       refine InB.r ?_
       refine InB.r ?_
       refine Then.r ?_
       refine Then.r ?_
       refine InB.r ?_
       refine Then.r ?_
       refine BodyQ.ret2 Tryd.results37 (ResV.tmp _ rfl) (ResV.tmp _ rfl) ?_
       first | (obtain ⟨e1, e2⟩ := once_no (l := l) (by assumption); rw [e1, e2]; exact ⟨rfl, S.ext⟩) | (obtain ⟨e1, e2⟩ := once_bad (l := l) (i := i) (by assumption) (by first | (rw [badO_24 hx1 (by omega) (by omega), Bool.or_eq_true, decide_eq_true_eq, decide_eq_true_eq]; omega) | (rw [badO_3 hx1 (by omega) (by omega) (fun _ => hz1), Bool.or_eq_true, Bool.or_eq_true, decide_eq_true_eq, decide_eq_true_eq, decide_eq_true_eq]; omega)) hob; rw [e1, e2]; exact ⟨rfl, S.ext⟩) | (obtain ⟨e1, e2⟩ := once_ok (l := l) (n := i) (by assumption) (by omega) hob; rw [e1, e2]; exact ⟨rfl, S.ext⟩)
      ·
       (try simp only [Q1, Q2, Q3, Q4, Q5, Q6, Q7, Q8, Q9, Qa] at h5)
       refine WO.qT rfl (Y.move (v := .slice _ _ _) rfl) ?_
       refine WO.qT rfl (Y.move (v := .int .i64 _) rfl) ?_
       refine WO.qT rfl (Y.move (v := .slice _ _ _) rfl) ?_
       refine WO.qT rfl (Y.move (v := .int .i64 _) rfl) ?_
       first | refine WO.qT rfl (Y.ixN sl_64 rfl rfl (by (first | assumption | rfl)) (by (first | assumption | omega))) ?_ | refine WO.qT rfl (Y.ix sl_64 rfl rfl (by (first | assumption | rfl)) (by (first | assumption | omega)) (by (first | assumption | omega))) ?_
       refine WO.qT rfl (Y.fieldE fo_71_3 rfl) ?_
       refine WO.qT rfl (Y.load rfl (loadRdF sz_2 (R1.ext S.ext) (by assumption) rfl)) ?_
       refine WO.eT rfl (O.call cf_70 rfl (before_spec _ a c l (R1.ext S.ext) (by omega) i (by omega) x.arg 4) ?_)
       rintro _ w ⟨rfl, E⟩
       replace S := S.keep E
       refine ⟨_, rfl, ?_⟩
       refine WO.qT rfl (Y.geq rfl rfl) ?_
       refine WO.q (Y.pickF (u := .bool _) rfl rfl) ?_
       refine WO.nil ?_
       refine Then.nx ?_
       refine W.cond rfl (fun h6 => ?_) (fun h6 => ?_) -- cond 4
       ·
        have rh6 := h6
        (try simp only [Q1, Q2, Q3, Q4, Q5, Q6, Q7, Q8, Q9, Qa] at h6)
        refine W.seq ?_
        refine W.region rfl ?_
        refine WO.q (Y.move (v := .int .i64 _) rfl) ?_
        refine WO.q (Y.assign (v := .int .i64 _) rfl) ?_
        refine WO.q (Y.assign (v := .int .i64 _) rfl) ?_
        refine WO.nil ?_
        refine Then.nx ?_
        refine W.ret ?_
        refine InB.r ?_
        refine InB.r ?_
        refine Then.r ?_
        refine Then.r ?_
        refine InB.r ?_
        refine Then.r ?_
        refine BodyQ.ret2 Tryd.results37 (ResV.tmp _ rfl) (ResV.tmp _ rfl) ?_
        first | (obtain ⟨e1, e2⟩ := once_no (l := l) (by assumption); rw [e1, e2]; exact ⟨rfl, S.ext⟩) | (obtain ⟨e1, e2⟩ := once_bad (l := l) (i := i) (by assumption) (by first | (rw [badO_24 hx1 (by omega) (by omega), Bool.or_eq_true, decide_eq_true_eq, decide_eq_true_eq]; omega) | (rw [badO_3 hx1 (by omega) (by omega) (fun _ => hz1), Bool.or_eq_true, Bool.or_eq_true, decide_eq_true_eq, decide_eq_true_eq, decide_eq_true_eq]; omega)) hob; rw [e1, e2]; exact ⟨rfl, S.ext⟩) | (obtain ⟨e1, e2⟩ := once_ok (l := l) (n := i) (by assumption) (by omega) hob; rw [e1, e2]; exact ⟨rfl, S.ext⟩)
       ·
        have rh6 := h6
        (try simp only [Q1, Q2, Q3, Q4, Q5, Q6, Q7, Q8, Q9, Qa] at h6)
        refine W.skip ?_
        refine InB.nx ?_
        refine InB.nx ?_
        refine Then.nx ?_
        refine W.region rfl ?_
        refine WO.q (Y.move (v := .int .i64 _) rfl) ?_
        first | refine WO.q (Y.addI rfl rfl (by omega)) ?_ | refine WO.q (Y.add rfl rfl) ?_
        refine WO.q (Y.assign (v := .int .i64 _) rfl) ?_
        refine WO.nil ?_
        refine Then.nx ⟨?_, ?_, ?_⟩
        ·
         (repeat (first | exact Out.hav _ _ _ | exact Out.refl _ _ | refine Out.up rfl ?_ | refine Out.sub rfl ?_))
        ·
         exact ⟨i + 1, rfl, by omega, (fun j hj => by (rcases Nat.lt_succ_iff_lt_or_eq.1 hj with hj | rfl; exact hob j hj; first | exact bad_other hx1 (by omega) | (rw [badO_24 hx1 (by omega) (by omega), Bool.or_eq_false_iff, decide_eq_false_iff_not, decide_eq_false_iff_not]; omega) | (rw [badO_3 hx1 (by omega) (by omega) (fun _ => hz1), Bool.or_eq_false_iff, Bool.or_eq_false_iff, decide_eq_false_iff_not, decide_eq_false_iff_not, decide_eq_false_iff_not]; omega))), S⟩
        ·
         (show l.length - (i + 1) < l.length - i; omega)
     ·
      have rh4 := h4
      (try simp only [Q1, Q2, Q3, Q4, Q5, Q6, Q7, Q8, Q9, Qa] at h4)
      refine W.region rfl ?_
      refine WO.q (Y.eql rfl rfl) ?_
      refine WO.q (Y.assign (v := .bool _) rfl) ?_
      refine WO.nil ?_
      refine Then.nx ?_
      refine W.cond rfl (fun h7 => ?_) (fun h7 => ?_) -- cond 5
      ·
       have rh7 := h7
       (try simp only [Q1, Q2, Q3, Q4, Q5, Q6, Q7, Q8, Q9, Qa] at h7)
       refine W.seq ?_
       refine W.region rfl ?_
       refine WO.q (Y.move (v := .int .i64 _) rfl) ?_
       refine WO.q (Y.geq rfl rfl) ?_
       refine WO.q (Y.move (v := .bool _) rfl) ?_
       refine WO.splitB (fun h8 => ?_) (fun h8 => ?_)
       ·
        (try simp only [Q1, Q2, Q3, Q4, Q5, Q6, Q7, Q8, Q9, Qa] at h8)
        refine WO.qF rfl ?_
        refine WO.qF rfl ?_
        refine WO.qF rfl ?_
        refine WO.qF rfl ?_
        refine WO.qF rfl ?_
        refine WO.qF rfl ?_
        refine WO.qF rfl ?_
        refine WO.qF rfl ?_
        refine WO.qF rfl ?_
        refine WO.q (Y.pickT (u := .bool _) rfl rfl) ?_
        refine WO.nil ?_
        refine Then.nx ?_
        first | refine W.condT rfl ?_ | refine W.condT (congrArg Value.bool (by assumption)) ?_
        refine W.seq ?_
        refine W.region rfl ?_
        refine WO.q (Y.move (v := .int .i64 _) rfl) ?_
        refine WO.q (Y.assign (v := .int .i64 _) rfl) ?_
        refine WO.q (Y.assign (v := .int .i64 _) rfl) ?_
        refine WO.nil ?_
        refine Then.nx ?_
        refine W.ret ?_
        refine InB.r ?_
        refine InB.r ?_
        refine Then.r ?_
        refine Then.r ?_
        refine InB.r ?_
        refine Then.r ?_
        refine BodyQ.ret2 Tryd.results37 (ResV.tmp _ rfl) (ResV.tmp _ rfl) ?_
        first | (obtain ⟨e1, e2⟩ := once_no (l := l) (by assumption); rw [e1, e2]; exact ⟨rfl, S.ext⟩) | (obtain ⟨e1, e2⟩ := once_bad (l := l) (i := i) (by assumption) (by first | (rw [badO_24 hx1 (by omega) (by omega), Bool.or_eq_true, decide_eq_true_eq, decide_eq_true_eq]; omega) | (rw [badO_3 hx1 (by omega) (by omega) (fun _ => hz1), Bool.or_eq_true, Bool.or_eq_true, decide_eq_true_eq, decide_eq_true_eq, decide_eq_true_eq]; omega)) hob; rw [e1, e2]; exact ⟨rfl, S.ext⟩) | (obtain ⟨e1, e2⟩ := once_ok (l := l) (n := i) (by assumption) (by omega) hob; rw [e1, e2]; exact ⟨rfl, S.ext⟩)
       ·
        (try simp only [Q1, Q2, Q3, Q4, Q5, Q6, Q7, Q8, Q9, Qa] at h8)
        refine WO.qT rfl (Y.move (v := .slice _ _ _) rfl) ?_
        refine WO.qT rfl (Y.move (v := .int .i64 _) rfl) ?_
        refine WO.qT rfl (Y.move (v := .slice _ _ _) rfl) ?_
        refine WO.qT rfl (Y.move (v := .int .i64 _) rfl) ?_
        first | refine WO.qT rfl (Y.ixN sl_64 rfl rfl (by (first | assumption | rfl)) (by (first | assumption | omega))) ?_ | refine WO.qT rfl (Y.ix sl_64 rfl rfl (by (first | assumption | rfl)) (by (first | assumption | omega)) (by (first | assumption | omega))) ?_
        refine WO.qT rfl (Y.fieldE fo_71_3 rfl) ?_
        refine WO.qT rfl (Y.load rfl (loadRdF sz_2 (R1.ext S.ext) (by assumption) rfl)) ?_
        refine WO.eT rfl (O.call cf_70 rfl (before_spec _ a c l (R1.ext S.ext) (by omega) i (by omega) x.arg 4) ?_)
        rintro _ w ⟨rfl, E⟩
        replace S := S.keep E
        refine ⟨_, rfl, ?_⟩
        refine WO.qT rfl (Y.geq rfl rfl) ?_
        refine WO.q (Y.pickF (u := .bool _) rfl rfl) ?_
        refine WO.nil ?_
        refine Then.nx ?_
        refine W.cond rfl (fun h9 => ?_) (fun h9 => ?_) -- cond 6
        ·
         have rh9 := h9
         (try simp only [Q1, Q2, Q3, Q4, Q5, Q6, Q7, Q8, Q9, Qa] at h9)
         refine W.seq ?_
         refine W.region rfl ?_
         refine WO.q (Y.move (v := .int .i64 _) rfl) ?_
         refine WO.q (Y.assign (v := .int .i64 _) rfl) ?_
         refine WO.q (Y.assign (v := .int .i64 _) rfl) ?_
         refine WO.nil ?_
         refine Then.nx ?_
         refine W.ret ?_
         refine InB.r ?_
         refine InB.r ?_
         refine Then.r ?_
         refine Then.r ?_
         refine InB.r ?_
         refine Then.r ?_
         refine BodyQ.ret2 Tryd.results37 (ResV.tmp _ rfl) (ResV.tmp _ rfl) ?_
         first | (obtain ⟨e1, e2⟩ := once_no (l := l) (by assumption); rw [e1, e2]; exact ⟨rfl, S.ext⟩) | (obtain ⟨e1, e2⟩ := once_bad (l := l) (i := i) (by assumption) (by first | (rw [badO_24 hx1 (by omega) (by omega), Bool.or_eq_true, decide_eq_true_eq, decide_eq_true_eq]; omega) | (rw [badO_3 hx1 (by omega) (by omega) (fun _ => hz1), Bool.or_eq_true, Bool.or_eq_true, decide_eq_true_eq, decide_eq_true_eq, decide_eq_true_eq]; omega)) hob; rw [e1, e2]; exact ⟨rfl, S.ext⟩) | (obtain ⟨e1, e2⟩ := once_ok (l := l) (n := i) (by assumption) (by omega) hob; rw [e1, e2]; exact ⟨rfl, S.ext⟩)
        ·
         have rh9 := h9
         (try simp only [Q1, Q2, Q3, Q4, Q5, Q6, Q7, Q8, Q9, Qa] at h9)
         refine W.skip ?_
         refine InB.nx ?_
         refine InB.nx ?_
         refine Then.nx ?_
         refine W.region rfl ?_
         refine WO.q (Y.move (v := .int .i64 _) rfl) ?_
         first | refine WO.q (Y.addI rfl rfl (by omega)) ?_ | refine WO.q (Y.add rfl rfl) ?_
         refine WO.q (Y.assign (v := .int .i64 _) rfl) ?_
         refine WO.nil ?_
         refine Then.nx ⟨?_, ?_, ?_⟩
         ·
          (repeat (first | exact Out.hav _ _ _ | exact Out.refl _ _ | refine Out.up rfl ?_ | refine Out.sub rfl ?_))
         ·
          exact ⟨i + 1, rfl, by omega, (fun j hj => by (rcases Nat.lt_succ_iff_lt_or_eq.1 hj with hj | rfl; exact hob j hj; first | exact bad_other hx1 (by omega) | (rw [badO_24 hx1 (by omega) (by omega), Bool.or_eq_false_iff, decide_eq_false_iff_not, decide_eq_false_iff_not]; omega) | (rw [badO_3 hx1 (by omega) (by omega) (fun _ => hz1), Bool.or_eq_false_iff, Bool.or_eq_false_iff, decide_eq_false_iff_not, decide_eq_false_iff_not, decide_eq_false_iff_not]; omega))), S⟩
         ·
          (show l.length - (i + 1) < l.length - i; omega)
      ·
       have rh7 := h7
       (try simp only [Q1, Q2, Q3, Q4, Q5, Q6, Q7, Q8, Q9, Qa] at h7)
       refine W.seq ?_
       refine W.region rfl ?_
       refine WO.q (Y.eql rfl rfl) ?_
       refine WO.q (Y.assign (v := .bool _) rfl) ?_
       refine WO.nil ?_
       refine Then.nx ?_
       refine W.cond rfl (fun h10 => ?_) (fun h10 => ?_) -- cond 7
       ·
        have rh10 := h10
        (try simp only [Q1, Q2, Q3, Q4, Q5, Q6, Q7, Q8, Q9, Qa] at h10)
        refine W.seq ?_
        refine W.draw (.q 0 (.q 1 (.q 2 (.q 3 (.q 4 (.q 5 (.q 6 (.q 7 (.q 8 (.q 9 (.q 10 (.q 11 (.q 12 (.q 13 (.q 14 (.q 15 (.q 16 (.q 17 (.q 18 (.q 19 (.q 20 (.q 21 (.q 22 (.e 23 (.q 24 (.q 25 .nil)))))))))))))))))))))))))) (fun w => Sat _ w _) rfl rfl (by kernel_rfl) rfl (by kernel_rfl) (by repeat (first | exact BodyQ.noFrame | refine Then.noFrame ?_ | refine InB.noFrame ?_)) S.drew ?_
        clear S
        refine Plan.q rfl (fun w S => Y.move (v := .int .i64 _) rfl) ?_
        refine Plan.q rfl (fun w S => Y.lss rfl rfl) ?_
        refine Plan.q rfl (fun w S => Y.move (v := .bool _) rfl) ?_
        refine Plan.splitB (fun h11 => ?_) (fun h11 => ?_)
        ·
         (try simp only [Q1, Q2, Q3, Q4, Q5, Q6, Q7, Q8, Q9, Qa] at h11)
         refine Plan.qF rfl rfl ?_
         refine Plan.qF rfl rfl ?_
         refine Plan.qF rfl rfl ?_
         refine Plan.qF rfl rfl ?_
         refine Plan.qF rfl rfl ?_
         refine Plan.qF rfl rfl ?_
         refine Plan.qF rfl rfl ?_
         refine Plan.qF rfl rfl ?_
         refine Plan.qF rfl rfl ?_
         refine Plan.qF rfl rfl ?_
         refine Plan.qF rfl rfl ?_
         refine Plan.q rfl (fun w S => Y.pickT (u := .bool _) rfl rfl) ?_
         refine Plan.q rfl (fun w S => Y.move (v := .bool _) rfl) ?_
         refine Plan.qF rfl rfl ?_
         refine Plan.qF rfl rfl ?_
         refine Plan.qF rfl rfl ?_
         refine Plan.qF rfl rfl ?_
         refine Plan.qF rfl rfl ?_
         refine Plan.qF rfl rfl ?_
         refine Plan.qF rfl rfl ?_
         refine Plan.eF rfl rfl ?_
         refine Plan.qF rfl rfl ?_
         refine Plan.q rfl (fun w S => Y.pickT (u := .bool _) rfl rfl) ?_
         refine Plan.nil (fun w S => ?_)
         replace S : Sat _ _ _ := S
         refine Then.nx ?_
         first | refine W.condT rfl ?_ | refine W.condT (congrArg Value.bool (by assumption)) ?_
         refine W.seq ?_
         refine W.region rfl ?_
         refine WO.q (Y.move (v := .int .i64 _) rfl) ?_
         refine WO.q (Y.assign (v := .int .i64 _) rfl) ?_
         refine WO.q (Y.assign (v := .int .i64 _) rfl) ?_
         refine WO.nil ?_
         refine Then.nx ?_
         refine W.ret ?_
         refine InB.r ?_
         refine InB.r ?_
         refine Then.r ?_
         refine Then.r ?_
         refine InB.r ?_
         refine Then.r ?_
         refine BodyQ.ret2 Tryd.results37 (ResV.tmp _ rfl) (ResV.tmp _ rfl) ?_
         first | (obtain ⟨e1, e2⟩ := once_no (l := l) (by assumption); rw [e1, e2]; exact ⟨rfl, S.ext⟩) | (obtain ⟨e1, e2⟩ := once_bad (l := l) (i := i) (by assumption) (by first | (rw [badO_24 hx1 (by omega) (by omega), Bool.or_eq_true, decide_eq_true_eq, decide_eq_true_eq]; omega) | (rw [badO_3 hx1 (by omega) (by omega) (fun _ => hz1), Bool.or_eq_true, Bool.or_eq_true, decide_eq_true_eq, decide_eq_true_eq, decide_eq_true_eq]; omega)) hob; rw [e1, e2]; exact ⟨rfl, S.ext⟩) | (obtain ⟨e1, e2⟩ := once_ok (l := l) (n := i) (by assumption) (by omega) hob; rw [e1, e2]; exact ⟨rfl, S.ext⟩)
        ·
         (try simp only [Q1, Q2, Q3, Q4, Q5, Q6, Q7, Q8, Q9, Qa] at h11)
         refine Plan.qT rfl rfl (fun w S => Y.move (v := .slice _ _ _) rfl) ?_
         refine Plan.qT rfl rfl (fun w S => Y.move (v := .int .i64 _) rfl) ?_
         first | refine Plan.qT rfl rfl (fun w S => Y.ixN sl_64 rfl rfl (by (first | assumption | rfl)) (by (first | assumption | omega))) ?_ | refine Plan.qT rfl rfl (fun w S => Y.ix sl_64 rfl rfl (by (first | assumption | rfl)) (by (first | assumption | omega)) (by (first | assumption | omega))) ?_
         refine Plan.qT rfl rfl (fun w S => Y.fieldE fo_71_0 rfl) ?_
         refine Plan.qT rfl rfl (fun w S => Y.load rfl (loadRdF sz_3 (R1.ext S.ext) (by assumption) rfl)) ?_
         refine Plan.qT rfl rfl (fun w S => Y.move (v := .slice _ _ _) rfl) ?_
         refine Plan.qT rfl rfl (fun w S => Y.move (v := .int .i64 _) rfl) ?_
         first | refine Plan.qT rfl rfl (fun w S => Y.ixN sl_64 rfl rfl (by (first | assumption | rfl)) (by (first | assumption | omega))) ?_ | refine Plan.qT rfl rfl (fun w S => Y.ix sl_64 rfl rfl (by (first | assumption | rfl)) (by (first | assumption | omega)) (by (first | assumption | omega))) ?_
         refine Plan.qT rfl rfl (fun w S => Y.fieldE fo_71_0 rfl) ?_
         refine Plan.qT rfl rfl (fun w S => Y.load rfl (loadRdF sz_3 (R1.ext S.ext) (by assumption) rfl)) ?_
         refine Plan.qT rfl rfl (fun w S => Y.neq rfl rfl) ?_
         refine Plan.q rfl (fun w S => Y.pickF (u := .bool _) rfl rfl) ?_
         refine Plan.q rfl (fun w S => Y.move (v := .bool _) rfl) ?_
         refine Plan.splitB (fun h12 => ?_) (fun h12 => ?_)
         ·
          (try simp only [Q1, Q2, Q3, Q4, Q5, Q6, Q7, Q8, Q9, Qa] at h12)
          refine Plan.qF rfl rfl ?_
          refine Plan.qF rfl rfl ?_
          refine Plan.qF rfl rfl ?_
          refine Plan.qF rfl rfl ?_
          refine Plan.qF rfl rfl ?_
          refine Plan.qF rfl rfl ?_
          refine Plan.qF rfl rfl ?_
          refine Plan.eF rfl rfl ?_
          refine Plan.qF rfl rfl ?_
          refine Plan.q rfl (fun w S => Y.pickT (u := .bool _) rfl rfl) ?_
          refine Plan.nil (fun w S => ?_)
          replace S : Sat _ _ _ := S
          refine Then.nx ?_
          first | refine W.condT rfl ?_ | refine W.condT (congrArg Value.bool (by assumption)) ?_
          refine W.seq ?_
          refine W.region rfl ?_
          refine WO.q (Y.move (v := .int .i64 _) rfl) ?_
          refine WO.q (Y.assign (v := .int .i64 _) rfl) ?_
          refine WO.q (Y.assign (v := .int .i64 _) rfl) ?_
          refine WO.nil ?_
          refine Then.nx ?_
          refine W.ret ?_
          refine InB.r ?_
          refine InB.r ?_
          refine Then.r ?_
          refine Then.r ?_
          refine InB.r ?_
          refine Then.r ?_
          refine BodyQ.ret2 Tryd.results37 (ResV.tmp _ rfl) (ResV.tmp _ rfl) ?_
          first | (obtain ⟨e1, e2⟩ := once_no (l := l) (by assumption); rw [e1, e2]; exact ⟨rfl, S.ext⟩) | (obtain ⟨e1, e2⟩ := once_bad (l := l) (i := i) (by assumption) (by first | (rw [badO_24 hx1 (by omega) (by omega), Bool.or_eq_true, decide_eq_true_eq, decide_eq_true_eq]; omega) | (rw [badO_3 hx1 (by omega) (by omega) (fun _ => hz1), Bool.or_eq_true, Bool.or_eq_true, decide_eq_true_eq, decide_eq_true_eq, decide_eq_true_eq]; omega)) hob; rw [e1, e2]; exact ⟨rfl, S.ext⟩) | (obtain ⟨e1, e2⟩ := once_ok (l := l) (n := i) (by assumption) (by omega) hob; rw [e1, e2]; exact ⟨rfl, S.ext⟩)
         ·
          (try simp only [Q1, Q2, Q3, Q4, Q5, Q6, Q7, Q8, Q9, Qa] at h12)
          refine Plan.qT rfl rfl (fun w S => Y.move (v := .slice _ _ _) rfl) ?_
          refine Plan.qT rfl rfl (fun w S => Y.move (v := .int .i64 _) rfl) ?_
          refine Plan.qT rfl rfl (fun w S => Y.move (v := .slice _ _ _) rfl) ?_
          refine Plan.qT rfl rfl (fun w S => Y.move (v := .int .i64 _) rfl) ?_
          first | refine Plan.qT rfl rfl (fun w S => Y.ixN sl_64 rfl rfl (by (first | assumption | rfl)) (by (first | assumption | omega))) ?_ | refine Plan.qT rfl rfl (fun w S => Y.ix sl_64 rfl rfl (by (first | assumption | rfl)) (by (first | assumption | omega)) (by (first | assumption | omega))) ?_
          refine Plan.qT rfl rfl (fun w S => Y.fieldE fo_71_3 rfl) ?_
          refine Plan.qT rfl rfl (fun w S => Y.load rfl (loadRdF sz_2 (R1.ext S.ext) (by assumption) rfl)) ?_
          refine Plan.eT rfl rfl (fun w S => O.call cf_70 rfl (before_spec _ a c l (R1.ext S.ext) (by omega) i (by omega) x.arg 3) ?_)
          rintro _ w ⟨rfl, E⟩
          replace S := S.keep E
          refine ⟨_, rfl, ?_⟩
          refine ⟨(fun w => Sat _ w _), S, (.inr (fun w S => S.pk (by repeat (first | exact Pk.nil _ | exact Pk.refl _ | refine Pk.cons 0 rfl ?_ | refine Pk.cons 1 rfl ?_ | refine Pk.cons 2 rfl ?_ | refine Pk.cons 3 rfl ?_ | refine Pk.cons 4 rfl ?_ | refine Pk.cons 5 rfl ?_ | refine Pk.cons 6 rfl ?_ | refine Pk.cons 7 rfl ?_ | refine Pk.cons 8 rfl ?_ | refine Pk.cons 9 rfl ?_ | refine Pk.cons 10 rfl ?_ | refine Pk.cons 11 rfl ?_ | refine Pk.cons 12 rfl ?_ | refine Pk.cons 13 rfl ?_ | refine Pk.drop ?_)))), ?_⟩
          clear S
          refine Plan.qT rfl rfl (fun w S => Y.geq rfl rfl) ?_
          refine Plan.q rfl (fun w S => Y.pickF (u := .bool _) rfl rfl) ?_
          refine Plan.nil (fun w S => ?_)
          replace S : Sat _ _ _ := S
          refine Then.nx ?_
          refine W.cond rfl (fun h13 => ?_) (fun h13 => ?_) -- cond 8
          ·
           have rh13 := h13
           (try simp only [Q1, Q2, Q3, Q4, Q5, Q6, Q7, Q8, Q9, Qa] at h13)
           refine W.seq ?_
           refine W.region rfl ?_
           refine WO.q (Y.move (v := .int .i64 _) rfl) ?_
           refine WO.q (Y.assign (v := .int .i64 _) rfl) ?_
           refine WO.q (Y.assign (v := .int .i64 _) rfl) ?_
           refine WO.nil ?_
           refine Then.nx ?_
           refine W.ret ?_
           refine InB.r ?_
           refine InB.r ?_
           refine Then.r ?_
           refine Then.r ?_
           refine InB.r ?_
           refine Then.r ?_
           refine BodyQ.ret2 Tryd.results37 (ResV.tmp _ rfl) (ResV.tmp _ rfl) ?_
           first | (obtain ⟨e1, e2⟩ := once_no (l := l) (by assumption); rw [e1, e2]; exact ⟨rfl, S.ext⟩) | (obtain ⟨e1, e2⟩ := once_bad (l := l) (i := i) (by assumption) (by first | (rw [badO_24 hx1 (by omega) (by omega), Bool.or_eq_true, decide_eq_true_eq, decide_eq_true_eq]; omega) | (rw [badO_3 hx1 (by omega) (by omega) (fun _ => hz1), Bool.or_eq_true, Bool.or_eq_true, decide_eq_true_eq, decide_eq_true_eq, decide_eq_true_eq]; omega)) hob; rw [e1, e2]; exact ⟨rfl, S.ext⟩) | (obtain ⟨e1, e2⟩ := once_ok (l := l) (n := i) (by assumption) (by omega) hob; rw [e1, e2]; exact ⟨rfl, S.ext⟩)
          ·
           have rh13 := h13
           (try simp only [Q1, Q2, Q3, Q4, Q5, Q6, Q7, Q8, Q9, Qa] at h13)
           refine W.skip ?_
           refine InB.nx ?_
           refine InB.nx ?_
           refine Then.nx ?_
           refine W.region rfl ?_
           refine WO.q (Y.move (v := .int .i64 _) rfl) ?_
           first | refine WO.q (Y.addI rfl rfl (by omega)) ?_ | refine WO.q (Y.add rfl rfl) ?_
           refine WO.q (Y.assign (v := .int .i64 _) rfl) ?_
           refine WO.nil ?_
           refine Then.nx ⟨?_, ?_, ?_⟩
           ·
            (repeat (first | exact Out.hav _ _ _ | exact Out.refl _ _ | refine Out.up rfl ?_ | refine Out.sub rfl ?_))
           ·
            exact ⟨i + 1, rfl, by omega, (fun j hj => by (rcases Nat.lt_succ_iff_lt_or_eq.1 hj with hj | rfl; exact hob j hj; first | exact bad_other hx1 (by omega) | (rw [badO_24 hx1 (by omega) (by omega), Bool.or_eq_false_iff, decide_eq_false_iff_not, decide_eq_false_iff_not]; omega) | (rw [badO_3 hx1 (by omega) (by omega) (fun _ => hz1), Bool.or_eq_false_iff, Bool.or_eq_false_iff, decide_eq_false_iff_not, decide_eq_false_iff_not, decide_eq_false_iff_not]; omega))), S⟩
           ·
            (show l.length - (i + 1) < l.length - i; omega)
       ·
        have rh10 := h10
        (try simp only [Q1, Q2, Q3, Q4, Q5, Q6, Q7, Q8, Q9, Qa] at h10)
        refine W.skip ?_
        refine InB.nx ?_
        refine InB.nx ?_
        refine Then.nx ?_
        refine W.region rfl ?_
        refine WO.q (Y.move (v := .int .i64 _) rfl) ?_
        first | refine WO.q (Y.addI rfl rfl (by omega)) ?_ | refine WO.q (Y.add rfl rfl) ?_
        refine WO.q (Y.assign (v := .int .i64 _) rfl) ?_
        refine WO.nil ?_
        refine Then.nx ⟨?_, ?_, ?_⟩
        ·
         (repeat (first | exact Out.hav _ _ _ | exact Out.refl _ _ | refine Out.up rfl ?_ | refine Out.sub rfl ?_))
        ·
         exact ⟨i + 1, rfl, by omega, (fun j hj => by (rcases Nat.lt_succ_iff_lt_or_eq.1 hj with hj | rfl; exact hob j hj; first | exact bad_other hx1 (by omega) | (rw [badO_24 hx1 (by omega) (by omega), Bool.or_eq_false_iff, decide_eq_false_iff_not, decide_eq_false_iff_not]; omega) | (rw [badO_3 hx1 (by omega) (by omega) (fun _ => hz1), Bool.or_eq_false_iff, Bool.or_eq_false_iff, decide_eq_false_iff_not, decide_eq_false_iff_not, decide_eq_false_iff_not]; omega))), S⟩
        ·
         (show l.length - (i + 1) < l.length - i; omega)
   ·
    have rh2 := h2
    (try simp only [Q1, Q2, Q3, Q4, Q5, Q6, Q7, Q8, Q9, Qa] at h2)
    refine W.exit ?_
    refine Then.x ?_
    refine Then.x ?_
    refine InB.e ?_
    refine Then.nx ?_
    refine W.seq ?_
    refine W.region rfl ?_
    refine WO.q (Y.assign (v := .int .i64 _) rfl) ?_
    refine WO.q (Y.assign (v := .int .i64 _) rfl) ?_
    refine WO.nil ?_
    refine Then.nx ?_
    refine W.ret ?_
    refine BodyQ.ret2 Tryd.results37 (ResV.tmp _ rfl) (ResV.tmp _ rfl) ?_
    first | (obtain ⟨e1, e2⟩ := once_no (l := l) (by assumption); rw [e1, e2]; exact ⟨rfl, S.ext⟩) | (obtain ⟨e1, e2⟩ := once_bad (l := l) (i := i) (by assumption) (by first | (rw [badO_24 hx1 (by omega) (by omega), Bool.or_eq_true, decide_eq_true_eq, decide_eq_true_eq]; omega) | (rw [badO_3 hx1 (by omega) (by omega) (fun _ => hz1), Bool.or_eq_true, Bool.or_eq_true, decide_eq_true_eq, decide_eq_true_eq, decide_eq_true_eq]; omega)) hob; rw [e1, e2]; exact ⟨rfl, S.ext⟩) | (obtain ⟨e1, e2⟩ := once_ok (l := l) (n := i) (by assumption) (by omega) hob; rw [e1, e2]; exact ⟨rfl, S.ext⟩)
end Go.Proofs
