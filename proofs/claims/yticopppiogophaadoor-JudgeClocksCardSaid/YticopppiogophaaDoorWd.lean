/-
  Walks of ahead, Ahead.
-/
import Derived.Test.YticopppiogophaaDoorTp
import Derived.Test.YticopppiogophaaDoorTo
import Derived.Test.YticopppiogophaaDoorSx
import Derived.Test.YticopppiogophaaDoorFa
import Derived.Test.YticopppiogophaaDoorFb
import Derived.Test.YticopppiogophaaDoorFc
import Derived.Test.YticopppiogophaaDoorWc
set_option linter.unusedVariables false
set_option linter.unusedSimpArgs false
set_option maxRecDepth 100000
set_option maxHeartbeats 1000000
namespace Go.Proofs
open Go Go.TL Go.RowKit
theorem ahead_spec (w0 : World) (t : Int) (a b : Clk) (h0 : 0 ≤ t) (h1 : t < 64) :
    Calls Tryd.prog 65 [.int .i64 t, .agg (clkL 64 a).toArray, .agg (clkL 64 b).toArray].toArray w0 (fun e w => e = .returned (.bool (decide (a t.toNat ≤ b t.toNat))) ∧ Ext w0 w) := by
 have S := Sat.refl w0
 have hv : ∀ c : Clk, (clkL 64 c)[0 + t.toNat * 1]? = some (.int .i64 (c t.toNat)) := fun c => by (rw [Nat.zero_add, Nat.mul_one]; exact clkL_at c (by omega))
 refine calls_of_W (args := [.int .i64 t, .agg (clkL 64 a).toArray, .agg (clkL 64 b).toArray]) 14 Tryd.func65 rfl Tryd.ntmps65 rfl ?_
 refine W.seq ?_
 refine W.region rfl ?_
 refine WO.e (O.box rfl rfl S (fun b4 w S => ?_))
 refine WO.e (O.box rfl rfl S (fun b5 w S => ?_))
 refine WO.q (Y.assign (v := .bool _) rfl) ?_
 refine WO.nil ?_
 refine Then.nx ?_
 refine W.seq ?_
 refine W.draw (.q 0 (.q 1 (.q 2 (.q 3 (.q 4 (.q 5 (.q 6 (.q 7 .nil)))))))) (fun w => Sat _ w _) rfl rfl (by kernel_rfl) rfl (by kernel_rfl) (by repeat (first | exact BodyQ.noFrame | refine Then.noFrame ?_ | refine InB.noFrame ?_)) S.drew ?_
 clear S
 refine Plan.q rfl (fun w S => Y.move (v := .int .i64 _) rfl) ?_
 refine Plan.q rfl (fun w S => Y.ixA ar_109 rfl rfl (by (first | assumption | omega)) (by (first | assumption | omega))) ?_
 refine Plan.q rfl (fun w S => Y.load rfl (loadS1 sz_3 S 0 rfl (hv b))) ?_
 refine Plan.q rfl (fun w S => Y.move (v := .int .i64 _) rfl) ?_
 refine Plan.q rfl (fun w S => Y.ixA ar_109 rfl rfl (by (first | assumption | omega)) (by (first | assumption | omega))) ?_
 refine Plan.q rfl (fun w S => Y.load rfl (loadS1 sz_3 S 1 rfl (hv a))) ?_
 refine Plan.q rfl (fun w S => Y.geq rfl rfl) ?_
 refine Plan.q rfl (fun w S => Y.assign (v := .bool _) rfl) ?_
 refine Plan.nil (fun w S => ?_)
 replace S : Sat _ _ _ := S
 refine Then.nx ?_
 refine W.ret ?_
 refine BodyQ.ret1 Tryd.results65 (ResV.tmp _ rfl) ?_
 exact ⟨rfl, S.ext⟩
theorem Ahead_spec (w0 : World) (a : Option Addr) (c : Nat) (xs : List Access) (i j : Int) (R1 : Rd tAccess w0 a xs) (hx : xs.length ≤ 4096) :
    Calls Tryd.prog 23 [.slice a xs.length c, .int .i64 i, .int .i64 j].toArray w0 (fun e w => e = .returned (.tuple #[.bool (aheadB xs i j), .int .i64 (aheadE xs i j)]) ∧ Ext w0 w) := by
 have S := Sat.refl w0
 refine calls_of_W (args := [.slice a xs.length c, .int .i64 i, .int .i64 j]) 57 Tryd.func23 rfl Tryd.ntmps23 rfl ?_
 refine W.seq ?_
 refine W.region rfl ?_
 refine WO.q (Y.assign (v := .bool _) rfl) ?_
 refine WO.q (Y.assign (v := .int .i64 _) rfl) ?_
 refine WO.nil ?_
 refine Then.nx ?_
 refine W.seq ?_
 refine W.seq ?_
 refine W.region rfl ?_
 refine WO.q (Y.move (v := .slice _ _ _) rfl) ?_
 refine WO.e (O.call cf_63 rfl (may_spec _ _ _ xs (R1.ext S.ext) (by omega)) ?_)
 rintro _ w ⟨rfl, E⟩
 replace S := S.keep E
 refine ⟨_, rfl, ?_⟩
 refine WO.q (Y.move (v := .tuple _) rfl) ?_
 refine WO.q (Y.extract (v := .int .i64 _) rfl rfl) ?_
 refine WO.q (Y.extract (v := .bool _) rfl rfl) ?_
 refine WO.q (Y.assign (v := .int .i64 _) rfl) ?_
 refine WO.q (Y.assign (v := .bool _) rfl) ?_
 refine WO.nil ?_
 refine Then.nx ?_
 refine W.seq ?_
 refine W.region rfl ?_
 refine WO.q (Y.move (v := .bool _) rfl) ?_
 refine WO.q (Y.not rfl) ?_
 refine WO.nil ?_
 refine Then.nx ?_
 refine W.cond rfl (fun h1 => ?_) (fun h1 => ?_) -- cond 0
 ·
  have rh1 := h1
  (try simp only [Q1, Q2, Q3, Q4, Q5, Q6, Q7, Q8, Q9, Qa] at h1)
  refine W.seq ?_
  refine W.region rfl ?_
  refine WO.q (Y.assign (v := .bool _) rfl) ?_
  refine WO.q (Y.assign (v := .int .i64 _) rfl) ?_
  refine WO.nil ?_
  refine Then.nx ?_
  refine W.ret ?_
  refine Then.r ?_
  refine BodyQ.ret2 Tryd.results23 (ResV.tmp _ rfl) (ResV.tmp _ rfl) ?_
  first | exact ⟨ahead_no (by assumption), S.ext⟩ | exact ⟨ahead_out (by assumption) (by omega), S.ext⟩ | exact ⟨ahead_in (by assumption) hin (by (rw [decide_eq_true (show i ≠ j by omega), Bool.true_and, ahd, hth])), S.ext⟩ | exact ⟨ahead_in (by assumption) hin (by (rw [decide_eq_false (show ¬ i ≠ j by omega)]; rfl)), S.ext⟩
 ·
  have rh1 := h1
  (try simp only [Q1, Q2, Q3, Q4, Q5, Q6, Q7, Q8, Q9, Qa] at h1)
  refine W.skip ?_
  refine Then.nx ?_
  refine W.seq ?_
  refine W.seq ?_
  refine W.region rfl ?_
  refine WO.q (Y.move (v := .int .i64 _) rfl) ?_
  refine WO.q (Y.lss rfl rfl) ?_
  refine WO.q (Y.move (v := .bool _) rfl) ?_
  refine WO.splitB (fun h2 => ?_) (fun h2 => ?_)
  ·
   (try simp only [Q1, Q2, Q3, Q4, Q5, Q6, Q7, Q8, Q9, Qa] at h2)
   refine WO.qF rfl ?_
   refine WO.qF rfl ?_
   refine WO.qF rfl ?_
   refine WO.qF rfl ?_
   refine WO.q (Y.pickT (u := .bool _) rfl rfl) ?_
   refine WO.q (Y.move (v := .bool _) rfl) ?_
   refine WO.qF rfl ?_
   refine WO.qF rfl ?_
   refine WO.q (Y.pickT (u := .bool _) rfl rfl) ?_
   refine WO.q (Y.move (v := .bool _) rfl) ?_
   refine WO.qF rfl ?_
   refine WO.qF rfl ?_
   refine WO.qF rfl ?_
   refine WO.qF rfl ?_
   refine WO.q (Y.pickT (u := .bool _) rfl rfl) ?_
   refine WO.nil ?_
   refine Then.nx ?_
   first | refine W.condT rfl ?_ | refine W.condT (congrArg Value.bool (by assumption)) ?_
   refine W.seq ?_
   refine W.region rfl ?_
   refine WO.q (Y.assign (v := .bool _) rfl) ?_
   refine WO.q (Y.assign (v := .int .i64 _) rfl) ?_
   refine WO.nil ?_
   refine Then.nx ?_
   refine W.ret ?_
   refine Then.r ?_
   refine BodyQ.ret2 Tryd.results23 (ResV.tmp _ rfl) (ResV.tmp _ rfl) ?_
   first | exact ⟨ahead_no (by assumption), S.ext⟩ | exact ⟨ahead_out (by assumption) (by omega), S.ext⟩ | exact ⟨ahead_in (by assumption) hin (by (rw [decide_eq_true (show i ≠ j by omega), Bool.true_and, ahd, hth])), S.ext⟩ | exact ⟨ahead_in (by assumption) hin (by (rw [decide_eq_false (show ¬ i ≠ j by omega)]; rfl)), S.ext⟩
  ·
   (try simp only [Q1, Q2, Q3, Q4, Q5, Q6, Q7, Q8, Q9, Qa] at h2)
   refine WO.qT rfl (Y.move (v := .int .i64 _) rfl) ?_
   refine WO.qT rfl (Y.move (v := .slice _ _ _) rfl) ?_
   refine WO.qT rfl (Y.len (t' := 0) Tryd.underlying64 rfl) ?_
   refine WO.qT rfl (Y.geq rfl rfl) ?_
   refine WO.q (Y.pickF (u := .bool _) rfl rfl) ?_
   refine WO.q (Y.move (v := .bool _) rfl) ?_
   refine WO.splitB (fun h3 => ?_) (fun h3 => ?_)
   ·
    (try simp only [Q1, Q2, Q3, Q4, Q5, Q6, Q7, Q8, Q9, Qa] at h3)
    refine WO.qF rfl ?_
    refine WO.qF rfl ?_
    refine WO.q (Y.pickT (u := .bool _) rfl rfl) ?_
    refine WO.q (Y.move (v := .bool _) rfl) ?_
    refine WO.qF rfl ?_
    refine WO.qF rfl ?_
    refine WO.qF rfl ?_
    refine WO.qF rfl ?_
    refine WO.q (Y.pickT (u := .bool _) rfl rfl) ?_
    refine WO.nil ?_
    refine Then.nx ?_
    first | refine W.condT rfl ?_ | refine W.condT (congrArg Value.bool (by assumption)) ?_
    refine W.seq ?_
    refine W.region rfl ?_
    refine WO.q (Y.assign (v := .bool _) rfl) ?_
    refine WO.q (Y.assign (v := .int .i64 _) rfl) ?_
    refine WO.nil ?_
    refine Then.nx ?_
    refine W.ret ?_
    refine Then.r ?_
    refine BodyQ.ret2 Tryd.results23 (ResV.tmp _ rfl) (ResV.tmp _ rfl) ?_
    first | exact ⟨ahead_no (by assumption), S.ext⟩ | exact ⟨ahead_out (by assumption) (by omega), S.ext⟩ | exact ⟨ahead_in (by assumption) hin (by (rw [decide_eq_true (show i ≠ j by omega), Bool.true_and, ahd, hth])), S.ext⟩ | exact ⟨ahead_in (by assumption) hin (by (rw [decide_eq_false (show ¬ i ≠ j by omega)]; rfl)), S.ext⟩
   ·
    (try simp only [Q1, Q2, Q3, Q4, Q5, Q6, Q7, Q8, Q9, Qa] at h3)
    refine WO.qT rfl (Y.move (v := .int .i64 _) rfl) ?_
    refine WO.qT rfl (Y.lss rfl rfl) ?_
    refine WO.q (Y.pickF (u := .bool _) rfl rfl) ?_
    refine WO.q (Y.move (v := .bool _) rfl) ?_
    refine WO.splitB (fun h4 => ?_) (fun h4 => ?_)
    ·
     (try simp only [Q1, Q2, Q3, Q4, Q5, Q6, Q7, Q8, Q9, Qa] at h4)
     refine WO.qF rfl ?_
     refine WO.qF rfl ?_
     refine WO.qF rfl ?_
     refine WO.qF rfl ?_
     refine WO.q (Y.pickT (u := .bool _) rfl rfl) ?_
     refine WO.nil ?_
     refine Then.nx ?_
     first | refine W.condT rfl ?_ | refine W.condT (congrArg Value.bool (by assumption)) ?_
     refine W.seq ?_
     refine W.region rfl ?_
     refine WO.q (Y.assign (v := .bool _) rfl) ?_
     refine WO.q (Y.assign (v := .int .i64 _) rfl) ?_
     refine WO.nil ?_
     refine Then.nx ?_
     refine W.ret ?_
     refine Then.r ?_
     refine BodyQ.ret2 Tryd.results23 (ResV.tmp _ rfl) (ResV.tmp _ rfl) ?_
     first | exact ⟨ahead_no (by assumption), S.ext⟩ | exact ⟨ahead_out (by assumption) (by omega), S.ext⟩ | exact ⟨ahead_in (by assumption) hin (by (rw [decide_eq_true (show i ≠ j by omega), Bool.true_and, ahd, hth])), S.ext⟩ | exact ⟨ahead_in (by assumption) hin (by (rw [decide_eq_false (show ¬ i ≠ j by omega)]; rfl)), S.ext⟩
    ·
     (try simp only [Q1, Q2, Q3, Q4, Q5, Q6, Q7, Q8, Q9, Qa] at h4)
     refine WO.qT rfl (Y.move (v := .int .i64 _) rfl) ?_
     refine WO.qT rfl (Y.move (v := .slice _ _ _) rfl) ?_
     refine WO.qT rfl (Y.len (t' := 0) Tryd.underlying64 rfl) ?_
     refine WO.qT rfl (Y.geq rfl rfl) ?_
     refine WO.q (Y.pickF (u := .bool _) rfl rfl) ?_
     refine WO.nil ?_
     refine Then.nx ?_
     refine W.cond rfl (fun h5 => ?_) (fun h5 => ?_) -- cond 1
     ·
      have rh5 := h5
      (try simp only [Q1, Q2, Q3, Q4, Q5, Q6, Q7, Q8, Q9, Qa] at h5)
      refine W.seq ?_
      refine W.region rfl ?_
      refine WO.q (Y.assign (v := .bool _) rfl) ?_
      refine WO.q (Y.assign (v := .int .i64 _) rfl) ?_
      refine WO.nil ?_
      refine Then.nx ?_
      refine W.ret ?_
      refine Then.r ?_
      refine BodyQ.ret2 Tryd.results23 (ResV.tmp _ rfl) (ResV.tmp _ rfl) ?_
      first | exact ⟨ahead_no (by assumption), S.ext⟩ | exact ⟨ahead_out (by assumption) (by omega), S.ext⟩ | exact ⟨ahead_in (by assumption) hin (by (rw [decide_eq_true (show i ≠ j by omega), Bool.true_and, ahd, hth])), S.ext⟩ | exact ⟨ahead_in (by assumption) hin (by (rw [decide_eq_false (show ¬ i ≠ j by omega)]; rfl)), S.ext⟩
     ·
      have rh5 := h5
      (try simp only [Q1, Q2, Q3, Q4, Q5, Q6, Q7, Q8, Q9, Qa] at h5)
      refine W.skip ?_
      refine Then.nx ?_
      refine W.seq ?_
      have hin : 0 ≤ i ∧ i < xs.length ∧ 0 ≤ j ∧ j < xs.length := by omega
      refine W.region rfl ?_
      refine WO.q (Y.move (v := .slice _ _ _) rfl) ?_
      refine WO.e (O.call cf_64 rfl (clocks_spec _ _ _ xs (R1.ext S.ext) (by omega) (by assumption)) ?_)
      rintro _ w ⟨a1, c1, rfl, S2⟩
      replace S := S.trans S2
      refine ⟨_, rfl, ?_⟩
      refine WO.q (Y.assign (v := .slice _ _ _) rfl) ?_
      refine WO.nil ?_
      refine Then.nx ?_
      refine W.seq ?_
      have ha := R1.1 (by omega)
      have ha2 := (S.rd 0 rfl).1 (by rw [clks_len]; omega)
      obtain ⟨x, hx1⟩ := at_ex (xs := xs) (k := i.toNat) (by omega)
      have hox := (okA_iff x).1 (List.all_eq_true.1 (by assumption) x (List.mem_of_getElem? hx1))
      have hc1 := clks_at (l := xs) (i := i.toNat) (by omega)
      have hc2 := clks_at (l := xs) (i := j.toNat) (by omega)
      have hth := thrAt_eq hx1
      refine W.draw (.q 0 (.q 1 (.q 2 (.q 3 (.q 4 (.q 5 (.q 6 (.q 7 (.q 8 (.q 9 (.q 10 (.q 11 (.q 12 (.q 13 (.q 14 (.q 15 (.q 16 (.e 17 (.q 18 (.q 19 (.q 20 .nil))))))))))))))))))))) (fun w => Sat _ w _) rfl rfl (by kernel_rfl) rfl (by kernel_rfl) (by repeat (first | exact BodyQ.noFrame | refine Then.noFrame ?_ | refine InB.noFrame ?_)) S.drew ?_
      clear S
      refine Plan.q rfl (fun w S => Y.move (v := .int .i64 _) rfl) ?_
      refine Plan.q rfl (fun w S => Y.move (v := .int .i64 _) rfl) ?_
      refine Plan.q rfl (fun w S => Y.neq rfl rfl) ?_
      refine Plan.q rfl (fun w S => Y.move (v := .bool _) rfl) ?_
      refine Plan.splitB (fun h6 => ?_) (fun h6 => ?_)
      ·
       (try simp only [Q1, Q2, Q3, Q4, Q5, Q6, Q7, Q8, Q9, Qa] at h6)
       refine Plan.qT rfl rfl (fun w S => Y.move (v := .slice _ _ _) rfl) ?_
       refine Plan.qT rfl rfl (fun w S => Y.move (v := .int .i64 _) rfl) ?_
       first | refine Plan.qT rfl rfl (fun w S => Y.ixN sl_64 rfl rfl (by (first | assumption | rfl)) (by (first | assumption | omega))) ?_ | refine Plan.qT rfl rfl (fun w S => Y.ix sl_64 rfl rfl (by (first | assumption | rfl)) (by (first | assumption | omega)) (by (first | assumption | omega))) ?_
       refine Plan.qT rfl rfl (fun w S => Y.fieldE fo_71_0 rfl) ?_
       first | refine Plan.qT rfl rfl (fun w S => Y.load rfl (loadRdF sz_3 (R1.ext S.ext) (by assumption) rfl)) ?_ | refine Plan.qT rfl rfl (fun w S => Y.load rfl (loadRdF sz_3 (S.rd 0 rfl) (by assumption) rfl)) ?_
       refine Plan.qT rfl rfl (fun w S => Y.move (v := .slice _ _ _) rfl) ?_
       refine Plan.qT rfl rfl (fun w S => Y.move (v := .int .i64 _) rfl) ?_
       first | refine Plan.qT rfl rfl (fun w S => Y.ixN sl_105 rfl rfl (by (first | assumption | rfl)) (by (first | assumption | omega))) ?_ | refine Plan.qT rfl rfl (fun w S => Y.ix sl_105 rfl rfl (by (first | assumption | rfl)) (by (first | assumption | omega)) (by (first | assumption | omega))) ?_
       first | refine Plan.qT rfl rfl (fun w S => Y.load rfl (loadRdN sz_109 (R1.ext S.ext) (by assumption))) ?_ | refine Plan.qT rfl rfl (fun w S => Y.load rfl (loadRdN sz_109 (S.rd 0 rfl) (by assumption))) ?_
       refine Plan.qT rfl rfl (fun w S => Y.move (v := .slice _ _ _) rfl) ?_
       refine Plan.qT rfl rfl (fun w S => Y.move (v := .int .i64 _) rfl) ?_
       first | refine Plan.qT rfl rfl (fun w S => Y.ixN sl_105 rfl rfl (by (first | assumption | rfl)) (by (first | assumption | omega))) ?_ | refine Plan.qT rfl rfl (fun w S => Y.ix sl_105 rfl rfl (by (first | assumption | rfl)) (by (first | assumption | omega)) (by (first | assumption | omega))) ?_
       first | refine Plan.qT rfl rfl (fun w S => Y.load rfl (loadRdN sz_109 (R1.ext S.ext) (by assumption))) ?_ | refine Plan.qT rfl rfl (fun w S => Y.load rfl (loadRdN sz_109 (S.rd 0 rfl) (by assumption))) ?_
       refine Plan.eT rfl rfl (fun w S => O.call cf_65 rfl (ahead_spec _ _ _ _ (by omega) (by omega)) ?_)
       rintro _ w ⟨rfl, E⟩
       replace S := S.keep E
       refine ⟨_, rfl, ?_⟩
       refine ⟨(fun w => Sat _ w _), S, (.inr (fun w S => S.pk (by repeat (first | exact Pk.nil _ | exact Pk.refl _ | refine Pk.cons 0 rfl ?_ | refine Pk.cons 1 rfl ?_ | refine Pk.cons 2 rfl ?_ | refine Pk.cons 3 rfl ?_ | refine Pk.cons 4 rfl ?_ | refine Pk.cons 5 rfl ?_ | refine Pk.cons 6 rfl ?_ | refine Pk.cons 7 rfl ?_ | refine Pk.cons 8 rfl ?_ | refine Pk.cons 9 rfl ?_ | refine Pk.cons 10 rfl ?_ | refine Pk.cons 11 rfl ?_ | refine Pk.cons 12 rfl ?_ | refine Pk.cons 13 rfl ?_ | refine Pk.drop ?_)))), ?_⟩
       clear S
       refine Plan.q rfl (fun w S => Y.pickT (u := .bool _) rfl rfl) ?_
       refine Plan.q rfl (fun w S => Y.assign (v := .bool _) rfl) ?_
       refine Plan.q rfl (fun w S => Y.assign (v := .int .i64 _) rfl) ?_
       refine Plan.nil (fun w S => ?_)
       replace S : Sat _ _ _ := S
       refine Then.nx ?_
       refine W.ret ?_
       refine BodyQ.ret2 Tryd.results23 (ResV.tmp _ rfl) (ResV.tmp _ rfl) ?_
       first | exact ⟨ahead_no (by assumption), S.ext⟩ | exact ⟨ahead_out (by assumption) (by omega), S.ext⟩ | exact ⟨ahead_in (by assumption) hin (by (rw [decide_eq_true (show i ≠ j by omega), Bool.true_and, ahd, hth])), S.ext⟩ | exact ⟨ahead_in (by assumption) hin (by (rw [decide_eq_false (show ¬ i ≠ j by omega)]; rfl)), S.ext⟩
      ·
       (try simp only [Q1, Q2, Q3, Q4, Q5, Q6, Q7, Q8, Q9, Qa] at h6)
       refine Plan.qF rfl rfl ?_
       refine Plan.qF rfl rfl ?_
       refine Plan.qF rfl rfl ?_
       refine Plan.qF rfl rfl ?_
       refine Plan.qF rfl rfl ?_
       refine Plan.qF rfl rfl ?_
       refine Plan.qF rfl rfl ?_
       refine Plan.qF rfl rfl ?_
       refine Plan.qF rfl rfl ?_
       refine Plan.qF rfl rfl ?_
       refine Plan.qF rfl rfl ?_
       refine Plan.qF rfl rfl ?_
       refine Plan.qF rfl rfl ?_
       refine Plan.eF rfl rfl ?_
       refine Plan.q rfl (fun w S => Y.pickF (u := .bool _) rfl rfl) ?_
       refine Plan.q rfl (fun w S => Y.assign (v := .bool _) rfl) ?_
       refine Plan.q rfl (fun w S => Y.assign (v := .int .i64 _) rfl) ?_
       refine Plan.nil (fun w S => ?_)
       replace S : Sat _ _ _ := S
       refine Then.nx ?_
       refine W.ret ?_
       refine BodyQ.ret2 Tryd.results23 (ResV.tmp _ rfl) (ResV.tmp _ rfl) ?_
       first | exact ⟨ahead_no (by assumption), S.ext⟩ | exact ⟨ahead_out (by assumption) (by omega), S.ext⟩ | exact ⟨ahead_in (by assumption) hin (by (rw [decide_eq_true (show i ≠ j by omega), Bool.true_and, ahd, hth])), S.ext⟩ | exact ⟨ahead_in (by assumption) hin (by (rw [decide_eq_false (show ¬ i ≠ j by omega)]; rfl)), S.ext⟩
end Go.Proofs
