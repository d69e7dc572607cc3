/-
  Walks of rahead, touch, before.
-/
import Derived.Test.YticopppiogophaaDoorTv
import Derived.Test.YticopppiogophaaDoorTp
import Derived.Test.YticopppiogophaaDoorSx
import Derived.Test.YticopppiogophaaDoorFa
import Derived.Test.YticopppiogophaaDoorFb
import Derived.Test.YticopppiogophaaDoorFc
set_option linter.unusedVariables false
set_option linter.unusedSimpArgs false
set_option maxRecDepth 100000
set_option maxHeartbeats 1000000
namespace Go.Proofs
open Go Go.TL Go.RowKit
theorem rahead_spec (w0 : World) (a ac : Option Addr) (c cc : Nat) (l : List Access) (outs : List SlV) (n : Nat) (R1 : Rd tAccess w0 a l) (R2 : Rd tSl w0 ac outs) (hrow : (∀ (j : Nat) (q : SlV), outs[j]? = some q → q.2.1 = n ∧ Rd (tI .i64) w0 q.1 (rowN n (clkAt l j)))) (hol : outs.length = l.length) (hnt : ∀ x ∈ l, 0 ≤ x.thread ∧ x.thread < n) (hl : l.length ≤ 4096) (i j : Nat) (hi : i < l.length) (hj : j < l.length) :
    Calls Tryd.prog 68 [.slice a l.length c, .slice ac outs.length cc, .int .i64 (i : Int), .int .i64 (j : Int)].toArray w0 (fun e w => e = .returned (.bool (oB l i j)) ∧ Ext w0 w) := by
 have S := Sat.refl w0
 obtain ⟨x, hx1⟩ := at_ex hi
 have hxn := hnt x (List.mem_of_getElem? hx1)
 have hxt : x.thread.toNat < n := by omega
 obtain ⟨⟨qa, qn, qc⟩, hqj⟩ := at_ex (xs := outs) (k := j) (by omega)
 obtain ⟨⟨pa, pn, pc⟩, hqi⟩ := at_ex (xs := outs) (k := i) (by omega)
 obtain ⟨e1, Rj⟩ := hrow _ _ hqj
 obtain ⟨e2, Ri⟩ := hrow _ _ hqi
 obtain rfl : qn = n := e1
 obtain rfl : pn = qn := e2
 have ha := R1.1 (by omega)
 have hac := R2.1 (by omega)
 have hqa := Rj.1 (by (rw [rowN_len]; omega))
 have hpa := Ri.1 (by (rw [rowN_len]; omega))
 refine calls_of_W (args := [.slice a l.length c, .slice ac outs.length cc, .int .i64 (i : Int), .int .i64 (j : Int)]) 35 Tryd.func68 rfl Tryd.ntmps68 rfl ?_
 refine W.seq ?_
 refine W.region rfl ?_
 refine WO.q (Y.assign (v := .bool _) rfl) ?_
 refine WO.nil ?_
 refine Then.nx ?_
 refine W.seq ?_
 refine W.region rfl ?_
 refine WO.q (Y.move (v := .slice _ _ _) rfl) ?_
 refine WO.q (Y.move (v := .int .i64 _) rfl) ?_
 first | refine WO.q (Y.ixN sl_64 rfl rfl (by (first | assumption | rfl)) (by (first | assumption | omega))) ?_ | refine WO.q (Y.ix sl_64 rfl rfl (by (first | assumption | rfl)) (by (first | assumption | omega)) (by (first | assumption | omega))) ?_
 refine WO.q (Y.fieldE fo_71_0 rfl) ?_
 first | refine WO.q (Y.load rfl (loadRd1 sz_3 (Rj.ext S.ext) (rowN_at _ hxt) rfl)) ?_ | refine WO.q (Y.load rfl (loadRd1 sz_3 (Ri.ext S.ext) (rowN_at _ hxt) rfl)) ?_ | refine WO.q (Y.load rfl (loadRdF sz_3 (R1.ext S.ext) (by assumption) rfl)) ?_
 refine WO.q (Y.assign (v := .int .i64 _) rfl) ?_
 refine WO.nil ?_
 refine Then.nx ?_
 refine W.seq ?_
 refine W.draw (.q 0 (.q 1 (.q 2 (.q 3 (.q 4 (.q 5 (.q 6 (.q 7 (.q 8 (.q 9 (.q 10 (.q 11 (.q 12 (.q 13 (.q 14 (.q 15 (.q 16 (.q 17 (.q 18 (.q 19 (.q 20 .nil))))))))))))))))))))) (fun w => Sat _ w _) rfl rfl (by kernel_rfl) rfl (by kernel_rfl) (by repeat (first | exact BodyQ.noFrame | refine Then.noFrame ?_ | refine InB.noFrame ?_)) S.drew ?_
 clear S
 refine Plan.q rfl (fun w S => Y.move (v := .int .i64 _) rfl) ?_
 refine Plan.q rfl (fun w S => Y.move (v := .int .i64 _) rfl) ?_
 refine Plan.q rfl (fun w S => Y.neq rfl rfl) ?_
 refine Plan.q rfl (fun w S => Y.move (v := .bool _) rfl) ?_
 refine Plan.splitB (fun h1 => ?_) (fun h1 => ?_)
 ·
  (try simp only [Q1, Q2, Q3, Q4, Q5, Q6, Q7, Q8, Q9, Qa] at h1)
  refine Plan.qT rfl rfl (fun w S => Y.move (v := .slice _ _ _) rfl) ?_
  refine Plan.qT rfl rfl (fun w S => Y.move (v := .int .i64 _) rfl) ?_
  first | refine Plan.qT rfl rfl (fun w S => Y.ixN sl_36 rfl rfl (by (first | assumption | rfl)) (by (first | assumption | omega))) ?_ | refine Plan.qT rfl rfl (fun w S => Y.ix sl_36 rfl rfl (by (first | assumption | rfl)) (by (first | assumption | omega)) (by (first | assumption | omega))) ?_
  first | refine Plan.qT rfl rfl (fun w S => Y.load rfl (loadRd1 (c := .slice qa pn qc) sz_27 (R2.ext S.ext) hqj rfl)) ?_ | refine Plan.qT rfl rfl (fun w S => Y.load rfl (loadRd1 (c := .slice pa pn pc) sz_27 (R2.ext S.ext) hqi rfl)) ?_ | refine Plan.qT rfl rfl (fun w S => Y.load rfl (loadRd1 sz_27 (R1.ext S.ext) (by assumption) rfl)) ?_
  refine Plan.qT rfl rfl (fun w S => Y.move (v := .int .i64 _) rfl) ?_
  first | refine Plan.qT rfl rfl (fun w S => Y.ixN sl_27 rfl rfl (by (first | assumption | rfl)) (by (first | assumption | omega))) ?_ | refine Plan.qT rfl rfl (fun w S => Y.ix sl_27 rfl rfl (by (first | assumption | rfl)) (by (first | assumption | omega)) (by (first | assumption | omega))) ?_
  first | refine Plan.qT rfl rfl (fun w S => Y.load rfl (loadRd1 sz_3 (Rj.ext S.ext) (rowN_at _ hxt) rfl)) ?_ | refine Plan.qT rfl rfl (fun w S => Y.load rfl (loadRd1 sz_3 (Ri.ext S.ext) (rowN_at _ hxt) rfl)) ?_ | refine Plan.qT rfl rfl (fun w S => Y.load rfl (loadRd1 sz_3 (R1.ext S.ext) (by assumption) rfl)) ?_
  refine Plan.qT rfl rfl (fun w S => Y.move (v := .slice _ _ _) rfl) ?_
  refine Plan.qT rfl rfl (fun w S => Y.move (v := .int .i64 _) rfl) ?_
  first | refine Plan.qT rfl rfl (fun w S => Y.ixN sl_36 rfl rfl (by (first | assumption | rfl)) (by (first | assumption | omega))) ?_ | refine Plan.qT rfl rfl (fun w S => Y.ix sl_36 rfl rfl (by (first | assumption | rfl)) (by (first | assumption | omega)) (by (first | assumption | omega))) ?_
  first | refine Plan.qT rfl rfl (fun w S => Y.load rfl (loadRd1 (c := .slice qa pn qc) sz_27 (R2.ext S.ext) hqj rfl)) ?_ | refine Plan.qT rfl rfl (fun w S => Y.load rfl (loadRd1 (c := .slice pa pn pc) sz_27 (R2.ext S.ext) hqi rfl)) ?_ | refine Plan.qT rfl rfl (fun w S => Y.load rfl (loadRd1 sz_27 (R1.ext S.ext) (by assumption) rfl)) ?_
  refine Plan.qT rfl rfl (fun w S => Y.move (v := .int .i64 _) rfl) ?_
  first | refine Plan.qT rfl rfl (fun w S => Y.ixN sl_27 rfl rfl (by (first | assumption | rfl)) (by (first | assumption | omega))) ?_ | refine Plan.qT rfl rfl (fun w S => Y.ix sl_27 rfl rfl (by (first | assumption | rfl)) (by (first | assumption | omega)) (by (first | assumption | omega))) ?_
  first | refine Plan.qT rfl rfl (fun w S => Y.load rfl (loadRd1 sz_3 (Rj.ext S.ext) (rowN_at _ hxt) rfl)) ?_ | refine Plan.qT rfl rfl (fun w S => Y.load rfl (loadRd1 sz_3 (Ri.ext S.ext) (rowN_at _ hxt) rfl)) ?_ | refine Plan.qT rfl rfl (fun w S => Y.load rfl (loadRd1 sz_3 (R1.ext S.ext) (by assumption) rfl)) ?_
  refine Plan.qT rfl rfl (fun w S => Y.geq rfl rfl) ?_
  refine Plan.q rfl (fun w S => Y.pickT (u := .bool _) rfl rfl) ?_
  refine Plan.q rfl (fun w S => Y.assign (v := .bool _) rfl) ?_
  refine Plan.nil (fun w S => ?_)
  replace S : Sat _ _ _ := S
  refine Then.nx ?_
  refine W.ret ?_
  refine BodyQ.ret1 Tryd.results68 (ResV.tmp _ rfl) ?_
  first | exact ⟨retB (by (unfold oB; rw [decide_eq_true (show i ≠ j by omega), ahd_eq hx1]; rfl)), S.ext⟩ | exact ⟨retB (by (unfold oB; rw [decide_eq_false (show ¬ i ≠ j by omega)]; rfl)), S.ext⟩
 ·
  (try simp only [Q1, Q2, Q3, Q4, Q5, Q6, Q7, Q8, Q9, Qa] at h1)
  refine Plan.qF rfl rfl ?_
  refine Plan.qF rfl rfl ?_
  refine Plan.qF rfl rfl ?_
  refine Plan.qF rfl rfl ?_
  refine Plan.qF rfl rfl ?_
  refine Plan.qF rfl rfl ?_
  refine Plan.qF rfl rfl ?_
  refine Plan.qF rfl rfl ?_
  refine Plan.qF rfl rfl ?_
  refine Plan.qF rfl rfl ?_
  refine Plan.qF rfl rfl ?_
  refine Plan.qF rfl rfl ?_
  refine Plan.qF rfl rfl ?_
  refine Plan.qF rfl rfl ?_
  refine Plan.qF rfl rfl ?_
  refine Plan.q rfl (fun w S => Y.pickF (u := .bool _) rfl rfl) ?_
  refine Plan.q rfl (fun w S => Y.assign (v := .bool _) rfl) ?_
  refine Plan.nil (fun w S => ?_)
  replace S : Sat _ _ _ := S
  refine Then.nx ?_
  refine W.ret ?_
  refine BodyQ.ret1 Tryd.results68 (ResV.tmp _ rfl) ?_
  first | exact ⟨retB (by (unfold oB; rw [decide_eq_true (show i ≠ j by omega), ahd_eq hx1]; rfl)), S.ext⟩ | exact ⟨retB (by (unfold oB; rw [decide_eq_false (show ¬ i ≠ j by omega)]; rfl)), S.ext⟩
theorem touch_spec (w0 : World) (x : Access) :
    Calls Tryd.prog 69 [.agg (tAccess.enc x).toArray].toArray w0 (fun e w => e = .returned (.bool (touchB x)) ∧ Ext w0 w) := by
 have S := Sat.refl w0
 refine calls_of_W (args := [.agg (tAccess.enc x).toArray]) 16 Tryd.func69 rfl Tryd.ntmps69 rfl ?_
 refine W.seq ?_
 refine W.region rfl ?_
 refine WO.e (O.box rfl rfl S (fun b1 w S => ?_))
 refine WO.q (Y.assign (v := .bool _) rfl) ?_
 refine WO.nil ?_
 refine Then.nx ?_
 refine W.seq ?_
 refine W.region rfl ?_
 refine WO.q (Y.fieldB fo_71_1 rfl) ?_
 refine WO.q (Y.load rfl (loadS1 sz_56 S 0 rfl rfl)) ?_
 refine WO.q (Y.eql rfl rfl) ?_
 refine WO.q (Y.move (v := .bool _) rfl) ?_
 refine WO.splitB (fun h1 => ?_) (fun h1 => ?_)
 ·
  (try simp only [Q1, Q2, Q3, Q4, Q5, Q6, Q7, Q8, Q9, Qa] at h1)
  refine WO.qT rfl (Y.fieldB fo_71_4 rfl) ?_
  refine WO.qT rfl (Y.load rfl (loadS1 sz_2 S 0 rfl rfl)) ?_
  refine WO.qT rfl (Y.eql rfl rfl) ?_
  refine WO.qT rfl (Y.move (v := .bool _) rfl) ?_
  refine WO.splitB (fun h2 => ?_) (fun h2 => ?_)
  ·
   (try simp only [Q1, Q2, Q3, Q4, Q5, Q6, Q7, Q8, Q9, Qa] at h2)
   refine WO.qF rfl ?_
   refine WO.qF rfl ?_
   refine WO.qF rfl ?_
   refine WO.qT rfl (Y.pickT (u := .bool _) rfl rfl) ?_
   refine WO.q (Y.pickT (u := .bool _) rfl rfl) ?_
   refine WO.q (Y.assign (v := .bool _) rfl) ?_
   refine WO.nil ?_
   refine Then.nx ?_
   refine W.ret ?_
   refine BodyQ.ret1 Tryd.results69 (ResV.tmp _ rfl) ?_
   exact ⟨retB (by (rw [Bool.eq_iff_iff, touch_iff]; simp only [decide_eq_true_eq, Bool.false_eq_true, iff_true, true_iff, iff_false, false_iff]; omega)), S.ext⟩
  ·
   (try simp only [Q1, Q2, Q3, Q4, Q5, Q6, Q7, Q8, Q9, Qa] at h2)
   refine WO.qT rfl (Y.fieldB fo_71_4 rfl) ?_
   refine WO.qT rfl (Y.load rfl (loadS1 sz_2 S 0 rfl rfl)) ?_
   refine WO.qT rfl (Y.eql rfl rfl) ?_
   refine WO.qT rfl (Y.pickF (u := .bool _) rfl rfl) ?_
   refine WO.q (Y.pickT (u := .bool _) rfl rfl) ?_
   refine WO.q (Y.assign (v := .bool _) rfl) ?_
   refine WO.nil ?_
   refine Then.nx ?_
   refine W.ret ?_
   refine BodyQ.ret1 Tryd.results69 (ResV.tmp _ rfl) ?_
   exact ⟨retB (by (rw [Bool.eq_iff_iff, touch_iff]; simp only [decide_eq_true_eq, Bool.false_eq_true, iff_true, true_iff, iff_false, false_iff]; omega)), S.ext⟩
 ·
  (try simp only [Q1, Q2, Q3, Q4, Q5, Q6, Q7, Q8, Q9, Qa] at h1)
  refine WO.qF rfl ?_
  refine WO.qF rfl ?_
  refine WO.qF rfl ?_
  refine WO.qF rfl ?_
  refine WO.qF rfl ?_
  refine WO.qF rfl ?_
  refine WO.qF rfl ?_
  refine WO.qF rfl ?_
  refine WO.q (Y.pickF (u := .bool _) rfl rfl) ?_
  refine WO.q (Y.assign (v := .bool _) rfl) ?_
  refine WO.nil ?_
  refine Then.nx ?_
  refine W.ret ?_
  refine BodyQ.ret1 Tryd.results69 (ResV.tmp _ rfl) ?_
  exact ⟨retB (by (rw [Bool.eq_iff_iff, touch_iff]; simp only [decide_eq_true_eq, Bool.false_eq_true, iff_true, true_iff, iff_false, false_iff]; omega)), S.ext⟩
theorem before_spec (w0 : World) (a : Option Addr) (c : Nat) (l : List Access) (R1 : Rd tAccess w0 a l) (hx : l.length ≤ 9223372036854775807) (i : Nat) (hi : i ≤ l.length) (k kind : Int) :
    Calls Tryd.prog 70 [.slice a l.length c, .int .i64 (i : Int), .int .i64 k, .int .i64 kind].toArray w0 (fun e w => e = .returned (.int .i64 (befZ l i k kind)) ∧ Ext w0 w) := by
 have S := Sat.refl w0
 refine calls_of_W (args := [.slice a l.length c, .int .i64 (i : Int), .int .i64 k, .int .i64 kind]) 40 Tryd.func70 rfl Tryd.ntmps70 rfl ?_
 refine W.seq ?_
 refine W.region rfl ?_
 refine WO.q (Y.assign (v := .int .i64 _) rfl) ?_
 refine WO.nil ?_
 refine Then.nx ?_
 refine W.seq ?_
 refine W.seq ?_
 refine W.region rfl ?_
 refine WO.q (Y.assign (v := .int .i64 _) rfl) ?_
 refine WO.nil ?_
 refine Then.nx ?_
 refine W.block ?_
 -- loop 0 carries 9:i
 refine W.loop1 [8, 9, 10, 11, 12, 13, 14, 15, 16, 17, 18, 19, 20, 21, 22, 23, 24, 25, 26, 27, 28, 29, 30, 31, 32, 33, 34, 35, 36, 37, 38, 39] 9 (fun v9 w => ∃ j : Nat, v9 = .int .i64 (j : Int) ∧ j ≤ i ∧ (∀ m, m < j → isMark l k kind m = false) ∧ Sat w0 w []) (fun v9 w => i - (intOf v9).toNat) ?_ ?_
 ·
  exact ⟨0, rfl, Nat.zero_le _, fun j h => by omega, S⟩
 ·
  rintro g0 v9 w ⟨j, rfl, hj, hnm, S⟩
  refine W.seq ?_
  refine W.seq ?_
  refine W.region rfl ?_
  refine WO.q (Y.move (v := .int .i64 _) rfl) ?_
  refine WO.q (Y.move (v := .int .i64 _) rfl) ?_
  refine WO.q (Y.lss rfl rfl) ?_
  refine WO.nil ?_
  refine Then.nx ?_
  refine W.cond rfl (fun h1 => ?_) (fun h1 => ?_) -- cond 0
  ·
   have rh1 := h1
   (try simp only [Q1, Q2, Q3, Q4, Q5, Q6, Q7, Q8, Q9, Qa] at h1)
   have ha := R1.1 (by omega)
   obtain ⟨y, hy1⟩ := at_ex (xs := l) (k := j) (by omega)
   refine W.skip ?_
   refine Then.nx ?_
   refine W.seq ?_
   refine W.block ?_
   refine W.seq ?_
   refine W.region rfl ?_
   refine WO.q (Y.move (v := .slice _ _ _) rfl) ?_
   refine WO.q (Y.move (v := .int .i64 _) rfl) ?_
   first | refine WO.q (Y.ixN sl_64 rfl rfl (by (first | assumption | rfl)) (by (first | assumption | omega))) ?_ | refine WO.q (Y.ix sl_64 rfl rfl (by (first | assumption | rfl)) (by (first | assumption | omega)) (by (first | assumption | omega))) ?_
   refine WO.q (Y.fieldE fo_71_1 rfl) ?_
   refine WO.q (Y.load rfl (loadRdF sz_56 (R1.ext S.ext) (by assumption) rfl)) ?_
   refine WO.q (Y.eql rfl rfl) ?_
   refine WO.q (Y.move (v := .bool _) rfl) ?_
   refine WO.splitB (fun h2 => ?_) (fun h2 => ?_)
   ·
    (try simp only [Q1, Q2, Q3, Q4, Q5, Q6, Q7, Q8, Q9, Qa] at h2)
    refine WO.qT rfl (Y.move (v := .slice _ _ _) rfl) ?_
    refine WO.qT rfl (Y.move (v := .int .i64 _) rfl) ?_
    first | refine WO.qT rfl (Y.ixN sl_64 rfl rfl (by (first | assumption | rfl)) (by (first | assumption | omega))) ?_ | refine WO.qT rfl (Y.ix sl_64 rfl rfl (by (first | assumption | rfl)) (by (first | assumption | omega)) (by (first | assumption | omega))) ?_
    refine WO.qT rfl (Y.fieldE fo_71_3 rfl) ?_
    refine WO.qT rfl (Y.load rfl (loadRdF sz_2 (R1.ext S.ext) (by assumption) rfl)) ?_
    refine WO.qT rfl (Y.move (v := .int .i64 _) rfl) ?_
    refine WO.qT rfl (Y.eql rfl rfl) ?_
    refine WO.q (Y.pickT (u := .bool _) rfl rfl) ?_
    refine WO.q (Y.move (v := .bool _) rfl) ?_
    refine WO.splitB (fun h3 => ?_) (fun h3 => ?_)
    ·
     (try simp only [Q1, Q2, Q3, Q4, Q5, Q6, Q7, Q8, Q9, Qa] at h3)
     refine WO.qT rfl (Y.move (v := .slice _ _ _) rfl) ?_
     refine WO.qT rfl (Y.move (v := .int .i64 _) rfl) ?_
     first | refine WO.qT rfl (Y.ixN sl_64 rfl rfl (by (first | assumption | rfl)) (by (first | assumption | omega))) ?_ | refine WO.qT rfl (Y.ix sl_64 rfl rfl (by (first | assumption | rfl)) (by (first | assumption | omega)) (by (first | assumption | omega))) ?_
     refine WO.qT rfl (Y.fieldE fo_71_4 rfl) ?_
     refine WO.qT rfl (Y.load rfl (loadRdF sz_2 (R1.ext S.ext) (by assumption) rfl)) ?_
     refine WO.qT rfl (Y.move (v := .int .i64 _) rfl) ?_
     refine WO.qT rfl (Y.eql rfl rfl) ?_
     refine WO.q (Y.pickT (u := .bool _) rfl rfl) ?_
     refine WO.nil ?_
     refine Then.nx ?_
     refine W.cond rfl (fun h4 => ?_) (fun h4 => ?_) -- cond 1
     ·
      have rh4 := h4
      (try simp only [Q1, Q2, Q3, Q4, Q5, Q6, Q7, Q8, Q9, Qa] at h4)
      refine W.seq ?_
      refine W.region rfl ?_
      refine WO.q (Y.move (v := .int .i64 _) rfl) ?_
      refine WO.q (Y.assign (v := .int .i64 _) rfl) ?_
      refine WO.nil ?_
      refine Then.nx ?_
      refine W.ret ?_
      refine InB.r ?_
      refine Then.r ?_
      refine Then.r ?_
      refine InB.r ?_
      refine Then.r ?_
      refine BodyQ.ret1 Tryd.results70 (ResV.tmp _ rfl) ?_
      first | exact ⟨retI (before_hit (j := j) (by omega) (by (rw [isMark_eq hy1]; simp [*])) hnm).symm, S.ext⟩ | exact ⟨retI (before_none (n := j) (by omega) hnm).symm, S.ext⟩
     ·
      have rh4 := h4
      (try simp only [Q1, Q2, Q3, Q4, Q5, Q6, Q7, Q8, Q9, Qa] at h4)
      refine W.skip ?_
      refine InB.nx ?_
      refine Then.nx ?_
      refine W.region rfl ?_
      refine WO.q (Y.move (v := .int .i64 _) rfl) ?_
      first | refine WO.q (Y.addI rfl rfl (by omega)) ?_ | refine WO.q (Y.add rfl rfl) ?_
      refine WO.q (Y.assign (v := .int .i64 _) rfl) ?_
      refine WO.nil ?_
      refine Then.nx ⟨?_, ?_, ?_⟩
      ·
       (repeat (first | exact Out.hav _ _ _ | exact Out.refl _ _ | refine Out.up rfl ?_ | refine Out.sub rfl ?_))
      ·
       exact ⟨j + 1, rfl, by omega, (fun m hm => by (rcases Nat.lt_succ_iff_lt_or_eq.1 hm with hm | rfl; exact hnm m hm; rw [isMark_eq hy1]; simp [*])), S⟩
      ·
       (show i - (j + 1) < i - j; omega)
    ·
     (try simp only [Q1, Q2, Q3, Q4, Q5, Q6, Q7, Q8, Q9, Qa] at h3)
     refine WO.qF rfl ?_
     refine WO.qF rfl ?_
     refine WO.qF rfl ?_
     refine WO.qF rfl ?_
     refine WO.qF rfl ?_
     refine WO.qF rfl ?_
     refine WO.qF rfl ?_
     refine WO.q (Y.pickF (u := .bool _) rfl rfl) ?_
     refine WO.nil ?_
     refine Then.nx ?_
     first | refine W.condF rfl ?_ | refine W.condF (congrArg Value.bool (by assumption)) ?_
     refine W.skip ?_
     refine InB.nx ?_
     refine Then.nx ?_
     refine W.region rfl ?_
     refine WO.q (Y.move (v := .int .i64 _) rfl) ?_
     first | refine WO.q (Y.addI rfl rfl (by omega)) ?_ | refine WO.q (Y.add rfl rfl) ?_
     refine WO.q (Y.assign (v := .int .i64 _) rfl) ?_
     refine WO.nil ?_
     refine Then.nx ⟨?_, ?_, ?_⟩
     ·
      (repeat (first | exact Out.hav _ _ _ | exact Out.refl _ _ | refine Out.up rfl ?_ | refine Out.sub rfl ?_))
     ·
      exact ⟨j + 1, rfl, by omega, (fun m hm => by (rcases Nat.lt_succ_iff_lt_or_eq.1 hm with hm | rfl; exact hnm m hm; rw [isMark_eq hy1]; simp [*])), S⟩
     ·
      (show i - (j + 1) < i - j; omega)
   ·
    (try simp only [Q1, Q2, Q3, Q4, Q5, Q6, Q7, Q8, Q9, Qa] at h2)
    refine WO.qF rfl ?_
    refine WO.qF rfl ?_
    refine WO.qF rfl ?_
    refine WO.qF rfl ?_
    refine WO.qF rfl ?_
    refine WO.qF rfl ?_
    refine WO.qF rfl ?_
    refine WO.q (Y.pickF (u := .bool _) rfl rfl) ?_
    refine WO.q (Y.move (v := .bool _) rfl) ?_
    refine WO.qF rfl ?_
    refine WO.qF rfl ?_
    refine WO.qF rfl ?_
    refine WO.qF rfl ?_
    refine WO.qF rfl ?_
    refine WO.qF rfl ?_
    refine WO.qF rfl ?_
    refine WO.q (Y.pickF (u := .bool _) rfl rfl) ?_
    refine WO.nil ?_
    refine Then.nx ?_
    first | refine W.condF rfl ?_ | refine W.condF (congrArg Value.bool (by assumption)) ?_
    refine W.skip ?_
    refine InB.nx ?_
    refine Then.nx ?_
    refine W.region rfl ?_
    refine WO.q (Y.move (v := .int .i64 _) rfl) ?_
    first | refine WO.q (Y.addI rfl rfl (by omega)) ?_ | refine WO.q (Y.add rfl rfl) ?_
    refine WO.q (Y.assign (v := .int .i64 _) rfl) ?_
    refine WO.nil ?_
    refine Then.nx ⟨?_, ?_, ?_⟩
    ·
     (repeat (first | exact Out.hav _ _ _ | exact Out.refl _ _ | refine Out.up rfl ?_ | refine Out.sub rfl ?_))
    ·
     exact ⟨j + 1, rfl, by omega, (fun m hm => by (rcases Nat.lt_succ_iff_lt_or_eq.1 hm with hm | rfl; exact hnm m hm; rw [isMark_eq hy1]; simp [*])), S⟩
    ·
     (show i - (j + 1) < i - j; omega)
  ·
   have rh1 := h1
   (try simp only [Q1, Q2, Q3, Q4, Q5, Q6, Q7, Q8, Q9, Qa] at h1)
   refine W.exit ?_
   refine Then.x ?_
   refine Then.x ?_
   refine InB.e ?_
   refine Then.nx ?_
   refine W.seq ?_
   refine W.region rfl ?_
   refine WO.q (Y.assign (v := .int .i64 _) rfl) ?_
   refine WO.nil ?_
   refine Then.nx ?_
   refine W.ret ?_
   refine BodyQ.ret1 Tryd.results70 (ResV.tmp _ rfl) ?_
   first | exact ⟨retI (before_hit (j := j) (by omega) (by (rw [isMark_eq hy1]; simp [*])) hnm).symm, S.ext⟩ | exact ⟨retI (before_none (n := j) (by omega) hnm).symm, S.ext⟩
end Go.Proofs
