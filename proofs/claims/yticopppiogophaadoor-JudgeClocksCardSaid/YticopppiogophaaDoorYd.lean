/-
  Walks of EqRows.
-/
import Derived.Test.YticopppiogophaaDoorTw
import Derived.Test.YticopppiogophaaDoorTp
import Derived.Test.YticopppiogophaaDoorSx
import Derived.Test.YticopppiogophaaDoorFa
import Derived.Test.YticopppiogophaaDoorFb
import Derived.Test.YticopppiogophaaDoorFc
import Derived.Test.YticopppiogophaaDoorWa
set_option linter.unusedVariables false
set_option linter.unusedSimpArgs false
set_option maxRecDepth 100000
set_option maxHeartbeats 1000000
namespace Go.Proofs
open Go Go.TL Go.RowKit
theorem EqRows_spec (w0 : World) (a b : Option Addr) (ca cb : Nat) (ps qs : List SlV) (f : Nat → List Int) (R1 : Rd tSl w0 a ps) (R2 : Rd tSl w0 b qs) (hl : ps.length = qs.length) (hb : ps.length ≤ 4096) (hf : ∀ j, (f j).length ≤ 4096) (hp : ∀ j p, ps[j]? = some p → p.2.1 = (f j).length ∧ Rd (tI .i64) w0 p.1 (f j)) (hq : ∀ j p, qs[j]? = some p → p.2.1 = (f j).length ∧ Rd (tI .i64) w0 p.1 (f j)) :
    Calls Tryd.prog 30 [.slice a ps.length ca, .slice b qs.length cb].toArray w0 (fun e w => e = .returned (.bool true) ∧ Ext w0 w) := by
 have S := Sat.refl w0
 refine calls_of_W (args := [.slice a ps.length ca, .slice b qs.length cb]) 27 Tryd.func30 rfl Tryd.ntmps30 rfl ?_
 refine W.seq ?_
 refine W.region rfl ?_
 refine WO.q (Y.assign (v := .bool _) rfl) ?_
 refine WO.nil ?_
 refine Then.nx ?_
 refine W.seq ?_
 refine W.seq ?_
 refine W.region rfl ?_
 refine WO.q (Y.move (v := .slice _ _ _) rfl) ?_
 refine WO.q (Y.len (t' := 0) Tryd.underlying36 rfl) ?_
 refine WO.q (Y.move (v := .slice _ _ _) rfl) ?_
 refine WO.q (Y.len (t' := 0) Tryd.underlying36 rfl) ?_
 refine WO.q (Y.neq rfl rfl) ?_
 refine WO.nil ?_
 refine Then.nx ?_
 refine W.cond rfl (fun h1 => ?_) (fun h1 => ?_) -- cond 0
 ·
  have rh1 := h1
  (try simp only [Q1, Q2, Q3, Q4, Q5, Q6, Q7, Q8, Q9, Qa] at h1)
  refine W.seq ?_
  refine W.region rfl ?_
  refine WO.q (Y.assign (v := .bool _) rfl) ?_
  refine WO.nil ?_
  refine Then.nx ?_
  refine W.ret ?_
  refine Then.r ?_
  refine BodyQ.ret1 Tryd.results30 (ResV.tmp _ rfl) ?_
  first | exact ⟨rfl, S.ext⟩ | contradiction | (exfalso; omega) | (exfalso; simp_all; done)
 ·
  have rh1 := h1
  (try simp only [Q1, Q2, Q3, Q4, Q5, Q6, Q7, Q8, Q9, Qa] at h1)
  refine W.skip ?_
  refine Then.nx ?_
  refine W.seq ?_
  refine W.seq ?_
  refine W.region rfl ?_
  refine WO.q (Y.assign (v := .int .i64 _) rfl) ?_
  refine WO.nil ?_
  refine Then.nx ?_
  refine W.block ?_
  -- loop 0 carries 5:i
  refine W.loop1 [4, 5, 11, 12, 13, 14, 15, 16, 17, 18, 19, 20, 21, 22, 23, 24, 25, 26] 5 (fun v5 w => ∃ i : Nat, v5 = .int .i64 (i : Int) ∧ i ≤ ps.length ∧ Sat w0 w []) (fun v5 w => ps.length - (intOf v5).toNat) ?_ ?_
  ·
   exact ⟨0, rfl, Nat.zero_le _, S⟩
  ·
   rintro g0 v5 w ⟨i, rfl, hi, S⟩
   refine W.seq ?_
   refine W.seq ?_
   refine W.region rfl ?_
   refine WO.q (Y.move (v := .int .i64 _) rfl) ?_
   refine WO.q (Y.move (v := .slice _ _ _) rfl) ?_
   refine WO.q (Y.len (t' := 0) Tryd.underlying36 rfl) ?_
   refine WO.q (Y.lss rfl rfl) ?_
   refine WO.nil ?_
   refine Then.nx ?_
   refine W.cond rfl (fun h2 => ?_) (fun h2 => ?_) -- cond 1
   ·
    have rh2 := h2
    (try simp only [Q1, Q2, Q3, Q4, Q5, Q6, Q7, Q8, Q9, Qa] at h2)
    have ha := R1.1 (by omega)
    have hb2 := R2.1 (by omega)
    obtain ⟨⟨pa, pn, pc⟩, hp1⟩ := at_ex (xs := ps) (k := i) (by omega)
    obtain ⟨⟨qa, qn, qc⟩, hq1⟩ := at_ex (xs := qs) (k := i) (by omega)
    have hpr := hp _ _ hp1
    have hqr := hq _ _ hq1
    obtain rfl : pn = (f i).length := hpr.1
    obtain rfl : qn = (f i).length := hqr.1
    refine W.skip ?_
    refine Then.nx ?_
    refine W.seq ?_
    refine W.block ?_
    refine W.seq ?_
    refine W.draw (.q 0 (.q 1 (.q 2 (.q 3 (.q 4 (.q 5 (.q 6 (.q 7 (.e 8 (.q 9 .nil)))))))))) (fun w => Sat _ w _) rfl rfl (by kernel_rfl) rfl (by kernel_rfl) (by repeat (first | exact BodyQ.noFrame | refine Then.noFrame ?_ | refine InB.noFrame ?_)) S.drew ?_
    clear S
    refine Plan.q rfl (fun w S => Y.move (v := .slice _ _ _) rfl) ?_
    refine Plan.q rfl (fun w S => Y.move (v := .int .i64 _) rfl) ?_
    first | refine Plan.q rfl (fun w S => Y.ixN sl_36 rfl rfl (by (first | assumption | rfl)) (by (first | assumption | omega))) ?_ | refine Plan.q rfl (fun w S => Y.ix sl_36 rfl rfl (by (first | assumption | rfl)) (by (first | assumption | omega)) (by (first | assumption | omega))) ?_
    first | refine Plan.q rfl (fun w S => Y.load rfl (loadRd1 (c := .slice pa (f i).length pc) sz_27 (R1.ext S.ext) hp1 rfl)) ?_ | refine Plan.q rfl (fun w S => Y.load rfl (loadRd1 (c := .slice qa (f i).length qc) sz_27 (R2.ext S.ext) hq1 rfl)) ?_
    refine Plan.q rfl (fun w S => Y.move (v := .slice _ _ _) rfl) ?_
    refine Plan.q rfl (fun w S => Y.move (v := .int .i64 _) rfl) ?_
    first | refine Plan.q rfl (fun w S => Y.ixN sl_36 rfl rfl (by (first | assumption | rfl)) (by (first | assumption | omega))) ?_ | refine Plan.q rfl (fun w S => Y.ix sl_36 rfl rfl (by (first | assumption | rfl)) (by (first | assumption | omega)) (by (first | assumption | omega))) ?_
    first | refine Plan.q rfl (fun w S => Y.load rfl (loadRd1 (c := .slice pa (f i).length pc) sz_27 (R1.ext S.ext) hp1 rfl)) ?_ | refine Plan.q rfl (fun w S => Y.load rfl (loadRd1 (c := .slice qa (f i).length qc) sz_27 (R2.ext S.ext) hq1 rfl)) ?_
    refine Plan.e1 rfl (fun w S => O.call cf_14 rfl (EqInts_spec _ pa qa pc qc (f i) (f i) (hpr.2.ext S.ext) (hqr.2.ext S.ext) (by (have := hf i; omega))) ?_)
    rintro _ w ⟨rfl, E⟩
    replace S := S.keep E
    refine ⟨_, rfl, ?_⟩
    refine ⟨(fun w => Sat _ w _), S, (.inr (fun w S => S.pk (by repeat (first | exact Pk.nil _ | exact Pk.refl _ | refine Pk.cons 0 rfl ?_ | refine Pk.cons 1 rfl ?_ | refine Pk.cons 2 rfl ?_ | refine Pk.cons 3 rfl ?_ | refine Pk.cons 4 rfl ?_ | refine Pk.cons 5 rfl ?_ | refine Pk.cons 6 rfl ?_ | refine Pk.cons 7 rfl ?_ | refine Pk.cons 8 rfl ?_ | refine Pk.cons 9 rfl ?_ | refine Pk.cons 10 rfl ?_ | refine Pk.cons 11 rfl ?_ | refine Pk.cons 12 rfl ?_ | refine Pk.cons 13 rfl ?_ | refine Pk.drop ?_)))), ?_⟩
    clear S
    refine Plan.q rfl (fun w S => Y.not rfl) ?_
    refine Plan.nil (fun w S => ?_)
    replace S : Sat _ _ _ := S
    refine Then.nx ?_
    refine W.cond rfl (fun h3 => ?_) (fun h3 => ?_) -- cond 2
    ·
     have rh3 := h3
     (try simp only [Q1, Q2, Q3, Q4, Q5, Q6, Q7, Q8, Q9, Qa] at h3)
     refine W.seq ?_
     refine W.region rfl ?_
     refine WO.q (Y.assign (v := .bool _) rfl) ?_
     refine WO.nil ?_
     refine Then.nx ?_
     refine W.ret ?_
     refine InB.r ?_
     refine Then.r ?_
     refine Then.r ?_
     refine InB.r ?_
     refine Then.r ?_
     refine BodyQ.ret1 Tryd.results30 (ResV.tmp _ rfl) ?_
     first | exact ⟨rfl, S.ext⟩ | contradiction | (exfalso; omega) | (exfalso; simp_all; done)
    ·
     have rh3 := h3
     (try simp only [Q1, Q2, Q3, Q4, Q5, Q6, Q7, Q8, Q9, Qa] at h3)
     refine W.skip ?_
     refine InB.nx ?_
     refine Then.nx ?_
     refine W.region rfl ?_
     refine WO.q (Y.move (v := .int .i64 _) rfl) ?_
     first | refine WO.q (Y.addI rfl rfl (by omega)) ?_ | refine WO.q (Y.add rfl rfl) ?_
     refine WO.q (Y.assign (v := .int .i64 _) rfl) ?_
     refine WO.nil ?_
     refine Then.nx ⟨?_, ?_, ?_⟩
     ·
      (repeat (first | exact Out.hav _ _ _ | exact Out.refl _ _ | refine Out.up rfl ?_ | refine Out.sub rfl ?_))
     ·
      exact ⟨i + 1, rfl, by omega, S⟩
     ·
      (show ps.length - (i + 1) < ps.length - i; omega)
   ·
    have rh2 := h2
    (try simp only [Q1, Q2, Q3, Q4, Q5, Q6, Q7, Q8, Q9, Qa] at h2)
    refine W.exit ?_
    refine Then.x ?_
    refine Then.x ?_
    refine InB.e ?_
    refine Then.nx ?_
    refine W.seq ?_
    refine W.region rfl ?_
    refine WO.q (Y.assign (v := .bool _) rfl) ?_
    refine WO.nil ?_
    refine Then.nx ?_
    refine W.ret ?_
    refine BodyQ.ret1 Tryd.results30 (ResV.tmp _ rfl) ?_
    first | exact ⟨rfl, S.ext⟩ | contradiction | (exfalso; omega) | (exfalso; simp_all; done)
end Go.Proofs
