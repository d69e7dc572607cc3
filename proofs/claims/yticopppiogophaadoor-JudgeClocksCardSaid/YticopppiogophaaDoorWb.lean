/-
  Walks of ctake.
-/
import Derived.Test.YticopppiogophaaDoorTp
import Derived.Test.YticopppiogophaaDoorTo
import Derived.Test.YticopppiogophaaDoorSx
import Derived.Test.YticopppiogophaaDoorFa
import Derived.Test.YticopppiogophaaDoorFb
import Derived.Test.YticopppiogophaaDoorFc
set_option linter.unusedVariables false
set_option linter.unusedSimpArgs false
set_option maxRecDepth 100000
set_option maxHeartbeats 1000000
namespace Go.Proofs
open Go Go.TL Go.RowKit
theorem ctake_spec (w0 w : World) (b off : Nat) (cs : List Value) (e : TypeId) (L : List HA) (c dd : Clk) (S : Sat w0 w (Cel b cs e :: L)) (hW : Win cs off (clkL 64 c)) :
    Calls Tryd.prog 80 [.pointer (some ⟨b, off, none⟩), .agg (clkL 64 dd).toArray].toArray w (fun e' w' => e' = .returned (.tuple #[]) ∧ Sat w0 w' (Cel b (lset cs off (clkL 64 (cmax c dd))) e :: L)) := by
 have hW1 : (cs.drop off).take 64 = clkL 64 c := by (have := hW.1; rw [clkL_len] at this; exact this)
 have hW2 : off + 64 ≤ cs.length := by (have := hW.2; rw [clkL_len] at this; exact this)
 refine calls_of_W (args := [.pointer (some ⟨b, off, none⟩), .agg (clkL 64 dd).toArray]) 27 Tryd.func80 rfl Tryd.ntmps80 rfl ?_
 refine W.seq ?_
 refine W.region rfl ?_
 refine WO.e (O.box rfl rfl S (fun b3 w S => ?_))
 refine WO.nil ?_
 refine Then.nx ?_
 refine W.seq ?_
 refine W.seq ?_
 refine W.draw (.q 0 (.q 1 (.q 2 (.q 3 (.q 4 .nil))))) (fun w => Sat _ w _) rfl rfl (by kernel_rfl) rfl (by kernel_rfl) (by repeat (first | exact BodyQ.noFrame | refine Then.noFrame ?_ | refine InB.noFrame ?_)) S.drew ?_
 clear S
 first | refine Plan.q rfl (fun w S => Y.move (v := .pointer (some _)) rfl) ?_ | refine Plan.q rfl (fun w S => Y.move (v := .pointer _) rfl) ?_
 refine Plan.q rfl (fun w S => Y.nilP rfl) ?_
 refine Plan.q rfl (fun w S => Y.load rfl (loadSN sz_109 S 1 rfl hW1 (clkL_len 64 c))) ?_
 refine Plan.q rfl (fun w S => Y.load rfl (loadSN sz_109 S 0 rfl (win0 (clkL_len 64 dd)) (clkL_len 64 dd))) ?_
 refine Plan.q rfl (fun w S => Y.eqlClock (by kernel_rfl) Tryd.underlying109 Tryd.underlying3 (fun w => (sz_3 w).2) rfl rfl) ?_
 refine Plan.nil (fun w S => ?_)
 replace S : Sat _ _ _ := S
 refine Then.nx ?_
 refine W.cond rfl (fun h1 => ?_) (fun h1 => ?_) -- cond 0
 ·
  have rh1 := h1
  (try simp only [Q1, Q2, Q3, Q4, Q5, Q6, Q7, Q8, Q9, Qa] at h1)
  have hh := all_eq h1
  refine W.ret ?_
  refine Then.r ?_
  refine BodyQ.ret0 Tryd.results80 ?_
  exact ⟨rfl, by (have e1 : lset cs off (clkL 64 (cmax c dd)) = cs := (by rw [show clkL 64 (cmax c dd) = clkL 64 c from clkL_congr (fun i hi => by simp [cmax, hh i hi])]; exact hW.same)); rw [e1]; exact S.tl⟩
 ·
  have rh1 := h1
  (try simp only [Q1, Q2, Q3, Q4, Q5, Q6, Q7, Q8, Q9, Qa] at h1)
  refine W.skip ?_
  refine Then.nx ?_
  refine W.seq ?_
  refine W.region rfl ?_
  refine WO.q (Y.move (v := .int .i64 _) rfl) ?_
  refine WO.nil ?_
  refine Then.nx ?_
  refine W.block ?_
  -- loop 0 carries 10
  refine W.loop1 [4, 10, 11, 12, 13, 14, 15, 16, 17, 18, 19, 20, 21, 22, 23, 24, 25, 26] 10 (fun v10 w => ∃ k : Nat, v10 = .int .i64 (k : Int) ∧ k ≤ 64 ∧ Sat w0 w (Cel b3 (clkL 64 dd) 109 :: Cel b (lset cs off (clkL 64 (cmid k c dd))) e :: L)) (fun v10 w => 64 - (intOf v10).toNat) ?_ ?_
  ·
   exact ⟨0, rfl, by omega, by (have : lset cs off (clkL 64 (cmid 0 c dd)) = cs := (by rw [show clkL 64 (cmid 0 c dd) = clkL 64 c from clkL_congr (fun i hi => by simp [cmid])]; exact hW.same)); rw [this]; exact S⟩
  ·
   rintro g0 v10 w ⟨k, rfl, hk, S⟩
   refine W.seq ?_
   refine W.region rfl ?_
   refine WO.q (Y.lss rfl rfl) ?_
   refine WO.nil ?_
   refine Then.nx ?_
   refine W.seq ?_
   refine W.cond rfl (fun h2 => ?_) (fun h2 => ?_) -- cond 1
   ·
    have rh2 := h2
    (try simp only [Q1, Q2, Q3, Q4, Q5, Q6, Q7, Q8, Q9, Qa] at h2)
    have hk64 : k < 64 := by omega
    have hm : off + (clkL 64 (cmid k c dd)).length ≤ cs.length := by (rw [clkL_len]; exact hW2)
    have hv1 : (lset cs off (clkL 64 (cmid k c dd)))[off + k * 1]? = some (.int .i64 (c k)) := by (have := (Win.set hm).at (clkL_at (cmid k c dd) hk64); rw [Nat.mul_one, this]; simp [cmid])
    have hv2 : (clkL 64 dd)[0 + k * 1]? = some (.int .i64 (dd k)) := by (rw [Nat.zero_add, Nat.mul_one]; exact clkL_at dd hk64)
    have hf : Nat.ble (off + k * 1 + 1) (lset cs off (clkL 64 (cmid k c dd))).length = true := by (rw [lset_len hm, Nat.ble_eq]; omega)
    refine W.skip ?_
    refine Then.nx ?_
    refine W.seq ?_
    refine W.block ?_
    refine W.seq ?_
    refine W.region rfl ?_
    refine WO.q (Y.move (v := .int .i64 _) rfl) ?_
    refine WO.q (Y.assign (v := .int .i64 _) rfl) ?_
    refine WO.nil ?_
    refine Then.nx ?_
    refine W.draw (.q 0 (.q 1 (.q 2 (.q 3 (.q 4 (.q 5 (.q 6 (.q 7 (.q 8 (.q 9 (.q 10 (.q 11 (.q 12 (.e 13 .nil)))))))))))))) (fun w => Sat _ w _) rfl rfl (by kernel_rfl) rfl (by kernel_rfl) (by repeat (first | exact BodyQ.noFrame | refine Then.noFrame ?_ | refine InB.noFrame ?_)) S.drew ?_
    clear S
    first | refine Plan.q rfl (fun w S => Y.move (v := .pointer (some _)) rfl) ?_ | refine Plan.q rfl (fun w S => Y.move (v := .pointer _) rfl) ?_
    refine Plan.q rfl (fun w S => Y.move (v := .int .i64 _) rfl) ?_
    first | refine Plan.q rfl (fun w S => Y.move (v := .pointer (some _)) rfl) ?_ | refine Plan.q rfl (fun w S => Y.move (v := .pointer _) rfl) ?_
    refine Plan.q rfl (fun w S => Y.move (v := .int .i64 _) rfl) ?_
    refine Plan.q rfl (fun w S => Y.nilP rfl) ?_
    refine Plan.q rfl (fun w S => Y.ixA ar_109 rfl rfl (by (first | assumption | omega)) (by (first | assumption | omega))) ?_
    refine Plan.q rfl (fun w S => Y.load rfl (loadS1 sz_3 S 1 rfl hv1)) ?_
    refine Plan.q rfl (fun w S => Y.move (v := .int .i64 _) rfl) ?_
    refine Plan.q rfl (fun w S => Y.ixA ar_109 rfl rfl (by (first | assumption | omega)) (by (first | assumption | omega))) ?_
    refine Plan.q rfl (fun w S => Y.load rfl (loadS1 sz_3 S 0 rfl hv2)) ?_
    refine Plan.q rfl (fun w S => Y.max2 rfl rfl) ?_
    refine Plan.q rfl (fun w S => Y.nilP rfl) ?_
    refine Plan.q rfl (fun w S => Y.ixA ar_109 rfl rfl (by (first | assumption | omega)) (by (first | assumption | omega))) ?_
    refine Plan.e0 rfl (fun w S => O.store (v := .int _ _) 1 S rfl rfl rfl sz_3 rfl rfl rfl hf (fun w S => ?_))
    refine ⟨(fun w => Sat _ w _), S, (.inl (by kernel_rfl)), ?_⟩
    clear S
    refine Plan.nil (fun w S => ?_)
    replace S : Sat _ _ _ := S
    refine InB.nx ?_
    refine Then.nx ?_
    refine W.region rfl ?_
    first | refine WO.q (Y.addI rfl rfl (by omega)) ?_ | refine WO.q (Y.add rfl rfl) ?_
    refine WO.q (Y.move (v := .int .i64 _) rfl) ?_
    refine WO.nil ?_
    refine Then.nx ⟨?_, ?_, ?_⟩
    ·
     (repeat (first | exact Out.hav _ _ _ | exact Out.refl _ _ | refine Out.up rfl ?_ | refine Out.sub rfl ?_))
    ·
     exact ⟨k + 1, rfl, by omega, by (have e1 : lset (lset cs off (clkL 64 (cmid k c dd))) (off + k * 1) [.int .i64 (max (c k) (dd k))] = lset cs off (clkL 64 (cmid (k + 1) c dd)) := (by rw [Nat.mul_one, lset_one hm (by rw [clkL_len]; exact hk64), clkL_set _ hk64]; congr 1; exact clkL_congr (fun i hi => by simp only [cmid]; split <;> (try split) <;> (try split) <;> (try subst_vars) <;> first | rfl | omega))); rw [← e1]; exact S⟩
    ·
     (show 64 - (k + 1) < 64 - k; omega)
   ·
    have rh2 := h2
    (try simp only [Q1, Q2, Q3, Q4, Q5, Q6, Q7, Q8, Q9, Qa] at h2)
    refine W.exit ?_
    refine Then.x ?_
    refine Then.x ?_
    refine InB.e ?_
    refine BodyQ.end0 Tryd.results80 ?_
    exact ⟨rfl, by (have e1 : clkL 64 (cmid k c dd) = clkL 64 (cmax c dd) := clkL_congr (fun i hi => by simp only [cmid, cmax]; rw [if_pos (by omega)])); rw [e1] at S; exact S.tl⟩
end Go.Proofs
