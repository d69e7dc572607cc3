/-
  Walks of JudgeOrder.
-/
import Derived.Test.YticopppiogophaaDoorTp
import Derived.Test.YticopppiogophaaDoorTo
import Derived.Test.YticopppiogophaaDoorTh
import Derived.Test.YticopppiogophaaDoorSx
import Derived.Test.YticopppiogophaaDoorWj
set_option linter.unusedVariables false
set_option linter.unusedSimpArgs false
set_option maxRecDepth 100000
set_option maxHeartbeats 1000000
namespace Go.Proofs
open Go Go.TL Go.RowKit
theorem z_66 : ZeroT Tryd.prog 66 (.agg (List.replicate 1600 (.bool false)).toArray) (List.replicate 1600 (.bool false)) := ⟨fun w => by kernel_rfl, by kernel_rfl⟩
theorem cf_24 : CallF Tryd.prog 24 := fun args w => by kernel_rfl
theorem cf_23 : CallF Tryd.prog 23 := fun args w => by kernel_rfl
theorem cf_10 : CallF Tryd.prog 10 := fun args w => by kernel_rfl
theorem ar_66 : ArT Tryd.prog 66 40 65 40 := ⟨by kernel_rfl, fun w => by kernel_rfl⟩
theorem ar_65 : ArT Tryd.prog 65 40 4 1 := ⟨by kernel_rfl, fun w => by kernel_rfl⟩
theorem JudgeOrder_spec (w0 : World) (htab : Lib.TabIs Tryd.prog w0 "internal/strconv.uint64pow10" .u64 Lib.pow10Tab) (a : Option Addr) (c : Nat) (xs : List Access) (R1 : Rd tAccess w0 a xs) (hc : xs.length ≤ c) (hx : xs.length ≤ 9223372036854775807) :
    Calls Tryd.prog 5 [.slice a xs.length c].toArray w0 (fun e w => e = .returned (.bool true) ∧ Ext w0 w) := by
  have S := Sat.refl w0
  obtain ⟨ys, hys⟩ : ∃ ys, ys = (xs.take 40) := ⟨_, rfl⟩
  have R2 : Rd tAccess w0 a ys := by (rw [hys]; exact R1.take 40)
  have hyl : ys.length = min 40 xs.length := by (rw [hys, List.length_take])
  refine calls_of_W (args := [.slice a xs.length c]) 154 Tryd.func5 rfl Tryd.ntmps5 rfl ?_
  refine W.seq ?_
  refine W.region rfl ?_
  refine WO.q (Y.assign (v := .bool _) rfl) ?_
  refine WO.nil ?_
  refine Then.nx ?_
  refine W.cut1 [0, 12, 13, 14, 15, 16] 0 (fun v0 w => v0 = .slice a ys.length c ∧ Sat w0 w []) ?_ ?_
  ·
    refine W.seq ?_
    refine W.region rfl ?_
    refine WO.q (Y.move (v := .slice _ _ _) rfl) ?_
    refine WO.q (Y.len (t' := 0) Tryd.underlying64 rfl) ?_
    refine WO.q (Y.gtr rfl rfl) ?_
    refine WO.nil ?_
    refine Then.nx ?_
    refine W.cond rfl (fun h1 => ?_) (fun h1 => ?_) -- cond 0
    · have rh1 := h1
      (try simp only [decide_eq_true_eq, decide_eq_false_iff_not, Bool.not_eq_true', Bool.not_eq_false', Bool.and_eq_true, Bool.or_eq_true, Bool.and_eq_false_iff, Bool.or_eq_false_iff, Bool.not_true, Bool.not_false] at h1)
      refine W.region rfl ?_
      refine WO.q (Y.move (v := .slice _ _ _) rfl) ?_
      refine WO.q (Y.sliceH (h := 40) sl_64 rfl rfl (by omega)) ?_
      refine WO.q (Y.assign (v := .slice _ _ _) rfl) ?_
      refine WO.nil ?_
      refine Then.nx ⟨?_, ?_⟩
      · (repeat (first | exact Out.hav _ _ _ | exact Out.refl _ _ | refine Out.up rfl ?_ | refine Out.sub rfl ?_))
      · first | exact ⟨by (show Value.slice _ _ _ = _; rw [show ys.length = 40 by omega]), S⟩ | exact ⟨by (show Value.slice _ _ _ = _; rw [show ys.length = xs.length by omega]), S⟩
    · have rh1 := h1
      (try simp only [decide_eq_true_eq, decide_eq_false_iff_not, Bool.not_eq_true', Bool.not_eq_false', Bool.and_eq_true, Bool.or_eq_true, Bool.and_eq_false_iff, Bool.or_eq_false_iff, Bool.not_true, Bool.not_false] at h1)
      refine W.skip ?_
      refine Then.nx ⟨?_, ?_⟩
      · (repeat (first | exact Out.hav _ _ _ | exact Out.refl _ _ | refine Out.up rfl ?_ | refine Out.sub rfl ?_))
      · first | exact ⟨by (show Value.slice _ _ _ = _; rw [show ys.length = 40 by omega]), S⟩ | exact ⟨by (show Value.slice _ _ _ = _; rw [show ys.length = xs.length by omega]), S⟩
  · rintro gj37 v0 w ⟨rfl, S⟩
    refine W.seq ?_
    refine W.region rfl ?_
    refine WO.q (Y.move (v := .slice _ _ _) rfl) ?_
    refine WO.q (Y.len (t' := 0) Tryd.underlying64 rfl) ?_
    refine WO.q (Y.assign (v := .int .i64 _) rfl) ?_
    refine WO.nil ?_
    refine Then.nx ?_
    refine W.seq ?_
    refine W.region rfl ?_
    refine WO.e (O.alloc z_66 S (fun b4 w S => ?_))
    refine WO.nil ?_
    refine Then.nx ?_
    refine W.seq ?_
    refine W.seq ?_
    rw [← ordM_zero ys] at S
    refine W.region rfl ?_
    refine WO.q (Y.assign (v := .int .i64 _) rfl) ?_
    refine WO.nil ?_
    refine Then.nx ?_
    refine W.block ?_
    -- loop 0 carries 5:a
    refine W.loop1 [2, 5, 6, 7, 8, 19, 20, 21, 22, 23, 24, 25, 26, 27, 28, 29, 30, 31, 32, 33, 34, 35, 36, 37, 38, 39, 40, 41, 42, 43, 44, 45, 46, 47, 48, 49, 50, 51, 52, 53, 54, 55, 56, 57, 58, 59, 60, 61, 62, 63, 64, 65, 66, 67, 68, 69, 70, 71, 72, 73, 74, 75, 76, 77, 78, 79, 80, 81, 82, 83, 84, 85, 86, 87, 88, 89, 90, 91, 92, 93, 94, 95, 96, 97, 98, 99, 100, 101, 102, 103, 104, 105, 106, 107, 108, 109, 110, 111, 112, 113, 114, 115, 116, 117] 5 (fun v5 w => ∃ i : Nat, v5 = .int .i64 (i : Int) ∧ i ≤ ys.length ∧ Sat w0 w [Cel b4 (matL (ordM ys i 0)) 66]) (fun v5 w => ys.length - (intOf v5).toNat) ?_ ?_
    · exact ⟨0, rfl, by omega, S⟩
    · rintro g0 v5 w ⟨i, rfl, hi, S⟩
      refine W.seq ?_
      refine W.seq ?_
      refine W.region rfl ?_
      refine WO.q (Y.move (v := .int .i64 _) rfl) ?_
      refine WO.q (Y.move (v := .int .i64 _) rfl) ?_
      refine WO.q (Y.lss rfl rfl) ?_
      refine WO.nil ?_
      refine Then.nx ?_
      refine W.cond rfl (fun h2 => ?_) (fun h2 => ?_) -- cond 1
      · have rh2 := h2
        (try simp only [decide_eq_true_eq, decide_eq_false_iff_not, Bool.not_eq_true', Bool.not_eq_false', Bool.and_eq_true, Bool.or_eq_true, Bool.and_eq_false_iff, Bool.or_eq_false_iff, Bool.not_true, Bool.not_false] at h2)
        have hi2 : i < ys.length := by omega
        refine W.skip ?_
        refine Then.nx ?_
        refine W.seq ?_
        refine W.block ?_
        refine W.seq ?_
        refine W.region rfl ?_
        refine WO.q (Y.assign (v := .int .i64 _) rfl) ?_
        refine WO.nil ?_
        refine Then.nx ?_
        refine W.block ?_
        -- loop 1 carries 6:b
        refine W.loop1 [2, 6, 7, 8, 24, 25, 26, 27, 28, 29, 30, 31, 32, 33, 34, 35, 36, 37, 38, 39, 40, 41, 42, 43, 44, 45, 46, 47, 48, 49, 50, 51, 52, 53, 54, 55, 56, 57, 58, 59, 60, 61, 62, 63, 64, 65, 66, 67, 68, 69, 70, 71, 72, 73, 74, 75, 76, 77, 78, 79, 80, 81, 82, 83, 84, 85, 86, 87, 88, 89, 90, 91, 92, 93, 94, 95, 96, 97, 98, 99, 100, 101, 102, 103, 104, 105, 106, 107, 108, 109, 110, 111, 112, 113, 114, 115, 116, 117] 6 (fun v6 w => ∃ j : Nat, v6 = .int .i64 (j : Int) ∧ j ≤ ys.length ∧ Sat w0 w [Cel b4 (matL (ordM ys i j)) 66]) (fun v6 w => ys.length - (intOf v6).toNat) ?_ ?_
        · exact ⟨0, rfl, by omega, S⟩
        · rintro g1 v6 w ⟨j, rfl, hj, S⟩
          refine W.seq ?_
          refine W.seq ?_
          refine W.region rfl ?_
          refine WO.q (Y.move (v := .int .i64 _) rfl) ?_
          refine WO.q (Y.move (v := .int .i64 _) rfl) ?_
          refine WO.q (Y.lss rfl rfl) ?_
          refine WO.nil ?_
          refine Then.nx ?_
          refine W.cond rfl (fun h3 => ?_) (fun h3 => ?_) -- cond 2
          · have rh3 := h3
            (try simp only [decide_eq_true_eq, decide_eq_false_iff_not, Bool.not_eq_true', Bool.not_eq_false', Bool.and_eq_true, Bool.or_eq_true, Bool.and_eq_false_iff, Bool.or_eq_false_iff, Bool.not_true, Bool.not_false] at h3)
            have hj2 : j < ys.length := by omega
            refine W.skip ?_
            refine Then.nx ?_
            refine W.seq ?_
            refine W.block ?_
            refine W.seq ?_
            refine W.region rfl ?_
            refine WO.q (Y.move (v := .slice _ _ _) rfl) ?_
            refine WO.e (O.call cf_24 rfl (CopyAccesses_spec _ a c ys (R2.ext S.ext) (by omega)) ?_)
            rintro _ w ⟨a31, c31, e31, rfl, S2⟩
            replace S := S.trans S2
            refine ⟨_, rfl, ?_⟩
            refine WO.q (Y.move (v := .int .i64 _) rfl) ?_
            refine WO.q (Y.move (v := .int .i64 _) rfl) ?_
            refine WO.e (O.call cf_23 rfl (Ahead_spec _ _ _ ys i j (S.rd 0 rfl) (by omega)) ?_)
            rintro _ w ⟨rfl, E⟩
            replace S := S.keep E
            refine ⟨_, rfl, ?_⟩
            refine WO.q (Y.move (v := .tuple _) rfl) ?_
            refine WO.q (Y.extract (v := .bool _) rfl rfl) ?_
            refine WO.q (Y.extract (v := .int .i64 _) rfl rfl) ?_
            refine WO.q (Y.assign (v := .bool _) rfl) ?_
            refine WO.q (Y.assign (v := .int .i64 _) rfl) ?_
            refine WO.nil ?_
            refine Then.nx ?_
            refine W.seq ?_
            refine W.seq ?_
            have hac := ahead_cases (l := ys) (i := i) (j := j) hi2 hj2
            have ha := R2.1 (by omega)
            obtain ⟨y, hy1⟩ := at_ex (xs := ys) (k := i) hi2
            obtain ⟨x, hx1⟩ := at_ex (xs := ys) (k := j) hj2
            refine W.region rfl ?_
            refine WO.q (Y.move (v := .int .i64 _) rfl) ?_
            refine WO.q (Y.neq rfl rfl) ?_
            refine WO.nil ?_
            refine Then.nx ?_
            refine W.cond rfl (fun h4 => ?_) (fun h4 => ?_) -- cond 3
            · have rh4 := h4
              (try simp only [decide_eq_true_eq, decide_eq_false_iff_not, Bool.not_eq_true', Bool.not_eq_false', Bool.and_eq_true, Bool.or_eq_true, Bool.and_eq_false_iff, Bool.or_eq_false_iff, Bool.not_true, Bool.not_false] at h4)
              refine W.seq ?_
              refine W.region rfl ?_
              refine WO.q (Y.move (v := .int .i64 _) rfl) ?_
              refine WO.q (Y.eql rfl rfl) ?_
              refine WO.q (Y.move (v := .bool _) rfl) ?_
              refine WO.splitB (fun h5 => ?_) (fun h5 => ?_)
              · (try simp only [decide_eq_true_eq, decide_eq_false_iff_not, Bool.not_eq_true', Bool.not_eq_false', Bool.and_eq_true, Bool.or_eq_true, Bool.and_eq_false_iff, Bool.or_eq_false_iff, Bool.not_true, Bool.not_false] at h5)
                refine WO.qT rfl (Y.move (v := .bool _) rfl) ?_
                refine WO.qT rfl (Y.not rfl) ?_
                refine WO.q (Y.pickT (u := .bool _) rfl rfl) ?_
                refine WO.q (Y.move (v := .bool _) rfl) ?_
                refine WO.splitB (fun h6 => ?_) (fun h6 => ?_)
                · (try simp only [decide_eq_true_eq, decide_eq_false_iff_not, Bool.not_eq_true', Bool.not_eq_false', Bool.and_eq_true, Bool.or_eq_true, Bool.and_eq_false_iff, Bool.or_eq_false_iff, Bool.not_true, Bool.not_false] at h6)
                  refine WO.eT rfl (O.call cf_10 rfl (lives_spec _ (Lib.tabBelow_of_tabIs htab _ S.ext)) ?_)
                  rintro _ w ⟨rfl, E⟩
                  replace S := S.keep E
                  refine ⟨_, rfl, ?_⟩
                  refine WO.q (Y.pickT (u := .bool _) rfl rfl) ?_
                  refine WO.q (Y.assign (v := .bool _) rfl) ?_
                  refine WO.nil ?_
                  refine Then.nx ?_
                  refine W.ret ?_
                  refine Then.r ?_
                  refine InB.r ?_
                  refine Then.r ?_
                  refine Then.r ?_
                  refine InB.r ?_
                  refine InB.r ?_
                  refine Then.r ?_
                  refine Then.r ?_
                  refine InB.r ?_
                  refine Then.r ?_
                  refine BodyQ.ret1 Tryd.results5 (ResV.tmp _ rfl) ?_
                  first | exact ⟨rfl, S.ext⟩ | (exfalso; omega) | contradiction | exact absurd (f1 (by assumption)) (by omega) | (exfalso; simp_all; done)
                · (try simp only [decide_eq_true_eq, decide_eq_false_iff_not, Bool.not_eq_true', Bool.not_eq_false', Bool.and_eq_true, Bool.or_eq_true, Bool.and_eq_false_iff, Bool.or_eq_false_iff, Bool.not_true, Bool.not_false] at h6)
                  refine WO.qF rfl ?_
                  refine WO.q (Y.pickF (u := .bool _) rfl rfl) ?_
                  refine WO.q (Y.assign (v := .bool _) rfl) ?_
                  refine WO.nil ?_
                  refine Then.nx ?_
                  refine W.ret ?_
                  refine Then.r ?_
                  refine InB.r ?_
                  refine Then.r ?_
                  refine Then.r ?_
                  refine InB.r ?_
                  refine InB.r ?_
                  refine Then.r ?_
                  refine Then.r ?_
                  refine InB.r ?_
                  refine Then.r ?_
                  refine BodyQ.ret1 Tryd.results5 (ResV.tmp _ rfl) ?_
                  first | exact ⟨rfl, S.ext⟩ | (exfalso; omega) | contradiction | exact absurd (f1 (by assumption)) (by omega) | (exfalso; simp_all; done)
              · (try simp only [decide_eq_true_eq, decide_eq_false_iff_not, Bool.not_eq_true', Bool.not_eq_false', Bool.and_eq_true, Bool.or_eq_true, Bool.and_eq_false_iff, Bool.or_eq_false_iff, Bool.not_true, Bool.not_false] at h5)
                refine WO.qF rfl ?_
                refine WO.qF rfl ?_
                refine WO.q (Y.pickF (u := .bool _) rfl rfl) ?_
                refine WO.q (Y.move (v := .bool _) rfl) ?_
                refine WO.qF rfl ?_
                refine WO.q (Y.pickF (u := .bool _) rfl rfl) ?_
                refine WO.q (Y.assign (v := .bool _) rfl) ?_
                refine WO.nil ?_
                refine Then.nx ?_
                refine W.ret ?_
                refine Then.r ?_
                refine InB.r ?_
                refine Then.r ?_
                refine Then.r ?_
                refine InB.r ?_
                refine InB.r ?_
                refine Then.r ?_
                refine Then.r ?_
                refine InB.r ?_
                refine Then.r ?_
                refine BodyQ.ret1 Tryd.results5 (ResV.tmp _ rfl) ?_
                first | exact ⟨rfl, S.ext⟩ | (exfalso; omega) | contradiction | exact absurd (f1 (by assumption)) (by omega) | (exfalso; simp_all; done)
            · have rh4 := h4
              (try simp only [decide_eq_true_eq, decide_eq_false_iff_not, Bool.not_eq_true', Bool.not_eq_false', Bool.and_eq_true, Bool.or_eq_true, Bool.and_eq_false_iff, Bool.or_eq_false_iff, Bool.not_true, Bool.not_false] at h4)
              refine W.skip ?_
              refine Then.nx ?_
              refine W.seq ?_
              have hE : aheadE ys i j = 0 := by omega
              have hB : aheadB ys i j = oB ys i j := by (rcases hac with h | h; exact h.2; omega)
              rw [hB]
              have f1 := oB_lt (l := ys) (i := i) (j := j) hi2 hj2
              have f2 : i < j → y.thread = x.thread → oB ys i j = true := oB_thread hy1 hx1
              have f3 : i + 1 = j → y.op = 2 → x.op = 1 → y.cell = x.cell → oB ys i j = true := fun h => by (subst h; exact oB_seen hy1 hx1)
              refine W.region rfl ?_
              refine WO.q (Y.move (v := .int .i64 _) rfl) ?_
              refine WO.q (Y.move (v := .int .i64 _) rfl) ?_
              refine WO.q (Y.move (v := .bool _) rfl) ?_
              refine WO.q (Y.ixA ar_66 rfl rfl (by (first | assumption | omega)) (by (first | assumption | omega))) ?_
              refine WO.q (Y.ixA ar_65 rfl rfl (by (first | assumption | omega)) (by (first | assumption | omega))) ?_
              refine WO.e0 (O.store (v := .bool _) 1 S rfl rfl rfl sz_4 rfl rfl rfl (by (rw [matL_len, Nat.ble_eq]; omega)) (fun w S => ?_))
              refine WO.nil ?_
              refine Then.nx ?_
              refine W.seq ?_
              refine W.cut1 [53, 54, 55, 56, 57, 58, 59, 60, 61, 62, 63, 64, 65, 66, 67, 68, 69, 70, 71, 72, 73, 74, 75, 76, 77, 78, 79, 80] 80 (fun v80 w => v80 = .bool false ∧ Sat w0 w [Own tAccess e31 a31 c31 ys, Cel b4 (matL (ordM ys i (j + 1))) 66]) ?_ ?_
              ·
                replace S : Sat w0 w [Own tAccess e31 a31 c31 ys, Cel b4 (lset (matL (ordM ys i j)) (0 + i * 40 + j * 1) [.bool (oB ys i j)]) 66] := S
                rw [ordM_set ys i j rfl (by omega) (by omega)] at S
                refine W.draw (.q 0 (.q 1 (.q 2 (.q 3 (.q 4 (.q 5 (.q 6 (.q 7 (.q 8 (.q 9 (.q 10 (.q 11 (.q 12 (.q 13 (.q 14 (.q 15 (.q 16 (.q 17 (.q 18 (.q 19 (.q 20 (.q 21 (.q 22 (.q 23 (.q 24 (.q 25 (.q 26 (.q 27 .nil)))))))))))))))))))))))))))) (fun w => Sat _ w _) rfl rfl (by kernel_rfl) rfl (by kernel_rfl) (by repeat (first | exact BodyQ.noFrame | refine Then.noFrame ?_ | refine InB.noFrame ?_)) S.drew ?_
                clear S
                refine Plan.q rfl (fun w S => Y.move (v := .bool _) rfl) ?_
                refine Plan.q rfl (fun w S => Y.move (v := .bool _) rfl) ?_
                refine Plan.splitB (fun h7 => ?_) (fun h7 => ?_)
                · (try simp only [decide_eq_true_eq, decide_eq_false_iff_not, Bool.not_eq_true', Bool.not_eq_false', Bool.and_eq_true, Bool.or_eq_true, Bool.and_eq_false_iff, Bool.or_eq_false_iff, Bool.not_true, Bool.not_false] at h7)
                  refine Plan.qT rfl rfl (fun w S => Y.move (v := .int .i64 _) rfl) ?_
                  refine Plan.qT rfl rfl (fun w S => Y.move (v := .int .i64 _) rfl) ?_
                  refine Plan.qT rfl rfl (fun w S => Y.geq rfl rfl) ?_
                  refine Plan.q rfl (fun w S => Y.pickT (u := .bool _) rfl rfl) ?_
                  refine Plan.q rfl (fun w S => Y.move (v := .bool _) rfl) ?_
                  refine Plan.splitB (fun h8 => ?_) (fun h8 => ?_)
                  · (try simp only [decide_eq_true_eq, decide_eq_false_iff_not, Bool.not_eq_true', Bool.not_eq_false', Bool.and_eq_true, Bool.or_eq_true, Bool.and_eq_false_iff, Bool.or_eq_false_iff, Bool.not_true, Bool.not_false] at h8)
                    refine Plan.qF rfl rfl ?_
                    refine Plan.qF rfl rfl ?_
                    refine Plan.qF rfl rfl ?_
                    refine Plan.qF rfl rfl ?_
                    refine Plan.qF rfl rfl ?_
                    refine Plan.qF rfl rfl ?_
                    refine Plan.qF rfl rfl ?_
                    refine Plan.qF rfl rfl ?_
                    refine Plan.qF rfl rfl ?_
                    refine Plan.qF rfl rfl ?_
                    refine Plan.qF rfl rfl ?_
                    refine Plan.qF rfl rfl ?_
                    refine Plan.qF rfl rfl ?_
                    refine Plan.qF rfl rfl ?_
                    refine Plan.qF rfl rfl ?_
                    refine Plan.qF rfl rfl ?_
                    refine Plan.qF rfl rfl ?_
                    refine Plan.qF rfl rfl ?_
                    refine Plan.qF rfl rfl ?_
                    refine Plan.qF rfl rfl ?_
                    refine Plan.q rfl (fun w S => Y.pickT (u := .bool _) rfl rfl) ?_
                    refine Plan.nil (fun w S => ?_)
                    replace S : Sat _ _ _ := S
                    refine Then.nx ⟨?_, ?_⟩
                    · (repeat (first | exact Out.hav _ _ _ | exact Out.refl _ _ | refine Out.up rfl ?_ | refine Out.sub rfl ?_))
                    · first | exact ⟨rfl, S⟩ | exact absurd (f1 (by assumption)) (by omega) | (have hq := f2 (by omega) (by assumption); exact ⟨by (show Value.bool _ = _; rw [hq]; rfl), S⟩)
                  · (try simp only [decide_eq_true_eq, decide_eq_false_iff_not, Bool.not_eq_true', Bool.not_eq_false', Bool.and_eq_true, Bool.or_eq_true, Bool.and_eq_false_iff, Bool.or_eq_false_iff, Bool.not_true, Bool.not_false] at h8)
                    refine Plan.qT rfl rfl (fun w S => Y.move (v := .int .i64 _) rfl) ?_
                    refine Plan.qT rfl rfl (fun w S => Y.move (v := .int .i64 _) rfl) ?_
                    refine Plan.qT rfl rfl (fun w S => Y.lss rfl rfl) ?_
                    refine Plan.qT rfl rfl (fun w S => Y.move (v := .bool _) rfl) ?_
                    refine Plan.splitB (fun h9 => ?_) (fun h9 => ?_)
                    · (try simp only [decide_eq_true_eq, decide_eq_false_iff_not, Bool.not_eq_true', Bool.not_eq_false', Bool.and_eq_true, Bool.or_eq_true, Bool.and_eq_false_iff, Bool.or_eq_false_iff, Bool.not_true, Bool.not_false] at h9)
                      refine Plan.qT rfl rfl (fun w S => Y.move (v := .slice _ _ _) rfl) ?_
                      refine Plan.qT rfl rfl (fun w S => Y.move (v := .int .i64 _) rfl) ?_
                      first | refine Plan.qT rfl rfl (fun w S => Y.ixN sl_64 rfl rfl (by assumption) (by (first | assumption | omega))) ?_ | refine Plan.qT rfl rfl (fun w S => Y.ix sl_64 rfl rfl (by assumption) (by (first | assumption | omega)) (by (first | assumption | omega))) ?_
                      refine Plan.qT rfl rfl (fun w S => Y.fieldE fo_71_0 rfl) ?_
                      refine Plan.qT rfl rfl (fun w S => Y.load rfl (loadRdF sz_3 (R2.ext S.ext) (by assumption) rfl)) ?_
                      refine Plan.qT rfl rfl (fun w S => Y.move (v := .slice _ _ _) rfl) ?_
                      refine Plan.qT rfl rfl (fun w S => Y.move (v := .int .i64 _) rfl) ?_
                      first | refine Plan.qT rfl rfl (fun w S => Y.ixN sl_64 rfl rfl (by assumption) (by (first | assumption | omega))) ?_ | refine Plan.qT rfl rfl (fun w S => Y.ix sl_64 rfl rfl (by assumption) (by (first | assumption | omega)) (by (first | assumption | omega))) ?_
                      refine Plan.qT rfl rfl (fun w S => Y.fieldE fo_71_0 rfl) ?_
                      refine Plan.qT rfl rfl (fun w S => Y.load rfl (loadRdF sz_3 (R2.ext S.ext) (by assumption) rfl)) ?_
                      refine Plan.qT rfl rfl (fun w S => Y.eql rfl rfl) ?_
                      refine Plan.qT rfl rfl (fun w S => Y.pickT (u := .bool _) rfl rfl) ?_
                      refine Plan.qT rfl rfl (fun w S => Y.move (v := .bool _) rfl) ?_
                      refine Plan.splitB (fun h10 => ?_) (fun h10 => ?_)
                      · (try simp only [decide_eq_true_eq, decide_eq_false_iff_not, Bool.not_eq_true', Bool.not_eq_false', Bool.and_eq_true, Bool.or_eq_true, Bool.and_eq_false_iff, Bool.or_eq_false_iff, Bool.not_true, Bool.not_false] at h10)
                        refine Plan.qT rfl rfl (fun w S => Y.move (v := .bool _) rfl) ?_
                        refine Plan.qT rfl rfl (fun w S => Y.not rfl) ?_
                        refine Plan.qT rfl rfl (fun w S => Y.pickT (u := .bool _) rfl rfl) ?_
                        refine Plan.q rfl (fun w S => Y.pickF (u := .bool _) rfl rfl) ?_
                        refine Plan.nil (fun w S => ?_)
                        replace S : Sat _ _ _ := S
                        refine Then.nx ⟨?_, ?_⟩
                        · (repeat (first | exact Out.hav _ _ _ | exact Out.refl _ _ | refine Out.up rfl ?_ | refine Out.sub rfl ?_))
                        · first | exact ⟨rfl, S⟩ | exact absurd (f1 (by assumption)) (by omega) | (have hq := f2 (by omega) (by assumption); exact ⟨by (show Value.bool _ = _; rw [hq]; rfl), S⟩)
                      · (try simp only [decide_eq_true_eq, decide_eq_false_iff_not, Bool.not_eq_true', Bool.not_eq_false', Bool.and_eq_true, Bool.or_eq_true, Bool.and_eq_false_iff, Bool.or_eq_false_iff, Bool.not_true, Bool.not_false] at h10)
                        refine Plan.qF rfl rfl ?_
                        refine Plan.qF rfl rfl ?_
                        refine Plan.qT rfl rfl (fun w S => Y.pickF (u := .bool _) rfl rfl) ?_
                        refine Plan.q rfl (fun w S => Y.pickF (u := .bool _) rfl rfl) ?_
                        refine Plan.nil (fun w S => ?_)
                        replace S : Sat _ _ _ := S
                        refine Then.nx ⟨?_, ?_⟩
                        · (repeat (first | exact Out.hav _ _ _ | exact Out.refl _ _ | refine Out.up rfl ?_ | refine Out.sub rfl ?_))
                        · first | exact ⟨rfl, S⟩ | exact absurd (f1 (by assumption)) (by omega) | (have hq := f2 (by omega) (by assumption); exact ⟨by (show Value.bool _ = _; rw [hq]; rfl), S⟩)
                    · (try simp only [decide_eq_true_eq, decide_eq_false_iff_not, Bool.not_eq_true', Bool.not_eq_false', Bool.and_eq_true, Bool.or_eq_true, Bool.and_eq_false_iff, Bool.or_eq_false_iff, Bool.not_true, Bool.not_false] at h9)
                      refine Plan.qF rfl rfl ?_
                      refine Plan.qF rfl rfl ?_
                      refine Plan.qF rfl rfl ?_
                      refine Plan.qF rfl rfl ?_
                      refine Plan.qF rfl rfl ?_
                      refine Plan.qF rfl rfl ?_
                      refine Plan.qF rfl rfl ?_
                      refine Plan.qF rfl rfl ?_
                      refine Plan.qF rfl rfl ?_
                      refine Plan.qF rfl rfl ?_
                      refine Plan.qF rfl rfl ?_
                      refine Plan.qT rfl rfl (fun w S => Y.pickF (u := .bool _) rfl rfl) ?_
                      refine Plan.qT rfl rfl (fun w S => Y.move (v := .bool _) rfl) ?_
                      refine Plan.qF rfl rfl ?_
                      refine Plan.qF rfl rfl ?_
                      refine Plan.qT rfl rfl (fun w S => Y.pickF (u := .bool _) rfl rfl) ?_
                      refine Plan.q rfl (fun w S => Y.pickF (u := .bool _) rfl rfl) ?_
                      refine Plan.nil (fun w S => ?_)
                      replace S : Sat _ _ _ := S
                      refine Then.nx ⟨?_, ?_⟩
                      · (repeat (first | exact Out.hav _ _ _ | exact Out.refl _ _ | refine Out.up rfl ?_ | refine Out.sub rfl ?_))
                      · first | exact ⟨rfl, S⟩ | exact absurd (f1 (by assumption)) (by omega) | (have hq := f2 (by omega) (by assumption); exact ⟨by (show Value.bool _ = _; rw [hq]; rfl), S⟩)
                · (try simp only [decide_eq_true_eq, decide_eq_false_iff_not, Bool.not_eq_true', Bool.not_eq_false', Bool.and_eq_true, Bool.or_eq_true, Bool.and_eq_false_iff, Bool.or_eq_false_iff, Bool.not_true, Bool.not_false] at h7)
                  refine Plan.qF rfl rfl ?_
                  refine Plan.qF rfl rfl ?_
                  refine Plan.qF rfl rfl ?_
                  refine Plan.q rfl (fun w S => Y.pickF (u := .bool _) rfl rfl) ?_
                  refine Plan.q rfl (fun w S => Y.move (v := .bool _) rfl) ?_
                  refine Plan.qT rfl rfl (fun w S => Y.move (v := .int .i64 _) rfl) ?_
                  refine Plan.qT rfl rfl (fun w S => Y.move (v := .int .i64 _) rfl) ?_
                  refine Plan.qT rfl rfl (fun w S => Y.lss rfl rfl) ?_
                  refine Plan.qT rfl rfl (fun w S => Y.move (v := .bool _) rfl) ?_
                  refine Plan.splitB (fun h11 => ?_) (fun h11 => ?_)
                  · (try simp only [decide_eq_true_eq, decide_eq_false_iff_not, Bool.not_eq_true', Bool.not_eq_false', Bool.and_eq_true, Bool.or_eq_true, Bool.and_eq_false_iff, Bool.or_eq_false_iff, Bool.not_true, Bool.not_false] at h11)
                    refine Plan.qT rfl rfl (fun w S => Y.move (v := .slice _ _ _) rfl) ?_
                    refine Plan.qT rfl rfl (fun w S => Y.move (v := .int .i64 _) rfl) ?_
                    first | refine Plan.qT rfl rfl (fun w S => Y.ixN sl_64 rfl rfl (by assumption) (by (first | assumption | omega))) ?_ | refine Plan.qT rfl rfl (fun w S => Y.ix sl_64 rfl rfl (by assumption) (by (first | assumption | omega)) (by (first | assumption | omega))) ?_
                    refine Plan.qT rfl rfl (fun w S => Y.fieldE fo_71_0 rfl) ?_
                    refine Plan.qT rfl rfl (fun w S => Y.load rfl (loadRdF sz_3 (R2.ext S.ext) (by assumption) rfl)) ?_
                    refine Plan.qT rfl rfl (fun w S => Y.move (v := .slice _ _ _) rfl) ?_
                    refine Plan.qT rfl rfl (fun w S => Y.move (v := .int .i64 _) rfl) ?_
                    first | refine Plan.qT rfl rfl (fun w S => Y.ixN sl_64 rfl rfl (by assumption) (by (first | assumption | omega))) ?_ | refine Plan.qT rfl rfl (fun w S => Y.ix sl_64 rfl rfl (by assumption) (by (first | assumption | omega)) (by (first | assumption | omega))) ?_
                    refine Plan.qT rfl rfl (fun w S => Y.fieldE fo_71_0 rfl) ?_
                    refine Plan.qT rfl rfl (fun w S => Y.load rfl (loadRdF sz_3 (R2.ext S.ext) (by assumption) rfl)) ?_
                    refine Plan.qT rfl rfl (fun w S => Y.eql rfl rfl) ?_
                    refine Plan.qT rfl rfl (fun w S => Y.pickT (u := .bool _) rfl rfl) ?_
                    refine Plan.qT rfl rfl (fun w S => Y.move (v := .bool _) rfl) ?_
                    refine Plan.splitB (fun h12 => ?_) (fun h12 => ?_)
                    · (try simp only [decide_eq_true_eq, decide_eq_false_iff_not, Bool.not_eq_true', Bool.not_eq_false', Bool.and_eq_true, Bool.or_eq_true, Bool.and_eq_false_iff, Bool.or_eq_false_iff, Bool.not_true, Bool.not_false] at h12)
                      refine Plan.qT rfl rfl (fun w S => Y.move (v := .bool _) rfl) ?_
                      refine Plan.qT rfl rfl (fun w S => Y.not rfl) ?_
                      refine Plan.qT rfl rfl (fun w S => Y.pickT (u := .bool _) rfl rfl) ?_
                      refine Plan.q rfl (fun w S => Y.pickF (u := .bool _) rfl rfl) ?_
                      refine Plan.nil (fun w S => ?_)
                      replace S : Sat _ _ _ := S
                      refine Then.nx ⟨?_, ?_⟩
                      · (repeat (first | exact Out.hav _ _ _ | exact Out.refl _ _ | refine Out.up rfl ?_ | refine Out.sub rfl ?_))
                      · first | exact ⟨rfl, S⟩ | exact absurd (f1 (by assumption)) (by omega) | (have hq := f2 (by omega) (by assumption); exact ⟨by (show Value.bool _ = _; rw [hq]; rfl), S⟩)
                    · (try simp only [decide_eq_true_eq, decide_eq_false_iff_not, Bool.not_eq_true', Bool.not_eq_false', Bool.and_eq_true, Bool.or_eq_true, Bool.and_eq_false_iff, Bool.or_eq_false_iff, Bool.not_true, Bool.not_false] at h12)
                      refine Plan.qF rfl rfl ?_
                      refine Plan.qF rfl rfl ?_
                      refine Plan.qT rfl rfl (fun w S => Y.pickF (u := .bool _) rfl rfl) ?_
                      refine Plan.q rfl (fun w S => Y.pickF (u := .bool _) rfl rfl) ?_
                      refine Plan.nil (fun w S => ?_)
                      replace S : Sat _ _ _ := S
                      refine Then.nx ⟨?_, ?_⟩
                      · (repeat (first | exact Out.hav _ _ _ | exact Out.refl _ _ | refine Out.up rfl ?_ | refine Out.sub rfl ?_))
                      · first | exact ⟨rfl, S⟩ | exact absurd (f1 (by assumption)) (by omega) | (have hq := f2 (by omega) (by assumption); exact ⟨by (show Value.bool _ = _; rw [hq]; rfl), S⟩)
                  · (try simp only [decide_eq_true_eq, decide_eq_false_iff_not, Bool.not_eq_true', Bool.not_eq_false', Bool.and_eq_true, Bool.or_eq_true, Bool.and_eq_false_iff, Bool.or_eq_false_iff, Bool.not_true, Bool.not_false] at h11)
                    refine Plan.qF rfl rfl ?_
                    refine Plan.qF rfl rfl ?_
                    refine Plan.qF rfl rfl ?_
                    refine Plan.qF rfl rfl ?_
                    refine Plan.qF rfl rfl ?_
                    refine Plan.qF rfl rfl ?_
                    refine Plan.qF rfl rfl ?_
                    refine Plan.qF rfl rfl ?_
                    refine Plan.qF rfl rfl ?_
                    refine Plan.qF rfl rfl ?_
                    refine Plan.qF rfl rfl ?_
                    refine Plan.qT rfl rfl (fun w S => Y.pickF (u := .bool _) rfl rfl) ?_
                    refine Plan.qT rfl rfl (fun w S => Y.move (v := .bool _) rfl) ?_
                    refine Plan.qF rfl rfl ?_
                    refine Plan.qF rfl rfl ?_
                    refine Plan.qT rfl rfl (fun w S => Y.pickF (u := .bool _) rfl rfl) ?_
                    refine Plan.q rfl (fun w S => Y.pickF (u := .bool _) rfl rfl) ?_
                    refine Plan.nil (fun w S => ?_)
                    replace S : Sat _ _ _ := S
                    refine Then.nx ⟨?_, ?_⟩
                    · (repeat (first | exact Out.hav _ _ _ | exact Out.refl _ _ | refine Out.up rfl ?_ | refine Out.sub rfl ?_))
                    · first | exact ⟨rfl, S⟩ | exact absurd (f1 (by assumption)) (by omega) | (have hq := f2 (by omega) (by assumption); exact ⟨by (show Value.bool _ = _; rw [hq]; rfl), S⟩)
              · rintro gj411 v80 w ⟨rfl, S⟩
                refine W.cond rfl (fun h13 => ?_) (fun h13 => ?_) -- cond 4
                · have rh13 := h13
                  (try simp only [decide_eq_true_eq, decide_eq_false_iff_not, Bool.not_eq_true', Bool.not_eq_false', Bool.and_eq_true, Bool.or_eq_true, Bool.and_eq_false_iff, Bool.or_eq_false_iff, Bool.not_true, Bool.not_false] at h13)
                  cases rh13
                · have rh13 := h13
                  (try simp only [decide_eq_true_eq, decide_eq_false_iff_not, Bool.not_eq_true', Bool.not_eq_false', Bool.and_eq_true, Bool.or_eq_true, Bool.and_eq_false_iff, Bool.or_eq_false_iff, Bool.not_true, Bool.not_false] at h13)
                  refine W.skip ?_
                  refine Then.nx ?_
                  refine W.cut1 [81, 82, 83, 84, 85, 86, 87, 88, 89, 90, 91, 92, 93, 94, 95, 96, 97, 98, 99, 100, 101, 102, 103, 104, 105, 106, 107, 108, 109, 110, 111, 112, 113, 114, 115, 116, 117] 117 (fun v117 w => v117 = .bool false ∧ Sat w0 w [Own tAccess e31 a31 c31 ys, Cel b4 (matL (ordM ys i (j + 1))) 66]) ?_ ?_
                  ·
                    refine W.draw (.q 0 (.q 1 (.q 2 (.q 3 (.q 4 (.q 5 (.q 6 (.q 7 (.q 8 (.q 9 (.q 10 (.q 11 (.q 12 (.q 13 (.q 14 (.q 15 (.q 16 (.q 17 (.q 18 (.q 19 (.q 20 (.q 21 (.q 22 (.q 23 (.q 24 (.q 25 (.q 26 (.q 27 (.q 28 (.q 29 (.q 30 (.q 31 (.q 32 (.q 33 (.q 34 (.q 35 (.q 36 .nil))))))))))))))))))))))))))))))))))))) (fun w => Sat _ w _) rfl rfl (by kernel_rfl) rfl (by kernel_rfl) (by repeat (first | exact BodyQ.noFrame | refine Then.noFrame ?_ | refine InB.noFrame ?_)) S.drew ?_
                    clear S
                    refine Plan.q rfl (fun w S => Y.move (v := .int .i64 _) rfl) ?_
                    first | refine Plan.q rfl (fun w S => Y.addI rfl rfl (by omega)) ?_ | refine Plan.q rfl (fun w S => Y.add rfl rfl) ?_
                    refine Plan.q rfl (fun w S => Y.move (v := .int .i64 _) rfl) ?_
                    refine Plan.q rfl (fun w S => Y.eql rfl rfl) ?_
                    refine Plan.q rfl (fun w S => Y.move (v := .bool _) rfl) ?_
                    refine Plan.splitB (fun h14 => ?_) (fun h14 => ?_)
                    · (try simp only [decide_eq_true_eq, decide_eq_false_iff_not, Bool.not_eq_true', Bool.not_eq_false', Bool.and_eq_true, Bool.or_eq_true, Bool.and_eq_false_iff, Bool.or_eq_false_iff, Bool.not_true, Bool.not_false] at h14)
                      refine Plan.qT rfl rfl (fun w S => Y.move (v := .slice _ _ _) rfl) ?_
                      refine Plan.qT rfl rfl (fun w S => Y.move (v := .int .i64 _) rfl) ?_
                      first | refine Plan.qT rfl rfl (fun w S => Y.ixN sl_64 rfl rfl (by assumption) (by (first | assumption | omega))) ?_ | refine Plan.qT rfl rfl (fun w S => Y.ix sl_64 rfl rfl (by assumption) (by (first | assumption | omega)) (by (first | assumption | omega))) ?_
                      refine Plan.qT rfl rfl (fun w S => Y.fieldE fo_71_1 rfl) ?_
                      refine Plan.qT rfl rfl (fun w S => Y.load rfl (loadRdF sz_56 (R2.ext S.ext) (by assumption) rfl)) ?_
                      refine Plan.qT rfl rfl (fun w S => Y.eql rfl rfl) ?_
                      refine Plan.q rfl (fun w S => Y.pickT (u := .bool _) rfl rfl) ?_
                      refine Plan.q rfl (fun w S => Y.move (v := .bool _) rfl) ?_
                      refine Plan.splitB (fun h15 => ?_) (fun h15 => ?_)
                      · (try simp only [decide_eq_true_eq, decide_eq_false_iff_not, Bool.not_eq_true', Bool.not_eq_false', Bool.and_eq_true, Bool.or_eq_true, Bool.and_eq_false_iff, Bool.or_eq_false_iff, Bool.not_true, Bool.not_false] at h15)
                        refine Plan.qT rfl rfl (fun w S => Y.move (v := .slice _ _ _) rfl) ?_
                        refine Plan.qT rfl rfl (fun w S => Y.move (v := .int .i64 _) rfl) ?_
                        first | refine Plan.qT rfl rfl (fun w S => Y.ixN sl_64 rfl rfl (by assumption) (by (first | assumption | omega))) ?_ | refine Plan.qT rfl rfl (fun w S => Y.ix sl_64 rfl rfl (by assumption) (by (first | assumption | omega)) (by (first | assumption | omega))) ?_
                        refine Plan.qT rfl rfl (fun w S => Y.fieldE fo_71_1 rfl) ?_
                        refine Plan.qT rfl rfl (fun w S => Y.load rfl (loadRdF sz_56 (R2.ext S.ext) (by assumption) rfl)) ?_
                        refine Plan.qT rfl rfl (fun w S => Y.eql rfl rfl) ?_
                        refine Plan.q rfl (fun w S => Y.pickT (u := .bool _) rfl rfl) ?_
                        refine Plan.q rfl (fun w S => Y.move (v := .bool _) rfl) ?_
                        refine Plan.splitB (fun h16 => ?_) (fun h16 => ?_)
                        · (try simp only [decide_eq_true_eq, decide_eq_false_iff_not, Bool.not_eq_true', Bool.not_eq_false', Bool.and_eq_true, Bool.or_eq_true, Bool.and_eq_false_iff, Bool.or_eq_false_iff, Bool.not_true, Bool.not_false] at h16)
                          refine Plan.qT rfl rfl (fun w S => Y.move (v := .slice _ _ _) rfl) ?_
                          refine Plan.qT rfl rfl (fun w S => Y.move (v := .int .i64 _) rfl) ?_
                          first | refine Plan.qT rfl rfl (fun w S => Y.ixN sl_64 rfl rfl (by assumption) (by (first | assumption | omega))) ?_ | refine Plan.qT rfl rfl (fun w S => Y.ix sl_64 rfl rfl (by assumption) (by (first | assumption | omega)) (by (first | assumption | omega))) ?_
                          refine Plan.qT rfl rfl (fun w S => Y.fieldE fo_71_2 rfl) ?_
                          refine Plan.qT rfl rfl (fun w S => Y.load rfl (loadRdF sz_3 (R2.ext S.ext) (by assumption) rfl)) ?_
                          refine Plan.qT rfl rfl (fun w S => Y.move (v := .slice _ _ _) rfl) ?_
                          refine Plan.qT rfl rfl (fun w S => Y.move (v := .int .i64 _) rfl) ?_
                          first | refine Plan.qT rfl rfl (fun w S => Y.ixN sl_64 rfl rfl (by assumption) (by (first | assumption | omega))) ?_ | refine Plan.qT rfl rfl (fun w S => Y.ix sl_64 rfl rfl (by assumption) (by (first | assumption | omega)) (by (first | assumption | omega))) ?_
                          refine Plan.qT rfl rfl (fun w S => Y.fieldE fo_71_2 rfl) ?_
                          refine Plan.qT rfl rfl (fun w S => Y.load rfl (loadRdF sz_3 (R2.ext S.ext) (by assumption) rfl)) ?_
                          refine Plan.qT rfl rfl (fun w S => Y.eql rfl rfl) ?_
                          refine Plan.q rfl (fun w S => Y.pickT (u := .bool _) rfl rfl) ?_
                          refine Plan.q rfl (fun w S => Y.move (v := .bool _) rfl) ?_
                          refine Plan.splitB (fun h17 => ?_) (fun h17 => ?_)
                          · (try simp only [decide_eq_true_eq, decide_eq_false_iff_not, Bool.not_eq_true', Bool.not_eq_false', Bool.and_eq_true, Bool.or_eq_true, Bool.and_eq_false_iff, Bool.or_eq_false_iff, Bool.not_true, Bool.not_false] at h17)
                            refine Plan.qT rfl rfl (fun w S => Y.move (v := .bool _) rfl) ?_
                            refine Plan.qT rfl rfl (fun w S => Y.not rfl) ?_
                            refine Plan.q rfl (fun w S => Y.pickT (u := .bool _) rfl rfl) ?_
                            refine Plan.nil (fun w S => ?_)
                            replace S : Sat _ _ _ := S
                            refine Then.nx ⟨?_, ?_⟩
                            · (repeat (first | exact Out.hav _ _ _ | exact Out.refl _ _ | refine Out.up rfl ?_ | refine Out.sub rfl ?_))
                            · first | exact ⟨rfl, S⟩ | (have hq := f3 (by omega) (by assumption) (by assumption) (by assumption); exact ⟨by (show Value.bool _ = _; rw [hq]; rfl), S⟩)
                          · (try simp only [decide_eq_true_eq, decide_eq_false_iff_not, Bool.not_eq_true', Bool.not_eq_false', Bool.and_eq_true, Bool.or_eq_true, Bool.and_eq_false_iff, Bool.or_eq_false_iff, Bool.not_true, Bool.not_false] at h17)
                            refine Plan.qF rfl rfl ?_
                            refine Plan.qF rfl rfl ?_
                            refine Plan.q rfl (fun w S => Y.pickF (u := .bool _) rfl rfl) ?_
                            refine Plan.nil (fun w S => ?_)
                            replace S : Sat _ _ _ := S
                            refine Then.nx ⟨?_, ?_⟩
                            · (repeat (first | exact Out.hav _ _ _ | exact Out.refl _ _ | refine Out.up rfl ?_ | refine Out.sub rfl ?_))
                            · first | exact ⟨rfl, S⟩ | (have hq := f3 (by omega) (by assumption) (by assumption) (by assumption); exact ⟨by (show Value.bool _ = _; rw [hq]; rfl), S⟩)
                        · (try simp only [decide_eq_true_eq, decide_eq_false_iff_not, Bool.not_eq_true', Bool.not_eq_false', Bool.and_eq_true, Bool.or_eq_true, Bool.and_eq_false_iff, Bool.or_eq_false_iff, Bool.not_true, Bool.not_false] at h16)
                          refine Plan.qF rfl rfl ?_
                          refine Plan.qF rfl rfl ?_
                          refine Plan.qF rfl rfl ?_
                          refine Plan.qF rfl rfl ?_
                          refine Plan.qF rfl rfl ?_
                          refine Plan.qF rfl rfl ?_
                          refine Plan.qF rfl rfl ?_
                          refine Plan.qF rfl rfl ?_
                          refine Plan.qF rfl rfl ?_
                          refine Plan.qF rfl rfl ?_
                          refine Plan.qF rfl rfl ?_
                          refine Plan.q rfl (fun w S => Y.pickF (u := .bool _) rfl rfl) ?_
                          refine Plan.q rfl (fun w S => Y.move (v := .bool _) rfl) ?_
                          refine Plan.qF rfl rfl ?_
                          refine Plan.qF rfl rfl ?_
                          refine Plan.q rfl (fun w S => Y.pickF (u := .bool _) rfl rfl) ?_
                          refine Plan.nil (fun w S => ?_)
                          replace S : Sat _ _ _ := S
                          refine Then.nx ⟨?_, ?_⟩
                          · (repeat (first | exact Out.hav _ _ _ | exact Out.refl _ _ | refine Out.up rfl ?_ | refine Out.sub rfl ?_))
                          · first | exact ⟨rfl, S⟩ | (have hq := f3 (by omega) (by assumption) (by assumption) (by assumption); exact ⟨by (show Value.bool _ = _; rw [hq]; rfl), S⟩)
                      · (try simp only [decide_eq_true_eq, decide_eq_false_iff_not, Bool.not_eq_true', Bool.not_eq_false', Bool.and_eq_true, Bool.or_eq_true, Bool.and_eq_false_iff, Bool.or_eq_false_iff, Bool.not_true, Bool.not_false] at h15)
                        refine Plan.qF rfl rfl ?_
                        refine Plan.qF rfl rfl ?_
                        refine Plan.qF rfl rfl ?_
                        refine Plan.qF rfl rfl ?_
                        refine Plan.qF rfl rfl ?_
                        refine Plan.qF rfl rfl ?_
                        refine Plan.q rfl (fun w S => Y.pickF (u := .bool _) rfl rfl) ?_
                        refine Plan.q rfl (fun w S => Y.move (v := .bool _) rfl) ?_
                        refine Plan.qF rfl rfl ?_
                        refine Plan.qF rfl rfl ?_
                        refine Plan.qF rfl rfl ?_
                        refine Plan.qF rfl rfl ?_
                        refine Plan.qF rfl rfl ?_
                        refine Plan.qF rfl rfl ?_
                        refine Plan.qF rfl rfl ?_
                        refine Plan.qF rfl rfl ?_
                        refine Plan.qF rfl rfl ?_
                        refine Plan.qF rfl rfl ?_
                        refine Plan.qF rfl rfl ?_
                        refine Plan.q rfl (fun w S => Y.pickF (u := .bool _) rfl rfl) ?_
                        refine Plan.q rfl (fun w S => Y.move (v := .bool _) rfl) ?_
                        refine Plan.qF rfl rfl ?_
                        refine Plan.qF rfl rfl ?_
                        refine Plan.q rfl (fun w S => Y.pickF (u := .bool _) rfl rfl) ?_
                        refine Plan.nil (fun w S => ?_)
                        replace S : Sat _ _ _ := S
                        refine Then.nx ⟨?_, ?_⟩
                        · (repeat (first | exact Out.hav _ _ _ | exact Out.refl _ _ | refine Out.up rfl ?_ | refine Out.sub rfl ?_))
                        · first | exact ⟨rfl, S⟩ | (have hq := f3 (by omega) (by assumption) (by assumption) (by assumption); exact ⟨by (show Value.bool _ = _; rw [hq]; rfl), S⟩)
                    · (try simp only [decide_eq_true_eq, decide_eq_false_iff_not, Bool.not_eq_true', Bool.not_eq_false', Bool.and_eq_true, Bool.or_eq_true, Bool.and_eq_false_iff, Bool.or_eq_false_iff, Bool.not_true, Bool.not_false] at h14)
                      refine Plan.qF rfl rfl ?_
                      refine Plan.qF rfl rfl ?_
                      refine Plan.qF rfl rfl ?_
                      refine Plan.qF rfl rfl ?_
                      refine Plan.qF rfl rfl ?_
                      refine Plan.qF rfl rfl ?_
                      refine Plan.q rfl (fun w S => Y.pickF (u := .bool _) rfl rfl) ?_
                      refine Plan.q rfl (fun w S => Y.move (v := .bool _) rfl) ?_
                      refine Plan.qF rfl rfl ?_
                      refine Plan.qF rfl rfl ?_
                      refine Plan.qF rfl rfl ?_
                      refine Plan.qF rfl rfl ?_
                      refine Plan.qF rfl rfl ?_
                      refine Plan.qF rfl rfl ?_
                      refine Plan.q rfl (fun w S => Y.pickF (u := .bool _) rfl rfl) ?_
                      refine Plan.q rfl (fun w S => Y.move (v := .bool _) rfl) ?_
                      refine Plan.qF rfl rfl ?_
                      refine Plan.qF rfl rfl ?_
                      refine Plan.qF rfl rfl ?_
                      refine Plan.qF rfl rfl ?_
                      refine Plan.qF rfl rfl ?_
                      refine Plan.qF rfl rfl ?_
                      refine Plan.qF rfl rfl ?_
                      refine Plan.qF rfl rfl ?_
                      refine Plan.qF rfl rfl ?_
                      refine Plan.qF rfl rfl ?_
                      refine Plan.qF rfl rfl ?_
                      refine Plan.q rfl (fun w S => Y.pickF (u := .bool _) rfl rfl) ?_
                      refine Plan.q rfl (fun w S => Y.move (v := .bool _) rfl) ?_
                      refine Plan.qF rfl rfl ?_
                      refine Plan.qF rfl rfl ?_
                      refine Plan.q rfl (fun w S => Y.pickF (u := .bool _) rfl rfl) ?_
                      refine Plan.nil (fun w S => ?_)
                      replace S : Sat _ _ _ := S
                      refine Then.nx ⟨?_, ?_⟩
                      · (repeat (first | exact Out.hav _ _ _ | exact Out.refl _ _ | refine Out.up rfl ?_ | refine Out.sub rfl ?_))
                      · first | exact ⟨rfl, S⟩ | (have hq := f3 (by omega) (by assumption) (by assumption) (by assumption); exact ⟨by (show Value.bool _ = _; rw [hq]; rfl), S⟩)
                  · rintro gj573 v117 w ⟨rfl, S⟩
                    refine W.cond rfl (fun h18 => ?_) (fun h18 => ?_) -- cond 5
                    · have rh18 := h18
                      (try simp only [decide_eq_true_eq, decide_eq_false_iff_not, Bool.not_eq_true', Bool.not_eq_false', Bool.and_eq_true, Bool.or_eq_true, Bool.and_eq_false_iff, Bool.or_eq_false_iff, Bool.not_true, Bool.not_false] at h18)
                      cases rh18
                    · have rh18 := h18
                      (try simp only [decide_eq_true_eq, decide_eq_false_iff_not, Bool.not_eq_true', Bool.not_eq_false', Bool.and_eq_true, Bool.or_eq_true, Bool.and_eq_false_iff, Bool.or_eq_false_iff, Bool.not_true, Bool.not_false] at h18)
                      refine W.skip ?_
                      refine InB.nx ?_
                      refine Then.nx ?_
                      refine W.region rfl ?_
                      refine WO.q (Y.move (v := .int .i64 _) rfl) ?_
                      first | refine WO.q (Y.addI rfl rfl (by omega)) ?_ | refine WO.q (Y.add rfl rfl) ?_
                      refine WO.q (Y.assign (v := .int .i64 _) rfl) ?_
                      refine WO.nil ?_
                      refine Then.nx ⟨?_, ?_, ?_⟩
                      · (repeat (first | exact Out.hav _ _ _ | exact Out.refl _ _ | refine Out.up rfl ?_ | refine Out.sub rfl ?_))
                      · exact ⟨j + 1, rfl, by omega, S.pk (by repeat (first | exact Pk.nil _ | exact Pk.refl _ | refine Pk.cons 0 rfl ?_ | refine Pk.cons 1 rfl ?_ | refine Pk.cons 2 rfl ?_ | refine Pk.cons 3 rfl ?_ | refine Pk.cons 4 rfl ?_ | refine Pk.cons 5 rfl ?_ | refine Pk.cons 6 rfl ?_ | refine Pk.cons 7 rfl ?_ | refine Pk.cons 8 rfl ?_ | refine Pk.cons 9 rfl ?_ | refine Pk.cons 10 rfl ?_ | refine Pk.cons 11 rfl ?_ | refine Pk.cons 12 rfl ?_ | refine Pk.cons 13 rfl ?_ | refine Pk.drop ?_))⟩
                      · (show ys.length - (j + 1) < ys.length - j; omega)
          · have rh3 := h3
            (try simp only [decide_eq_true_eq, decide_eq_false_iff_not, Bool.not_eq_true', Bool.not_eq_false', Bool.and_eq_true, Bool.or_eq_true, Bool.and_eq_false_iff, Bool.or_eq_false_iff, Bool.not_true, Bool.not_false] at h3)
            refine W.exit ?_
            refine Then.x ?_
            refine Then.x ?_
            refine InB.e ?_
            refine InB.nx ?_
            refine Then.nx ?_
            refine W.region rfl ?_
            refine WO.q (Y.move (v := .int .i64 _) rfl) ?_
            first | refine WO.q (Y.addI rfl rfl (by omega)) ?_ | refine WO.q (Y.add rfl rfl) ?_
            refine WO.q (Y.assign (v := .int .i64 _) rfl) ?_
            refine WO.nil ?_
            refine Then.nx ⟨?_, ?_, ?_⟩
            · (repeat (first | exact Out.hav _ _ _ | exact Out.refl _ _ | refine Out.up rfl ?_ | refine Out.sub rfl ?_))
            · exact ⟨i + 1, rfl, by omega, by (rw [ordM_row ys i (n := j) (fun j2 h1 h2 => oB_out hi2 (by omega))] at S; exact S)⟩
            · (show ys.length - (i + 1) < ys.length - i; omega)
      · have rh2 := h2
        (try simp only [decide_eq_true_eq, decide_eq_false_iff_not, Bool.not_eq_true', Bool.not_eq_false', Bool.and_eq_true, Bool.or_eq_true, Bool.and_eq_false_iff, Bool.or_eq_false_iff, Bool.not_true, Bool.not_false] at h2)
        refine W.exit ?_
        refine Then.x ?_
        refine Then.x ?_
        refine InB.e ?_
        refine Then.nx ?_
        refine W.seq ?_
        refine W.seq ?_
        have hn40 : ys.length ≤ 40 := by omega
        obtain ⟨n, hn⟩ : ∃ n, n = i := ⟨_, rfl⟩
        rw [← hn] at S
        refine W.region rfl ?_
        refine WO.q (Y.assign (v := .int .i64 _) rfl) ?_
        refine WO.nil ?_
        refine Then.nx ?_
        refine W.block ?_
        -- loop 2 carries 9:a
        refine W.loop1 [2, 9, 10, 11, 118, 119, 120, 121, 122, 123, 124, 125, 126, 127, 128, 129, 130, 131, 132, 133, 134, 135, 136, 137, 138, 139, 140, 141, 142, 143, 144, 145, 146, 147, 148, 149, 150, 151, 152] 9 (fun v9 w => ∃ i : Nat, v9 = .int .i64 (i : Int) ∧ i ≤ ys.length ∧ Sat w0 w [Cel b4 (matL (ordM ys n 0)) 66]) (fun v9 w => ys.length - (intOf v9).toNat) ?_ ?_
        · exact ⟨0, rfl, by omega, S⟩
        · rintro g2 v9 w ⟨i, rfl, hi, S⟩
          refine W.seq ?_
          refine W.seq ?_
          refine W.region rfl ?_
          refine WO.q (Y.move (v := .int .i64 _) rfl) ?_
          refine WO.q (Y.move (v := .int .i64 _) rfl) ?_
          refine WO.q (Y.lss rfl rfl) ?_
          refine WO.nil ?_
          refine Then.nx ?_
          refine W.cond rfl (fun h19 => ?_) (fun h19 => ?_) -- cond 6
          · have rh19 := h19
            (try simp only [decide_eq_true_eq, decide_eq_false_iff_not, Bool.not_eq_true', Bool.not_eq_false', Bool.and_eq_true, Bool.or_eq_true, Bool.and_eq_false_iff, Bool.or_eq_false_iff, Bool.not_true, Bool.not_false] at h19)
            have hi4 : i < 40 := by omega
            refine W.skip ?_
            refine Then.nx ?_
            refine W.seq ?_
            refine W.block ?_
            refine W.seq ?_
            refine W.region rfl ?_
            refine WO.q (Y.assign (v := .int .i64 _) rfl) ?_
            refine WO.nil ?_
            refine Then.nx ?_
            refine W.block ?_
            -- loop 3 carries 10:b
            refine W.loop1 [2, 10, 11, 123, 124, 125, 126, 127, 128, 129, 130, 131, 132, 133, 134, 135, 136, 137, 138, 139, 140, 141, 142, 143, 144, 145, 146, 147, 148, 149, 150, 151, 152] 10 (fun v10 w => ∃ j : Nat, v10 = .int .i64 (j : Int) ∧ j ≤ ys.length ∧ Sat w0 w [Cel b4 (matL (ordM ys n 0)) 66]) (fun v10 w => ys.length - (intOf v10).toNat) ?_ ?_
            · exact ⟨0, rfl, by omega, S⟩
            · rintro g3 v10 w ⟨j, rfl, hj, S⟩
              refine W.seq ?_
              refine W.seq ?_
              refine W.region rfl ?_
              refine WO.q (Y.move (v := .int .i64 _) rfl) ?_
              refine WO.q (Y.move (v := .int .i64 _) rfl) ?_
              refine WO.q (Y.lss rfl rfl) ?_
              refine WO.nil ?_
              refine Then.nx ?_
              refine W.cond rfl (fun h20 => ?_) (fun h20 => ?_) -- cond 7
              · have rh20 := h20
                (try simp only [decide_eq_true_eq, decide_eq_false_iff_not, Bool.not_eq_true', Bool.not_eq_false', Bool.and_eq_true, Bool.or_eq_true, Bool.and_eq_false_iff, Bool.or_eq_false_iff, Bool.not_true, Bool.not_false] at h20)
                have hj4 : j < 40 := by omega
                refine W.skip ?_
                refine Then.nx ?_
                refine W.seq ?_
                refine W.block ?_
                refine W.seq ?_
                refine W.region rfl ?_
                refine WO.q (Y.assign (v := .int .i64 _) rfl) ?_
                refine WO.nil ?_
                refine Then.nx ?_
                refine W.block ?_
                -- loop 4 carries 11:c
                refine W.loop1 [2, 11, 128, 129, 130, 131, 132, 133, 134, 135, 136, 137, 138, 139, 140, 141, 142, 143, 144, 145, 146, 147, 148, 149, 150, 151, 152] 11 (fun v11 w => ∃ k : Nat, v11 = .int .i64 (k : Int) ∧ k ≤ ys.length ∧ Sat w0 w [Cel b4 (matL (ordM ys n 0)) 66]) (fun v11 w => ys.length - (intOf v11).toNat) ?_ ?_
                · exact ⟨0, rfl, by omega, S⟩
                · rintro g4 v11 w ⟨k, rfl, hk, S⟩
                  refine W.seq ?_
                  refine W.seq ?_
                  refine W.region rfl ?_
                  refine WO.q (Y.move (v := .int .i64 _) rfl) ?_
                  refine WO.q (Y.move (v := .int .i64 _) rfl) ?_
                  refine WO.q (Y.lss rfl rfl) ?_
                  refine WO.nil ?_
                  refine Then.nx ?_
                  refine W.cond rfl (fun h21 => ?_) (fun h21 => ?_) -- cond 8
                  · have rh21 := h21
                    (try simp only [decide_eq_true_eq, decide_eq_false_iff_not, Bool.not_eq_true', Bool.not_eq_false', Bool.and_eq_true, Bool.or_eq_true, Bool.and_eq_false_iff, Bool.or_eq_false_iff, Bool.not_true, Bool.not_false] at h21)
                    have hk4 : k < 40 := by omega
                    refine W.skip ?_
                    refine Then.nx ?_
                    refine W.seq ?_
                    refine W.block ?_
                    refine W.seq ?_
                    refine W.region rfl ?_
                    refine WO.q (Y.move (v := .int .i64 _) rfl) ?_
                    refine WO.q (Y.move (v := .int .i64 _) rfl) ?_
                    refine WO.q (Y.ixA ar_66 rfl rfl (by (first | assumption | omega)) (by (first | assumption | omega))) ?_
                    refine WO.q (Y.ixA ar_65 rfl rfl (by (first | assumption | omega)) (by (first | assumption | omega))) ?_
                    refine WO.q (Y.load rfl (loadS1 sz_4 S 0 rfl (matL_at _ hi4 hj4))) ?_
                    refine WO.q (Y.move (v := .bool _) rfl) ?_
                    refine WO.splitB (fun h22 => ?_) (fun h22 => ?_)
                    · (try simp only [decide_eq_true_eq, decide_eq_false_iff_not, Bool.not_eq_true', Bool.not_eq_false', Bool.and_eq_true, Bool.or_eq_true, Bool.and_eq_false_iff, Bool.or_eq_false_iff, Bool.not_true, Bool.not_false] at h22)
                      refine WO.qT rfl (Y.move (v := .int .i64 _) rfl) ?_
                      refine WO.qT rfl (Y.move (v := .int .i64 _) rfl) ?_
                      refine WO.qT rfl (Y.ixA ar_66 rfl rfl (by (first | assumption | omega)) (by (first | assumption | omega))) ?_
                      refine WO.qT rfl (Y.ixA ar_65 rfl rfl (by (first | assumption | omega)) (by (first | assumption | omega))) ?_
                      refine WO.qT rfl (Y.load rfl (loadS1 sz_4 S 0 rfl (matL_at _ hj4 hk4))) ?_
                      refine WO.q (Y.pickT (u := .bool _) rfl rfl) ?_
                      refine WO.q (Y.move (v := .bool _) rfl) ?_
                      refine WO.splitB (fun h23 => ?_) (fun h23 => ?_)
                      · (try simp only [decide_eq_true_eq, decide_eq_false_iff_not, Bool.not_eq_true', Bool.not_eq_false', Bool.and_eq_true, Bool.or_eq_true, Bool.and_eq_false_iff, Bool.or_eq_false_iff, Bool.not_true, Bool.not_false] at h23)
                        refine WO.qT rfl (Y.move (v := .int .i64 _) rfl) ?_
                        refine WO.qT rfl (Y.move (v := .int .i64 _) rfl) ?_
                        refine WO.qT rfl (Y.ixA ar_66 rfl rfl (by (first | assumption | omega)) (by (first | assumption | omega))) ?_
                        refine WO.qT rfl (Y.ixA ar_65 rfl rfl (by (first | assumption | omega)) (by (first | assumption | omega))) ?_
                        refine WO.qT rfl (Y.load rfl (loadS1 sz_4 S 0 rfl (matL_at _ hi4 hk4))) ?_
                        refine WO.qT rfl (Y.not rfl) ?_
                        refine WO.q (Y.pickT (u := .bool _) rfl rfl) ?_
                        refine WO.nil ?_
                        refine Then.nx ?_
                        refine W.cond rfl (fun h24 => ?_) (fun h24 => ?_) -- cond 9
                        · have rh24 := h24
                          (try simp only [decide_eq_true_eq, decide_eq_false_iff_not, Bool.not_eq_true', Bool.not_eq_false', Bool.and_eq_true, Bool.or_eq_true, Bool.and_eq_false_iff, Bool.or_eq_false_iff, Bool.not_true, Bool.not_false] at h24)
                          exact absurd (ordM_trans (l := ys) (n := n) (i := i) (j := j) (k := k) (by omega) (by omega) (by omega) (by omega) (by assumption) (by assumption)) (by rw [show ordM ys n 0 i k = false from h24]; decide)
                        · have rh24 := h24
                          (try simp only [decide_eq_true_eq, decide_eq_false_iff_not, Bool.not_eq_true', Bool.not_eq_false', Bool.and_eq_true, Bool.or_eq_true, Bool.and_eq_false_iff, Bool.or_eq_false_iff, Bool.not_true, Bool.not_false] at h24)
                          refine W.skip ?_
                          refine InB.nx ?_
                          refine Then.nx ?_
                          refine W.region rfl ?_
                          refine WO.q (Y.move (v := .int .i64 _) rfl) ?_
                          first | refine WO.q (Y.addI rfl rfl (by omega)) ?_ | refine WO.q (Y.add rfl rfl) ?_
                          refine WO.q (Y.assign (v := .int .i64 _) rfl) ?_
                          refine WO.nil ?_
                          refine Then.nx ⟨?_, ?_, ?_⟩
                          · (repeat (first | exact Out.hav _ _ _ | exact Out.refl _ _ | refine Out.up rfl ?_ | refine Out.sub rfl ?_))
                          · exact ⟨k + 1, rfl, by omega, S⟩
                          · (show ys.length - (k + 1) < ys.length - k; omega)
                      · (try simp only [decide_eq_true_eq, decide_eq_false_iff_not, Bool.not_eq_true', Bool.not_eq_false', Bool.and_eq_true, Bool.or_eq_true, Bool.and_eq_false_iff, Bool.or_eq_false_iff, Bool.not_true, Bool.not_false] at h23)
                        refine WO.qF rfl ?_
                        refine WO.qF rfl ?_
                        refine WO.qF rfl ?_
                        refine WO.qF rfl ?_
                        refine WO.qF rfl ?_
                        refine WO.qF rfl ?_
                        refine WO.q (Y.pickF (u := .bool _) rfl rfl) ?_
                        refine WO.nil ?_
                        refine Then.nx ?_
                        first | refine W.condF rfl ?_ | refine W.condF (congrArg Value.bool (by assumption)) ?_
                        refine W.skip ?_
                        refine InB.nx ?_
                        refine Then.nx ?_
                        refine W.region rfl ?_
                        refine WO.q (Y.move (v := .int .i64 _) rfl) ?_
                        first | refine WO.q (Y.addI rfl rfl (by omega)) ?_ | refine WO.q (Y.add rfl rfl) ?_
                        refine WO.q (Y.assign (v := .int .i64 _) rfl) ?_
                        refine WO.nil ?_
                        refine Then.nx ⟨?_, ?_, ?_⟩
                        · (repeat (first | exact Out.hav _ _ _ | exact Out.refl _ _ | refine Out.up rfl ?_ | refine Out.sub rfl ?_))
                        · exact ⟨k + 1, rfl, by omega, S⟩
                        · (show ys.length - (k + 1) < ys.length - k; omega)
                    · (try simp only [decide_eq_true_eq, decide_eq_false_iff_not, Bool.not_eq_true', Bool.not_eq_false', Bool.and_eq_true, Bool.or_eq_true, Bool.and_eq_false_iff, Bool.or_eq_false_iff, Bool.not_true, Bool.not_false] at h22)
                      refine WO.qF rfl ?_
                      refine WO.qF rfl ?_
                      refine WO.qF rfl ?_
                      refine WO.qF rfl ?_
                      refine WO.qF rfl ?_
                      refine WO.q (Y.pickF (u := .bool _) rfl rfl) ?_
                      refine WO.q (Y.move (v := .bool _) rfl) ?_
                      refine WO.qF rfl ?_
                      refine WO.qF rfl ?_
                      refine WO.qF rfl ?_
                      refine WO.qF rfl ?_
                      refine WO.qF rfl ?_
                      refine WO.qF rfl ?_
                      refine WO.q (Y.pickF (u := .bool _) rfl rfl) ?_
                      refine WO.nil ?_
                      refine Then.nx ?_
                      first | refine W.condF rfl ?_ | refine W.condF (congrArg Value.bool (by assumption)) ?_
                      refine W.skip ?_
                      refine InB.nx ?_
                      refine Then.nx ?_
                      refine W.region rfl ?_
                      refine WO.q (Y.move (v := .int .i64 _) rfl) ?_
                      first | refine WO.q (Y.addI rfl rfl (by omega)) ?_ | refine WO.q (Y.add rfl rfl) ?_
                      refine WO.q (Y.assign (v := .int .i64 _) rfl) ?_
                      refine WO.nil ?_
                      refine Then.nx ⟨?_, ?_, ?_⟩
                      · (repeat (first | exact Out.hav _ _ _ | exact Out.refl _ _ | refine Out.up rfl ?_ | refine Out.sub rfl ?_))
                      · exact ⟨k + 1, rfl, by omega, S⟩
                      · (show ys.length - (k + 1) < ys.length - k; omega)
                  · have rh21 := h21
                    (try simp only [decide_eq_true_eq, decide_eq_false_iff_not, Bool.not_eq_true', Bool.not_eq_false', Bool.and_eq_true, Bool.or_eq_true, Bool.and_eq_false_iff, Bool.or_eq_false_iff, Bool.not_true, Bool.not_false] at h21)
                    refine W.exit ?_
                    refine Then.x ?_
                    refine Then.x ?_
                    refine InB.e ?_
                    refine InB.nx ?_
                    refine Then.nx ?_
                    refine W.region rfl ?_
                    refine WO.q (Y.move (v := .int .i64 _) rfl) ?_
                    first | refine WO.q (Y.addI rfl rfl (by omega)) ?_ | refine WO.q (Y.add rfl rfl) ?_
                    refine WO.q (Y.assign (v := .int .i64 _) rfl) ?_
                    refine WO.nil ?_
                    refine Then.nx ⟨?_, ?_, ?_⟩
                    · (repeat (first | exact Out.hav _ _ _ | exact Out.refl _ _ | refine Out.up rfl ?_ | refine Out.sub rfl ?_))
                    · exact ⟨j + 1, rfl, by omega, S⟩
                    · (show ys.length - (j + 1) < ys.length - j; omega)
              · have rh20 := h20
                (try simp only [decide_eq_true_eq, decide_eq_false_iff_not, Bool.not_eq_true', Bool.not_eq_false', Bool.and_eq_true, Bool.or_eq_true, Bool.and_eq_false_iff, Bool.or_eq_false_iff, Bool.not_true, Bool.not_false] at h20)
                refine W.exit ?_
                refine Then.x ?_
                refine Then.x ?_
                refine InB.e ?_
                refine InB.nx ?_
                refine Then.nx ?_
                refine W.region rfl ?_
                refine WO.q (Y.move (v := .int .i64 _) rfl) ?_
                first | refine WO.q (Y.addI rfl rfl (by omega)) ?_ | refine WO.q (Y.add rfl rfl) ?_
                refine WO.q (Y.assign (v := .int .i64 _) rfl) ?_
                refine WO.nil ?_
                refine Then.nx ⟨?_, ?_, ?_⟩
                · (repeat (first | exact Out.hav _ _ _ | exact Out.refl _ _ | refine Out.up rfl ?_ | refine Out.sub rfl ?_))
                · exact ⟨i + 1, rfl, by omega, S⟩
                · (show ys.length - (i + 1) < ys.length - i; omega)
          · have rh19 := h19
            (try simp only [decide_eq_true_eq, decide_eq_false_iff_not, Bool.not_eq_true', Bool.not_eq_false', Bool.and_eq_true, Bool.or_eq_true, Bool.and_eq_false_iff, Bool.or_eq_false_iff, Bool.not_true, Bool.not_false] at h19)
            refine W.exit ?_
            refine Then.x ?_
            refine Then.x ?_
            refine InB.e ?_
            refine Then.nx ?_
            refine W.seq ?_
            refine W.region rfl ?_
            refine WO.e (O.call cf_10 rfl (lives_spec _ (Lib.tabBelow_of_tabIs htab _ S.ext)) ?_)
            rintro _ w ⟨rfl, E⟩
            replace S := S.keep E
            refine ⟨_, rfl, ?_⟩
            refine WO.q (Y.assign (v := .bool _) rfl) ?_
            refine WO.nil ?_
            refine Then.nx ?_
            refine W.ret ?_
            refine BodyQ.ret1 Tryd.results5 (ResV.tmp _ rfl) ?_
            first | exact ⟨rfl, S.ext⟩ | (exfalso; omega) | contradiction | exact absurd (f1 (by assumption)) (by omega) | (exfalso; simp_all; done)
end Go.Proofs
