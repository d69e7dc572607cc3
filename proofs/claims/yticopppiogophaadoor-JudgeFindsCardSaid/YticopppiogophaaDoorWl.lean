/-
  Walks of plain, begin, tidy.
-/
import Derived.Test.YticopppiogophaaDoorTp
import Derived.Test.YticopppiogophaaDoorTo
import Derived.Test.YticopppiogophaaDoorTh
import Derived.Test.YticopppiogophaaDoorSx
import Derived.Test.YticopppiogophaaDoorWk
set_option linter.unusedVariables false
set_option linter.unusedSimpArgs false
set_option maxRecDepth 100000
set_option maxHeartbeats 1000000
namespace Go.Proofs
open Go Go.TL Go.RowKit
theorem bld_58_0_1 {n1 : Int} {n2 : Int} (w : World) : (Instr.build 58 [(0, .int .i8 n1), (1, .int .i64 n2)].toArray).run Tryd.prog w = .ok (.agg #[.int .i8 n1, .int .i64 n2, .int .i64 0, .int .i64 0, .bool false, .int .i64 0, .int .i64 0]) w := by kernel_rfl
theorem bld_58_0 {n1 : Int} (w : World) : (Instr.build 58 [(0, .int .i8 n1)].toArray).run Tryd.prog w = .ok (.agg #[.int .i8 n1, .int .i64 0, .int .i64 0, .int .i64 0, .bool false, .int .i64 0, .int .i64 0]) w := by kernel_rfl
theorem plain_spec (w0 w : World) (k : Int) (a : Option Addr) (cap : Nat) (hs : List Int) (c : GCall) (L : List HA) (S : Sat w0 w (Sub 2 a cap hs :: L)) (hk : 1 ≤ k ∧ k ≤ 4) (hne : 2 < k → hs.length = 1) (hl : hs.length ≤ 4096) :
    Calls Tryd.prog 21 [.int .i64 k, .slice a hs.length cap, .agg (tCall.enc c).toArray].toArray w (fun e w' => ∃ a' cap', e = .returned (.tuple #[.slice a' (doesM k hs c).1.length cap', .agg (tCall.enc (doesM k hs c).2).toArray]) ∧ Sat w0 w' (Sub 2 a' cap' (doesM k hs c).1 :: L)) := by
  refine calls_of_W (args := [.int .i64 k, .slice a hs.length cap, .agg (tCall.enc c).toArray]) 104 Tryd.func21 rfl Tryd.ntmps21 rfl ?_
  refine W.seq ?_
  refine W.region rfl ?_
  refine WO.e (O.box rfl rfl S (fun b5 w S => ?_))
  refine WO.q (Y.assign (v := .slice _ _ _) rfl) ?_
  refine WO.e (O.alloc z_58 S (fun b7 w S => ?_))
  refine WO.nil ?_
  refine Then.nx ?_
  refine W.seq ?_
  refine W.region rfl ?_
  refine WO.q (Y.fieldB fo_58_3 rfl) ?_
  first | refine WO.e0 (O.store (v := .int .i64 _) 0 S rfl rfl rfl sz_2 rfl rfl rfl rfl (fun w S => ?_)) | refine WO.e0 (O.store (v := .int .i64 _) 1 S rfl rfl rfl sz_2 rfl rfl rfl rfl (fun w S => ?_)) | refine WO.e0 (O.store (v := .int .i64 _) 2 S rfl rfl rfl sz_2 rfl rfl rfl rfl (fun w S => ?_)) | refine WO.e0 (O.store (v := .int .i64 _) 3 S rfl rfl rfl sz_2 rfl rfl rfl rfl (fun w S => ?_))
  refine WO.nil ?_
  refine Then.nx ?_
  refine W.seq ?_
  refine W.region rfl ?_
  refine WO.q (Y.fieldB fo_58_4 rfl) ?_
  first | refine WO.e0 (O.store (v := .bool _) 0 S rfl rfl rfl sz_4 rfl rfl rfl rfl (fun w S => ?_)) | refine WO.e0 (O.store (v := .bool _) 1 S rfl rfl rfl sz_4 rfl rfl rfl rfl (fun w S => ?_)) | refine WO.e0 (O.store (v := .bool _) 2 S rfl rfl rfl sz_4 rfl rfl rfl rfl (fun w S => ?_)) | refine WO.e0 (O.store (v := .bool _) 3 S rfl rfl rfl sz_4 rfl rfl rfl rfl (fun w S => ?_))
  refine WO.nil ?_
  refine Then.nx ?_
  refine W.seq ?_
  replace S : Sat w0 w (Cel b7 (tCall.enc call0) 58 :: Cel b5 (tCall.enc ⟨c.op, c.arg, c.new, 0, false, c.begin_, c.end_⟩) 58 :: Sub 2 a cap hs :: L) := S
  refine W.region rfl ?_
  refine WO.q (Y.move (v := .slice _ _ _) rfl) ?_
  refine WO.q (Y.len (t' := 0) Tryd.underlying54 rfl) ?_
  refine WO.q (Y.assign (v := .int .i64 _) rfl) ?_
  refine WO.nil ?_
  refine Then.nx ?_
  refine W.seq ?_
  refine W.block ?_
  refine W.cut1 [13, 14, 15, 16, 17, 18, 19] 13 (fun v13 w => v13 = .bool (decide (k ≤ 2)) ∧ Sat w0 w (Cel b7 (tCall.enc call0) 58 :: Cel b5 (tCall.enc ⟨c.op, c.arg, c.new, 0, false, c.begin_, c.end_⟩) 58 :: Sub 2 a cap hs :: L)) ?_ ?_
  ·
    refine W.region rfl ?_
    refine WO.q (Y.move (v := .int .i64 _) rfl) ?_
    refine WO.q (Y.eql rfl rfl) ?_
    refine WO.q (Y.move (v := .bool _) rfl) ?_
    refine WO.splitB (fun h1 => ?_) (fun h1 => ?_)
    · (try simp only [decide_eq_true_eq, decide_eq_false_iff_not, Bool.not_eq_true', Bool.not_eq_false', Bool.and_eq_true, Bool.or_eq_true, Bool.and_eq_false_iff, Bool.or_eq_false_iff, Bool.not_true, Bool.not_false] at h1)
      refine WO.qF rfl ?_
      refine WO.qF rfl ?_
      refine WO.q (Y.pickT (u := .bool _) rfl rfl) ?_
      refine WO.q (Y.assign (v := .bool _) rfl) ?_
      refine WO.nil ?_
      refine Then.nx ⟨?_, ?_⟩
      · (repeat (first | exact Out.hav _ _ _ | exact Out.refl _ _ | refine Out.up rfl ?_ | refine Out.sub rfl ?_))
      · exact ⟨by (show Value.bool _ = Value.bool _; congr 1; first | (symm; rw [decide_eq_true_eq]; omega) | (rw [decide_eq_decide]; omega)), S⟩
    · (try simp only [decide_eq_true_eq, decide_eq_false_iff_not, Bool.not_eq_true', Bool.not_eq_false', Bool.and_eq_true, Bool.or_eq_true, Bool.and_eq_false_iff, Bool.or_eq_false_iff, Bool.not_true, Bool.not_false] at h1)
      refine WO.qT rfl (Y.move (v := .int .i64 _) rfl) ?_
      refine WO.qT rfl (Y.eql rfl rfl) ?_
      refine WO.q (Y.pickF (u := .bool _) rfl rfl) ?_
      refine WO.q (Y.assign (v := .bool _) rfl) ?_
      refine WO.nil ?_
      refine Then.nx ⟨?_, ?_⟩
      · (repeat (first | exact Out.hav _ _ _ | exact Out.refl _ _ | refine Out.up rfl ?_ | refine Out.sub rfl ?_))
      · exact ⟨by (show Value.bool _ = Value.bool _; congr 1; first | (symm; rw [decide_eq_true_eq]; omega) | (rw [decide_eq_decide]; omega)), S⟩
  · rintro gj56 v13 w ⟨rfl, S⟩
    refine W.cond rfl (fun h2 => ?_) (fun h2 => ?_) -- cond 0
    · have rh2 := h2
      (try simp only [decide_eq_true_eq, decide_eq_false_iff_not, Bool.not_eq_true', Bool.not_eq_false', Bool.and_eq_true, Bool.or_eq_true, Bool.and_eq_false_iff, Bool.or_eq_false_iff, Bool.not_true, Bool.not_false] at h2)
      refine W.seq ?_
      refine W.seq ?_
      refine W.region rfl ?_
      refine WO.q (Y.fieldB fo_58_0 rfl) ?_
      first | refine WO.q (Y.load rfl (loadS1 sz_56 S 0 rfl rfl)) ?_ | refine WO.q (Y.load rfl (loadS1 sz_56 S 1 rfl rfl)) ?_ | refine WO.q (Y.load rfl (loadS1 sz_56 S 2 rfl rfl)) ?_ | refine WO.q (Y.load rfl (loadS1 sz_56 S 3 rfl rfl)) ?_
      refine WO.q (Y.eql rfl rfl) ?_
      refine WO.nil ?_
      refine Then.nx ?_
      refine W.cond rfl (fun h3 => ?_) (fun h3 => ?_) -- cond 1
      · have rh3 := h3
        (try simp only [decide_eq_true_eq, decide_eq_false_iff_not, Bool.not_eq_true', Bool.not_eq_false', Bool.and_eq_true, Bool.or_eq_true, Bool.and_eq_false_iff, Bool.or_eq_false_iff, Bool.not_true, Bool.not_false] at h3)
        refine W.seq ?_
        refine W.drawT (.q 0 (.q 1 (.q 2 (.q 5 (.e 3 (.e 4 (.q 6 (.e 7 .nil)))))))) (fun w => Sat w0 w [Cel b7 (tCall.enc call0) 58, Cel b5 (tCall.enc ⟨c.op, c.arg, c.new, 0, false, c.begin_, c.end_⟩) 58]) (fun w => Sat _ w _) rfl rfl (by kernel_rfl) rfl (by kernel_rfl) (by repeat (first | exact BodyQ.noFrame | refine Then.noFrame ?_ | refine InB.noFrame ?_)) (fun w S => S.pk (by repeat (first | exact Pk.nil _ | exact Pk.refl _ | refine Pk.cons 0 rfl ?_ | refine Pk.cons 1 rfl ?_ | refine Pk.cons 2 rfl ?_ | refine Pk.cons 3 rfl ?_ | refine Pk.cons 4 rfl ?_ | refine Pk.cons 5 rfl ?_ | refine Pk.cons 6 rfl ?_ | refine Pk.cons 7 rfl ?_ | refine Pk.cons 8 rfl ?_ | refine Pk.cons 9 rfl ?_ | refine Pk.cons 10 rfl ?_ | refine Pk.cons 11 rfl ?_ | refine Pk.cons 12 rfl ?_ | refine Pk.cons 13 rfl ?_ | refine Pk.drop ?_))) S.drew ?_
        clear S
        refine PlanT.q rfl (fun w S => Y.move (v := .slice _ _ _) rfl) ?_
        refine PlanT.q rfl (fun w S => Y.fieldB fo_58_1 rfl) ?_
        first | refine PlanT.q rfl (fun w S => Y.load rfl (loadS1 sz_2 S 0 rfl rfl)) ?_ | refine PlanT.q rfl (fun w S => Y.load rfl (loadS1 sz_2 S 1 rfl rfl)) ?_ | refine PlanT.q rfl (fun w S => Y.load rfl (loadS1 sz_2 S 2 rfl rfl)) ?_ | refine PlanT.q rfl (fun w S => Y.load rfl (loadS1 sz_2 S 3 rfl rfl)) ?_
        first | refine PlanT.q rfl (fun w S => Y.load rfl (loadSN sz_58 S 0 rfl rfl rfl)) ?_ | refine PlanT.q rfl (fun w S => Y.load rfl (loadSN sz_58 S 1 rfl rfl rfl)) ?_ | refine PlanT.q rfl (fun w S => Y.load rfl (loadSN sz_58 S 2 rfl rfl rfl)) ?_ | refine PlanT.q rfl (fun w S => Y.load rfl (loadSN sz_58 S 3 rfl rfl rfl)) ?_
        first | refine PlanT.e1 rfl (fun w S => O.buildSlice rfl (buildOne sl_54 (by decide) rfl rfl) S (fun b26 w S => ?_)) | refine PlanT.e1 rfl (fun w S => O.buildSlice rfl (buildOne sl_54 (by decide) rfl (by simp)) S (fun b26 w S => ?_)) | refine PlanT.e1 rfl (fun w S => O.buildSlice rfl (bs_54_1_0) S (fun b26 w S => ?_))
        refine ⟨(fun w => Sat w0 w [Cel b7 (tCall.enc call0) 58, Cel b5 (tCall.enc ⟨c.op, c.arg, c.new, 0, false, c.begin_, c.end_⟩) 58]), (fun w => Sat _ w _), S, (.inr (fun _ h => h)), (fun w S => S.pk (by repeat (first | exact Pk.nil _ | exact Pk.refl _ | refine Pk.cons 0 rfl ?_ | refine Pk.cons 1 rfl ?_ | refine Pk.cons 2 rfl ?_ | refine Pk.cons 3 rfl ?_ | refine Pk.cons 4 rfl ?_ | refine Pk.cons 5 rfl ?_ | refine Pk.cons 6 rfl ?_ | refine Pk.cons 7 rfl ?_ | refine Pk.cons 8 rfl ?_ | refine Pk.cons 9 rfl ?_ | refine Pk.cons 10 rfl ?_ | refine Pk.cons 11 rfl ?_ | refine Pk.cons 12 rfl ?_ | refine Pk.cons 13 rfl ?_ | refine Pk.drop ?_))), ?_⟩
        clear S
        refine PlanT.e1 rfl (fun w S => O.appendSub 3 sl_54 S rfl rfl rfl rfl (S.rd1 (T := tI .i64) (x := c.arg) 0 rfl) hl (fun a27 c27 w S => ?_))
        refine ⟨(fun w => Sat w0 w [Cel b7 (tCall.enc call0) 58, Cel b5 (tCall.enc ⟨c.op, c.arg, c.new, 0, false, c.begin_, c.end_⟩) 58]), (fun w => Sat _ w _), S, (.inr (fun _ h => h)), (fun w S => S.pk (by repeat (first | exact Pk.nil _ | exact Pk.refl _ | refine Pk.cons 0 rfl ?_ | refine Pk.cons 1 rfl ?_ | refine Pk.cons 2 rfl ?_ | refine Pk.cons 3 rfl ?_ | refine Pk.cons 4 rfl ?_ | refine Pk.cons 5 rfl ?_ | refine Pk.cons 6 rfl ?_ | refine Pk.cons 7 rfl ?_ | refine Pk.cons 8 rfl ?_ | refine Pk.cons 9 rfl ?_ | refine Pk.cons 10 rfl ?_ | refine Pk.cons 11 rfl ?_ | refine Pk.cons 12 rfl ?_ | refine Pk.cons 13 rfl ?_ | refine Pk.drop ?_))), ?_⟩
        clear S
        refine PlanT.q rfl (fun w S => Y.assign (v := .slice _ _ _) rfl) ?_
        first | refine PlanT.e0 rfl (fun w S => O.store (v := .agg _) 0 S rfl rfl rfl sz_58 rfl rfl rfl rfl (fun w S => ?_)) | refine PlanT.e0 rfl (fun w S => O.store (v := .agg _) 1 S rfl rfl rfl sz_58 rfl rfl rfl rfl (fun w S => ?_)) | refine PlanT.e0 rfl (fun w S => O.store (v := .agg _) 2 S rfl rfl rfl sz_58 rfl rfl rfl rfl (fun w S => ?_)) | refine PlanT.e0 rfl (fun w S => O.store (v := .agg _) 3 S rfl rfl rfl sz_58 rfl rfl rfl rfl (fun w S => ?_))
        refine ⟨(fun w => Sat _ w _), (fun w => Sat _ w _), S, (.inl (by kernel_rfl)), (fun _ h => h), ?_⟩
        clear S
        refine PlanT.nil (fun w S => ?_)
        replace S : Sat _ _ _ := S
        refine Then.nx ?_
        refine W.ret ?_
        refine Then.r ?_
        refine InB.r ?_
        refine Then.r ?_
        refine BodyQ.ret2 Tryd.results21 (ResV.tmp _ rfl) (by first | exact (ResV.cell _ rfl (loadSN sz_58 S 0 rfl rfl rfl)) | exact (ResV.cell _ rfl (loadSN sz_58 S 1 rfl rfl rfl)) | exact (ResV.cell _ rfl (loadSN sz_58 S 2 rfl rfl rfl)) | exact (ResV.cell _ rfl (loadSN sz_58 S 3 rfl rfl rfl)) | exact (ResV.cell _ rfl (loadSN sz_58 S 4 rfl rfl rfl)) | exact (ResV.cell _ rfl (loadSN sz_58 S 5 rfl rfl rfl)) | exact (ResV.cell _ rfl (loadSN sz_58 S 6 rfl rfl rfl)) | exact (ResV.cell _ rfl (loadSN sz_58 S 7 rfl rfl rfl))) ?_
        rw [doesM_put (by omega) (by assumption)]; exact ⟨a27, c27, rfl, S.pk (by repeat (first | exact Pk.nil _ | exact Pk.refl _ | refine Pk.cons 0 rfl ?_ | refine Pk.cons 1 rfl ?_ | refine Pk.cons 2 rfl ?_ | refine Pk.cons 3 rfl ?_ | refine Pk.cons 4 rfl ?_ | refine Pk.cons 5 rfl ?_ | refine Pk.cons 6 rfl ?_ | refine Pk.cons 7 rfl ?_ | refine Pk.cons 8 rfl ?_ | refine Pk.cons 9 rfl ?_ | refine Pk.cons 10 rfl ?_ | refine Pk.cons 11 rfl ?_ | refine Pk.cons 12 rfl ?_ | refine Pk.cons 13 rfl ?_ | refine Pk.drop ?_))⟩
      · have rh3 := h3
        (try simp only [decide_eq_true_eq, decide_eq_false_iff_not, Bool.not_eq_true', Bool.not_eq_false', Bool.and_eq_true, Bool.or_eq_true, Bool.and_eq_false_iff, Bool.or_eq_false_iff, Bool.not_true, Bool.not_false] at h3)
        refine W.skip ?_
        refine Then.nx ?_
        refine W.seq ?_
        refine W.seq ?_
        refine W.region rfl ?_
        refine WO.q (Y.move (v := .int .i64 _) rfl) ?_
        refine WO.q (Y.eql rfl rfl) ?_
        refine WO.nil ?_
        refine Then.nx ?_
        refine W.cond rfl (fun h4 => ?_) (fun h4 => ?_) -- cond 2
        · have rh4 := h4
          (try simp only [decide_eq_true_eq, decide_eq_false_iff_not, Bool.not_eq_true', Bool.not_eq_false', Bool.and_eq_true, Bool.or_eq_true, Bool.and_eq_false_iff, Bool.or_eq_false_iff, Bool.not_true, Bool.not_false] at h4)
          refine W.seq ?_
          refine W.draw (.q 0 (.q 1 (.q 2 (.e 3 .nil)))) (fun w => Sat _ w _) rfl rfl (by kernel_rfl) rfl (by kernel_rfl) (by repeat (first | exact BodyQ.noFrame | refine Then.noFrame ?_ | refine InB.noFrame ?_)) S.drew ?_
          clear S
          refine Plan.q rfl (fun w S => Y.move (v := .slice _ _ _) rfl) ?_
          first | refine Plan.q rfl (fun w S => Y.load rfl (loadSN sz_58 S 0 rfl rfl rfl)) ?_ | refine Plan.q rfl (fun w S => Y.load rfl (loadSN sz_58 S 1 rfl rfl rfl)) ?_ | refine Plan.q rfl (fun w S => Y.load rfl (loadSN sz_58 S 2 rfl rfl rfl)) ?_ | refine Plan.q rfl (fun w S => Y.load rfl (loadSN sz_58 S 3 rfl rfl rfl)) ?_
          refine Plan.q rfl (fun w S => Y.assign (v := .slice _ _ _) rfl) ?_
          first | refine Plan.e0 rfl (fun w S => O.store (v := .agg _) 0 S rfl rfl rfl sz_58 rfl rfl rfl rfl (fun w S => ?_)) | refine Plan.e0 rfl (fun w S => O.store (v := .agg _) 1 S rfl rfl rfl sz_58 rfl rfl rfl rfl (fun w S => ?_)) | refine Plan.e0 rfl (fun w S => O.store (v := .agg _) 2 S rfl rfl rfl sz_58 rfl rfl rfl rfl (fun w S => ?_)) | refine Plan.e0 rfl (fun w S => O.store (v := .agg _) 3 S rfl rfl rfl sz_58 rfl rfl rfl rfl (fun w S => ?_))
          refine ⟨(fun w => Sat _ w _), S, (.inl (by kernel_rfl)), ?_⟩
          clear S
          refine Plan.nil (fun w S => ?_)
          replace S : Sat _ _ _ := S
          refine Then.nx ?_
          refine W.ret ?_
          refine Then.r ?_
          refine InB.r ?_
          refine Then.r ?_
          refine BodyQ.ret2 Tryd.results21 (ResV.tmp _ rfl) (by first | exact (ResV.cell _ rfl (loadSN sz_58 S 0 rfl rfl rfl)) | exact (ResV.cell _ rfl (loadSN sz_58 S 1 rfl rfl rfl)) | exact (ResV.cell _ rfl (loadSN sz_58 S 2 rfl rfl rfl)) | exact (ResV.cell _ rfl (loadSN sz_58 S 3 rfl rfl rfl)) | exact (ResV.cell _ rfl (loadSN sz_58 S 4 rfl rfl rfl)) | exact (ResV.cell _ rfl (loadSN sz_58 S 5 rfl rfl rfl)) | exact (ResV.cell _ rfl (loadSN sz_58 S 6 rfl rfl rfl)) | exact (ResV.cell _ rfl (loadSN sz_58 S 7 rfl rfl rfl))) ?_
          rw [doesM_nil (by omega) (by assumption) (List.eq_nil_of_length_eq_zero (by omega))]; exact ⟨a, cap, rfl, S.pk (by repeat (first | exact Pk.nil _ | exact Pk.refl _ | refine Pk.cons 0 rfl ?_ | refine Pk.cons 1 rfl ?_ | refine Pk.cons 2 rfl ?_ | refine Pk.cons 3 rfl ?_ | refine Pk.cons 4 rfl ?_ | refine Pk.cons 5 rfl ?_ | refine Pk.cons 6 rfl ?_ | refine Pk.cons 7 rfl ?_ | refine Pk.cons 8 rfl ?_ | refine Pk.cons 9 rfl ?_ | refine Pk.cons 10 rfl ?_ | refine Pk.cons 11 rfl ?_ | refine Pk.cons 12 rfl ?_ | refine Pk.cons 13 rfl ?_ | refine Pk.drop ?_))⟩
        · have rh4 := h4
          (try simp only [decide_eq_true_eq, decide_eq_false_iff_not, Bool.not_eq_true', Bool.not_eq_false', Bool.and_eq_true, Bool.or_eq_true, Bool.and_eq_false_iff, Bool.or_eq_false_iff, Bool.not_true, Bool.not_false] at h4)
          refine W.skip ?_
          refine Then.nx ?_
          refine W.seq ?_
          refine W.region rfl ?_
          refine WO.q (Y.fieldB fo_58_4 rfl) ?_
          first | refine WO.e0 (O.store (v := .bool _) 0 S rfl rfl rfl sz_4 rfl rfl rfl rfl (fun w S => ?_)) | refine WO.e0 (O.store (v := .bool _) 1 S rfl rfl rfl sz_4 rfl rfl rfl rfl (fun w S => ?_)) | refine WO.e0 (O.store (v := .bool _) 2 S rfl rfl rfl sz_4 rfl rfl rfl rfl (fun w S => ?_)) | refine WO.e0 (O.store (v := .bool _) 3 S rfl rfl rfl sz_4 rfl rfl rfl rfl (fun w S => ?_))
          refine WO.nil ?_
          refine Then.nx ?_
          refine W.seq ?_
          refine W.seq ?_
          refine W.region rfl ?_
          refine WO.q (Y.move (v := .int .i64 _) rfl) ?_
          refine WO.q (Y.eql rfl rfl) ?_
          refine WO.nil ?_
          refine Then.nx ?_
          refine W.cond rfl (fun h5 => ?_) (fun h5 => ?_) -- cond 3
          · have rh5 := h5
            (try simp only [decide_eq_true_eq, decide_eq_false_iff_not, Bool.not_eq_true', Bool.not_eq_false', Bool.and_eq_true, Bool.or_eq_true, Bool.and_eq_false_iff, Bool.or_eq_false_iff, Bool.not_true, Bool.not_false] at h5)
            refine W.seq ?_
            have hx0 : 0 < hs.length := by omega
            have ha := (S.reads 2 rfl (Reads.sub _ _ _ _)).1 hx0
            obtain ⟨x, hx1⟩ := at_ex (xs := hs) (k := 0) hx0
            refine W.region rfl ?_
            refine WO.q (Y.move (v := .slice _ _ _) rfl) ?_
            first | refine WO.q (Y.ixN sl_54 rfl rfl (by assumption) (by (first | assumption | omega))) ?_ | refine WO.q (Y.ix sl_54 rfl rfl (by assumption) (by (first | assumption | omega)) (by (first | assumption | omega))) ?_
            refine WO.q (Y.load rfl (loadRd1 sz_2 (S.reads 2 rfl (Reads.sub _ _ _ _)) (by assumption) rfl)) ?_
            refine WO.q (Y.fieldB fo_58_3 rfl) ?_
            first | refine WO.e0 (O.store (v := .int .i64 _) 0 S rfl rfl rfl sz_2 rfl rfl rfl rfl (fun w S => ?_)) | refine WO.e0 (O.store (v := .int .i64 _) 1 S rfl rfl rfl sz_2 rfl rfl rfl rfl (fun w S => ?_)) | refine WO.e0 (O.store (v := .int .i64 _) 2 S rfl rfl rfl sz_2 rfl rfl rfl rfl (fun w S => ?_)) | refine WO.e0 (O.store (v := .int .i64 _) 3 S rfl rfl rfl sz_2 rfl rfl rfl rfl (fun w S => ?_))
            refine WO.nil ?_
            refine Then.nx ?_
            refine W.seq ?_
            have hcp := (S.subLen 2 rfl).1
            refine W.draw (.q 0 (.q 1 (.q 2 (.q 3 (.e 4 .nil))))) (fun w => Sat _ w _) rfl rfl (by kernel_rfl) rfl (by kernel_rfl) (by repeat (first | exact BodyQ.noFrame | refine Then.noFrame ?_ | refine InB.noFrame ?_)) S.drew ?_
            clear S
            refine Plan.q rfl (fun w S => Y.move (v := .slice _ _ _) rfl) ?_
            refine Plan.q rfl (fun w S => Y.sliceL sl_54 rfl rfl (by (first | assumption | omega))) ?_
            first | refine Plan.q rfl (fun w S => Y.load rfl (loadSN sz_58 S 0 rfl rfl rfl)) ?_ | refine Plan.q rfl (fun w S => Y.load rfl (loadSN sz_58 S 1 rfl rfl rfl)) ?_ | refine Plan.q rfl (fun w S => Y.load rfl (loadSN sz_58 S 2 rfl rfl rfl)) ?_ | refine Plan.q rfl (fun w S => Y.load rfl (loadSN sz_58 S 3 rfl rfl rfl)) ?_
            refine Plan.q rfl (fun w S => Y.assign (v := .slice _ _ _) rfl) ?_
            first | refine Plan.e0 rfl (fun w S => O.store (v := .agg _) 0 S rfl rfl rfl sz_58 rfl rfl rfl rfl (fun w S => ?_)) | refine Plan.e0 rfl (fun w S => O.store (v := .agg _) 1 S rfl rfl rfl sz_58 rfl rfl rfl rfl (fun w S => ?_)) | refine Plan.e0 rfl (fun w S => O.store (v := .agg _) 2 S rfl rfl rfl sz_58 rfl rfl rfl rfl (fun w S => ?_)) | refine Plan.e0 rfl (fun w S => O.store (v := .agg _) 3 S rfl rfl rfl sz_58 rfl rfl rfl rfl (fun w S => ?_))
            refine ⟨(fun w => Sat _ w _), S, (.inl (by kernel_rfl)), ?_⟩
            clear S
            refine Plan.nil (fun w S => ?_)
            replace S : Sat _ _ _ := S
            refine Then.nx ?_
            refine W.ret ?_
            refine Then.r ?_
            refine InB.r ?_
            refine Then.r ?_
            refine BodyQ.ret2 Tryd.results21 (ResV.tmp _ rfl) (by first | exact (ResV.cell _ rfl (loadSN sz_58 S 0 rfl rfl rfl)) | exact (ResV.cell _ rfl (loadSN sz_58 S 1 rfl rfl rfl)) | exact (ResV.cell _ rfl (loadSN sz_58 S 2 rfl rfl rfl)) | exact (ResV.cell _ rfl (loadSN sz_58 S 3 rfl rfl rfl)) | exact (ResV.cell _ rfl (loadSN sz_58 S 4 rfl rfl rfl)) | exact (ResV.cell _ rfl (loadSN sz_58 S 5 rfl rfl rfl)) | exact (ResV.cell _ rfl (loadSN sz_58 S 6 rfl rfl rfl)) | exact (ResV.cell _ rfl (loadSN sz_58 S 7 rfl rfl rfl))) ?_
            rw [doesM_queue (by omega) (by assumption) hx1 (by assumption)]; exact ⟨sla a 1 cap 1, cap - 1, by (rw [List.length_drop]; rfl), (S.imp 2 rfl (fun _ h => Sub.drop1 h (by (intro e; rw [e] at hx0; cases hx0)))).pk (by repeat (first | exact Pk.nil _ | exact Pk.refl _ | refine Pk.cons 0 rfl ?_ | refine Pk.cons 1 rfl ?_ | refine Pk.cons 2 rfl ?_ | refine Pk.cons 3 rfl ?_ | refine Pk.cons 4 rfl ?_ | refine Pk.cons 5 rfl ?_ | refine Pk.cons 6 rfl ?_ | refine Pk.cons 7 rfl ?_ | refine Pk.cons 8 rfl ?_ | refine Pk.cons 9 rfl ?_ | refine Pk.cons 10 rfl ?_ | refine Pk.cons 11 rfl ?_ | refine Pk.cons 12 rfl ?_ | refine Pk.cons 13 rfl ?_ | refine Pk.drop ?_))⟩
          · have rh5 := h5
            (try simp only [decide_eq_true_eq, decide_eq_false_iff_not, Bool.not_eq_true', Bool.not_eq_false', Bool.and_eq_true, Bool.or_eq_true, Bool.and_eq_false_iff, Bool.or_eq_false_iff, Bool.not_true, Bool.not_false] at h5)
            refine W.skip ?_
            refine Then.nx ?_
            refine W.seq ?_
            have hx0 : 0 < hs.length := by omega
            have ha := (S.reads 2 rfl (Reads.sub _ _ _ _)).1 hx0
            obtain ⟨x, hx1⟩ := at_ex (xs := hs) (k := hs.length - 1) (by omega)
            have hcp := (S.subLen 2 rfl).1
            refine W.region rfl ?_
            refine WO.q (Y.move (v := .slice _ _ _) rfl) ?_
            refine WO.q (Y.move (v := .int .i64 _) rfl) ?_
            refine WO.q (Y.subN (x := hs.length) (y := 1) rfl rfl (by omega) (by omega)) ?_
            first | refine WO.q (Y.ixN sl_54 rfl rfl (by assumption) (by (first | assumption | omega))) ?_ | refine WO.q (Y.ix sl_54 rfl rfl (by assumption) (by (first | assumption | omega)) (by (first | assumption | omega))) ?_
            refine WO.q (Y.load rfl (loadRd1 sz_2 (S.reads 2 rfl (Reads.sub _ _ _ _)) (by assumption) rfl)) ?_
            refine WO.q (Y.fieldB fo_58_3 rfl) ?_
            first | refine WO.e0 (O.store (v := .int .i64 _) 0 S rfl rfl rfl sz_2 rfl rfl rfl rfl (fun w S => ?_)) | refine WO.e0 (O.store (v := .int .i64 _) 1 S rfl rfl rfl sz_2 rfl rfl rfl rfl (fun w S => ?_)) | refine WO.e0 (O.store (v := .int .i64 _) 2 S rfl rfl rfl sz_2 rfl rfl rfl rfl (fun w S => ?_)) | refine WO.e0 (O.store (v := .int .i64 _) 3 S rfl rfl rfl sz_2 rfl rfl rfl rfl (fun w S => ?_))
            refine WO.nil ?_
            refine Then.nx ?_
            refine W.seq ?_
            have hcp := (S.subLen 2 rfl).1
            refine W.draw (.q 0 (.q 1 (.q 2 (.q 3 (.q 4 (.q 5 (.e 6 .nil))))))) (fun w => Sat _ w _) rfl rfl (by kernel_rfl) rfl (by kernel_rfl) (by repeat (first | exact BodyQ.noFrame | refine Then.noFrame ?_ | refine InB.noFrame ?_)) S.drew ?_
            clear S
            refine Plan.q rfl (fun w S => Y.move (v := .slice _ _ _) rfl) ?_
            refine Plan.q rfl (fun w S => Y.move (v := .int .i64 _) rfl) ?_
            refine Plan.q rfl (fun w S => Y.subN (x := hs.length) (y := 1) rfl rfl (by omega) (by omega)) ?_
            refine Plan.q rfl (fun w S => Y.sliceH sl_54 rfl rfl (by (first | assumption | omega))) ?_
            first | refine Plan.q rfl (fun w S => Y.load rfl (loadSN sz_58 S 0 rfl rfl rfl)) ?_ | refine Plan.q rfl (fun w S => Y.load rfl (loadSN sz_58 S 1 rfl rfl rfl)) ?_ | refine Plan.q rfl (fun w S => Y.load rfl (loadSN sz_58 S 2 rfl rfl rfl)) ?_ | refine Plan.q rfl (fun w S => Y.load rfl (loadSN sz_58 S 3 rfl rfl rfl)) ?_
            refine Plan.q rfl (fun w S => Y.assign (v := .slice _ _ _) rfl) ?_
            first | refine Plan.e0 rfl (fun w S => O.store (v := .agg _) 0 S rfl rfl rfl sz_58 rfl rfl rfl rfl (fun w S => ?_)) | refine Plan.e0 rfl (fun w S => O.store (v := .agg _) 1 S rfl rfl rfl sz_58 rfl rfl rfl rfl (fun w S => ?_)) | refine Plan.e0 rfl (fun w S => O.store (v := .agg _) 2 S rfl rfl rfl sz_58 rfl rfl rfl rfl (fun w S => ?_)) | refine Plan.e0 rfl (fun w S => O.store (v := .agg _) 3 S rfl rfl rfl sz_58 rfl rfl rfl rfl (fun w S => ?_))
            refine ⟨(fun w => Sat _ w _), S, (.inl (by kernel_rfl)), ?_⟩
            clear S
            refine Plan.nil (fun w S => ?_)
            replace S : Sat _ _ _ := S
            refine Then.nx ?_
            refine W.ret ?_
            refine InB.r ?_
            refine Then.r ?_
            refine BodyQ.ret2 Tryd.results21 (ResV.tmp _ rfl) (by first | exact (ResV.cell _ rfl (loadSN sz_58 S 0 rfl rfl rfl)) | exact (ResV.cell _ rfl (loadSN sz_58 S 1 rfl rfl rfl)) | exact (ResV.cell _ rfl (loadSN sz_58 S 2 rfl rfl rfl)) | exact (ResV.cell _ rfl (loadSN sz_58 S 3 rfl rfl rfl)) | exact (ResV.cell _ rfl (loadSN sz_58 S 4 rfl rfl rfl)) | exact (ResV.cell _ rfl (loadSN sz_58 S 5 rfl rfl rfl)) | exact (ResV.cell _ rfl (loadSN sz_58 S 6 rfl rfl rfl)) | exact (ResV.cell _ rfl (loadSN sz_58 S 7 rfl rfl rfl))) ?_
            have hlt : (hs.take (hs.length - 1)).length = hs.length - 1 := (by (rw [List.length_take]; omega)); rw [doesM_stack (by omega) (by assumption) hx1 (by assumption)]; exact ⟨a, cap, by (rw [hlt]; rfl), (S.imp 2 rfl (fun _ h => Sub.take h (hs.length - 1))).pk (by repeat (first | exact Pk.nil _ | exact Pk.refl _ | refine Pk.cons 0 rfl ?_ | refine Pk.cons 1 rfl ?_ | refine Pk.cons 2 rfl ?_ | refine Pk.cons 3 rfl ?_ | refine Pk.cons 4 rfl ?_ | refine Pk.cons 5 rfl ?_ | refine Pk.cons 6 rfl ?_ | refine Pk.cons 7 rfl ?_ | refine Pk.cons 8 rfl ?_ | refine Pk.cons 9 rfl ?_ | refine Pk.cons 10 rfl ?_ | refine Pk.cons 11 rfl ?_ | refine Pk.cons 12 rfl ?_ | refine Pk.cons 13 rfl ?_ | refine Pk.drop ?_))⟩
    · have rh2 := h2
      (try simp only [decide_eq_true_eq, decide_eq_false_iff_not, Bool.not_eq_true', Bool.not_eq_false', Bool.and_eq_true, Bool.or_eq_true, Bool.and_eq_false_iff, Bool.or_eq_false_iff, Bool.not_true, Bool.not_false] at h2)
      obtain ⟨x, hsx⟩ := List.length_eq_one_iff.1 (hne (by omega))
      subst hsx
      have ha := (S.reads 2 rfl (Reads.sub _ _ _ _)).1 (by simp)
      have hx1 : ([x] : List Int)[0]? = some x := rfl
      refine W.seq ?_
      refine W.region rfl ?_
      refine WO.q (Y.fieldB fo_58_0 rfl) ?_
      first | refine WO.q (Y.load rfl (loadS1 sz_56 S 0 rfl rfl)) ?_ | refine WO.q (Y.load rfl (loadS1 sz_56 S 1 rfl rfl)) ?_ | refine WO.q (Y.load rfl (loadS1 sz_56 S 2 rfl rfl)) ?_ | refine WO.q (Y.load rfl (loadS1 sz_56 S 3 rfl rfl)) ?_
      refine WO.q (Y.eql rfl rfl) ?_
      refine WO.q (Y.assign (v := .bool _) rfl) ?_
      refine WO.nil ?_
      refine Then.nx ?_
      refine W.cond rfl (fun h6 => ?_) (fun h6 => ?_) -- cond 4
      · have rh6 := h6
        (try simp only [decide_eq_true_eq, decide_eq_false_iff_not, Bool.not_eq_true', Bool.not_eq_false', Bool.and_eq_true, Bool.or_eq_true, Bool.and_eq_false_iff, Bool.or_eq_false_iff, Bool.not_true, Bool.not_false] at h6)
        refine W.seq ?_
        refine W.draw (.q 0 (.q 1 (.q 2 (.q 3 (.q 4 (.q 5 (.q 6 (.e 7 .nil)))))))) (fun w => Sat _ w _) rfl rfl (by kernel_rfl) rfl (by kernel_rfl) (by repeat (first | exact BodyQ.noFrame | refine Then.noFrame ?_ | refine InB.noFrame ?_)) S.drew ?_
        clear S
        refine Plan.q rfl (fun w S => Y.move (v := .slice _ _ _) rfl) ?_
        first | refine Plan.q rfl (fun w S => Y.ixN sl_54 rfl rfl (by assumption) (by (first | assumption | omega))) ?_ | refine Plan.q rfl (fun w S => Y.ix sl_54 rfl rfl (by assumption) (by (first | assumption | omega)) (by (first | assumption | omega))) ?_
        refine Plan.q rfl (fun w S => Y.load rfl (loadRd1 sz_2 (S.reads 2 rfl (Reads.sub _ _ _ _)) (by assumption) rfl)) ?_
        refine Plan.q rfl (fun w S => Y.fieldB fo_58_1 rfl) ?_
        first | refine Plan.q rfl (fun w S => Y.load rfl (loadS1 sz_2 S 0 rfl rfl)) ?_ | refine Plan.q rfl (fun w S => Y.load rfl (loadS1 sz_2 S 1 rfl rfl)) ?_ | refine Plan.q rfl (fun w S => Y.load rfl (loadS1 sz_2 S 2 rfl rfl)) ?_ | refine Plan.q rfl (fun w S => Y.load rfl (loadS1 sz_2 S 3 rfl rfl)) ?_
        first | refine Plan.q rfl (fun w S => Y.addI rfl rfl (by omega)) ?_ | refine Plan.q rfl (fun w S => Y.add rfl rfl) ?_
        refine Plan.q rfl (fun w S => Y.fieldB fo_58_3 rfl) ?_
        first | refine Plan.e0 rfl (fun w S => O.store (v := .int .i64 _) 0 S rfl rfl rfl sz_2 rfl rfl rfl rfl (fun w S => ?_)) | refine Plan.e0 rfl (fun w S => O.store (v := .int .i64 _) 1 S rfl rfl rfl sz_2 rfl rfl rfl rfl (fun w S => ?_)) | refine Plan.e0 rfl (fun w S => O.store (v := .int .i64 _) 2 S rfl rfl rfl sz_2 rfl rfl rfl rfl (fun w S => ?_)) | refine Plan.e0 rfl (fun w S => O.store (v := .int .i64 _) 3 S rfl rfl rfl sz_2 rfl rfl rfl rfl (fun w S => ?_))
        refine ⟨(fun w => Sat _ w _), S, (.inl (by kernel_rfl)), ?_⟩
        clear S
        refine Plan.nil (fun w S => ?_)
        replace S : Sat _ _ _ := S
        refine Then.nx ?_
        refine W.seq ?_
        refine W.draw (.q 0 (.q 1 (.q 3 (.e 2 (.q 4 (.e 5 .nil)))))) (fun w => Sat _ w _) rfl rfl (by kernel_rfl) rfl (by kernel_rfl) (by repeat (first | exact BodyQ.noFrame | refine Then.noFrame ?_ | refine InB.noFrame ?_)) S.drew ?_
        clear S
        refine Plan.q rfl (fun w S => Y.fieldB fo_58_3 rfl) ?_
        first | refine Plan.q rfl (fun w S => Y.load rfl (loadS1 sz_2 S 0 rfl rfl)) ?_ | refine Plan.q rfl (fun w S => Y.load rfl (loadS1 sz_2 S 1 rfl rfl)) ?_ | refine Plan.q rfl (fun w S => Y.load rfl (loadS1 sz_2 S 2 rfl rfl)) ?_ | refine Plan.q rfl (fun w S => Y.load rfl (loadS1 sz_2 S 3 rfl rfl)) ?_
        first | refine Plan.q rfl (fun w S => Y.load rfl (loadSN sz_58 S 0 rfl rfl rfl)) ?_ | refine Plan.q rfl (fun w S => Y.load rfl (loadSN sz_58 S 1 rfl rfl rfl)) ?_ | refine Plan.q rfl (fun w S => Y.load rfl (loadSN sz_58 S 2 rfl rfl rfl)) ?_ | refine Plan.q rfl (fun w S => Y.load rfl (loadSN sz_58 S 3 rfl rfl rfl)) ?_
        first | refine Plan.e1 rfl (fun w S => O.buildSlice rfl (buildOne sl_54 (by decide) rfl rfl) S (fun b67 w S => ?_)) | refine Plan.e1 rfl (fun w S => O.buildSlice rfl (buildOne sl_54 (by decide) rfl (by simp)) S (fun b67 w S => ?_)) | refine Plan.e1 rfl (fun w S => O.buildSlice rfl (bs_54_1_0) S (fun b67 w S => ?_))
        refine ⟨(fun w => Sat _ w _), S, (.inr (fun w S => S.pk (by repeat (first | exact Pk.nil _ | exact Pk.refl _ | refine Pk.cons 0 rfl ?_ | refine Pk.cons 1 rfl ?_ | refine Pk.cons 2 rfl ?_ | refine Pk.cons 3 rfl ?_ | refine Pk.cons 4 rfl ?_ | refine Pk.cons 5 rfl ?_ | refine Pk.cons 6 rfl ?_ | refine Pk.cons 7 rfl ?_ | refine Pk.cons 8 rfl ?_ | refine Pk.cons 9 rfl ?_ | refine Pk.cons 10 rfl ?_ | refine Pk.cons 11 rfl ?_ | refine Pk.cons 12 rfl ?_ | refine Pk.cons 13 rfl ?_ | refine Pk.drop ?_)))), ?_⟩
        clear S
        refine Plan.q rfl (fun w S => Y.assign (v := .slice _ _ _) rfl) ?_
        first | refine Plan.e0 rfl (fun w S => O.store (v := .agg _) 0 S rfl rfl rfl sz_58 rfl rfl rfl rfl (fun w S => ?_)) | refine Plan.e0 rfl (fun w S => O.store (v := .agg _) 1 S rfl rfl rfl sz_58 rfl rfl rfl rfl (fun w S => ?_)) | refine Plan.e0 rfl (fun w S => O.store (v := .agg _) 2 S rfl rfl rfl sz_58 rfl rfl rfl rfl (fun w S => ?_)) | refine Plan.e0 rfl (fun w S => O.store (v := .agg _) 3 S rfl rfl rfl sz_58 rfl rfl rfl rfl (fun w S => ?_))
        refine ⟨(fun w => Sat _ w _), S, (.inl (by kernel_rfl)), ?_⟩
        clear S
        refine Plan.nil (fun w S => ?_)
        replace S : Sat _ _ _ := S
        refine Then.nx ?_
        refine W.ret ?_
        refine InB.r ?_
        refine Then.r ?_
        refine BodyQ.ret2 Tryd.results21 (ResV.tmp _ rfl) (by first | exact (ResV.cell _ rfl (loadSN sz_58 S 0 rfl rfl rfl)) | exact (ResV.cell _ rfl (loadSN sz_58 S 1 rfl rfl rfl)) | exact (ResV.cell _ rfl (loadSN sz_58 S 2 rfl rfl rfl)) | exact (ResV.cell _ rfl (loadSN sz_58 S 3 rfl rfl rfl)) | exact (ResV.cell _ rfl (loadSN sz_58 S 4 rfl rfl rfl)) | exact (ResV.cell _ rfl (loadSN sz_58 S 5 rfl rfl rfl)) | exact (ResV.cell _ rfl (loadSN sz_58 S 6 rfl rfl rfl)) | exact (ResV.cell _ rfl (loadSN sz_58 S 7 rfl rfl rfl))) ?_
        first | (exfalso; omega) | (rw [doesM_one (x := x) (by omega) rfl]; (repeat (first | rw [if_pos (by omega)] | rw [if_neg (by omega)])); exact ⟨_, 1, rfl, (S.imp 0 rfl (fun _ h => Sub.one h)).pk (by repeat (first | exact Pk.nil _ | exact Pk.refl _ | refine Pk.cons 0 rfl ?_ | refine Pk.cons 1 rfl ?_ | refine Pk.cons 2 rfl ?_ | refine Pk.cons 3 rfl ?_ | refine Pk.cons 4 rfl ?_ | refine Pk.cons 5 rfl ?_ | refine Pk.cons 6 rfl ?_ | refine Pk.cons 7 rfl ?_ | refine Pk.cons 8 rfl ?_ | refine Pk.cons 9 rfl ?_ | refine Pk.cons 10 rfl ?_ | refine Pk.cons 11 rfl ?_ | refine Pk.cons 12 rfl ?_ | refine Pk.cons 13 rfl ?_ | refine Pk.drop ?_))⟩)
      · have rh6 := h6
        (try simp only [decide_eq_true_eq, decide_eq_false_iff_not, Bool.not_eq_true', Bool.not_eq_false', Bool.and_eq_true, Bool.or_eq_true, Bool.and_eq_false_iff, Bool.or_eq_false_iff, Bool.not_true, Bool.not_false] at h6)
        refine W.seq ?_
        refine W.region rfl ?_
        refine WO.q (Y.fieldB fo_58_0 rfl) ?_
        first | refine WO.q (Y.load rfl (loadS1 sz_56 S 0 rfl rfl)) ?_ | refine WO.q (Y.load rfl (loadS1 sz_56 S 1 rfl rfl)) ?_ | refine WO.q (Y.load rfl (loadS1 sz_56 S 2 rfl rfl)) ?_ | refine WO.q (Y.load rfl (loadS1 sz_56 S 3 rfl rfl)) ?_
        refine WO.q (Y.eql rfl rfl) ?_
        refine WO.q (Y.assign (v := .bool _) rfl) ?_
        refine WO.nil ?_
        refine Then.nx ?_
        refine W.cond rfl (fun h7 => ?_) (fun h7 => ?_) -- cond 5
        · have rh7 := h7
          (try simp only [decide_eq_true_eq, decide_eq_false_iff_not, Bool.not_eq_true', Bool.not_eq_false', Bool.and_eq_true, Bool.or_eq_true, Bool.and_eq_false_iff, Bool.or_eq_false_iff, Bool.not_true, Bool.not_false] at h7)
          refine W.seq ?_
          refine W.draw (.q 0 (.q 1 (.q 3 (.e 2 (.q 4 (.e 5 .nil)))))) (fun w => Sat _ w _) rfl rfl (by kernel_rfl) rfl (by kernel_rfl) (by repeat (first | exact BodyQ.noFrame | refine Then.noFrame ?_ | refine InB.noFrame ?_)) S.drew ?_
          clear S
          refine Plan.q rfl (fun w S => Y.fieldB fo_58_1 rfl) ?_
          first | refine Plan.q rfl (fun w S => Y.load rfl (loadS1 sz_2 S 0 rfl rfl)) ?_ | refine Plan.q rfl (fun w S => Y.load rfl (loadS1 sz_2 S 1 rfl rfl)) ?_ | refine Plan.q rfl (fun w S => Y.load rfl (loadS1 sz_2 S 2 rfl rfl)) ?_ | refine Plan.q rfl (fun w S => Y.load rfl (loadS1 sz_2 S 3 rfl rfl)) ?_
          first | refine Plan.q rfl (fun w S => Y.load rfl (loadSN sz_58 S 0 rfl rfl rfl)) ?_ | refine Plan.q rfl (fun w S => Y.load rfl (loadSN sz_58 S 1 rfl rfl rfl)) ?_ | refine Plan.q rfl (fun w S => Y.load rfl (loadSN sz_58 S 2 rfl rfl rfl)) ?_ | refine Plan.q rfl (fun w S => Y.load rfl (loadSN sz_58 S 3 rfl rfl rfl)) ?_
          first | refine Plan.e1 rfl (fun w S => O.buildSlice rfl (buildOne sl_54 (by decide) rfl rfl) S (fun b75 w S => ?_)) | refine Plan.e1 rfl (fun w S => O.buildSlice rfl (buildOne sl_54 (by decide) rfl (by simp)) S (fun b75 w S => ?_)) | refine Plan.e1 rfl (fun w S => O.buildSlice rfl (bs_54_1_0) S (fun b75 w S => ?_))
          refine ⟨(fun w => Sat _ w _), S, (.inr (fun w S => S.pk (by repeat (first | exact Pk.nil _ | exact Pk.refl _ | refine Pk.cons 0 rfl ?_ | refine Pk.cons 1 rfl ?_ | refine Pk.cons 2 rfl ?_ | refine Pk.cons 3 rfl ?_ | refine Pk.cons 4 rfl ?_ | refine Pk.cons 5 rfl ?_ | refine Pk.cons 6 rfl ?_ | refine Pk.cons 7 rfl ?_ | refine Pk.cons 8 rfl ?_ | refine Pk.cons 9 rfl ?_ | refine Pk.cons 10 rfl ?_ | refine Pk.cons 11 rfl ?_ | refine Pk.cons 12 rfl ?_ | refine Pk.cons 13 rfl ?_ | refine Pk.drop ?_)))), ?_⟩
          clear S
          refine Plan.q rfl (fun w S => Y.assign (v := .slice _ _ _) rfl) ?_
          first | refine Plan.e0 rfl (fun w S => O.store (v := .agg _) 0 S rfl rfl rfl sz_58 rfl rfl rfl rfl (fun w S => ?_)) | refine Plan.e0 rfl (fun w S => O.store (v := .agg _) 1 S rfl rfl rfl sz_58 rfl rfl rfl rfl (fun w S => ?_)) | refine Plan.e0 rfl (fun w S => O.store (v := .agg _) 2 S rfl rfl rfl sz_58 rfl rfl rfl rfl (fun w S => ?_)) | refine Plan.e0 rfl (fun w S => O.store (v := .agg _) 3 S rfl rfl rfl sz_58 rfl rfl rfl rfl (fun w S => ?_))
          refine ⟨(fun w => Sat _ w _), S, (.inl (by kernel_rfl)), ?_⟩
          clear S
          refine Plan.nil (fun w S => ?_)
          replace S : Sat _ _ _ := S
          refine Then.nx ?_
          refine W.ret ?_
          refine InB.r ?_
          refine Then.r ?_
          refine BodyQ.ret2 Tryd.results21 (ResV.tmp _ rfl) (by first | exact (ResV.cell _ rfl (loadSN sz_58 S 0 rfl rfl rfl)) | exact (ResV.cell _ rfl (loadSN sz_58 S 1 rfl rfl rfl)) | exact (ResV.cell _ rfl (loadSN sz_58 S 2 rfl rfl rfl)) | exact (ResV.cell _ rfl (loadSN sz_58 S 3 rfl rfl rfl)) | exact (ResV.cell _ rfl (loadSN sz_58 S 4 rfl rfl rfl)) | exact (ResV.cell _ rfl (loadSN sz_58 S 5 rfl rfl rfl)) | exact (ResV.cell _ rfl (loadSN sz_58 S 6 rfl rfl rfl)) | exact (ResV.cell _ rfl (loadSN sz_58 S 7 rfl rfl rfl))) ?_
          first | (exfalso; omega) | (rw [doesM_one (x := x) (by omega) rfl]; (repeat (first | rw [if_pos (by omega)] | rw [if_neg (by omega)])); exact ⟨_, 1, rfl, (S.imp 0 rfl (fun _ h => Sub.one h)).pk (by repeat (first | exact Pk.nil _ | exact Pk.refl _ | refine Pk.cons 0 rfl ?_ | refine Pk.cons 1 rfl ?_ | refine Pk.cons 2 rfl ?_ | refine Pk.cons 3 rfl ?_ | refine Pk.cons 4 rfl ?_ | refine Pk.cons 5 rfl ?_ | refine Pk.cons 6 rfl ?_ | refine Pk.cons 7 rfl ?_ | refine Pk.cons 8 rfl ?_ | refine Pk.cons 9 rfl ?_ | refine Pk.cons 10 rfl ?_ | refine Pk.cons 11 rfl ?_ | refine Pk.cons 12 rfl ?_ | refine Pk.cons 13 rfl ?_ | refine Pk.drop ?_))⟩)
        · have rh7 := h7
          (try simp only [decide_eq_true_eq, decide_eq_false_iff_not, Bool.not_eq_true', Bool.not_eq_false', Bool.and_eq_true, Bool.or_eq_true, Bool.and_eq_false_iff, Bool.or_eq_false_iff, Bool.not_true, Bool.not_false] at h7)
          refine W.seq ?_
          refine W.draw (.q 0 (.q 1 (.q 2 (.q 3 (.q 4 (.q 5 (.q 6 (.q 7 (.q 8 (.q 9 (.q 10 (.q 11 .nil)))))))))))) (fun w => Sat _ w _) rfl rfl (by kernel_rfl) rfl (by kernel_rfl) (by repeat (first | exact BodyQ.noFrame | refine Then.noFrame ?_ | refine InB.noFrame ?_)) S.drew ?_
          clear S
          refine Plan.q rfl (fun w S => Y.fieldB fo_58_0 rfl) ?_
          first | refine Plan.q rfl (fun w S => Y.load rfl (loadS1 sz_56 S 0 rfl rfl)) ?_ | refine Plan.q rfl (fun w S => Y.load rfl (loadS1 sz_56 S 1 rfl rfl)) ?_ | refine Plan.q rfl (fun w S => Y.load rfl (loadS1 sz_56 S 2 rfl rfl)) ?_ | refine Plan.q rfl (fun w S => Y.load rfl (loadS1 sz_56 S 3 rfl rfl)) ?_
          refine Plan.q rfl (fun w S => Y.eql rfl rfl) ?_
          refine Plan.q rfl (fun w S => Y.move (v := .bool _) rfl) ?_
          refine Plan.splitB (fun h8 => ?_) (fun h8 => ?_)
          · (try simp only [decide_eq_true_eq, decide_eq_false_iff_not, Bool.not_eq_true', Bool.not_eq_false', Bool.and_eq_true, Bool.or_eq_true, Bool.and_eq_false_iff, Bool.or_eq_false_iff, Bool.not_true, Bool.not_false] at h8)
            refine Plan.qT rfl rfl (fun w S => Y.move (v := .slice _ _ _) rfl) ?_
            first | refine Plan.qT rfl rfl (fun w S => Y.ixN sl_54 rfl rfl (by assumption) (by (first | assumption | omega))) ?_ | refine Plan.qT rfl rfl (fun w S => Y.ix sl_54 rfl rfl (by assumption) (by (first | assumption | omega)) (by (first | assumption | omega))) ?_
            refine Plan.qT rfl rfl (fun w S => Y.load rfl (loadRd1 sz_2 (S.reads 2 rfl (Reads.sub _ _ _ _)) (by assumption) rfl)) ?_
            refine Plan.qT rfl rfl (fun w S => Y.fieldB fo_58_1 rfl) ?_
            first | refine Plan.qT rfl rfl (fun w S => Y.load rfl (loadS1 sz_2 S 0 rfl rfl)) ?_ | refine Plan.qT rfl rfl (fun w S => Y.load rfl (loadS1 sz_2 S 1 rfl rfl)) ?_ | refine Plan.qT rfl rfl (fun w S => Y.load rfl (loadS1 sz_2 S 2 rfl rfl)) ?_ | refine Plan.qT rfl rfl (fun w S => Y.load rfl (loadS1 sz_2 S 3 rfl rfl)) ?_
            refine Plan.qT rfl rfl (fun w S => Y.eql rfl rfl) ?_
            refine Plan.q rfl (fun w S => Y.pickT (u := .bool _) rfl rfl) ?_
            refine Plan.q rfl (fun w S => Y.assign (v := .bool _) rfl) ?_
            refine Plan.nil (fun w S => ?_)
            replace S : Sat _ _ _ := S
            refine Then.nx ?_
            refine W.cond rfl (fun h9 => ?_) (fun h9 => ?_) -- cond 6
            · have rh9 := h9
              (try simp only [decide_eq_true_eq, decide_eq_false_iff_not, Bool.not_eq_true', Bool.not_eq_false', Bool.and_eq_true, Bool.or_eq_true, Bool.and_eq_false_iff, Bool.or_eq_false_iff, Bool.not_true, Bool.not_false] at h9)
              refine W.seq ?_
              refine W.region rfl ?_
              refine WO.q (Y.fieldB fo_58_4 rfl) ?_
              first | refine WO.e0 (O.store (v := .bool _) 0 S rfl rfl rfl sz_4 rfl rfl rfl rfl (fun w S => ?_)) | refine WO.e0 (O.store (v := .bool _) 1 S rfl rfl rfl sz_4 rfl rfl rfl rfl (fun w S => ?_)) | refine WO.e0 (O.store (v := .bool _) 2 S rfl rfl rfl sz_4 rfl rfl rfl rfl (fun w S => ?_)) | refine WO.e0 (O.store (v := .bool _) 3 S rfl rfl rfl sz_4 rfl rfl rfl rfl (fun w S => ?_))
              refine WO.nil ?_
              refine Then.nx ?_
              refine W.seq ?_
              refine W.draw (.q 0 (.q 1 (.q 3 (.e 2 (.q 4 (.e 5 .nil)))))) (fun w => Sat _ w _) rfl rfl (by kernel_rfl) rfl (by kernel_rfl) (by repeat (first | exact BodyQ.noFrame | refine Then.noFrame ?_ | refine InB.noFrame ?_)) S.drew ?_
              clear S
              refine Plan.q rfl (fun w S => Y.fieldB fo_58_2 rfl) ?_
              first | refine Plan.q rfl (fun w S => Y.load rfl (loadS1 sz_2 S 0 rfl rfl)) ?_ | refine Plan.q rfl (fun w S => Y.load rfl (loadS1 sz_2 S 1 rfl rfl)) ?_ | refine Plan.q rfl (fun w S => Y.load rfl (loadS1 sz_2 S 2 rfl rfl)) ?_ | refine Plan.q rfl (fun w S => Y.load rfl (loadS1 sz_2 S 3 rfl rfl)) ?_
              first | refine Plan.q rfl (fun w S => Y.load rfl (loadSN sz_58 S 0 rfl rfl rfl)) ?_ | refine Plan.q rfl (fun w S => Y.load rfl (loadSN sz_58 S 1 rfl rfl rfl)) ?_ | refine Plan.q rfl (fun w S => Y.load rfl (loadSN sz_58 S 2 rfl rfl rfl)) ?_ | refine Plan.q rfl (fun w S => Y.load rfl (loadSN sz_58 S 3 rfl rfl rfl)) ?_
              first | refine Plan.e1 rfl (fun w S => O.buildSlice rfl (buildOne sl_54 (by decide) rfl rfl) S (fun b92 w S => ?_)) | refine Plan.e1 rfl (fun w S => O.buildSlice rfl (buildOne sl_54 (by decide) rfl (by simp)) S (fun b92 w S => ?_)) | refine Plan.e1 rfl (fun w S => O.buildSlice rfl (bs_54_1_0) S (fun b92 w S => ?_))
              refine ⟨(fun w => Sat _ w _), S, (.inr (fun w S => S.pk (by repeat (first | exact Pk.nil _ | exact Pk.refl _ | refine Pk.cons 0 rfl ?_ | refine Pk.cons 1 rfl ?_ | refine Pk.cons 2 rfl ?_ | refine Pk.cons 3 rfl ?_ | refine Pk.cons 4 rfl ?_ | refine Pk.cons 5 rfl ?_ | refine Pk.cons 6 rfl ?_ | refine Pk.cons 7 rfl ?_ | refine Pk.cons 8 rfl ?_ | refine Pk.cons 9 rfl ?_ | refine Pk.cons 10 rfl ?_ | refine Pk.cons 11 rfl ?_ | refine Pk.cons 12 rfl ?_ | refine Pk.cons 13 rfl ?_ | refine Pk.drop ?_)))), ?_⟩
              clear S
              refine Plan.q rfl (fun w S => Y.assign (v := .slice _ _ _) rfl) ?_
              first | refine Plan.e0 rfl (fun w S => O.store (v := .agg _) 0 S rfl rfl rfl sz_58 rfl rfl rfl rfl (fun w S => ?_)) | refine Plan.e0 rfl (fun w S => O.store (v := .agg _) 1 S rfl rfl rfl sz_58 rfl rfl rfl rfl (fun w S => ?_)) | refine Plan.e0 rfl (fun w S => O.store (v := .agg _) 2 S rfl rfl rfl sz_58 rfl rfl rfl rfl (fun w S => ?_)) | refine Plan.e0 rfl (fun w S => O.store (v := .agg _) 3 S rfl rfl rfl sz_58 rfl rfl rfl rfl (fun w S => ?_))
              refine ⟨(fun w => Sat _ w _), S, (.inl (by kernel_rfl)), ?_⟩
              clear S
              refine Plan.nil (fun w S => ?_)
              replace S : Sat _ _ _ := S
              refine Then.nx ?_
              refine W.ret ?_
              refine InB.r ?_
              refine Then.r ?_
              refine BodyQ.ret2 Tryd.results21 (ResV.tmp _ rfl) (by first | exact (ResV.cell _ rfl (loadSN sz_58 S 0 rfl rfl rfl)) | exact (ResV.cell _ rfl (loadSN sz_58 S 1 rfl rfl rfl)) | exact (ResV.cell _ rfl (loadSN sz_58 S 2 rfl rfl rfl)) | exact (ResV.cell _ rfl (loadSN sz_58 S 3 rfl rfl rfl)) | exact (ResV.cell _ rfl (loadSN sz_58 S 4 rfl rfl rfl)) | exact (ResV.cell _ rfl (loadSN sz_58 S 5 rfl rfl rfl)) | exact (ResV.cell _ rfl (loadSN sz_58 S 6 rfl rfl rfl)) | exact (ResV.cell _ rfl (loadSN sz_58 S 7 rfl rfl rfl))) ?_
              first | (exfalso; omega) | (rw [doesM_one (x := x) (by omega) rfl]; (repeat (first | rw [if_pos (by omega)] | rw [if_neg (by omega)])); exact ⟨_, 1, rfl, (S.imp 0 rfl (fun _ h => Sub.one h)).pk (by repeat (first | exact Pk.nil _ | exact Pk.refl _ | refine Pk.cons 0 rfl ?_ | refine Pk.cons 1 rfl ?_ | refine Pk.cons 2 rfl ?_ | refine Pk.cons 3 rfl ?_ | refine Pk.cons 4 rfl ?_ | refine Pk.cons 5 rfl ?_ | refine Pk.cons 6 rfl ?_ | refine Pk.cons 7 rfl ?_ | refine Pk.cons 8 rfl ?_ | refine Pk.cons 9 rfl ?_ | refine Pk.cons 10 rfl ?_ | refine Pk.cons 11 rfl ?_ | refine Pk.cons 12 rfl ?_ | refine Pk.cons 13 rfl ?_ | refine Pk.drop ?_))⟩)
            · have rh9 := h9
              (try simp only [decide_eq_true_eq, decide_eq_false_iff_not, Bool.not_eq_true', Bool.not_eq_false', Bool.and_eq_true, Bool.or_eq_true, Bool.and_eq_false_iff, Bool.or_eq_false_iff, Bool.not_true, Bool.not_false] at h9)
              refine W.seq ?_
              refine W.region rfl ?_
              refine WO.q (Y.fieldB fo_58_0 rfl) ?_
              first | refine WO.q (Y.load rfl (loadS1 sz_56 S 0 rfl rfl)) ?_ | refine WO.q (Y.load rfl (loadS1 sz_56 S 1 rfl rfl)) ?_ | refine WO.q (Y.load rfl (loadS1 sz_56 S 2 rfl rfl)) ?_ | refine WO.q (Y.load rfl (loadS1 sz_56 S 3 rfl rfl)) ?_
              refine WO.q (Y.eql rfl rfl) ?_
              refine WO.q (Y.assign (v := .bool _) rfl) ?_
              refine WO.nil ?_
              refine Then.nx ?_
              refine W.cond rfl (fun h10 => ?_) (fun h10 => ?_) -- cond 7
              · have rh10 := h10
                (try simp only [decide_eq_true_eq, decide_eq_false_iff_not, Bool.not_eq_true', Bool.not_eq_false', Bool.and_eq_true, Bool.or_eq_true, Bool.and_eq_false_iff, Bool.or_eq_false_iff, Bool.not_true, Bool.not_false] at h10)
                refine W.region rfl ?_
                refine WO.q (Y.move (v := .slice _ _ _) rfl) ?_
                first | refine WO.q (Y.ixN sl_54 rfl rfl (by assumption) (by (first | assumption | omega))) ?_ | refine WO.q (Y.ix sl_54 rfl rfl (by assumption) (by (first | assumption | omega)) (by (first | assumption | omega))) ?_
                refine WO.q (Y.load rfl (loadRd1 sz_2 (S.reads 2 rfl (Reads.sub _ _ _ _)) (by assumption) rfl)) ?_
                refine WO.q (Y.fieldB fo_58_3 rfl) ?_
                first | refine WO.e0 (O.store (v := .int .i64 _) 0 S rfl rfl rfl sz_2 rfl rfl rfl rfl (fun w S => ?_)) | refine WO.e0 (O.store (v := .int .i64 _) 1 S rfl rfl rfl sz_2 rfl rfl rfl rfl (fun w S => ?_)) | refine WO.e0 (O.store (v := .int .i64 _) 2 S rfl rfl rfl sz_2 rfl rfl rfl rfl (fun w S => ?_)) | refine WO.e0 (O.store (v := .int .i64 _) 3 S rfl rfl rfl sz_2 rfl rfl rfl rfl (fun w S => ?_))
                refine WO.nil ?_
                refine InB.nx ?_
                refine Then.nx ?_
                refine W.seq ?_
                refine W.draw (.q 0 (.q 1 (.q 2 (.e 3 .nil)))) (fun w => Sat _ w _) rfl rfl (by kernel_rfl) rfl (by kernel_rfl) (by repeat (first | exact BodyQ.noFrame | refine Then.noFrame ?_ | refine InB.noFrame ?_)) S.drew ?_
                clear S
                refine Plan.q rfl (fun w S => Y.move (v := .slice _ _ _) rfl) ?_
                first | refine Plan.q rfl (fun w S => Y.load rfl (loadSN sz_58 S 0 rfl rfl rfl)) ?_ | refine Plan.q rfl (fun w S => Y.load rfl (loadSN sz_58 S 1 rfl rfl rfl)) ?_ | refine Plan.q rfl (fun w S => Y.load rfl (loadSN sz_58 S 2 rfl rfl rfl)) ?_ | refine Plan.q rfl (fun w S => Y.load rfl (loadSN sz_58 S 3 rfl rfl rfl)) ?_
                refine Plan.q rfl (fun w S => Y.assign (v := .slice _ _ _) rfl) ?_
                first | refine Plan.e0 rfl (fun w S => O.store (v := .agg _) 0 S rfl rfl rfl sz_58 rfl rfl rfl rfl (fun w S => ?_)) | refine Plan.e0 rfl (fun w S => O.store (v := .agg _) 1 S rfl rfl rfl sz_58 rfl rfl rfl rfl (fun w S => ?_)) | refine Plan.e0 rfl (fun w S => O.store (v := .agg _) 2 S rfl rfl rfl sz_58 rfl rfl rfl rfl (fun w S => ?_)) | refine Plan.e0 rfl (fun w S => O.store (v := .agg _) 3 S rfl rfl rfl sz_58 rfl rfl rfl rfl (fun w S => ?_))
                refine ⟨(fun w => Sat _ w _), S, (.inl (by kernel_rfl)), ?_⟩
                clear S
                refine Plan.nil (fun w S => ?_)
                replace S : Sat _ _ _ := S
                refine Then.nx ?_
                refine W.ret ?_
                refine BodyQ.ret2 Tryd.results21 (ResV.tmp _ rfl) (by first | exact (ResV.cell _ rfl (loadSN sz_58 S 0 rfl rfl rfl)) | exact (ResV.cell _ rfl (loadSN sz_58 S 1 rfl rfl rfl)) | exact (ResV.cell _ rfl (loadSN sz_58 S 2 rfl rfl rfl)) | exact (ResV.cell _ rfl (loadSN sz_58 S 3 rfl rfl rfl)) | exact (ResV.cell _ rfl (loadSN sz_58 S 4 rfl rfl rfl)) | exact (ResV.cell _ rfl (loadSN sz_58 S 5 rfl rfl rfl)) | exact (ResV.cell _ rfl (loadSN sz_58 S 6 rfl rfl rfl)) | exact (ResV.cell _ rfl (loadSN sz_58 S 7 rfl rfl rfl))) ?_
                first | (exfalso; omega) | (rw [doesM_one (x := x) (by omega) rfl]; (repeat (first | rw [if_pos (by omega)] | rw [if_neg (by omega)])); exact ⟨a, cap, rfl, S.pk (by repeat (first | exact Pk.nil _ | exact Pk.refl _ | refine Pk.cons 0 rfl ?_ | refine Pk.cons 1 rfl ?_ | refine Pk.cons 2 rfl ?_ | refine Pk.cons 3 rfl ?_ | refine Pk.cons 4 rfl ?_ | refine Pk.cons 5 rfl ?_ | refine Pk.cons 6 rfl ?_ | refine Pk.cons 7 rfl ?_ | refine Pk.cons 8 rfl ?_ | refine Pk.cons 9 rfl ?_ | refine Pk.cons 10 rfl ?_ | refine Pk.cons 11 rfl ?_ | refine Pk.cons 12 rfl ?_ | refine Pk.cons 13 rfl ?_ | refine Pk.drop ?_))⟩)
              · have rh10 := h10
                (try simp only [decide_eq_true_eq, decide_eq_false_iff_not, Bool.not_eq_true', Bool.not_eq_false', Bool.and_eq_true, Bool.or_eq_true, Bool.and_eq_false_iff, Bool.or_eq_false_iff, Bool.not_true, Bool.not_false] at h10)
                refine W.skip ?_
                refine InB.nx ?_
                refine Then.nx ?_
                refine W.seq ?_
                refine W.draw (.q 0 (.q 1 (.q 2 (.e 3 .nil)))) (fun w => Sat _ w _) rfl rfl (by kernel_rfl) rfl (by kernel_rfl) (by repeat (first | exact BodyQ.noFrame | refine Then.noFrame ?_ | refine InB.noFrame ?_)) S.drew ?_
                clear S
                refine Plan.q rfl (fun w S => Y.move (v := .slice _ _ _) rfl) ?_
                first | refine Plan.q rfl (fun w S => Y.load rfl (loadSN sz_58 S 0 rfl rfl rfl)) ?_ | refine Plan.q rfl (fun w S => Y.load rfl (loadSN sz_58 S 1 rfl rfl rfl)) ?_ | refine Plan.q rfl (fun w S => Y.load rfl (loadSN sz_58 S 2 rfl rfl rfl)) ?_ | refine Plan.q rfl (fun w S => Y.load rfl (loadSN sz_58 S 3 rfl rfl rfl)) ?_
                refine Plan.q rfl (fun w S => Y.assign (v := .slice _ _ _) rfl) ?_
                first | refine Plan.e0 rfl (fun w S => O.store (v := .agg _) 0 S rfl rfl rfl sz_58 rfl rfl rfl rfl (fun w S => ?_)) | refine Plan.e0 rfl (fun w S => O.store (v := .agg _) 1 S rfl rfl rfl sz_58 rfl rfl rfl rfl (fun w S => ?_)) | refine Plan.e0 rfl (fun w S => O.store (v := .agg _) 2 S rfl rfl rfl sz_58 rfl rfl rfl rfl (fun w S => ?_)) | refine Plan.e0 rfl (fun w S => O.store (v := .agg _) 3 S rfl rfl rfl sz_58 rfl rfl rfl rfl (fun w S => ?_))
                refine ⟨(fun w => Sat _ w _), S, (.inl (by kernel_rfl)), ?_⟩
                clear S
                refine Plan.nil (fun w S => ?_)
                replace S : Sat _ _ _ := S
                refine Then.nx ?_
                refine W.ret ?_
                refine BodyQ.ret2 Tryd.results21 (ResV.tmp _ rfl) (by first | exact (ResV.cell _ rfl (loadSN sz_58 S 0 rfl rfl rfl)) | exact (ResV.cell _ rfl (loadSN sz_58 S 1 rfl rfl rfl)) | exact (ResV.cell _ rfl (loadSN sz_58 S 2 rfl rfl rfl)) | exact (ResV.cell _ rfl (loadSN sz_58 S 3 rfl rfl rfl)) | exact (ResV.cell _ rfl (loadSN sz_58 S 4 rfl rfl rfl)) | exact (ResV.cell _ rfl (loadSN sz_58 S 5 rfl rfl rfl)) | exact (ResV.cell _ rfl (loadSN sz_58 S 6 rfl rfl rfl)) | exact (ResV.cell _ rfl (loadSN sz_58 S 7 rfl rfl rfl))) ?_
                first | (exfalso; omega) | (rw [doesM_one (x := x) (by omega) rfl]; (repeat (first | rw [if_pos (by omega)] | rw [if_neg (by omega)])); exact ⟨a, cap, rfl, S.pk (by repeat (first | exact Pk.nil _ | exact Pk.refl _ | refine Pk.cons 0 rfl ?_ | refine Pk.cons 1 rfl ?_ | refine Pk.cons 2 rfl ?_ | refine Pk.cons 3 rfl ?_ | refine Pk.cons 4 rfl ?_ | refine Pk.cons 5 rfl ?_ | refine Pk.cons 6 rfl ?_ | refine Pk.cons 7 rfl ?_ | refine Pk.cons 8 rfl ?_ | refine Pk.cons 9 rfl ?_ | refine Pk.cons 10 rfl ?_ | refine Pk.cons 11 rfl ?_ | refine Pk.cons 12 rfl ?_ | refine Pk.cons 13 rfl ?_ | refine Pk.drop ?_))⟩)
          · (try simp only [decide_eq_true_eq, decide_eq_false_iff_not, Bool.not_eq_true', Bool.not_eq_false', Bool.and_eq_true, Bool.or_eq_true, Bool.and_eq_false_iff, Bool.or_eq_false_iff, Bool.not_true, Bool.not_false] at h8)
            refine Plan.qF rfl rfl ?_
            refine Plan.qF rfl rfl ?_
            refine Plan.qF rfl rfl ?_
            refine Plan.qF rfl rfl ?_
            refine Plan.qF rfl rfl ?_
            refine Plan.qF rfl rfl ?_
            refine Plan.q rfl (fun w S => Y.pickF (u := .bool _) rfl rfl) ?_
            refine Plan.q rfl (fun w S => Y.assign (v := .bool _) rfl) ?_
            refine Plan.nil (fun w S => ?_)
            replace S : Sat _ _ _ := S
            refine Then.nx ?_
            first | refine W.condF rfl ?_ | refine W.condF (congrArg Value.bool (by assumption)) ?_
            refine W.seq ?_
            refine W.region rfl ?_
            refine WO.q (Y.fieldB fo_58_0 rfl) ?_
            first | refine WO.q (Y.load rfl (loadS1 sz_56 S 0 rfl rfl)) ?_ | refine WO.q (Y.load rfl (loadS1 sz_56 S 1 rfl rfl)) ?_ | refine WO.q (Y.load rfl (loadS1 sz_56 S 2 rfl rfl)) ?_ | refine WO.q (Y.load rfl (loadS1 sz_56 S 3 rfl rfl)) ?_
            refine WO.q (Y.eql rfl rfl) ?_
            refine WO.q (Y.assign (v := .bool _) rfl) ?_
            refine WO.nil ?_
            refine Then.nx ?_
            refine W.cond rfl (fun h11 => ?_) (fun h11 => ?_) -- cond 8
            · have rh11 := h11
              (try simp only [decide_eq_true_eq, decide_eq_false_iff_not, Bool.not_eq_true', Bool.not_eq_false', Bool.and_eq_true, Bool.or_eq_true, Bool.and_eq_false_iff, Bool.or_eq_false_iff, Bool.not_true, Bool.not_false] at h11)
              refine W.region rfl ?_
              refine WO.q (Y.move (v := .slice _ _ _) rfl) ?_
              first | refine WO.q (Y.ixN sl_54 rfl rfl (by assumption) (by (first | assumption | omega))) ?_ | refine WO.q (Y.ix sl_54 rfl rfl (by assumption) (by (first | assumption | omega)) (by (first | assumption | omega))) ?_
              refine WO.q (Y.load rfl (loadRd1 sz_2 (S.reads 2 rfl (Reads.sub _ _ _ _)) (by assumption) rfl)) ?_
              refine WO.q (Y.fieldB fo_58_3 rfl) ?_
              first | refine WO.e0 (O.store (v := .int .i64 _) 0 S rfl rfl rfl sz_2 rfl rfl rfl rfl (fun w S => ?_)) | refine WO.e0 (O.store (v := .int .i64 _) 1 S rfl rfl rfl sz_2 rfl rfl rfl rfl (fun w S => ?_)) | refine WO.e0 (O.store (v := .int .i64 _) 2 S rfl rfl rfl sz_2 rfl rfl rfl rfl (fun w S => ?_)) | refine WO.e0 (O.store (v := .int .i64 _) 3 S rfl rfl rfl sz_2 rfl rfl rfl rfl (fun w S => ?_))
              refine WO.nil ?_
              refine InB.nx ?_
              refine Then.nx ?_
              refine W.seq ?_
              refine W.draw (.q 0 (.q 1 (.q 2 (.e 3 .nil)))) (fun w => Sat _ w _) rfl rfl (by kernel_rfl) rfl (by kernel_rfl) (by repeat (first | exact BodyQ.noFrame | refine Then.noFrame ?_ | refine InB.noFrame ?_)) S.drew ?_
              clear S
              refine Plan.q rfl (fun w S => Y.move (v := .slice _ _ _) rfl) ?_
              first | refine Plan.q rfl (fun w S => Y.load rfl (loadSN sz_58 S 0 rfl rfl rfl)) ?_ | refine Plan.q rfl (fun w S => Y.load rfl (loadSN sz_58 S 1 rfl rfl rfl)) ?_ | refine Plan.q rfl (fun w S => Y.load rfl (loadSN sz_58 S 2 rfl rfl rfl)) ?_ | refine Plan.q rfl (fun w S => Y.load rfl (loadSN sz_58 S 3 rfl rfl rfl)) ?_
              refine Plan.q rfl (fun w S => Y.assign (v := .slice _ _ _) rfl) ?_
              first | refine Plan.e0 rfl (fun w S => O.store (v := .agg _) 0 S rfl rfl rfl sz_58 rfl rfl rfl rfl (fun w S => ?_)) | refine Plan.e0 rfl (fun w S => O.store (v := .agg _) 1 S rfl rfl rfl sz_58 rfl rfl rfl rfl (fun w S => ?_)) | refine Plan.e0 rfl (fun w S => O.store (v := .agg _) 2 S rfl rfl rfl sz_58 rfl rfl rfl rfl (fun w S => ?_)) | refine Plan.e0 rfl (fun w S => O.store (v := .agg _) 3 S rfl rfl rfl sz_58 rfl rfl rfl rfl (fun w S => ?_))
              refine ⟨(fun w => Sat _ w _), S, (.inl (by kernel_rfl)), ?_⟩
              clear S
              refine Plan.nil (fun w S => ?_)
              replace S : Sat _ _ _ := S
              refine Then.nx ?_
              refine W.ret ?_
              refine BodyQ.ret2 Tryd.results21 (ResV.tmp _ rfl) (by first | exact (ResV.cell _ rfl (loadSN sz_58 S 0 rfl rfl rfl)) | exact (ResV.cell _ rfl (loadSN sz_58 S 1 rfl rfl rfl)) | exact (ResV.cell _ rfl (loadSN sz_58 S 2 rfl rfl rfl)) | exact (ResV.cell _ rfl (loadSN sz_58 S 3 rfl rfl rfl)) | exact (ResV.cell _ rfl (loadSN sz_58 S 4 rfl rfl rfl)) | exact (ResV.cell _ rfl (loadSN sz_58 S 5 rfl rfl rfl)) | exact (ResV.cell _ rfl (loadSN sz_58 S 6 rfl rfl rfl)) | exact (ResV.cell _ rfl (loadSN sz_58 S 7 rfl rfl rfl))) ?_
              first | (exfalso; omega) | (rw [doesM_one (x := x) (by omega) rfl]; (repeat (first | rw [if_pos (by omega)] | rw [if_neg (by omega)])); exact ⟨a, cap, rfl, S.pk (by repeat (first | exact Pk.nil _ | exact Pk.refl _ | refine Pk.cons 0 rfl ?_ | refine Pk.cons 1 rfl ?_ | refine Pk.cons 2 rfl ?_ | refine Pk.cons 3 rfl ?_ | refine Pk.cons 4 rfl ?_ | refine Pk.cons 5 rfl ?_ | refine Pk.cons 6 rfl ?_ | refine Pk.cons 7 rfl ?_ | refine Pk.cons 8 rfl ?_ | refine Pk.cons 9 rfl ?_ | refine Pk.cons 10 rfl ?_ | refine Pk.cons 11 rfl ?_ | refine Pk.cons 12 rfl ?_ | refine Pk.cons 13 rfl ?_ | refine Pk.drop ?_))⟩)
            · have rh11 := h11
              (try simp only [decide_eq_true_eq, decide_eq_false_iff_not, Bool.not_eq_true', Bool.not_eq_false', Bool.and_eq_true, Bool.or_eq_true, Bool.and_eq_false_iff, Bool.or_eq_false_iff, Bool.not_true, Bool.not_false] at h11)
              refine W.skip ?_
              refine InB.nx ?_
              refine Then.nx ?_
              refine W.seq ?_
              refine W.draw (.q 0 (.q 1 (.q 2 (.e 3 .nil)))) (fun w => Sat _ w _) rfl rfl (by kernel_rfl) rfl (by kernel_rfl) (by repeat (first | exact BodyQ.noFrame | refine Then.noFrame ?_ | refine InB.noFrame ?_)) S.drew ?_
              clear S
              refine Plan.q rfl (fun w S => Y.move (v := .slice _ _ _) rfl) ?_
              first | refine Plan.q rfl (fun w S => Y.load rfl (loadSN sz_58 S 0 rfl rfl rfl)) ?_ | refine Plan.q rfl (fun w S => Y.load rfl (loadSN sz_58 S 1 rfl rfl rfl)) ?_ | refine Plan.q rfl (fun w S => Y.load rfl (loadSN sz_58 S 2 rfl rfl rfl)) ?_ | refine Plan.q rfl (fun w S => Y.load rfl (loadSN sz_58 S 3 rfl rfl rfl)) ?_
              refine Plan.q rfl (fun w S => Y.assign (v := .slice _ _ _) rfl) ?_
              first | refine Plan.e0 rfl (fun w S => O.store (v := .agg _) 0 S rfl rfl rfl sz_58 rfl rfl rfl rfl (fun w S => ?_)) | refine Plan.e0 rfl (fun w S => O.store (v := .agg _) 1 S rfl rfl rfl sz_58 rfl rfl rfl rfl (fun w S => ?_)) | refine Plan.e0 rfl (fun w S => O.store (v := .agg _) 2 S rfl rfl rfl sz_58 rfl rfl rfl rfl (fun w S => ?_)) | refine Plan.e0 rfl (fun w S => O.store (v := .agg _) 3 S rfl rfl rfl sz_58 rfl rfl rfl rfl (fun w S => ?_))
              refine ⟨(fun w => Sat _ w _), S, (.inl (by kernel_rfl)), ?_⟩
              clear S
              refine Plan.nil (fun w S => ?_)
              replace S : Sat _ _ _ := S
              refine Then.nx ?_
              refine W.ret ?_
              refine BodyQ.ret2 Tryd.results21 (ResV.tmp _ rfl) (by first | exact (ResV.cell _ rfl (loadSN sz_58 S 0 rfl rfl rfl)) | exact (ResV.cell _ rfl (loadSN sz_58 S 1 rfl rfl rfl)) | exact (ResV.cell _ rfl (loadSN sz_58 S 2 rfl rfl rfl)) | exact (ResV.cell _ rfl (loadSN sz_58 S 3 rfl rfl rfl)) | exact (ResV.cell _ rfl (loadSN sz_58 S 4 rfl rfl rfl)) | exact (ResV.cell _ rfl (loadSN sz_58 S 5 rfl rfl rfl)) | exact (ResV.cell _ rfl (loadSN sz_58 S 6 rfl rfl rfl)) | exact (ResV.cell _ rfl (loadSN sz_58 S 7 rfl rfl rfl))) ?_
              first | (exfalso; omega) | (rw [doesM_one (x := x) (by omega) rfl]; (repeat (first | rw [if_pos (by omega)] | rw [if_neg (by omega)])); exact ⟨a, cap, rfl, S.pk (by repeat (first | exact Pk.nil _ | exact Pk.refl _ | refine Pk.cons 0 rfl ?_ | refine Pk.cons 1 rfl ?_ | refine Pk.cons 2 rfl ?_ | refine Pk.cons 3 rfl ?_ | refine Pk.cons 4 rfl ?_ | refine Pk.cons 5 rfl ?_ | refine Pk.cons 6 rfl ?_ | refine Pk.cons 7 rfl ?_ | refine Pk.cons 8 rfl ?_ | refine Pk.cons 9 rfl ?_ | refine Pk.cons 10 rfl ?_ | refine Pk.cons 11 rfl ?_ | refine Pk.cons 12 rfl ?_ | refine Pk.cons 13 rfl ?_ | refine Pk.drop ?_))⟩)
theorem begin_spec (w0 : World) (k : Int) (hk : 1 ≤ k ∧ k ≤ 4) :
    Calls Tryd.prog 19 [.int .i64 k].toArray w0 (fun e w => ∃ a cap, e = .returned (.slice a (linBegin k).length cap) ∧ Sat w0 w [Sub 2 a cap (linBegin k)]) := by
  have S := Sat.refl w0
  refine calls_of_W (args := [.int .i64 k]) 10 Tryd.func19 rfl Tryd.ntmps19 rfl ?_
  refine W.seq ?_
  refine W.region rfl ?_
  refine WO.q (Y.assign (v := .slice _ _ _) rfl) ?_
  refine WO.nil ?_
  refine Then.nx ?_
  refine W.seq ?_
  refine W.seq ?_
  refine W.region rfl ?_
  refine WO.q (Y.move (v := .int .i64 _) rfl) ?_
  refine WO.q (Y.eql rfl rfl) ?_
  refine WO.q (Y.move (v := .bool _) rfl) ?_
  refine WO.splitB (fun h1 => ?_) (fun h1 => ?_)
  · (try simp only [decide_eq_true_eq, decide_eq_false_iff_not, Bool.not_eq_true', Bool.not_eq_false', Bool.and_eq_true, Bool.or_eq_true, Bool.and_eq_false_iff, Bool.or_eq_false_iff, Bool.not_true, Bool.not_false] at h1)
    refine WO.qF rfl ?_
    refine WO.qF rfl ?_
    refine WO.q (Y.pickT (u := .bool _) rfl rfl) ?_
    refine WO.nil ?_
    refine Then.nx ?_
    first | refine W.condT rfl ?_ | refine W.condT (congrArg Value.bool (by assumption)) ?_
    refine W.seq ?_
    refine W.region rfl ?_
    refine WO.q (Y.assign (v := .slice _ _ _) rfl) ?_
    refine WO.nil ?_
    refine Then.nx ?_
    refine W.ret ?_
    refine Then.r ?_
    refine BodyQ.ret1 Tryd.results19 (ResV.tmp _ rfl) ?_
    first | (rw [show linBegin k = [] from if_pos (by omega)]; exact ⟨none, 0, rfl, (S.nilOwn (tI .i64) 2).imp 0 rfl (fun _ h => Sub.own h)⟩) | (rw [show linBegin k = [0] from if_neg (by omega)]; exact ⟨_, 1, rfl, (S.imp 0 rfl (fun _ h => Sub.one h)).pk (by repeat (first | exact Pk.nil _ | exact Pk.refl _ | refine Pk.cons 0 rfl ?_ | refine Pk.cons 1 rfl ?_ | refine Pk.cons 2 rfl ?_ | refine Pk.cons 3 rfl ?_ | refine Pk.cons 4 rfl ?_ | refine Pk.cons 5 rfl ?_ | refine Pk.cons 6 rfl ?_ | refine Pk.cons 7 rfl ?_ | refine Pk.cons 8 rfl ?_ | refine Pk.cons 9 rfl ?_ | refine Pk.cons 10 rfl ?_ | refine Pk.cons 11 rfl ?_ | refine Pk.cons 12 rfl ?_ | refine Pk.cons 13 rfl ?_ | refine Pk.drop ?_))⟩)
  · (try simp only [decide_eq_true_eq, decide_eq_false_iff_not, Bool.not_eq_true', Bool.not_eq_false', Bool.and_eq_true, Bool.or_eq_true, Bool.and_eq_false_iff, Bool.or_eq_false_iff, Bool.not_true, Bool.not_false] at h1)
    refine WO.qT rfl (Y.move (v := .int .i64 _) rfl) ?_
    refine WO.qT rfl (Y.eql rfl rfl) ?_
    refine WO.q (Y.pickF (u := .bool _) rfl rfl) ?_
    refine WO.nil ?_
    refine Then.nx ?_
    refine W.cond rfl (fun h2 => ?_) (fun h2 => ?_) -- cond 0
    · have rh2 := h2
      (try simp only [decide_eq_true_eq, decide_eq_false_iff_not, Bool.not_eq_true', Bool.not_eq_false', Bool.and_eq_true, Bool.or_eq_true, Bool.and_eq_false_iff, Bool.or_eq_false_iff, Bool.not_true, Bool.not_false] at h2)
      refine W.seq ?_
      refine W.region rfl ?_
      refine WO.q (Y.assign (v := .slice _ _ _) rfl) ?_
      refine WO.nil ?_
      refine Then.nx ?_
      refine W.ret ?_
      refine Then.r ?_
      refine BodyQ.ret1 Tryd.results19 (ResV.tmp _ rfl) ?_
      first | (rw [show linBegin k = [] from if_pos (by omega)]; exact ⟨none, 0, rfl, (S.nilOwn (tI .i64) 2).imp 0 rfl (fun _ h => Sub.own h)⟩) | (rw [show linBegin k = [0] from if_neg (by omega)]; exact ⟨_, 1, rfl, (S.imp 0 rfl (fun _ h => Sub.one h)).pk (by repeat (first | exact Pk.nil _ | exact Pk.refl _ | refine Pk.cons 0 rfl ?_ | refine Pk.cons 1 rfl ?_ | refine Pk.cons 2 rfl ?_ | refine Pk.cons 3 rfl ?_ | refine Pk.cons 4 rfl ?_ | refine Pk.cons 5 rfl ?_ | refine Pk.cons 6 rfl ?_ | refine Pk.cons 7 rfl ?_ | refine Pk.cons 8 rfl ?_ | refine Pk.cons 9 rfl ?_ | refine Pk.cons 10 rfl ?_ | refine Pk.cons 11 rfl ?_ | refine Pk.cons 12 rfl ?_ | refine Pk.cons 13 rfl ?_ | refine Pk.drop ?_))⟩)
    · have rh2 := h2
      (try simp only [decide_eq_true_eq, decide_eq_false_iff_not, Bool.not_eq_true', Bool.not_eq_false', Bool.and_eq_true, Bool.or_eq_true, Bool.and_eq_false_iff, Bool.or_eq_false_iff, Bool.not_true, Bool.not_false] at h2)
      refine W.skip ?_
      refine Then.nx ?_
      refine W.seq ?_
      refine W.region rfl ?_
      first | refine WO.e (O.buildSlice rfl (buildOne sl_54 (by decide) rfl rfl) S (fun b9 w S => ?_)) | refine WO.e (O.buildSlice rfl (buildOne sl_54 (by decide) rfl (by simp)) S (fun b9 w S => ?_)) | refine WO.e (O.buildSlice rfl (bs_54_1_0) S (fun b9 w S => ?_))
      refine WO.q (Y.assign (v := .slice _ _ _) rfl) ?_
      refine WO.nil ?_
      refine Then.nx ?_
      refine W.ret ?_
      refine BodyQ.ret1 Tryd.results19 (ResV.tmp _ rfl) ?_
      first | (rw [show linBegin k = [] from if_pos (by omega)]; exact ⟨none, 0, rfl, (S.nilOwn (tI .i64) 2).imp 0 rfl (fun _ h => Sub.own h)⟩) | (rw [show linBegin k = [0] from if_neg (by omega)]; exact ⟨_, 1, rfl, (S.imp 0 rfl (fun _ h => Sub.one h)).pk (by repeat (first | exact Pk.nil _ | exact Pk.refl _ | refine Pk.cons 0 rfl ?_ | refine Pk.cons 1 rfl ?_ | refine Pk.cons 2 rfl ?_ | refine Pk.cons 3 rfl ?_ | refine Pk.cons 4 rfl ?_ | refine Pk.cons 5 rfl ?_ | refine Pk.cons 6 rfl ?_ | refine Pk.cons 7 rfl ?_ | refine Pk.cons 8 rfl ?_ | refine Pk.cons 9 rfl ?_ | refine Pk.cons 10 rfl ?_ | refine Pk.cons 11 rfl ?_ | refine Pk.cons 12 rfl ?_ | refine Pk.cons 13 rfl ?_ | refine Pk.drop ?_))⟩)
theorem tidy_spec (w0 : World) (k : Int) (c : GCall) (hk : 1 ≤ k ∧ k ≤ 4) :
    Calls Tryd.prog 20 [.int .i64 k, .agg (tCall.enc c).toArray].toArray w0 (fun e w => e = .returned (.agg (tCall.enc (tidyM k c)).toArray) ∧ Ext w0 w) := by
  have S := Sat.refl w0
  refine calls_of_W (args := [.int .i64 k, .agg (tCall.enc c).toArray]) 38 Tryd.func20 rfl Tryd.ntmps20 rfl ?_
  refine W.seq ?_
  refine W.region rfl ?_
  refine WO.e (O.box rfl rfl S (fun b3 w S => ?_))
  refine WO.e (O.alloc z_58 S (fun b4 w S => ?_))
  refine WO.nil ?_
  refine Then.nx ?_
  refine W.seq ?_
  refine W.region rfl ?_
  refine WO.q (Y.fieldB fo_58_0 rfl) ?_
  first | refine WO.q (Y.load rfl (loadS1 sz_56 S 0 rfl rfl)) ?_ | refine WO.q (Y.load rfl (loadS1 sz_56 S 1 rfl rfl)) ?_ | refine WO.q (Y.load rfl (loadS1 sz_56 S 2 rfl rfl)) ?_ | refine WO.q (Y.load rfl (loadS1 sz_56 S 3 rfl rfl)) ?_
  refine WO.q (Y.fieldB fo_58_1 rfl) ?_
  first | refine WO.q (Y.load rfl (loadS1 sz_2 S 0 rfl rfl)) ?_ | refine WO.q (Y.load rfl (loadS1 sz_2 S 1 rfl rfl)) ?_ | refine WO.q (Y.load rfl (loadS1 sz_2 S 2 rfl rfl)) ?_ | refine WO.q (Y.load rfl (loadS1 sz_2 S 3 rfl rfl)) ?_
  refine WO.q (Y.build rfl (bld_58_0_1)) ?_
  refine WO.e (O.alloc z_58 S (fun b5 w S => ?_))
  first | refine WO.e0 (O.store (v := .agg _) 0 S rfl rfl rfl sz_58 rfl rfl rfl rfl (fun w S => ?_)) | refine WO.e0 (O.store (v := .agg _) 1 S rfl rfl rfl sz_58 rfl rfl rfl rfl (fun w S => ?_)) | refine WO.e0 (O.store (v := .agg _) 2 S rfl rfl rfl sz_58 rfl rfl rfl rfl (fun w S => ?_)) | refine WO.e0 (O.store (v := .agg _) 3 S rfl rfl rfl sz_58 rfl rfl rfl rfl (fun w S => ?_))
  refine WO.nil ?_
  refine Then.nx ?_
  refine W.seq ?_
  refine W.seq ?_
  refine W.region rfl ?_
  refine WO.q (Y.move (v := .int .i64 _) rfl) ?_
  refine WO.nil ?_
  refine Then.nx ?_
  refine W.block ?_
  refine W.seq ?_
  refine W.seq ?_
  refine W.region rfl ?_
  refine WO.q (Y.eql rfl rfl) ?_
  refine WO.q (Y.assign (v := .bool _) rfl) ?_
  refine WO.nil ?_
  refine Then.nx ?_
  refine W.cond rfl (fun h1 => ?_) (fun h1 => ?_) -- cond 0
  · have rh1 := h1
    (try simp only [decide_eq_true_eq, decide_eq_false_iff_not, Bool.not_eq_true', Bool.not_eq_false', Bool.and_eq_true, Bool.or_eq_true, Bool.and_eq_false_iff, Bool.or_eq_false_iff, Bool.not_true, Bool.not_false] at h1)
    refine W.skip ?_
    refine Then.nx ?_
    first | refine W.condT rfl ?_ | refine W.condT (congrArg Value.bool (by assumption)) ?_
    refine W.seq ?_
    refine W.region rfl ?_
    refine WO.q (Y.fieldB fo_58_0 rfl) ?_
    first | refine WO.q (Y.load rfl (loadS1 sz_56 S 0 rfl rfl)) ?_ | refine WO.q (Y.load rfl (loadS1 sz_56 S 1 rfl rfl)) ?_ | refine WO.q (Y.load rfl (loadS1 sz_56 S 2 rfl rfl)) ?_ | refine WO.q (Y.load rfl (loadS1 sz_56 S 3 rfl rfl)) ?_
    refine WO.q (Y.neq rfl rfl) ?_
    refine WO.nil ?_
    refine Then.nx ?_
    refine W.cond rfl (fun h2 => ?_) (fun h2 => ?_) -- cond 1
    · have rh2 := h2
      (try simp only [decide_eq_true_eq, decide_eq_false_iff_not, Bool.not_eq_true', Bool.not_eq_false', Bool.and_eq_true, Bool.or_eq_true, Bool.and_eq_false_iff, Bool.or_eq_false_iff, Bool.not_true, Bool.not_false] at h2)
      refine W.region rfl ?_
      refine WO.q (Y.build rfl (bld_58_0)) ?_
      first | refine WO.e0 (O.store (v := .agg _) 0 S rfl rfl rfl sz_58 rfl rfl rfl rfl (fun w S => ?_)) | refine WO.e0 (O.store (v := .agg _) 1 S rfl rfl rfl sz_58 rfl rfl rfl rfl (fun w S => ?_)) | refine WO.e0 (O.store (v := .agg _) 2 S rfl rfl rfl sz_58 rfl rfl rfl rfl (fun w S => ?_)) | refine WO.e0 (O.store (v := .agg _) 3 S rfl rfl rfl sz_58 rfl rfl rfl rfl (fun w S => ?_))
      refine WO.nil ?_
      refine InB.nx ?_
      refine Then.nx ?_
      refine W.seq ?_
      refine W.region rfl ?_
      first | refine WO.q (Y.load rfl (loadSN sz_58 S 0 rfl rfl rfl)) ?_ | refine WO.q (Y.load rfl (loadSN sz_58 S 1 rfl rfl rfl)) ?_ | refine WO.q (Y.load rfl (loadSN sz_58 S 2 rfl rfl rfl)) ?_ | refine WO.q (Y.load rfl (loadSN sz_58 S 3 rfl rfl rfl)) ?_
      first | refine WO.e0 (O.store (v := .agg _) 0 S rfl rfl rfl sz_58 rfl rfl rfl rfl (fun w S => ?_)) | refine WO.e0 (O.store (v := .agg _) 1 S rfl rfl rfl sz_58 rfl rfl rfl rfl (fun w S => ?_)) | refine WO.e0 (O.store (v := .agg _) 2 S rfl rfl rfl sz_58 rfl rfl rfl rfl (fun w S => ?_)) | refine WO.e0 (O.store (v := .agg _) 3 S rfl rfl rfl sz_58 rfl rfl rfl rfl (fun w S => ?_))
      refine WO.nil ?_
      refine Then.nx ?_
      refine W.ret ?_
      refine BodyQ.ret1 Tryd.results20 (by first | exact (ResV.cell _ rfl (loadSN sz_58 S 0 rfl rfl rfl)) | exact (ResV.cell _ rfl (loadSN sz_58 S 1 rfl rfl rfl)) | exact (ResV.cell _ rfl (loadSN sz_58 S 2 rfl rfl rfl)) | exact (ResV.cell _ rfl (loadSN sz_58 S 3 rfl rfl rfl)) | exact (ResV.cell _ rfl (loadSN sz_58 S 4 rfl rfl rfl)) | exact (ResV.cell _ rfl (loadSN sz_58 S 5 rfl rfl rfl)) | exact (ResV.cell _ rfl (loadSN sz_58 S 6 rfl rfl rfl)) | exact (ResV.cell _ rfl (loadSN sz_58 S 7 rfl rfl rfl))) ?_
      first | (exfalso; omega) | (unfold tidyM; (repeat (first | rw [if_pos (by omega)] | rw [if_neg (by omega)])); exact ⟨rfl, S.ext⟩)
    · have rh2 := h2
      (try simp only [decide_eq_true_eq, decide_eq_false_iff_not, Bool.not_eq_true', Bool.not_eq_false', Bool.and_eq_true, Bool.or_eq_true, Bool.and_eq_false_iff, Bool.or_eq_false_iff, Bool.not_true, Bool.not_false] at h2)
      refine W.skip ?_
      refine InB.nx ?_
      refine Then.nx ?_
      refine W.seq ?_
      refine W.region rfl ?_
      first | refine WO.q (Y.load rfl (loadSN sz_58 S 0 rfl rfl rfl)) ?_ | refine WO.q (Y.load rfl (loadSN sz_58 S 1 rfl rfl rfl)) ?_ | refine WO.q (Y.load rfl (loadSN sz_58 S 2 rfl rfl rfl)) ?_ | refine WO.q (Y.load rfl (loadSN sz_58 S 3 rfl rfl rfl)) ?_
      first | refine WO.e0 (O.store (v := .agg _) 0 S rfl rfl rfl sz_58 rfl rfl rfl rfl (fun w S => ?_)) | refine WO.e0 (O.store (v := .agg _) 1 S rfl rfl rfl sz_58 rfl rfl rfl rfl (fun w S => ?_)) | refine WO.e0 (O.store (v := .agg _) 2 S rfl rfl rfl sz_58 rfl rfl rfl rfl (fun w S => ?_)) | refine WO.e0 (O.store (v := .agg _) 3 S rfl rfl rfl sz_58 rfl rfl rfl rfl (fun w S => ?_))
      refine WO.nil ?_
      refine Then.nx ?_
      refine W.ret ?_
      refine BodyQ.ret1 Tryd.results20 (by first | exact (ResV.cell _ rfl (loadSN sz_58 S 0 rfl rfl rfl)) | exact (ResV.cell _ rfl (loadSN sz_58 S 1 rfl rfl rfl)) | exact (ResV.cell _ rfl (loadSN sz_58 S 2 rfl rfl rfl)) | exact (ResV.cell _ rfl (loadSN sz_58 S 3 rfl rfl rfl)) | exact (ResV.cell _ rfl (loadSN sz_58 S 4 rfl rfl rfl)) | exact (ResV.cell _ rfl (loadSN sz_58 S 5 rfl rfl rfl)) | exact (ResV.cell _ rfl (loadSN sz_58 S 6 rfl rfl rfl)) | exact (ResV.cell _ rfl (loadSN sz_58 S 7 rfl rfl rfl))) ?_
      first | (exfalso; omega) | (unfold tidyM; (repeat (first | rw [if_pos (by omega)] | rw [if_neg (by omega)])); exact ⟨rfl, S.ext⟩)
  · have rh1 := h1
    (try simp only [decide_eq_true_eq, decide_eq_false_iff_not, Bool.not_eq_true', Bool.not_eq_false', Bool.and_eq_true, Bool.or_eq_true, Bool.and_eq_false_iff, Bool.or_eq_false_iff, Bool.not_true, Bool.not_false] at h1)
    refine W.region rfl ?_
    refine WO.q (Y.eql rfl rfl) ?_
    refine WO.q (Y.assign (v := .bool _) rfl) ?_
    refine WO.nil ?_
    refine Then.nx ?_
    refine W.cond rfl (fun h3 => ?_) (fun h3 => ?_) -- cond 2
    · have rh3 := h3
      (try simp only [decide_eq_true_eq, decide_eq_false_iff_not, Bool.not_eq_true', Bool.not_eq_false', Bool.and_eq_true, Bool.or_eq_true, Bool.and_eq_false_iff, Bool.or_eq_false_iff, Bool.not_true, Bool.not_false] at h3)
      refine W.seq ?_
      refine W.region rfl ?_
      refine WO.q (Y.fieldB fo_58_0 rfl) ?_
      first | refine WO.q (Y.load rfl (loadS1 sz_56 S 0 rfl rfl)) ?_ | refine WO.q (Y.load rfl (loadS1 sz_56 S 1 rfl rfl)) ?_ | refine WO.q (Y.load rfl (loadS1 sz_56 S 2 rfl rfl)) ?_ | refine WO.q (Y.load rfl (loadS1 sz_56 S 3 rfl rfl)) ?_
      refine WO.q (Y.neq rfl rfl) ?_
      refine WO.nil ?_
      refine Then.nx ?_
      refine W.cond rfl (fun h4 => ?_) (fun h4 => ?_) -- cond 3
      · have rh4 := h4
        (try simp only [decide_eq_true_eq, decide_eq_false_iff_not, Bool.not_eq_true', Bool.not_eq_false', Bool.and_eq_true, Bool.or_eq_true, Bool.and_eq_false_iff, Bool.or_eq_false_iff, Bool.not_true, Bool.not_false] at h4)
        refine W.region rfl ?_
        refine WO.q (Y.build rfl (bld_58_0)) ?_
        first | refine WO.e0 (O.store (v := .agg _) 0 S rfl rfl rfl sz_58 rfl rfl rfl rfl (fun w S => ?_)) | refine WO.e0 (O.store (v := .agg _) 1 S rfl rfl rfl sz_58 rfl rfl rfl rfl (fun w S => ?_)) | refine WO.e0 (O.store (v := .agg _) 2 S rfl rfl rfl sz_58 rfl rfl rfl rfl (fun w S => ?_)) | refine WO.e0 (O.store (v := .agg _) 3 S rfl rfl rfl sz_58 rfl rfl rfl rfl (fun w S => ?_))
        refine WO.nil ?_
        refine InB.nx ?_
        refine Then.nx ?_
        refine W.seq ?_
        refine W.region rfl ?_
        first | refine WO.q (Y.load rfl (loadSN sz_58 S 0 rfl rfl rfl)) ?_ | refine WO.q (Y.load rfl (loadSN sz_58 S 1 rfl rfl rfl)) ?_ | refine WO.q (Y.load rfl (loadSN sz_58 S 2 rfl rfl rfl)) ?_ | refine WO.q (Y.load rfl (loadSN sz_58 S 3 rfl rfl rfl)) ?_
        first | refine WO.e0 (O.store (v := .agg _) 0 S rfl rfl rfl sz_58 rfl rfl rfl rfl (fun w S => ?_)) | refine WO.e0 (O.store (v := .agg _) 1 S rfl rfl rfl sz_58 rfl rfl rfl rfl (fun w S => ?_)) | refine WO.e0 (O.store (v := .agg _) 2 S rfl rfl rfl sz_58 rfl rfl rfl rfl (fun w S => ?_)) | refine WO.e0 (O.store (v := .agg _) 3 S rfl rfl rfl sz_58 rfl rfl rfl rfl (fun w S => ?_))
        refine WO.nil ?_
        refine Then.nx ?_
        refine W.ret ?_
        refine BodyQ.ret1 Tryd.results20 (by first | exact (ResV.cell _ rfl (loadSN sz_58 S 0 rfl rfl rfl)) | exact (ResV.cell _ rfl (loadSN sz_58 S 1 rfl rfl rfl)) | exact (ResV.cell _ rfl (loadSN sz_58 S 2 rfl rfl rfl)) | exact (ResV.cell _ rfl (loadSN sz_58 S 3 rfl rfl rfl)) | exact (ResV.cell _ rfl (loadSN sz_58 S 4 rfl rfl rfl)) | exact (ResV.cell _ rfl (loadSN sz_58 S 5 rfl rfl rfl)) | exact (ResV.cell _ rfl (loadSN sz_58 S 6 rfl rfl rfl)) | exact (ResV.cell _ rfl (loadSN sz_58 S 7 rfl rfl rfl))) ?_
        first | (exfalso; omega) | (unfold tidyM; (repeat (first | rw [if_pos (by omega)] | rw [if_neg (by omega)])); exact ⟨rfl, S.ext⟩)
      · have rh4 := h4
        (try simp only [decide_eq_true_eq, decide_eq_false_iff_not, Bool.not_eq_true', Bool.not_eq_false', Bool.and_eq_true, Bool.or_eq_true, Bool.and_eq_false_iff, Bool.or_eq_false_iff, Bool.not_true, Bool.not_false] at h4)
        refine W.skip ?_
        refine InB.nx ?_
        refine Then.nx ?_
        refine W.seq ?_
        refine W.region rfl ?_
        first | refine WO.q (Y.load rfl (loadSN sz_58 S 0 rfl rfl rfl)) ?_ | refine WO.q (Y.load rfl (loadSN sz_58 S 1 rfl rfl rfl)) ?_ | refine WO.q (Y.load rfl (loadSN sz_58 S 2 rfl rfl rfl)) ?_ | refine WO.q (Y.load rfl (loadSN sz_58 S 3 rfl rfl rfl)) ?_
        first | refine WO.e0 (O.store (v := .agg _) 0 S rfl rfl rfl sz_58 rfl rfl rfl rfl (fun w S => ?_)) | refine WO.e0 (O.store (v := .agg _) 1 S rfl rfl rfl sz_58 rfl rfl rfl rfl (fun w S => ?_)) | refine WO.e0 (O.store (v := .agg _) 2 S rfl rfl rfl sz_58 rfl rfl rfl rfl (fun w S => ?_)) | refine WO.e0 (O.store (v := .agg _) 3 S rfl rfl rfl sz_58 rfl rfl rfl rfl (fun w S => ?_))
        refine WO.nil ?_
        refine Then.nx ?_
        refine W.ret ?_
        refine BodyQ.ret1 Tryd.results20 (by first | exact (ResV.cell _ rfl (loadSN sz_58 S 0 rfl rfl rfl)) | exact (ResV.cell _ rfl (loadSN sz_58 S 1 rfl rfl rfl)) | exact (ResV.cell _ rfl (loadSN sz_58 S 2 rfl rfl rfl)) | exact (ResV.cell _ rfl (loadSN sz_58 S 3 rfl rfl rfl)) | exact (ResV.cell _ rfl (loadSN sz_58 S 4 rfl rfl rfl)) | exact (ResV.cell _ rfl (loadSN sz_58 S 5 rfl rfl rfl)) | exact (ResV.cell _ rfl (loadSN sz_58 S 6 rfl rfl rfl)) | exact (ResV.cell _ rfl (loadSN sz_58 S 7 rfl rfl rfl))) ?_
        first | (exfalso; omega) | (unfold tidyM; (repeat (first | rw [if_pos (by omega)] | rw [if_neg (by omega)])); exact ⟨rfl, S.ext⟩)
    · have rh3 := h3
      (try simp only [decide_eq_true_eq, decide_eq_false_iff_not, Bool.not_eq_true', Bool.not_eq_false', Bool.and_eq_true, Bool.or_eq_true, Bool.and_eq_false_iff, Bool.or_eq_false_iff, Bool.not_true, Bool.not_false] at h3)
      refine W.seq ?_
      refine W.region rfl ?_
      refine WO.q (Y.eql rfl rfl) ?_
      refine WO.q (Y.assign (v := .bool _) rfl) ?_
      refine WO.nil ?_
      refine Then.nx ?_
      refine W.cond rfl (fun h5 => ?_) (fun h5 => ?_) -- cond 4
      · have rh5 := h5
        (try simp only [decide_eq_true_eq, decide_eq_false_iff_not, Bool.not_eq_true', Bool.not_eq_false', Bool.and_eq_true, Bool.or_eq_true, Bool.and_eq_false_iff, Bool.or_eq_false_iff, Bool.not_true, Bool.not_false] at h5)
        refine W.seq ?_
        refine W.region rfl ?_
        refine WO.q (Y.fieldB fo_58_0 rfl) ?_
        first | refine WO.q (Y.load rfl (loadS1 sz_56 S 0 rfl rfl)) ?_ | refine WO.q (Y.load rfl (loadS1 sz_56 S 1 rfl rfl)) ?_ | refine WO.q (Y.load rfl (loadS1 sz_56 S 2 rfl rfl)) ?_ | refine WO.q (Y.load rfl (loadS1 sz_56 S 3 rfl rfl)) ?_
        refine WO.q (Y.neq rfl rfl) ?_
        refine WO.nil ?_
        refine Then.nx ?_
        refine W.cond rfl (fun h6 => ?_) (fun h6 => ?_) -- cond 5
        · have rh6 := h6
          (try simp only [decide_eq_true_eq, decide_eq_false_iff_not, Bool.not_eq_true', Bool.not_eq_false', Bool.and_eq_true, Bool.or_eq_true, Bool.and_eq_false_iff, Bool.or_eq_false_iff, Bool.not_true, Bool.not_false] at h6)
          refine W.region rfl ?_
          refine WO.q (Y.build rfl (bld_58_0)) ?_
          first | refine WO.e0 (O.store (v := .agg _) 0 S rfl rfl rfl sz_58 rfl rfl rfl rfl (fun w S => ?_)) | refine WO.e0 (O.store (v := .agg _) 1 S rfl rfl rfl sz_58 rfl rfl rfl rfl (fun w S => ?_)) | refine WO.e0 (O.store (v := .agg _) 2 S rfl rfl rfl sz_58 rfl rfl rfl rfl (fun w S => ?_)) | refine WO.e0 (O.store (v := .agg _) 3 S rfl rfl rfl sz_58 rfl rfl rfl rfl (fun w S => ?_))
          refine WO.nil ?_
          refine InB.nx ?_
          refine Then.nx ?_
          refine W.seq ?_
          refine W.region rfl ?_
          first | refine WO.q (Y.load rfl (loadSN sz_58 S 0 rfl rfl rfl)) ?_ | refine WO.q (Y.load rfl (loadSN sz_58 S 1 rfl rfl rfl)) ?_ | refine WO.q (Y.load rfl (loadSN sz_58 S 2 rfl rfl rfl)) ?_ | refine WO.q (Y.load rfl (loadSN sz_58 S 3 rfl rfl rfl)) ?_
          first | refine WO.e0 (O.store (v := .agg _) 0 S rfl rfl rfl sz_58 rfl rfl rfl rfl (fun w S => ?_)) | refine WO.e0 (O.store (v := .agg _) 1 S rfl rfl rfl sz_58 rfl rfl rfl rfl (fun w S => ?_)) | refine WO.e0 (O.store (v := .agg _) 2 S rfl rfl rfl sz_58 rfl rfl rfl rfl (fun w S => ?_)) | refine WO.e0 (O.store (v := .agg _) 3 S rfl rfl rfl sz_58 rfl rfl rfl rfl (fun w S => ?_))
          refine WO.nil ?_
          refine Then.nx ?_
          refine W.ret ?_
          refine BodyQ.ret1 Tryd.results20 (by first | exact (ResV.cell _ rfl (loadSN sz_58 S 0 rfl rfl rfl)) | exact (ResV.cell _ rfl (loadSN sz_58 S 1 rfl rfl rfl)) | exact (ResV.cell _ rfl (loadSN sz_58 S 2 rfl rfl rfl)) | exact (ResV.cell _ rfl (loadSN sz_58 S 3 rfl rfl rfl)) | exact (ResV.cell _ rfl (loadSN sz_58 S 4 rfl rfl rfl)) | exact (ResV.cell _ rfl (loadSN sz_58 S 5 rfl rfl rfl)) | exact (ResV.cell _ rfl (loadSN sz_58 S 6 rfl rfl rfl)) | exact (ResV.cell _ rfl (loadSN sz_58 S 7 rfl rfl rfl))) ?_
          first | (exfalso; omega) | (unfold tidyM; (repeat (first | rw [if_pos (by omega)] | rw [if_neg (by omega)])); exact ⟨rfl, S.ext⟩)
        · have rh6 := h6
          (try simp only [decide_eq_true_eq, decide_eq_false_iff_not, Bool.not_eq_true', Bool.not_eq_false', Bool.and_eq_true, Bool.or_eq_true, Bool.and_eq_false_iff, Bool.or_eq_false_iff, Bool.not_true, Bool.not_false] at h6)
          refine W.skip ?_
          refine InB.nx ?_
          refine Then.nx ?_
          refine W.seq ?_
          refine W.region rfl ?_
          first | refine WO.q (Y.load rfl (loadSN sz_58 S 0 rfl rfl rfl)) ?_ | refine WO.q (Y.load rfl (loadSN sz_58 S 1 rfl rfl rfl)) ?_ | refine WO.q (Y.load rfl (loadSN sz_58 S 2 rfl rfl rfl)) ?_ | refine WO.q (Y.load rfl (loadSN sz_58 S 3 rfl rfl rfl)) ?_
          first | refine WO.e0 (O.store (v := .agg _) 0 S rfl rfl rfl sz_58 rfl rfl rfl rfl (fun w S => ?_)) | refine WO.e0 (O.store (v := .agg _) 1 S rfl rfl rfl sz_58 rfl rfl rfl rfl (fun w S => ?_)) | refine WO.e0 (O.store (v := .agg _) 2 S rfl rfl rfl sz_58 rfl rfl rfl rfl (fun w S => ?_)) | refine WO.e0 (O.store (v := .agg _) 3 S rfl rfl rfl sz_58 rfl rfl rfl rfl (fun w S => ?_))
          refine WO.nil ?_
          refine Then.nx ?_
          refine W.ret ?_
          refine BodyQ.ret1 Tryd.results20 (by first | exact (ResV.cell _ rfl (loadSN sz_58 S 0 rfl rfl rfl)) | exact (ResV.cell _ rfl (loadSN sz_58 S 1 rfl rfl rfl)) | exact (ResV.cell _ rfl (loadSN sz_58 S 2 rfl rfl rfl)) | exact (ResV.cell _ rfl (loadSN sz_58 S 3 rfl rfl rfl)) | exact (ResV.cell _ rfl (loadSN sz_58 S 4 rfl rfl rfl)) | exact (ResV.cell _ rfl (loadSN sz_58 S 5 rfl rfl rfl)) | exact (ResV.cell _ rfl (loadSN sz_58 S 6 rfl rfl rfl)) | exact (ResV.cell _ rfl (loadSN sz_58 S 7 rfl rfl rfl))) ?_
          first | (exfalso; omega) | (unfold tidyM; (repeat (first | rw [if_pos (by omega)] | rw [if_neg (by omega)])); exact ⟨rfl, S.ext⟩)
      · have rh5 := h5
        (try simp only [decide_eq_true_eq, decide_eq_false_iff_not, Bool.not_eq_true', Bool.not_eq_false', Bool.and_eq_true, Bool.or_eq_true, Bool.and_eq_false_iff, Bool.or_eq_false_iff, Bool.not_true, Bool.not_false] at h5)
        refine W.seq ?_
        refine W.region rfl ?_
        refine WO.q (Y.eql rfl rfl) ?_
        refine WO.q (Y.assign (v := .bool _) rfl) ?_
        refine WO.nil ?_
        refine Then.nx ?_
        refine W.cond rfl (fun h7 => ?_) (fun h7 => ?_) -- cond 6
        · have rh7 := h7
          (try simp only [decide_eq_true_eq, decide_eq_false_iff_not, Bool.not_eq_true', Bool.not_eq_false', Bool.and_eq_true, Bool.or_eq_true, Bool.and_eq_false_iff, Bool.or_eq_false_iff, Bool.not_true, Bool.not_false] at h7)
          refine W.seq ?_
          refine W.region rfl ?_
          refine WO.q (Y.fieldB fo_58_0 rfl) ?_
          first | refine WO.q (Y.load rfl (loadS1 sz_56 S 0 rfl rfl)) ?_ | refine WO.q (Y.load rfl (loadS1 sz_56 S 1 rfl rfl)) ?_ | refine WO.q (Y.load rfl (loadS1 sz_56 S 2 rfl rfl)) ?_ | refine WO.q (Y.load rfl (loadS1 sz_56 S 3 rfl rfl)) ?_
          refine WO.q (Y.eql rfl rfl) ?_
          refine WO.nil ?_
          refine Then.nx ?_
          refine W.cond rfl (fun h8 => ?_) (fun h8 => ?_) -- cond 7
          · have rh8 := h8
            (try simp only [decide_eq_true_eq, decide_eq_false_iff_not, Bool.not_eq_true', Bool.not_eq_false', Bool.and_eq_true, Bool.or_eq_true, Bool.and_eq_false_iff, Bool.or_eq_false_iff, Bool.not_true, Bool.not_false] at h8)
            refine W.region rfl ?_
            refine WO.q (Y.fieldB fo_58_2 rfl) ?_
            first | refine WO.q (Y.load rfl (loadS1 sz_2 S 0 rfl rfl)) ?_ | refine WO.q (Y.load rfl (loadS1 sz_2 S 1 rfl rfl)) ?_ | refine WO.q (Y.load rfl (loadS1 sz_2 S 2 rfl rfl)) ?_ | refine WO.q (Y.load rfl (loadS1 sz_2 S 3 rfl rfl)) ?_
            refine WO.q (Y.fieldB fo_58_2 rfl) ?_
            first | refine WO.e0 (O.store (v := .int .i64 _) 0 S rfl rfl rfl sz_2 rfl rfl rfl rfl (fun w S => ?_)) | refine WO.e0 (O.store (v := .int .i64 _) 1 S rfl rfl rfl sz_2 rfl rfl rfl rfl (fun w S => ?_)) | refine WO.e0 (O.store (v := .int .i64 _) 2 S rfl rfl rfl sz_2 rfl rfl rfl rfl (fun w S => ?_)) | refine WO.e0 (O.store (v := .int .i64 _) 3 S rfl rfl rfl sz_2 rfl rfl rfl rfl (fun w S => ?_))
            refine WO.nil ?_
            refine InB.nx ?_
            refine Then.nx ?_
            refine W.seq ?_
            refine W.region rfl ?_
            first | refine WO.q (Y.load rfl (loadSN sz_58 S 0 rfl rfl rfl)) ?_ | refine WO.q (Y.load rfl (loadSN sz_58 S 1 rfl rfl rfl)) ?_ | refine WO.q (Y.load rfl (loadSN sz_58 S 2 rfl rfl rfl)) ?_ | refine WO.q (Y.load rfl (loadSN sz_58 S 3 rfl rfl rfl)) ?_
            first | refine WO.e0 (O.store (v := .agg _) 0 S rfl rfl rfl sz_58 rfl rfl rfl rfl (fun w S => ?_)) | refine WO.e0 (O.store (v := .agg _) 1 S rfl rfl rfl sz_58 rfl rfl rfl rfl (fun w S => ?_)) | refine WO.e0 (O.store (v := .agg _) 2 S rfl rfl rfl sz_58 rfl rfl rfl rfl (fun w S => ?_)) | refine WO.e0 (O.store (v := .agg _) 3 S rfl rfl rfl sz_58 rfl rfl rfl rfl (fun w S => ?_))
            refine WO.nil ?_
            refine Then.nx ?_
            refine W.ret ?_
            refine BodyQ.ret1 Tryd.results20 (by first | exact (ResV.cell _ rfl (loadSN sz_58 S 0 rfl rfl rfl)) | exact (ResV.cell _ rfl (loadSN sz_58 S 1 rfl rfl rfl)) | exact (ResV.cell _ rfl (loadSN sz_58 S 2 rfl rfl rfl)) | exact (ResV.cell _ rfl (loadSN sz_58 S 3 rfl rfl rfl)) | exact (ResV.cell _ rfl (loadSN sz_58 S 4 rfl rfl rfl)) | exact (ResV.cell _ rfl (loadSN sz_58 S 5 rfl rfl rfl)) | exact (ResV.cell _ rfl (loadSN sz_58 S 6 rfl rfl rfl)) | exact (ResV.cell _ rfl (loadSN sz_58 S 7 rfl rfl rfl))) ?_
            first | (exfalso; omega) | (unfold tidyM; (repeat (first | rw [if_pos (by omega)] | rw [if_neg (by omega)])); exact ⟨rfl, S.ext⟩)
          · have rh8 := h8
            (try simp only [decide_eq_true_eq, decide_eq_false_iff_not, Bool.not_eq_true', Bool.not_eq_false', Bool.and_eq_true, Bool.or_eq_true, Bool.and_eq_false_iff, Bool.or_eq_false_iff, Bool.not_true, Bool.not_false] at h8)
            refine W.seq ?_
            refine W.region rfl ?_
            refine WO.q (Y.fieldB fo_58_0 rfl) ?_
            first | refine WO.q (Y.load rfl (loadS1 sz_56 S 0 rfl rfl)) ?_ | refine WO.q (Y.load rfl (loadS1 sz_56 S 1 rfl rfl)) ?_ | refine WO.q (Y.load rfl (loadS1 sz_56 S 2 rfl rfl)) ?_ | refine WO.q (Y.load rfl (loadS1 sz_56 S 3 rfl rfl)) ?_
            refine WO.q (Y.neq rfl rfl) ?_
            refine WO.nil ?_
            refine Then.nx ?_
            refine W.cond rfl (fun h9 => ?_) (fun h9 => ?_) -- cond 8
            · have rh9 := h9
              (try simp only [decide_eq_true_eq, decide_eq_false_iff_not, Bool.not_eq_true', Bool.not_eq_false', Bool.and_eq_true, Bool.or_eq_true, Bool.and_eq_false_iff, Bool.or_eq_false_iff, Bool.not_true, Bool.not_false] at h9)
              refine W.region rfl ?_
              refine WO.q (Y.build rfl (bld_58_0)) ?_
              first | refine WO.e0 (O.store (v := .agg _) 0 S rfl rfl rfl sz_58 rfl rfl rfl rfl (fun w S => ?_)) | refine WO.e0 (O.store (v := .agg _) 1 S rfl rfl rfl sz_58 rfl rfl rfl rfl (fun w S => ?_)) | refine WO.e0 (O.store (v := .agg _) 2 S rfl rfl rfl sz_58 rfl rfl rfl rfl (fun w S => ?_)) | refine WO.e0 (O.store (v := .agg _) 3 S rfl rfl rfl sz_58 rfl rfl rfl rfl (fun w S => ?_))
              refine WO.nil ?_
              refine InB.nx ?_
              refine Then.nx ?_
              refine W.seq ?_
              refine W.region rfl ?_
              first | refine WO.q (Y.load rfl (loadSN sz_58 S 0 rfl rfl rfl)) ?_ | refine WO.q (Y.load rfl (loadSN sz_58 S 1 rfl rfl rfl)) ?_ | refine WO.q (Y.load rfl (loadSN sz_58 S 2 rfl rfl rfl)) ?_ | refine WO.q (Y.load rfl (loadSN sz_58 S 3 rfl rfl rfl)) ?_
              first | refine WO.e0 (O.store (v := .agg _) 0 S rfl rfl rfl sz_58 rfl rfl rfl rfl (fun w S => ?_)) | refine WO.e0 (O.store (v := .agg _) 1 S rfl rfl rfl sz_58 rfl rfl rfl rfl (fun w S => ?_)) | refine WO.e0 (O.store (v := .agg _) 2 S rfl rfl rfl sz_58 rfl rfl rfl rfl (fun w S => ?_)) | refine WO.e0 (O.store (v := .agg _) 3 S rfl rfl rfl sz_58 rfl rfl rfl rfl (fun w S => ?_))
              refine WO.nil ?_
              refine Then.nx ?_
              refine W.ret ?_
              refine BodyQ.ret1 Tryd.results20 (by first | exact (ResV.cell _ rfl (loadSN sz_58 S 0 rfl rfl rfl)) | exact (ResV.cell _ rfl (loadSN sz_58 S 1 rfl rfl rfl)) | exact (ResV.cell _ rfl (loadSN sz_58 S 2 rfl rfl rfl)) | exact (ResV.cell _ rfl (loadSN sz_58 S 3 rfl rfl rfl)) | exact (ResV.cell _ rfl (loadSN sz_58 S 4 rfl rfl rfl)) | exact (ResV.cell _ rfl (loadSN sz_58 S 5 rfl rfl rfl)) | exact (ResV.cell _ rfl (loadSN sz_58 S 6 rfl rfl rfl)) | exact (ResV.cell _ rfl (loadSN sz_58 S 7 rfl rfl rfl))) ?_
              first | (exfalso; omega) | (unfold tidyM; (repeat (first | rw [if_pos (by omega)] | rw [if_neg (by omega)])); exact ⟨rfl, S.ext⟩)
            · have rh9 := h9
              (try simp only [decide_eq_true_eq, decide_eq_false_iff_not, Bool.not_eq_true', Bool.not_eq_false', Bool.and_eq_true, Bool.or_eq_true, Bool.and_eq_false_iff, Bool.or_eq_false_iff, Bool.not_true, Bool.not_false] at h9)
              refine W.skip ?_
              refine InB.nx ?_
              refine Then.nx ?_
              refine W.seq ?_
              refine W.region rfl ?_
              first | refine WO.q (Y.load rfl (loadSN sz_58 S 0 rfl rfl rfl)) ?_ | refine WO.q (Y.load rfl (loadSN sz_58 S 1 rfl rfl rfl)) ?_ | refine WO.q (Y.load rfl (loadSN sz_58 S 2 rfl rfl rfl)) ?_ | refine WO.q (Y.load rfl (loadSN sz_58 S 3 rfl rfl rfl)) ?_
              first | refine WO.e0 (O.store (v := .agg _) 0 S rfl rfl rfl sz_58 rfl rfl rfl rfl (fun w S => ?_)) | refine WO.e0 (O.store (v := .agg _) 1 S rfl rfl rfl sz_58 rfl rfl rfl rfl (fun w S => ?_)) | refine WO.e0 (O.store (v := .agg _) 2 S rfl rfl rfl sz_58 rfl rfl rfl rfl (fun w S => ?_)) | refine WO.e0 (O.store (v := .agg _) 3 S rfl rfl rfl sz_58 rfl rfl rfl rfl (fun w S => ?_))
              refine WO.nil ?_
              refine Then.nx ?_
              refine W.ret ?_
              refine BodyQ.ret1 Tryd.results20 (by first | exact (ResV.cell _ rfl (loadSN sz_58 S 0 rfl rfl rfl)) | exact (ResV.cell _ rfl (loadSN sz_58 S 1 rfl rfl rfl)) | exact (ResV.cell _ rfl (loadSN sz_58 S 2 rfl rfl rfl)) | exact (ResV.cell _ rfl (loadSN sz_58 S 3 rfl rfl rfl)) | exact (ResV.cell _ rfl (loadSN sz_58 S 4 rfl rfl rfl)) | exact (ResV.cell _ rfl (loadSN sz_58 S 5 rfl rfl rfl)) | exact (ResV.cell _ rfl (loadSN sz_58 S 6 rfl rfl rfl)) | exact (ResV.cell _ rfl (loadSN sz_58 S 7 rfl rfl rfl))) ?_
              first | (exfalso; omega) | (unfold tidyM; (repeat (first | rw [if_pos (by omega)] | rw [if_neg (by omega)])); exact ⟨rfl, S.ext⟩)
        · have rh7 := h7
          (try simp only [decide_eq_true_eq, decide_eq_false_iff_not, Bool.not_eq_true', Bool.not_eq_false', Bool.and_eq_true, Bool.or_eq_true, Bool.and_eq_false_iff, Bool.or_eq_false_iff, Bool.not_true, Bool.not_false] at h7)
          refine W.skip ?_
          refine InB.nx ?_
          refine Then.nx ?_
          refine W.seq ?_
          refine W.region rfl ?_
          first | refine WO.q (Y.load rfl (loadSN sz_58 S 0 rfl rfl rfl)) ?_ | refine WO.q (Y.load rfl (loadSN sz_58 S 1 rfl rfl rfl)) ?_ | refine WO.q (Y.load rfl (loadSN sz_58 S 2 rfl rfl rfl)) ?_ | refine WO.q (Y.load rfl (loadSN sz_58 S 3 rfl rfl rfl)) ?_
          first | refine WO.e0 (O.store (v := .agg _) 0 S rfl rfl rfl sz_58 rfl rfl rfl rfl (fun w S => ?_)) | refine WO.e0 (O.store (v := .agg _) 1 S rfl rfl rfl sz_58 rfl rfl rfl rfl (fun w S => ?_)) | refine WO.e0 (O.store (v := .agg _) 2 S rfl rfl rfl sz_58 rfl rfl rfl rfl (fun w S => ?_)) | refine WO.e0 (O.store (v := .agg _) 3 S rfl rfl rfl sz_58 rfl rfl rfl rfl (fun w S => ?_))
          refine WO.nil ?_
          refine Then.nx ?_
          refine W.ret ?_
          refine BodyQ.ret1 Tryd.results20 (by first | exact (ResV.cell _ rfl (loadSN sz_58 S 0 rfl rfl rfl)) | exact (ResV.cell _ rfl (loadSN sz_58 S 1 rfl rfl rfl)) | exact (ResV.cell _ rfl (loadSN sz_58 S 2 rfl rfl rfl)) | exact (ResV.cell _ rfl (loadSN sz_58 S 3 rfl rfl rfl)) | exact (ResV.cell _ rfl (loadSN sz_58 S 4 rfl rfl rfl)) | exact (ResV.cell _ rfl (loadSN sz_58 S 5 rfl rfl rfl)) | exact (ResV.cell _ rfl (loadSN sz_58 S 6 rfl rfl rfl)) | exact (ResV.cell _ rfl (loadSN sz_58 S 7 rfl rfl rfl))) ?_
          first | (exfalso; omega) | (unfold tidyM; (repeat (first | rw [if_pos (by omega)] | rw [if_neg (by omega)])); exact ⟨rfl, S.ext⟩)
end Go.Proofs
