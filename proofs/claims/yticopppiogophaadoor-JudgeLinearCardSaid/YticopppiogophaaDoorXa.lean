/-
  Walks of rright, Do, free.
-/
import Derived.Test.YticopppiogophaaDoorTr
import Derived.Test.YticopppiogophaaDoorSx
import Derived.Test.YticopppiogophaaDoorFa
import Derived.Test.YticopppiogophaaDoorFb
import Derived.Test.YticopppiogophaaDoorFc
set_option linter.unusedVariables false
set_option linter.unusedSimpArgs false
set_option maxRecDepth 100000
set_option maxHeartbeats 1000000
namespace Go.Proofs
open Go Go.TL Go.RowKit
theorem rright_spec (w0 : World) (k : Int) (c : GCall) (hk : 1 ≤ k ∧ k ≤ 4) :
    Calls Tryd.prog 47 [.int .i64 k, .agg (tCall.enc c).toArray].toArray w0 (fun e w => e = .returned (.bool (rightR k c)) ∧ Ext w0 w) := by
  have S := Sat.refl w0
  refine calls_of_W (args := [.int .i64 k, .agg (tCall.enc c).toArray]) 137 Tryd.func47 rfl Tryd.ntmps47 rfl ?_
  refine W.seq ?_
  refine W.region rfl ?_
  refine WO.e (O.box rfl rfl S (fun b3 w S => ?_))
  refine WO.q (Y.assign (v := .bool _) rfl) ?_
  refine WO.nil ?_
  refine Then.nx ?_
  refine W.seq ?_
  refine W.cut1 [10, 11, 12, 13, 14, 15, 16, 17, 18, 19, 20, 21, 22, 23, 24, 25, 26, 27, 28, 29, 30, 31, 32, 33, 34, 35, 36, 37, 38] 38 (fun v38 w => v38 = .bool (badC c) ∧ Sat w0 w [Cel b3 (tCall.enc c) 58]) ?_ ?_
  ·
    refine W.region rfl ?_
    refine WO.q (Y.fieldB fo_58_5 rfl) ?_
    first | refine WO.q (Y.load rfl (loadS1 sz_3 S 0 rfl rfl)) ?_ | refine WO.q (Y.load rfl (loadS1 sz_3 S 1 rfl rfl)) ?_
    refine WO.q (Y.lss rfl rfl) ?_
    refine WO.q (Y.move (v := .bool _) rfl) ?_
    refine WO.splitB (fun h1 => ?_) (fun h1 => ?_)
    · (try simp only [decide_eq_true_eq, decide_eq_false_iff_not, Bool.not_eq_true', Bool.not_eq_false', Bool.and_eq_true, Bool.or_eq_true, Bool.and_eq_false_iff, Bool.or_eq_false_iff, Bool.not_true, Bool.not_false] at h1)
      refine WO.qF rfl ?_
      refine WO.qF rfl ?_
      refine WO.qF rfl ?_
      refine WO.qF rfl ?_
      refine WO.qF rfl ?_
      refine WO.qF rfl ?_
      refine WO.qF rfl ?_
      refine WO.qF rfl ?_
      refine WO.qF rfl ?_
      refine WO.qF rfl ?_
      refine WO.q (Y.pickT (u := .bool _) rfl rfl) ?_
      refine WO.q (Y.move (v := .bool _) rfl) ?_
      refine WO.qF rfl ?_
      refine WO.qF rfl ?_
      refine WO.qF rfl ?_
      refine WO.qF rfl ?_
      refine WO.qF rfl ?_
      refine WO.qF rfl ?_
      refine WO.qF rfl ?_
      refine WO.qF rfl ?_
      refine WO.qF rfl ?_
      refine WO.qF rfl ?_
      refine WO.qF rfl ?_
      refine WO.qF rfl ?_
      refine WO.q (Y.pickT (u := .bool _) rfl rfl) ?_
      refine WO.nil ?_
      refine Then.nx ⟨?_, ?_⟩
      · (repeat (first | exact Out.hav _ _ _ | exact Out.refl _ _ | refine Out.up rfl ?_ | refine Out.sub rfl ?_))
      · first | (exfalso; omega) | exact ⟨by (show Value.bool _ = Value.bool _; congr 1; unfold badC; repeat (first | rw [if_pos (by omega)] | rw [if_neg (by omega)])), S⟩
    · (try simp only [decide_eq_true_eq, decide_eq_false_iff_not, Bool.not_eq_true', Bool.not_eq_false', Bool.and_eq_true, Bool.or_eq_true, Bool.and_eq_false_iff, Bool.or_eq_false_iff, Bool.not_true, Bool.not_false] at h1)
      refine WO.qT rfl (Y.fieldB fo_58_6 rfl) ?_
      first | refine WO.qT rfl (Y.load rfl (loadS1 sz_3 S 0 rfl rfl)) ?_ | refine WO.qT rfl (Y.load rfl (loadS1 sz_3 S 1 rfl rfl)) ?_
      refine WO.qT rfl (Y.neq rfl rfl) ?_
      refine WO.qT rfl (Y.move (v := .bool _) rfl) ?_
      refine WO.splitB (fun h2 => ?_) (fun h2 => ?_)
      · (try simp only [decide_eq_true_eq, decide_eq_false_iff_not, Bool.not_eq_true', Bool.not_eq_false', Bool.and_eq_true, Bool.or_eq_true, Bool.and_eq_false_iff, Bool.or_eq_false_iff, Bool.not_true, Bool.not_false] at h2)
        refine WO.qT rfl (Y.fieldB fo_58_6 rfl) ?_
        first | refine WO.qT rfl (Y.load rfl (loadS1 sz_3 S 0 rfl rfl)) ?_ | refine WO.qT rfl (Y.load rfl (loadS1 sz_3 S 1 rfl rfl)) ?_
        refine WO.qT rfl (Y.fieldB fo_58_5 rfl) ?_
        first | refine WO.qT rfl (Y.load rfl (loadS1 sz_3 S 0 rfl rfl)) ?_ | refine WO.qT rfl (Y.load rfl (loadS1 sz_3 S 1 rfl rfl)) ?_
        refine WO.qT rfl (Y.lss rfl rfl) ?_
        refine WO.qT rfl (Y.pickT (u := .bool _) rfl rfl) ?_
        refine WO.q (Y.pickF (u := .bool _) rfl rfl) ?_
        refine WO.q (Y.move (v := .bool _) rfl) ?_
        refine WO.splitB (fun h3 => ?_) (fun h3 => ?_)
        · (try simp only [decide_eq_true_eq, decide_eq_false_iff_not, Bool.not_eq_true', Bool.not_eq_false', Bool.and_eq_true, Bool.or_eq_true, Bool.and_eq_false_iff, Bool.or_eq_false_iff, Bool.not_true, Bool.not_false] at h3)
          refine WO.qF rfl ?_
          refine WO.qF rfl ?_
          refine WO.qF rfl ?_
          refine WO.qF rfl ?_
          refine WO.qF rfl ?_
          refine WO.qF rfl ?_
          refine WO.qF rfl ?_
          refine WO.qF rfl ?_
          refine WO.qF rfl ?_
          refine WO.qF rfl ?_
          refine WO.qF rfl ?_
          refine WO.qF rfl ?_
          refine WO.q (Y.pickT (u := .bool _) rfl rfl) ?_
          refine WO.nil ?_
          refine Then.nx ⟨?_, ?_⟩
          · (repeat (first | exact Out.hav _ _ _ | exact Out.refl _ _ | refine Out.up rfl ?_ | refine Out.sub rfl ?_))
          · first | (exfalso; omega) | exact ⟨by (show Value.bool _ = Value.bool _; congr 1; unfold badC; repeat (first | rw [if_pos (by omega)] | rw [if_neg (by omega)])), S⟩
        · (try simp only [decide_eq_true_eq, decide_eq_false_iff_not, Bool.not_eq_true', Bool.not_eq_false', Bool.and_eq_true, Bool.or_eq_true, Bool.and_eq_false_iff, Bool.or_eq_false_iff, Bool.not_true, Bool.not_false] at h3)
          refine WO.qT rfl (Y.fieldB fo_58_6 rfl) ?_
          first | refine WO.qT rfl (Y.load rfl (loadS1 sz_3 S 0 rfl rfl)) ?_ | refine WO.qT rfl (Y.load rfl (loadS1 sz_3 S 1 rfl rfl)) ?_
          refine WO.qT rfl (Y.eql rfl rfl) ?_
          refine WO.qT rfl (Y.move (v := .bool _) rfl) ?_
          refine WO.splitB (fun h4 => ?_) (fun h4 => ?_)
          · (try simp only [decide_eq_true_eq, decide_eq_false_iff_not, Bool.not_eq_true', Bool.not_eq_false', Bool.and_eq_true, Bool.or_eq_true, Bool.and_eq_false_iff, Bool.or_eq_false_iff, Bool.not_true, Bool.not_false] at h4)
            refine WO.qT rfl (Y.fieldB fo_58_3 rfl) ?_
            first | refine WO.qT rfl (Y.load rfl (loadS1 sz_2 S 0 rfl rfl)) ?_ | refine WO.qT rfl (Y.load rfl (loadS1 sz_2 S 1 rfl rfl)) ?_
            refine WO.qT rfl (Y.neq rfl rfl) ?_
            refine WO.qT rfl (Y.move (v := .bool _) rfl) ?_
            refine WO.splitB (fun h5 => ?_) (fun h5 => ?_)
            · (try simp only [decide_eq_true_eq, decide_eq_false_iff_not, Bool.not_eq_true', Bool.not_eq_false', Bool.and_eq_true, Bool.or_eq_true, Bool.and_eq_false_iff, Bool.or_eq_false_iff, Bool.not_true, Bool.not_false] at h5)
              refine WO.qF rfl ?_
              refine WO.qF rfl ?_
              refine WO.qT rfl (Y.pickT (u := .bool _) rfl rfl) ?_
              refine WO.qT rfl (Y.pickT (u := .bool _) rfl rfl) ?_
              refine WO.q (Y.pickF (u := .bool _) rfl rfl) ?_
              refine WO.nil ?_
              refine Then.nx ⟨?_, ?_⟩
              · (repeat (first | exact Out.hav _ _ _ | exact Out.refl _ _ | refine Out.up rfl ?_ | refine Out.sub rfl ?_))
              · first | (exfalso; omega) | exact ⟨by (show Value.bool _ = Value.bool _; congr 1; unfold badC; repeat (first | rw [if_pos (by omega)] | rw [if_neg (by omega)])), S⟩
            · (try simp only [decide_eq_true_eq, decide_eq_false_iff_not, Bool.not_eq_true', Bool.not_eq_false', Bool.and_eq_true, Bool.or_eq_true, Bool.and_eq_false_iff, Bool.or_eq_false_iff, Bool.not_true, Bool.not_false] at h5)
              refine WO.qT rfl (Y.fieldB fo_58_4 rfl) ?_
              first | refine WO.qT rfl (Y.load rfl (loadS1 sz_4 S 0 rfl rfl)) ?_ | refine WO.qT rfl (Y.load rfl (loadS1 sz_4 S 1 rfl rfl)) ?_
              refine WO.qT rfl (Y.pickF (u := .bool _) rfl rfl) ?_
              refine WO.qT rfl (Y.pickT (u := .bool _) rfl rfl) ?_
              refine WO.q (Y.pickF (u := .bool _) rfl rfl) ?_
              refine WO.nil ?_
              refine Then.nx ⟨?_, ?_⟩
              · (repeat (first | exact Out.hav _ _ _ | exact Out.refl _ _ | refine Out.up rfl ?_ | refine Out.sub rfl ?_))
              · first | (exfalso; omega) | exact ⟨by (show Value.bool _ = Value.bool _; congr 1; unfold badC; repeat (first | rw [if_pos (by omega)] | rw [if_neg (by omega)])), S⟩
          · (try simp only [decide_eq_true_eq, decide_eq_false_iff_not, Bool.not_eq_true', Bool.not_eq_false', Bool.and_eq_true, Bool.or_eq_true, Bool.and_eq_false_iff, Bool.or_eq_false_iff, Bool.not_true, Bool.not_false] at h4)
            refine WO.qF rfl ?_
            refine WO.qF rfl ?_
            refine WO.qF rfl ?_
            refine WO.qF rfl ?_
            refine WO.qF rfl ?_
            refine WO.qF rfl ?_
            refine WO.qF rfl ?_
            refine WO.qT rfl (Y.pickF (u := .bool _) rfl rfl) ?_
            refine WO.q (Y.pickF (u := .bool _) rfl rfl) ?_
            refine WO.nil ?_
            refine Then.nx ⟨?_, ?_⟩
            · (repeat (first | exact Out.hav _ _ _ | exact Out.refl _ _ | refine Out.up rfl ?_ | refine Out.sub rfl ?_))
            · first | (exfalso; omega) | exact ⟨by (show Value.bool _ = Value.bool _; congr 1; unfold badC; repeat (first | rw [if_pos (by omega)] | rw [if_neg (by omega)])), S⟩
      · (try simp only [decide_eq_true_eq, decide_eq_false_iff_not, Bool.not_eq_true', Bool.not_eq_false', Bool.and_eq_true, Bool.or_eq_true, Bool.and_eq_false_iff, Bool.or_eq_false_iff, Bool.not_true, Bool.not_false] at h2)
        refine WO.qF rfl ?_
        refine WO.qF rfl ?_
        refine WO.qF rfl ?_
        refine WO.qF rfl ?_
        refine WO.qF rfl ?_
        refine WO.qT rfl (Y.pickF (u := .bool _) rfl rfl) ?_
        refine WO.q (Y.pickF (u := .bool _) rfl rfl) ?_
        refine WO.q (Y.move (v := .bool _) rfl) ?_
        refine WO.qT rfl (Y.fieldB fo_58_6 rfl) ?_
        first | refine WO.qT rfl (Y.load rfl (loadS1 sz_3 S 0 rfl rfl)) ?_ | refine WO.qT rfl (Y.load rfl (loadS1 sz_3 S 1 rfl rfl)) ?_
        refine WO.qT rfl (Y.eql rfl rfl) ?_
        refine WO.qT rfl (Y.move (v := .bool _) rfl) ?_
        refine WO.splitB (fun h6 => ?_) (fun h6 => ?_)
        · (try simp only [decide_eq_true_eq, decide_eq_false_iff_not, Bool.not_eq_true', Bool.not_eq_false', Bool.and_eq_true, Bool.or_eq_true, Bool.and_eq_false_iff, Bool.or_eq_false_iff, Bool.not_true, Bool.not_false] at h6)
          refine WO.qT rfl (Y.fieldB fo_58_3 rfl) ?_
          first | refine WO.qT rfl (Y.load rfl (loadS1 sz_2 S 0 rfl rfl)) ?_ | refine WO.qT rfl (Y.load rfl (loadS1 sz_2 S 1 rfl rfl)) ?_
          refine WO.qT rfl (Y.neq rfl rfl) ?_
          refine WO.qT rfl (Y.move (v := .bool _) rfl) ?_
          refine WO.splitB (fun h7 => ?_) (fun h7 => ?_)
          · (try simp only [decide_eq_true_eq, decide_eq_false_iff_not, Bool.not_eq_true', Bool.not_eq_false', Bool.and_eq_true, Bool.or_eq_true, Bool.and_eq_false_iff, Bool.or_eq_false_iff, Bool.not_true, Bool.not_false] at h7)
            refine WO.qF rfl ?_
            refine WO.qF rfl ?_
            refine WO.qT rfl (Y.pickT (u := .bool _) rfl rfl) ?_
            refine WO.qT rfl (Y.pickT (u := .bool _) rfl rfl) ?_
            refine WO.q (Y.pickF (u := .bool _) rfl rfl) ?_
            refine WO.nil ?_
            refine Then.nx ⟨?_, ?_⟩
            · (repeat (first | exact Out.hav _ _ _ | exact Out.refl _ _ | refine Out.up rfl ?_ | refine Out.sub rfl ?_))
            · first | (exfalso; omega) | exact ⟨by (show Value.bool _ = Value.bool _; congr 1; unfold badC; repeat (first | rw [if_pos (by omega)] | rw [if_neg (by omega)])), S⟩
          · (try simp only [decide_eq_true_eq, decide_eq_false_iff_not, Bool.not_eq_true', Bool.not_eq_false', Bool.and_eq_true, Bool.or_eq_true, Bool.and_eq_false_iff, Bool.or_eq_false_iff, Bool.not_true, Bool.not_false] at h7)
            refine WO.qT rfl (Y.fieldB fo_58_4 rfl) ?_
            first | refine WO.qT rfl (Y.load rfl (loadS1 sz_4 S 0 rfl rfl)) ?_ | refine WO.qT rfl (Y.load rfl (loadS1 sz_4 S 1 rfl rfl)) ?_
            refine WO.qT rfl (Y.pickF (u := .bool _) rfl rfl) ?_
            refine WO.qT rfl (Y.pickT (u := .bool _) rfl rfl) ?_
            refine WO.q (Y.pickF (u := .bool _) rfl rfl) ?_
            refine WO.nil ?_
            refine Then.nx ⟨?_, ?_⟩
            · (repeat (first | exact Out.hav _ _ _ | exact Out.refl _ _ | refine Out.up rfl ?_ | refine Out.sub rfl ?_))
            · first | (exfalso; omega) | exact ⟨by (show Value.bool _ = Value.bool _; congr 1; unfold badC; repeat (first | rw [if_pos (by omega)] | rw [if_neg (by omega)])), S⟩
        · (try simp only [decide_eq_true_eq, decide_eq_false_iff_not, Bool.not_eq_true', Bool.not_eq_false', Bool.and_eq_true, Bool.or_eq_true, Bool.and_eq_false_iff, Bool.or_eq_false_iff, Bool.not_true, Bool.not_false] at h6)
          refine WO.qF rfl ?_
          refine WO.qF rfl ?_
          refine WO.qF rfl ?_
          refine WO.qF rfl ?_
          refine WO.qF rfl ?_
          refine WO.qF rfl ?_
          refine WO.qF rfl ?_
          refine WO.qT rfl (Y.pickF (u := .bool _) rfl rfl) ?_
          refine WO.q (Y.pickF (u := .bool _) rfl rfl) ?_
          refine WO.nil ?_
          refine Then.nx ⟨?_, ?_⟩
          · (repeat (first | exact Out.hav _ _ _ | exact Out.refl _ _ | refine Out.up rfl ?_ | refine Out.sub rfl ?_))
          · first | (exfalso; omega) | exact ⟨by (show Value.bool _ = Value.bool _; congr 1; unfold badC; repeat (first | rw [if_pos (by omega)] | rw [if_neg (by omega)])), S⟩
  · rintro gj182 v38 w ⟨rfl, S⟩
    refine W.cond rfl (fun h8 => ?_) (fun h8 => ?_) -- cond 0
    · have rh8 := h8
      (try simp only [decide_eq_true_eq, decide_eq_false_iff_not, Bool.not_eq_true', Bool.not_eq_false', Bool.and_eq_true, Bool.or_eq_true, Bool.and_eq_false_iff, Bool.or_eq_false_iff, Bool.not_true, Bool.not_false] at h8)
      refine W.seq ?_
      refine W.region rfl ?_
      refine WO.q (Y.assign (v := .bool _) rfl) ?_
      refine WO.nil ?_
      refine Then.nx ?_
      refine W.ret ?_
      refine Then.r ?_
      refine BodyQ.ret1 Tryd.results47 (ResV.tmp _ rfl) ?_
      first | exact ⟨retB (by (unfold rightR; rw [show badC c = true by assumption]; rfl)), S.ext⟩ | exact ⟨retB (by (unfold rightR; simp [*])), S.ext⟩
    · have rh8 := h8
      (try simp only [decide_eq_true_eq, decide_eq_false_iff_not, Bool.not_eq_true', Bool.not_eq_false', Bool.and_eq_true, Bool.or_eq_true, Bool.and_eq_false_iff, Bool.or_eq_false_iff, Bool.not_true, Bool.not_false] at h8)
      refine W.skip ?_
      refine Then.nx ?_
      refine W.seq ?_
      refine W.region rfl ?_
      refine WO.q (Y.assign (v := .bool _) rfl) ?_
      refine WO.q (Y.assign (v := .bool _) rfl) ?_
      refine WO.q (Y.assign (v := .bool _) rfl) ?_
      refine WO.q (Y.assign (v := .bool _) rfl) ?_
      refine WO.nil ?_
      refine Then.nx ?_
      refine W.seq ?_
      refine W.region rfl ?_
      refine WO.q (Y.assign (v := .bool _) rfl) ?_
      refine WO.nil ?_
      refine Then.nx ?_
      refine W.cut5 [5, 6, 7, 8, 9, 39, 40, 41, 42, 43, 44, 45, 46, 47, 48, 49, 50, 51, 52, 53, 54, 55, 56, 57, 58, 59, 60, 61, 62, 63, 64, 65, 66, 67, 68, 69, 70, 71, 72, 73, 74, 75, 76, 77, 78, 79, 80, 81, 82, 83, 84, 85, 86, 87, 88, 89, 90, 91, 92, 93, 94, 95, 96, 97, 98, 99, 100, 101, 102, 103] 5 6 7 8 9 (fun v5 v6 v7 v8 v9 w => v5 = .bool (flagsR k c).2.1 ∧ v6 = .bool (flagsR k c).2.2.1 ∧ v7 = .bool (flagsR k c).2.2.2.1 ∧ v8 = .bool (flagsR k c).2.2.2.2 ∧ v9 = .bool (flagsR k c).1 ∧ Sat w0 w [Cel b3 (tCall.enc c) 58]) ?_ ?_
      ·
        refine W.seq ?_
        refine W.region rfl ?_
        refine WO.q (Y.move (v := .int .i64 _) rfl) ?_
        refine WO.nil ?_
        refine Then.nx ?_
        refine W.block ?_
        refine W.seq ?_
        refine W.seq ?_
        refine W.region rfl ?_
        refine WO.q (Y.eql rfl rfl) ?_
        refine WO.q (Y.assign (v := .bool _) rfl) ?_
        refine WO.nil ?_
        refine Then.nx ?_
        refine W.cond rfl (fun h9 => ?_) (fun h9 => ?_) -- cond 1
        · have rh9 := h9
          (try simp only [decide_eq_true_eq, decide_eq_false_iff_not, Bool.not_eq_true', Bool.not_eq_false', Bool.and_eq_true, Bool.or_eq_true, Bool.and_eq_false_iff, Bool.or_eq_false_iff, Bool.not_true, Bool.not_false] at h9)
          refine W.skip ?_
          refine Then.nx ?_
          first | refine W.condT rfl ?_ | refine W.condT (congrArg Value.bool (by assumption)) ?_
          refine W.seq ?_
          refine W.region rfl ?_
          refine WO.q (Y.fieldB fo_58_0 rfl) ?_
          first | refine WO.q (Y.load rfl (loadS1 sz_56 S 0 rfl rfl)) ?_ | refine WO.q (Y.load rfl (loadS1 sz_56 S 1 rfl rfl)) ?_
          refine WO.q (Y.eql rfl rfl) ?_
          refine WO.q (Y.move (v := .bool _) rfl) ?_
          refine WO.splitB (fun h10 => ?_) (fun h10 => ?_)
          · (try simp only [decide_eq_true_eq, decide_eq_false_iff_not, Bool.not_eq_true', Bool.not_eq_false', Bool.and_eq_true, Bool.or_eq_true, Bool.and_eq_false_iff, Bool.or_eq_false_iff, Bool.not_true, Bool.not_false] at h10)
            refine WO.qF rfl ?_
            refine WO.qF rfl ?_
            refine WO.qF rfl ?_
            refine WO.q (Y.pickT (u := .bool _) rfl rfl) ?_
            refine WO.q (Y.assign (v := .bool _) rfl) ?_
            refine WO.nil ?_
            refine Then.nx ?_
            refine W.seq ?_
            refine W.region rfl ?_
            refine WO.q (Y.fieldB fo_58_0 rfl) ?_
            first | refine WO.q (Y.load rfl (loadS1 sz_56 S 0 rfl rfl)) ?_ | refine WO.q (Y.load rfl (loadS1 sz_56 S 1 rfl rfl)) ?_
            refine WO.q (Y.eql rfl rfl) ?_
            refine WO.q (Y.assign (v := .bool _) rfl) ?_
            refine WO.nil ?_
            refine Then.nx ?_
            refine W.seq ?_
            refine W.region rfl ?_
            refine WO.q (Y.fieldB fo_58_0 rfl) ?_
            first | refine WO.q (Y.load rfl (loadS1 sz_56 S 0 rfl rfl)) ?_ | refine WO.q (Y.load rfl (loadS1 sz_56 S 1 rfl rfl)) ?_
            refine WO.q (Y.eql rfl rfl) ?_
            refine WO.q (Y.move (v := .bool _) rfl) ?_
            refine WO.splitB (fun h11 => ?_) (fun h11 => ?_)
            · (try simp only [decide_eq_true_eq, decide_eq_false_iff_not, Bool.not_eq_true', Bool.not_eq_false', Bool.and_eq_true, Bool.or_eq_true, Bool.and_eq_false_iff, Bool.or_eq_false_iff, Bool.not_true, Bool.not_false] at h11)
              refine WO.qT rfl (Y.fieldB fo_58_4 rfl) ?_
              first | refine WO.qT rfl (Y.load rfl (loadS1 sz_4 S 0 rfl rfl)) ?_ | refine WO.qT rfl (Y.load rfl (loadS1 sz_4 S 1 rfl rfl)) ?_
              refine WO.q (Y.pickT (u := .bool _) rfl rfl) ?_
              refine WO.q (Y.assign (v := .bool _) rfl) ?_
              refine WO.nil ?_
              refine Then.nx ?_
              refine W.region rfl ?_
              refine WO.q (Y.fieldB fo_58_0 rfl) ?_
              first | refine WO.q (Y.load rfl (loadS1 sz_56 S 0 rfl rfl)) ?_ | refine WO.q (Y.load rfl (loadS1 sz_56 S 1 rfl rfl)) ?_
              refine WO.q (Y.eql rfl rfl) ?_
              refine WO.q (Y.assign (v := .bool _) rfl) ?_
              refine WO.nil ?_
              refine InB.nx ?_
              refine Then.nx ⟨?_, ?_⟩
              · (repeat (first | exact Out.hav _ _ _ | exact Out.refl _ _ | refine Out.up rfl ?_ | refine Out.sub rfl ?_))
              · first | (exfalso; omega) | exact ⟨by (show Value.bool _ = Value.bool _; congr 1; first | rfl | simp [flagsR, *]), by (show Value.bool _ = Value.bool _; congr 1; first | rfl | simp [flagsR, *]), by (show Value.bool _ = Value.bool _; congr 1; first | rfl | simp [flagsR, *]), by (show Value.bool _ = Value.bool _; congr 1; first | rfl | simp [flagsR, *]), by (show Value.bool _ = Value.bool _; congr 1; first | rfl | simp [flagsR, *]), S⟩
            · (try simp only [decide_eq_true_eq, decide_eq_false_iff_not, Bool.not_eq_true', Bool.not_eq_false', Bool.and_eq_true, Bool.or_eq_true, Bool.and_eq_false_iff, Bool.or_eq_false_iff, Bool.not_true, Bool.not_false] at h11)
              refine WO.qF rfl ?_
              refine WO.qF rfl ?_
              refine WO.q (Y.pickF (u := .bool _) rfl rfl) ?_
              refine WO.q (Y.assign (v := .bool _) rfl) ?_
              refine WO.nil ?_
              refine Then.nx ?_
              refine W.region rfl ?_
              refine WO.q (Y.fieldB fo_58_0 rfl) ?_
              first | refine WO.q (Y.load rfl (loadS1 sz_56 S 0 rfl rfl)) ?_ | refine WO.q (Y.load rfl (loadS1 sz_56 S 1 rfl rfl)) ?_
              refine WO.q (Y.eql rfl rfl) ?_
              refine WO.q (Y.assign (v := .bool _) rfl) ?_
              refine WO.nil ?_
              refine InB.nx ?_
              refine Then.nx ⟨?_, ?_⟩
              · (repeat (first | exact Out.hav _ _ _ | exact Out.refl _ _ | refine Out.up rfl ?_ | refine Out.sub rfl ?_))
              · first | (exfalso; omega) | exact ⟨by (show Value.bool _ = Value.bool _; congr 1; first | rfl | simp [flagsR, *]), by (show Value.bool _ = Value.bool _; congr 1; first | rfl | simp [flagsR, *]), by (show Value.bool _ = Value.bool _; congr 1; first | rfl | simp [flagsR, *]), by (show Value.bool _ = Value.bool _; congr 1; first | rfl | simp [flagsR, *]), by (show Value.bool _ = Value.bool _; congr 1; first | rfl | simp [flagsR, *]), S⟩
          · (try simp only [decide_eq_true_eq, decide_eq_false_iff_not, Bool.not_eq_true', Bool.not_eq_false', Bool.and_eq_true, Bool.or_eq_true, Bool.and_eq_false_iff, Bool.or_eq_false_iff, Bool.not_true, Bool.not_false] at h10)
            refine WO.qT rfl (Y.fieldB fo_58_0 rfl) ?_
            first | refine WO.qT rfl (Y.load rfl (loadS1 sz_56 S 0 rfl rfl)) ?_ | refine WO.qT rfl (Y.load rfl (loadS1 sz_56 S 1 rfl rfl)) ?_
            refine WO.qT rfl (Y.eql rfl rfl) ?_
            refine WO.q (Y.pickF (u := .bool _) rfl rfl) ?_
            refine WO.q (Y.assign (v := .bool _) rfl) ?_
            refine WO.nil ?_
            refine Then.nx ?_
            refine W.seq ?_
            refine W.region rfl ?_
            refine WO.q (Y.fieldB fo_58_0 rfl) ?_
            first | refine WO.q (Y.load rfl (loadS1 sz_56 S 0 rfl rfl)) ?_ | refine WO.q (Y.load rfl (loadS1 sz_56 S 1 rfl rfl)) ?_
            refine WO.q (Y.eql rfl rfl) ?_
            refine WO.q (Y.assign (v := .bool _) rfl) ?_
            refine WO.nil ?_
            refine Then.nx ?_
            refine W.seq ?_
            refine W.region rfl ?_
            refine WO.q (Y.fieldB fo_58_0 rfl) ?_
            first | refine WO.q (Y.load rfl (loadS1 sz_56 S 0 rfl rfl)) ?_ | refine WO.q (Y.load rfl (loadS1 sz_56 S 1 rfl rfl)) ?_
            refine WO.q (Y.eql rfl rfl) ?_
            refine WO.q (Y.move (v := .bool _) rfl) ?_
            refine WO.splitB (fun h12 => ?_) (fun h12 => ?_)
            · (try simp only [decide_eq_true_eq, decide_eq_false_iff_not, Bool.not_eq_true', Bool.not_eq_false', Bool.and_eq_true, Bool.or_eq_true, Bool.and_eq_false_iff, Bool.or_eq_false_iff, Bool.not_true, Bool.not_false] at h12)
              refine WO.qT rfl (Y.fieldB fo_58_4 rfl) ?_
              first | refine WO.qT rfl (Y.load rfl (loadS1 sz_4 S 0 rfl rfl)) ?_ | refine WO.qT rfl (Y.load rfl (loadS1 sz_4 S 1 rfl rfl)) ?_
              refine WO.q (Y.pickT (u := .bool _) rfl rfl) ?_
              refine WO.q (Y.assign (v := .bool _) rfl) ?_
              refine WO.nil ?_
              refine Then.nx ?_
              refine W.region rfl ?_
              refine WO.q (Y.fieldB fo_58_0 rfl) ?_
              first | refine WO.q (Y.load rfl (loadS1 sz_56 S 0 rfl rfl)) ?_ | refine WO.q (Y.load rfl (loadS1 sz_56 S 1 rfl rfl)) ?_
              refine WO.q (Y.eql rfl rfl) ?_
              refine WO.q (Y.assign (v := .bool _) rfl) ?_
              refine WO.nil ?_
              refine InB.nx ?_
              refine Then.nx ⟨?_, ?_⟩
              · (repeat (first | exact Out.hav _ _ _ | exact Out.refl _ _ | refine Out.up rfl ?_ | refine Out.sub rfl ?_))
              · first | (exfalso; omega) | exact ⟨by (show Value.bool _ = Value.bool _; congr 1; first | rfl | simp [flagsR, *]), by (show Value.bool _ = Value.bool _; congr 1; first | rfl | simp [flagsR, *]), by (show Value.bool _ = Value.bool _; congr 1; first | rfl | simp [flagsR, *]), by (show Value.bool _ = Value.bool _; congr 1; first | rfl | simp [flagsR, *]), by (show Value.bool _ = Value.bool _; congr 1; first | rfl | simp [flagsR, *]), S⟩
            · (try simp only [decide_eq_true_eq, decide_eq_false_iff_not, Bool.not_eq_true', Bool.not_eq_false', Bool.and_eq_true, Bool.or_eq_true, Bool.and_eq_false_iff, Bool.or_eq_false_iff, Bool.not_true, Bool.not_false] at h12)
              refine WO.qF rfl ?_
              refine WO.qF rfl ?_
              refine WO.q (Y.pickF (u := .bool _) rfl rfl) ?_
              refine WO.q (Y.assign (v := .bool _) rfl) ?_
              refine WO.nil ?_
              refine Then.nx ?_
              refine W.region rfl ?_
              refine WO.q (Y.fieldB fo_58_0 rfl) ?_
              first | refine WO.q (Y.load rfl (loadS1 sz_56 S 0 rfl rfl)) ?_ | refine WO.q (Y.load rfl (loadS1 sz_56 S 1 rfl rfl)) ?_
              refine WO.q (Y.eql rfl rfl) ?_
              refine WO.q (Y.assign (v := .bool _) rfl) ?_
              refine WO.nil ?_
              refine InB.nx ?_
              refine Then.nx ⟨?_, ?_⟩
              · (repeat (first | exact Out.hav _ _ _ | exact Out.refl _ _ | refine Out.up rfl ?_ | refine Out.sub rfl ?_))
              · first | (exfalso; omega) | exact ⟨by (show Value.bool _ = Value.bool _; congr 1; first | rfl | simp [flagsR, *]), by (show Value.bool _ = Value.bool _; congr 1; first | rfl | simp [flagsR, *]), by (show Value.bool _ = Value.bool _; congr 1; first | rfl | simp [flagsR, *]), by (show Value.bool _ = Value.bool _; congr 1; first | rfl | simp [flagsR, *]), by (show Value.bool _ = Value.bool _; congr 1; first | rfl | simp [flagsR, *]), S⟩
        · have rh9 := h9
          (try simp only [decide_eq_true_eq, decide_eq_false_iff_not, Bool.not_eq_true', Bool.not_eq_false', Bool.and_eq_true, Bool.or_eq_true, Bool.and_eq_false_iff, Bool.or_eq_false_iff, Bool.not_true, Bool.not_false] at h9)
          refine W.region rfl ?_
          refine WO.q (Y.eql rfl rfl) ?_
          refine WO.q (Y.assign (v := .bool _) rfl) ?_
          refine WO.nil ?_
          refine Then.nx ?_
          refine W.cond rfl (fun h13 => ?_) (fun h13 => ?_) -- cond 2
          · have rh13 := h13
            (try simp only [decide_eq_true_eq, decide_eq_false_iff_not, Bool.not_eq_true', Bool.not_eq_false', Bool.and_eq_true, Bool.or_eq_true, Bool.and_eq_false_iff, Bool.or_eq_false_iff, Bool.not_true, Bool.not_false] at h13)
            refine W.seq ?_
            refine W.region rfl ?_
            refine WO.q (Y.fieldB fo_58_0 rfl) ?_
            first | refine WO.q (Y.load rfl (loadS1 sz_56 S 0 rfl rfl)) ?_ | refine WO.q (Y.load rfl (loadS1 sz_56 S 1 rfl rfl)) ?_
            refine WO.q (Y.eql rfl rfl) ?_
            refine WO.q (Y.move (v := .bool _) rfl) ?_
            refine WO.splitB (fun h14 => ?_) (fun h14 => ?_)
            · (try simp only [decide_eq_true_eq, decide_eq_false_iff_not, Bool.not_eq_true', Bool.not_eq_false', Bool.and_eq_true, Bool.or_eq_true, Bool.and_eq_false_iff, Bool.or_eq_false_iff, Bool.not_true, Bool.not_false] at h14)
              refine WO.qF rfl ?_
              refine WO.qF rfl ?_
              refine WO.qF rfl ?_
              refine WO.q (Y.pickT (u := .bool _) rfl rfl) ?_
              refine WO.q (Y.assign (v := .bool _) rfl) ?_
              refine WO.nil ?_
              refine Then.nx ?_
              refine W.seq ?_
              refine W.region rfl ?_
              refine WO.q (Y.fieldB fo_58_0 rfl) ?_
              first | refine WO.q (Y.load rfl (loadS1 sz_56 S 0 rfl rfl)) ?_ | refine WO.q (Y.load rfl (loadS1 sz_56 S 1 rfl rfl)) ?_
              refine WO.q (Y.eql rfl rfl) ?_
              refine WO.q (Y.assign (v := .bool _) rfl) ?_
              refine WO.nil ?_
              refine Then.nx ?_
              refine W.seq ?_
              refine W.region rfl ?_
              refine WO.q (Y.fieldB fo_58_0 rfl) ?_
              first | refine WO.q (Y.load rfl (loadS1 sz_56 S 0 rfl rfl)) ?_ | refine WO.q (Y.load rfl (loadS1 sz_56 S 1 rfl rfl)) ?_
              refine WO.q (Y.eql rfl rfl) ?_
              refine WO.q (Y.move (v := .bool _) rfl) ?_
              refine WO.splitB (fun h15 => ?_) (fun h15 => ?_)
              · (try simp only [decide_eq_true_eq, decide_eq_false_iff_not, Bool.not_eq_true', Bool.not_eq_false', Bool.and_eq_true, Bool.or_eq_true, Bool.and_eq_false_iff, Bool.or_eq_false_iff, Bool.not_true, Bool.not_false] at h15)
                refine WO.qT rfl (Y.fieldB fo_58_4 rfl) ?_
                first | refine WO.qT rfl (Y.load rfl (loadS1 sz_4 S 0 rfl rfl)) ?_ | refine WO.qT rfl (Y.load rfl (loadS1 sz_4 S 1 rfl rfl)) ?_
                refine WO.q (Y.pickT (u := .bool _) rfl rfl) ?_
                refine WO.q (Y.assign (v := .bool _) rfl) ?_
                refine WO.nil ?_
                refine Then.nx ?_
                refine W.region rfl ?_
                refine WO.q (Y.fieldB fo_58_0 rfl) ?_
                first | refine WO.q (Y.load rfl (loadS1 sz_56 S 0 rfl rfl)) ?_ | refine WO.q (Y.load rfl (loadS1 sz_56 S 1 rfl rfl)) ?_
                refine WO.q (Y.eql rfl rfl) ?_
                refine WO.q (Y.assign (v := .bool _) rfl) ?_
                refine WO.nil ?_
                refine InB.nx ?_
                refine Then.nx ⟨?_, ?_⟩
                · (repeat (first | exact Out.hav _ _ _ | exact Out.refl _ _ | refine Out.up rfl ?_ | refine Out.sub rfl ?_))
                · first | (exfalso; omega) | exact ⟨by (show Value.bool _ = Value.bool _; congr 1; first | rfl | simp [flagsR, *]), by (show Value.bool _ = Value.bool _; congr 1; first | rfl | simp [flagsR, *]), by (show Value.bool _ = Value.bool _; congr 1; first | rfl | simp [flagsR, *]), by (show Value.bool _ = Value.bool _; congr 1; first | rfl | simp [flagsR, *]), by (show Value.bool _ = Value.bool _; congr 1; first | rfl | simp [flagsR, *]), S⟩
              · (try simp only [decide_eq_true_eq, decide_eq_false_iff_not, Bool.not_eq_true', Bool.not_eq_false', Bool.and_eq_true, Bool.or_eq_true, Bool.and_eq_false_iff, Bool.or_eq_false_iff, Bool.not_true, Bool.not_false] at h15)
                refine WO.qF rfl ?_
                refine WO.qF rfl ?_
                refine WO.q (Y.pickF (u := .bool _) rfl rfl) ?_
                refine WO.q (Y.assign (v := .bool _) rfl) ?_
                refine WO.nil ?_
                refine Then.nx ?_
                refine W.region rfl ?_
                refine WO.q (Y.fieldB fo_58_0 rfl) ?_
                first | refine WO.q (Y.load rfl (loadS1 sz_56 S 0 rfl rfl)) ?_ | refine WO.q (Y.load rfl (loadS1 sz_56 S 1 rfl rfl)) ?_
                refine WO.q (Y.eql rfl rfl) ?_
                refine WO.q (Y.assign (v := .bool _) rfl) ?_
                refine WO.nil ?_
                refine InB.nx ?_
                refine Then.nx ⟨?_, ?_⟩
                · (repeat (first | exact Out.hav _ _ _ | exact Out.refl _ _ | refine Out.up rfl ?_ | refine Out.sub rfl ?_))
                · first | (exfalso; omega) | exact ⟨by (show Value.bool _ = Value.bool _; congr 1; first | rfl | simp [flagsR, *]), by (show Value.bool _ = Value.bool _; congr 1; first | rfl | simp [flagsR, *]), by (show Value.bool _ = Value.bool _; congr 1; first | rfl | simp [flagsR, *]), by (show Value.bool _ = Value.bool _; congr 1; first | rfl | simp [flagsR, *]), by (show Value.bool _ = Value.bool _; congr 1; first | rfl | simp [flagsR, *]), S⟩
            · (try simp only [decide_eq_true_eq, decide_eq_false_iff_not, Bool.not_eq_true', Bool.not_eq_false', Bool.and_eq_true, Bool.or_eq_true, Bool.and_eq_false_iff, Bool.or_eq_false_iff, Bool.not_true, Bool.not_false] at h14)
              refine WO.qT rfl (Y.fieldB fo_58_0 rfl) ?_
              first | refine WO.qT rfl (Y.load rfl (loadS1 sz_56 S 0 rfl rfl)) ?_ | refine WO.qT rfl (Y.load rfl (loadS1 sz_56 S 1 rfl rfl)) ?_
              refine WO.qT rfl (Y.eql rfl rfl) ?_
              refine WO.q (Y.pickF (u := .bool _) rfl rfl) ?_
              refine WO.q (Y.assign (v := .bool _) rfl) ?_
              refine WO.nil ?_
              refine Then.nx ?_
              refine W.seq ?_
              refine W.region rfl ?_
              refine WO.q (Y.fieldB fo_58_0 rfl) ?_
              first | refine WO.q (Y.load rfl (loadS1 sz_56 S 0 rfl rfl)) ?_ | refine WO.q (Y.load rfl (loadS1 sz_56 S 1 rfl rfl)) ?_
              refine WO.q (Y.eql rfl rfl) ?_
              refine WO.q (Y.assign (v := .bool _) rfl) ?_
              refine WO.nil ?_
              refine Then.nx ?_
              refine W.seq ?_
              refine W.region rfl ?_
              refine WO.q (Y.fieldB fo_58_0 rfl) ?_
              first | refine WO.q (Y.load rfl (loadS1 sz_56 S 0 rfl rfl)) ?_ | refine WO.q (Y.load rfl (loadS1 sz_56 S 1 rfl rfl)) ?_
              refine WO.q (Y.eql rfl rfl) ?_
              refine WO.q (Y.move (v := .bool _) rfl) ?_
              refine WO.splitB (fun h16 => ?_) (fun h16 => ?_)
              · (try simp only [decide_eq_true_eq, decide_eq_false_iff_not, Bool.not_eq_true', Bool.not_eq_false', Bool.and_eq_true, Bool.or_eq_true, Bool.and_eq_false_iff, Bool.or_eq_false_iff, Bool.not_true, Bool.not_false] at h16)
                refine WO.qT rfl (Y.fieldB fo_58_4 rfl) ?_
                first | refine WO.qT rfl (Y.load rfl (loadS1 sz_4 S 0 rfl rfl)) ?_ | refine WO.qT rfl (Y.load rfl (loadS1 sz_4 S 1 rfl rfl)) ?_
                refine WO.q (Y.pickT (u := .bool _) rfl rfl) ?_
                refine WO.q (Y.assign (v := .bool _) rfl) ?_
                refine WO.nil ?_
                refine Then.nx ?_
                refine W.region rfl ?_
                refine WO.q (Y.fieldB fo_58_0 rfl) ?_
                first | refine WO.q (Y.load rfl (loadS1 sz_56 S 0 rfl rfl)) ?_ | refine WO.q (Y.load rfl (loadS1 sz_56 S 1 rfl rfl)) ?_
                refine WO.q (Y.eql rfl rfl) ?_
                refine WO.q (Y.assign (v := .bool _) rfl) ?_
                refine WO.nil ?_
                refine InB.nx ?_
                refine Then.nx ⟨?_, ?_⟩
                · (repeat (first | exact Out.hav _ _ _ | exact Out.refl _ _ | refine Out.up rfl ?_ | refine Out.sub rfl ?_))
                · first | (exfalso; omega) | exact ⟨by (show Value.bool _ = Value.bool _; congr 1; first | rfl | simp [flagsR, *]), by (show Value.bool _ = Value.bool _; congr 1; first | rfl | simp [flagsR, *]), by (show Value.bool _ = Value.bool _; congr 1; first | rfl | simp [flagsR, *]), by (show Value.bool _ = Value.bool _; congr 1; first | rfl | simp [flagsR, *]), by (show Value.bool _ = Value.bool _; congr 1; first | rfl | simp [flagsR, *]), S⟩
              · (try simp only [decide_eq_true_eq, decide_eq_false_iff_not, Bool.not_eq_true', Bool.not_eq_false', Bool.and_eq_true, Bool.or_eq_true, Bool.and_eq_false_iff, Bool.or_eq_false_iff, Bool.not_true, Bool.not_false] at h16)
                refine WO.qF rfl ?_
                refine WO.qF rfl ?_
                refine WO.q (Y.pickF (u := .bool _) rfl rfl) ?_
                refine WO.q (Y.assign (v := .bool _) rfl) ?_
                refine WO.nil ?_
                refine Then.nx ?_
                refine W.region rfl ?_
                refine WO.q (Y.fieldB fo_58_0 rfl) ?_
                first | refine WO.q (Y.load rfl (loadS1 sz_56 S 0 rfl rfl)) ?_ | refine WO.q (Y.load rfl (loadS1 sz_56 S 1 rfl rfl)) ?_
                refine WO.q (Y.eql rfl rfl) ?_
                refine WO.q (Y.assign (v := .bool _) rfl) ?_
                refine WO.nil ?_
                refine InB.nx ?_
                refine Then.nx ⟨?_, ?_⟩
                · (repeat (first | exact Out.hav _ _ _ | exact Out.refl _ _ | refine Out.up rfl ?_ | refine Out.sub rfl ?_))
                · first | (exfalso; omega) | exact ⟨by (show Value.bool _ = Value.bool _; congr 1; first | rfl | simp [flagsR, *]), by (show Value.bool _ = Value.bool _; congr 1; first | rfl | simp [flagsR, *]), by (show Value.bool _ = Value.bool _; congr 1; first | rfl | simp [flagsR, *]), by (show Value.bool _ = Value.bool _; congr 1; first | rfl | simp [flagsR, *]), by (show Value.bool _ = Value.bool _; congr 1; first | rfl | simp [flagsR, *]), S⟩
          · have rh13 := h13
            (try simp only [decide_eq_true_eq, decide_eq_false_iff_not, Bool.not_eq_true', Bool.not_eq_false', Bool.and_eq_true, Bool.or_eq_true, Bool.and_eq_false_iff, Bool.or_eq_false_iff, Bool.not_true, Bool.not_false] at h13)
            refine W.seq ?_
            refine W.region rfl ?_
            refine WO.q (Y.eql rfl rfl) ?_
            refine WO.q (Y.assign (v := .bool _) rfl) ?_
            refine WO.nil ?_
            refine Then.nx ?_
            refine W.cond rfl (fun h17 => ?_) (fun h17 => ?_) -- cond 3
            · have rh17 := h17
              (try simp only [decide_eq_true_eq, decide_eq_false_iff_not, Bool.not_eq_true', Bool.not_eq_false', Bool.and_eq_true, Bool.or_eq_true, Bool.and_eq_false_iff, Bool.or_eq_false_iff, Bool.not_true, Bool.not_false] at h17)
              refine W.seq ?_
              refine W.region rfl ?_
              refine WO.q (Y.fieldB fo_58_0 rfl) ?_
              first | refine WO.q (Y.load rfl (loadS1 sz_56 S 0 rfl rfl)) ?_ | refine WO.q (Y.load rfl (loadS1 sz_56 S 1 rfl rfl)) ?_
              refine WO.q (Y.eql rfl rfl) ?_
              refine WO.q (Y.move (v := .bool _) rfl) ?_
              refine WO.splitB (fun h18 => ?_) (fun h18 => ?_)
              · (try simp only [decide_eq_true_eq, decide_eq_false_iff_not, Bool.not_eq_true', Bool.not_eq_false', Bool.and_eq_true, Bool.or_eq_true, Bool.and_eq_false_iff, Bool.or_eq_false_iff, Bool.not_true, Bool.not_false] at h18)
                refine WO.qF rfl ?_
                refine WO.qF rfl ?_
                refine WO.qF rfl ?_
                refine WO.q (Y.pickT (u := .bool _) rfl rfl) ?_
                refine WO.q (Y.assign (v := .bool _) rfl) ?_
                refine WO.nil ?_
                refine Then.nx ?_
                refine W.seq ?_
                refine W.region rfl ?_
                refine WO.q (Y.fieldB fo_58_0 rfl) ?_
                first | refine WO.q (Y.load rfl (loadS1 sz_56 S 0 rfl rfl)) ?_ | refine WO.q (Y.load rfl (loadS1 sz_56 S 1 rfl rfl)) ?_
                refine WO.q (Y.eql rfl rfl) ?_
                refine WO.q (Y.assign (v := .bool _) rfl) ?_
                refine WO.nil ?_
                refine Then.nx ?_
                refine W.region rfl ?_
                refine WO.q (Y.assign (v := .bool _) rfl) ?_
                refine WO.nil ?_
                refine InB.nx ?_
                refine Then.nx ⟨?_, ?_⟩
                · (repeat (first | exact Out.hav _ _ _ | exact Out.refl _ _ | refine Out.up rfl ?_ | refine Out.sub rfl ?_))
                · first | (exfalso; omega) | exact ⟨by (show Value.bool _ = Value.bool _; congr 1; first | rfl | simp [flagsR, *]), by (show Value.bool _ = Value.bool _; congr 1; first | rfl | simp [flagsR, *]), by (show Value.bool _ = Value.bool _; congr 1; first | rfl | simp [flagsR, *]), by (show Value.bool _ = Value.bool _; congr 1; first | rfl | simp [flagsR, *]), by (show Value.bool _ = Value.bool _; congr 1; first | rfl | simp [flagsR, *]), S⟩
              · (try simp only [decide_eq_true_eq, decide_eq_false_iff_not, Bool.not_eq_true', Bool.not_eq_false', Bool.and_eq_true, Bool.or_eq_true, Bool.and_eq_false_iff, Bool.or_eq_false_iff, Bool.not_true, Bool.not_false] at h18)
                refine WO.qT rfl (Y.fieldB fo_58_0 rfl) ?_
                first | refine WO.qT rfl (Y.load rfl (loadS1 sz_56 S 0 rfl rfl)) ?_ | refine WO.qT rfl (Y.load rfl (loadS1 sz_56 S 1 rfl rfl)) ?_
                refine WO.qT rfl (Y.eql rfl rfl) ?_
                refine WO.q (Y.pickF (u := .bool _) rfl rfl) ?_
                refine WO.q (Y.assign (v := .bool _) rfl) ?_
                refine WO.nil ?_
                refine Then.nx ?_
                refine W.seq ?_
                refine W.region rfl ?_
                refine WO.q (Y.fieldB fo_58_0 rfl) ?_
                first | refine WO.q (Y.load rfl (loadS1 sz_56 S 0 rfl rfl)) ?_ | refine WO.q (Y.load rfl (loadS1 sz_56 S 1 rfl rfl)) ?_
                refine WO.q (Y.eql rfl rfl) ?_
                refine WO.q (Y.assign (v := .bool _) rfl) ?_
                refine WO.nil ?_
                refine Then.nx ?_
                refine W.region rfl ?_
                refine WO.q (Y.assign (v := .bool _) rfl) ?_
                refine WO.nil ?_
                refine InB.nx ?_
                refine Then.nx ⟨?_, ?_⟩
                · (repeat (first | exact Out.hav _ _ _ | exact Out.refl _ _ | refine Out.up rfl ?_ | refine Out.sub rfl ?_))
                · first | (exfalso; omega) | exact ⟨by (show Value.bool _ = Value.bool _; congr 1; first | rfl | simp [flagsR, *]), by (show Value.bool _ = Value.bool _; congr 1; first | rfl | simp [flagsR, *]), by (show Value.bool _ = Value.bool _; congr 1; first | rfl | simp [flagsR, *]), by (show Value.bool _ = Value.bool _; congr 1; first | rfl | simp [flagsR, *]), by (show Value.bool _ = Value.bool _; congr 1; first | rfl | simp [flagsR, *]), S⟩
            · have rh17 := h17
              (try simp only [decide_eq_true_eq, decide_eq_false_iff_not, Bool.not_eq_true', Bool.not_eq_false', Bool.and_eq_true, Bool.or_eq_true, Bool.and_eq_false_iff, Bool.or_eq_false_iff, Bool.not_true, Bool.not_false] at h17)
              refine W.seq ?_
              refine W.region rfl ?_
              refine WO.q (Y.eql rfl rfl) ?_
              refine WO.q (Y.assign (v := .bool _) rfl) ?_
              refine WO.nil ?_
              refine Then.nx ?_
              refine W.cond rfl (fun h19 => ?_) (fun h19 => ?_) -- cond 4
              · have rh19 := h19
                (try simp only [decide_eq_true_eq, decide_eq_false_iff_not, Bool.not_eq_true', Bool.not_eq_false', Bool.and_eq_true, Bool.or_eq_true, Bool.and_eq_false_iff, Bool.or_eq_false_iff, Bool.not_true, Bool.not_false] at h19)
                refine W.seq ?_
                refine W.region rfl ?_
                refine WO.q (Y.fieldB fo_58_0 rfl) ?_
                first | refine WO.q (Y.load rfl (loadS1 sz_56 S 0 rfl rfl)) ?_ | refine WO.q (Y.load rfl (loadS1 sz_56 S 1 rfl rfl)) ?_
                refine WO.q (Y.eql rfl rfl) ?_
                refine WO.q (Y.move (v := .bool _) rfl) ?_
                refine WO.splitB (fun h20 => ?_) (fun h20 => ?_)
                · (try simp only [decide_eq_true_eq, decide_eq_false_iff_not, Bool.not_eq_true', Bool.not_eq_false', Bool.and_eq_true, Bool.or_eq_true, Bool.and_eq_false_iff, Bool.or_eq_false_iff, Bool.not_true, Bool.not_false] at h20)
                  refine WO.qF rfl ?_
                  refine WO.qF rfl ?_
                  refine WO.qF rfl ?_
                  refine WO.q (Y.pickT (u := .bool _) rfl rfl) ?_
                  refine WO.q (Y.move (v := .bool _) rfl) ?_
                  refine WO.qF rfl ?_
                  refine WO.qF rfl ?_
                  refine WO.qF rfl ?_
                  refine WO.q (Y.pickT (u := .bool _) rfl rfl) ?_
                  refine WO.q (Y.assign (v := .bool _) rfl) ?_
                  refine WO.nil ?_
                  refine Then.nx ?_
                  refine W.seq ?_
                  refine W.region rfl ?_
                  refine WO.q (Y.fieldB fo_58_0 rfl) ?_
                  first | refine WO.q (Y.load rfl (loadS1 sz_56 S 0 rfl rfl)) ?_ | refine WO.q (Y.load rfl (loadS1 sz_56 S 1 rfl rfl)) ?_
                  refine WO.q (Y.neq rfl rfl) ?_
                  refine WO.q (Y.assign (v := .bool _) rfl) ?_
                  refine WO.nil ?_
                  refine Then.nx ?_
                  refine W.seq ?_
                  refine W.region rfl ?_
                  refine WO.q (Y.fieldB fo_58_0 rfl) ?_
                  first | refine WO.q (Y.load rfl (loadS1 sz_56 S 0 rfl rfl)) ?_ | refine WO.q (Y.load rfl (loadS1 sz_56 S 1 rfl rfl)) ?_
                  refine WO.q (Y.eql rfl rfl) ?_
                  refine WO.q (Y.assign (v := .bool _) rfl) ?_
                  refine WO.nil ?_
                  refine Then.nx ?_
                  refine W.seq ?_
                  refine W.region rfl ?_
                  refine WO.q (Y.fieldB fo_58_0 rfl) ?_
                  first | refine WO.q (Y.load rfl (loadS1 sz_56 S 0 rfl rfl)) ?_ | refine WO.q (Y.load rfl (loadS1 sz_56 S 1 rfl rfl)) ?_
                  refine WO.q (Y.eql rfl rfl) ?_
                  refine WO.q (Y.assign (v := .bool _) rfl) ?_
                  refine WO.nil ?_
                  refine Then.nx ?_
                  refine W.region rfl ?_
                  refine WO.q (Y.fieldB fo_58_0 rfl) ?_
                  first | refine WO.q (Y.load rfl (loadS1 sz_56 S 0 rfl rfl)) ?_ | refine WO.q (Y.load rfl (loadS1 sz_56 S 1 rfl rfl)) ?_
                  refine WO.q (Y.eql rfl rfl) ?_
                  refine WO.q (Y.assign (v := .bool _) rfl) ?_
                  refine WO.nil ?_
                  refine InB.nx ?_
                  refine Then.nx ⟨?_, ?_⟩
                  · (repeat (first | exact Out.hav _ _ _ | exact Out.refl _ _ | refine Out.up rfl ?_ | refine Out.sub rfl ?_))
                  · first | (exfalso; omega) | exact ⟨by (show Value.bool _ = Value.bool _; congr 1; first | rfl | simp [flagsR, *]), by (show Value.bool _ = Value.bool _; congr 1; first | rfl | simp [flagsR, *]), by (show Value.bool _ = Value.bool _; congr 1; first | rfl | simp [flagsR, *]), by (show Value.bool _ = Value.bool _; congr 1; first | rfl | simp [flagsR, *]), by (show Value.bool _ = Value.bool _; congr 1; first | rfl | simp [flagsR, *]), S⟩
                · (try simp only [decide_eq_true_eq, decide_eq_false_iff_not, Bool.not_eq_true', Bool.not_eq_false', Bool.and_eq_true, Bool.or_eq_true, Bool.and_eq_false_iff, Bool.or_eq_false_iff, Bool.not_true, Bool.not_false] at h20)
                  refine WO.qT rfl (Y.fieldB fo_58_0 rfl) ?_
                  first | refine WO.qT rfl (Y.load rfl (loadS1 sz_56 S 0 rfl rfl)) ?_ | refine WO.qT rfl (Y.load rfl (loadS1 sz_56 S 1 rfl rfl)) ?_
                  refine WO.qT rfl (Y.eql rfl rfl) ?_
                  refine WO.q (Y.pickF (u := .bool _) rfl rfl) ?_
                  refine WO.q (Y.move (v := .bool _) rfl) ?_
                  refine WO.splitB (fun h21 => ?_) (fun h21 => ?_)
                  · (try simp only [decide_eq_true_eq, decide_eq_false_iff_not, Bool.not_eq_true', Bool.not_eq_false', Bool.and_eq_true, Bool.or_eq_true, Bool.and_eq_false_iff, Bool.or_eq_false_iff, Bool.not_true, Bool.not_false] at h21)
                    refine WO.qF rfl ?_
                    refine WO.qF rfl ?_
                    refine WO.qF rfl ?_
                    refine WO.q (Y.pickT (u := .bool _) rfl rfl) ?_
                    refine WO.q (Y.assign (v := .bool _) rfl) ?_
                    refine WO.nil ?_
                    refine Then.nx ?_
                    refine W.seq ?_
                    refine W.region rfl ?_
                    refine WO.q (Y.fieldB fo_58_0 rfl) ?_
                    first | refine WO.q (Y.load rfl (loadS1 sz_56 S 0 rfl rfl)) ?_ | refine WO.q (Y.load rfl (loadS1 sz_56 S 1 rfl rfl)) ?_
                    refine WO.q (Y.neq rfl rfl) ?_
                    refine WO.q (Y.assign (v := .bool _) rfl) ?_
                    refine WO.nil ?_
                    refine Then.nx ?_
                    refine W.seq ?_
                    refine W.region rfl ?_
                    refine WO.q (Y.fieldB fo_58_0 rfl) ?_
                    first | refine WO.q (Y.load rfl (loadS1 sz_56 S 0 rfl rfl)) ?_ | refine WO.q (Y.load rfl (loadS1 sz_56 S 1 rfl rfl)) ?_
                    refine WO.q (Y.eql rfl rfl) ?_
                    refine WO.q (Y.assign (v := .bool _) rfl) ?_
                    refine WO.nil ?_
                    refine Then.nx ?_
                    refine W.seq ?_
                    refine W.region rfl ?_
                    refine WO.q (Y.fieldB fo_58_0 rfl) ?_
                    first | refine WO.q (Y.load rfl (loadS1 sz_56 S 0 rfl rfl)) ?_ | refine WO.q (Y.load rfl (loadS1 sz_56 S 1 rfl rfl)) ?_
                    refine WO.q (Y.eql rfl rfl) ?_
                    refine WO.q (Y.assign (v := .bool _) rfl) ?_
                    refine WO.nil ?_
                    refine Then.nx ?_
                    refine W.region rfl ?_
                    refine WO.q (Y.fieldB fo_58_0 rfl) ?_
                    first | refine WO.q (Y.load rfl (loadS1 sz_56 S 0 rfl rfl)) ?_ | refine WO.q (Y.load rfl (loadS1 sz_56 S 1 rfl rfl)) ?_
                    refine WO.q (Y.eql rfl rfl) ?_
                    refine WO.q (Y.assign (v := .bool _) rfl) ?_
                    refine WO.nil ?_
                    refine InB.nx ?_
                    refine Then.nx ⟨?_, ?_⟩
                    · (repeat (first | exact Out.hav _ _ _ | exact Out.refl _ _ | refine Out.up rfl ?_ | refine Out.sub rfl ?_))
                    · first | (exfalso; omega) | exact ⟨by (show Value.bool _ = Value.bool _; congr 1; first | rfl | simp [flagsR, *]), by (show Value.bool _ = Value.bool _; congr 1; first | rfl | simp [flagsR, *]), by (show Value.bool _ = Value.bool _; congr 1; first | rfl | simp [flagsR, *]), by (show Value.bool _ = Value.bool _; congr 1; first | rfl | simp [flagsR, *]), by (show Value.bool _ = Value.bool _; congr 1; first | rfl | simp [flagsR, *]), S⟩
                  · (try simp only [decide_eq_true_eq, decide_eq_false_iff_not, Bool.not_eq_true', Bool.not_eq_false', Bool.and_eq_true, Bool.or_eq_true, Bool.and_eq_false_iff, Bool.or_eq_false_iff, Bool.not_true, Bool.not_false] at h21)
                    refine WO.qT rfl (Y.fieldB fo_58_0 rfl) ?_
                    first | refine WO.qT rfl (Y.load rfl (loadS1 sz_56 S 0 rfl rfl)) ?_ | refine WO.qT rfl (Y.load rfl (loadS1 sz_56 S 1 rfl rfl)) ?_
                    refine WO.qT rfl (Y.eql rfl rfl) ?_
                    refine WO.q (Y.pickF (u := .bool _) rfl rfl) ?_
                    refine WO.q (Y.assign (v := .bool _) rfl) ?_
                    refine WO.nil ?_
                    refine Then.nx ?_
                    refine W.seq ?_
                    refine W.region rfl ?_
                    refine WO.q (Y.fieldB fo_58_0 rfl) ?_
                    first | refine WO.q (Y.load rfl (loadS1 sz_56 S 0 rfl rfl)) ?_ | refine WO.q (Y.load rfl (loadS1 sz_56 S 1 rfl rfl)) ?_
                    refine WO.q (Y.neq rfl rfl) ?_
                    refine WO.q (Y.assign (v := .bool _) rfl) ?_
                    refine WO.nil ?_
                    refine Then.nx ?_
                    refine W.seq ?_
                    refine W.region rfl ?_
                    refine WO.q (Y.fieldB fo_58_0 rfl) ?_
                    first | refine WO.q (Y.load rfl (loadS1 sz_56 S 0 rfl rfl)) ?_ | refine WO.q (Y.load rfl (loadS1 sz_56 S 1 rfl rfl)) ?_
                    refine WO.q (Y.eql rfl rfl) ?_
                    refine WO.q (Y.assign (v := .bool _) rfl) ?_
                    refine WO.nil ?_
                    refine Then.nx ?_
                    refine W.seq ?_
                    refine W.region rfl ?_
                    refine WO.q (Y.fieldB fo_58_0 rfl) ?_
                    first | refine WO.q (Y.load rfl (loadS1 sz_56 S 0 rfl rfl)) ?_ | refine WO.q (Y.load rfl (loadS1 sz_56 S 1 rfl rfl)) ?_
                    refine WO.q (Y.eql rfl rfl) ?_
                    refine WO.q (Y.assign (v := .bool _) rfl) ?_
                    refine WO.nil ?_
                    refine Then.nx ?_
                    refine W.region rfl ?_
                    refine WO.q (Y.fieldB fo_58_0 rfl) ?_
                    first | refine WO.q (Y.load rfl (loadS1 sz_56 S 0 rfl rfl)) ?_ | refine WO.q (Y.load rfl (loadS1 sz_56 S 1 rfl rfl)) ?_
                    refine WO.q (Y.eql rfl rfl) ?_
                    refine WO.q (Y.assign (v := .bool _) rfl) ?_
                    refine WO.nil ?_
                    refine InB.nx ?_
                    refine Then.nx ⟨?_, ?_⟩
                    · (repeat (first | exact Out.hav _ _ _ | exact Out.refl _ _ | refine Out.up rfl ?_ | refine Out.sub rfl ?_))
                    · first | (exfalso; omega) | exact ⟨by (show Value.bool _ = Value.bool _; congr 1; first | rfl | simp [flagsR, *]), by (show Value.bool _ = Value.bool _; congr 1; first | rfl | simp [flagsR, *]), by (show Value.bool _ = Value.bool _; congr 1; first | rfl | simp [flagsR, *]), by (show Value.bool _ = Value.bool _; congr 1; first | rfl | simp [flagsR, *]), by (show Value.bool _ = Value.bool _; congr 1; first | rfl | simp [flagsR, *]), S⟩
              · have rh19 := h19
                (try simp only [decide_eq_true_eq, decide_eq_false_iff_not, Bool.not_eq_true', Bool.not_eq_false', Bool.and_eq_true, Bool.or_eq_true, Bool.and_eq_false_iff, Bool.or_eq_false_iff, Bool.not_true, Bool.not_false] at h19)
                refine W.skip ?_
                refine InB.nx ?_
                refine Then.nx ⟨?_, ?_⟩
                · (repeat (first | exact Out.hav _ _ _ | exact Out.refl _ _ | refine Out.up rfl ?_ | refine Out.sub rfl ?_))
                · first | (exfalso; omega) | exact ⟨by (show Value.bool _ = Value.bool _; congr 1; first | rfl | simp [flagsR, *]), by (show Value.bool _ = Value.bool _; congr 1; first | rfl | simp [flagsR, *]), by (show Value.bool _ = Value.bool _; congr 1; first | rfl | simp [flagsR, *]), by (show Value.bool _ = Value.bool _; congr 1; first | rfl | simp [flagsR, *]), by (show Value.bool _ = Value.bool _; congr 1; first | rfl | simp [flagsR, *]), S⟩
      · rintro gj712 v5 v6 v7 v8 v9 w ⟨rfl, rfl, rfl, rfl, rfl, S⟩
        refine W.seq ?_
        refine W.region rfl ?_
        refine WO.q (Y.move (v := .bool _) rfl) ?_
        refine WO.q (Y.move (v := .bool _) rfl) ?_
        refine WO.splitB (fun h22 => ?_) (fun h22 => ?_)
        · (try simp only [decide_eq_true_eq, decide_eq_false_iff_not, Bool.not_eq_true', Bool.not_eq_false', Bool.and_eq_true, Bool.or_eq_true, Bool.and_eq_false_iff, Bool.or_eq_false_iff, Bool.not_true, Bool.not_false] at h22)
          refine WO.qT rfl (Y.move (v := .bool _) rfl) ?_
          refine WO.qT rfl (Y.move (v := .bool _) rfl) ?_
          refine WO.splitB (fun h23 => ?_) (fun h23 => ?_)
          · (try simp only [decide_eq_true_eq, decide_eq_false_iff_not, Bool.not_eq_true', Bool.not_eq_false', Bool.and_eq_true, Bool.or_eq_true, Bool.and_eq_false_iff, Bool.or_eq_false_iff, Bool.not_true, Bool.not_false] at h23)
            refine WO.qF rfl ?_
            refine WO.qF rfl ?_
            refine WO.qF rfl ?_
            refine WO.qT rfl (Y.pickT (u := .bool _) rfl rfl) ?_
            refine WO.q (Y.pickT (u := .bool _) rfl rfl) ?_
            refine WO.q (Y.move (v := .bool _) rfl) ?_
            refine WO.qT rfl (Y.move (v := .bool _) rfl) ?_
            refine WO.qT rfl (Y.move (v := .bool _) rfl) ?_
            refine WO.splitB (fun h24 => ?_) (fun h24 => ?_)
            · (try simp only [decide_eq_true_eq, decide_eq_false_iff_not, Bool.not_eq_true', Bool.not_eq_false', Bool.and_eq_true, Bool.or_eq_true, Bool.and_eq_false_iff, Bool.or_eq_false_iff, Bool.not_true, Bool.not_false] at h24)
              refine WO.qF rfl ?_
              refine WO.qF rfl ?_
              refine WO.qF rfl ?_
              refine WO.qT rfl (Y.pickT (u := .bool _) rfl rfl) ?_
              refine WO.q (Y.pickT (u := .bool _) rfl rfl) ?_
              refine WO.q (Y.move (v := .bool _) rfl) ?_
              refine WO.qT rfl (Y.move (v := .bool _) rfl) ?_
              refine WO.qT rfl (Y.move (v := .bool _) rfl) ?_
              refine WO.splitB (fun h25 => ?_) (fun h25 => ?_)
              · (try simp only [decide_eq_true_eq, decide_eq_false_iff_not, Bool.not_eq_true', Bool.not_eq_false', Bool.and_eq_true, Bool.or_eq_true, Bool.and_eq_false_iff, Bool.or_eq_false_iff, Bool.not_true, Bool.not_false] at h25)
                refine WO.qF rfl ?_
                refine WO.qF rfl ?_
                refine WO.qF rfl ?_
                refine WO.qT rfl (Y.pickT (u := .bool _) rfl rfl) ?_
                refine WO.q (Y.pickT (u := .bool _) rfl rfl) ?_
                refine WO.q (Y.move (v := .bool _) rfl) ?_
                refine WO.qT rfl (Y.move (v := .bool _) rfl) ?_
                refine WO.qT rfl (Y.move (v := .bool _) rfl) ?_
                refine WO.splitB (fun h26 => ?_) (fun h26 => ?_)
                · (try simp only [decide_eq_true_eq, decide_eq_false_iff_not, Bool.not_eq_true', Bool.not_eq_false', Bool.and_eq_true, Bool.or_eq_true, Bool.and_eq_false_iff, Bool.or_eq_false_iff, Bool.not_true, Bool.not_false] at h26)
                  refine WO.qF rfl ?_
                  refine WO.qF rfl ?_
                  refine WO.qF rfl ?_
                  refine WO.qT rfl (Y.pickT (u := .bool _) rfl rfl) ?_
                  refine WO.q (Y.pickT (u := .bool _) rfl rfl) ?_
                  refine WO.q (Y.assign (v := .bool _) rfl) ?_
                  refine WO.nil ?_
                  refine Then.nx ?_
                  refine W.ret ?_
                  refine BodyQ.ret1 Tryd.results47 (ResV.tmp _ rfl) ?_
                  first | exact ⟨retB (by (unfold rightR; rw [show badC c = true by assumption]; rfl)), S.ext⟩ | exact ⟨retB (by (unfold rightR; simp [*])), S.ext⟩
                · (try simp only [decide_eq_true_eq, decide_eq_false_iff_not, Bool.not_eq_true', Bool.not_eq_false', Bool.and_eq_true, Bool.or_eq_true, Bool.and_eq_false_iff, Bool.or_eq_false_iff, Bool.not_true, Bool.not_false] at h26)
                  refine WO.qT rfl (Y.fieldB fo_58_4 rfl) ?_
                  first | refine WO.qT rfl (Y.load rfl (loadS1 sz_4 S 0 rfl rfl)) ?_ | refine WO.qT rfl (Y.load rfl (loadS1 sz_4 S 1 rfl rfl)) ?_
                  refine WO.qT rfl (Y.not rfl) ?_
                  refine WO.qT rfl (Y.pickF (u := .bool _) rfl rfl) ?_
                  refine WO.q (Y.pickT (u := .bool _) rfl rfl) ?_
                  refine WO.q (Y.assign (v := .bool _) rfl) ?_
                  refine WO.nil ?_
                  refine Then.nx ?_
                  refine W.ret ?_
                  refine BodyQ.ret1 Tryd.results47 (ResV.tmp _ rfl) ?_
                  first | exact ⟨retB (by (unfold rightR; rw [show badC c = true by assumption]; rfl)), S.ext⟩ | exact ⟨retB (by (unfold rightR; simp [*])), S.ext⟩
              · (try simp only [decide_eq_true_eq, decide_eq_false_iff_not, Bool.not_eq_true', Bool.not_eq_false', Bool.and_eq_true, Bool.or_eq_true, Bool.and_eq_false_iff, Bool.or_eq_false_iff, Bool.not_true, Bool.not_false] at h25)
                refine WO.qT rfl (Y.fieldB fo_58_3 rfl) ?_
                first | refine WO.qT rfl (Y.load rfl (loadS1 sz_2 S 0 rfl rfl)) ?_ | refine WO.qT rfl (Y.load rfl (loadS1 sz_2 S 1 rfl rfl)) ?_
                refine WO.qT rfl (Y.eql rfl rfl) ?_
                refine WO.qT rfl (Y.pickF (u := .bool _) rfl rfl) ?_
                refine WO.q (Y.pickT (u := .bool _) rfl rfl) ?_
                refine WO.q (Y.move (v := .bool _) rfl) ?_
                refine WO.splitB (fun h27 => ?_) (fun h27 => ?_)
                · (try simp only [decide_eq_true_eq, decide_eq_false_iff_not, Bool.not_eq_true', Bool.not_eq_false', Bool.and_eq_true, Bool.or_eq_true, Bool.and_eq_false_iff, Bool.or_eq_false_iff, Bool.not_true, Bool.not_false] at h27)
                  refine WO.qT rfl (Y.move (v := .bool _) rfl) ?_
                  refine WO.qT rfl (Y.move (v := .bool _) rfl) ?_
                  refine WO.splitB (fun h28 => ?_) (fun h28 => ?_)
                  · (try simp only [decide_eq_true_eq, decide_eq_false_iff_not, Bool.not_eq_true', Bool.not_eq_false', Bool.and_eq_true, Bool.or_eq_true, Bool.and_eq_false_iff, Bool.or_eq_false_iff, Bool.not_true, Bool.not_false] at h28)
                    refine WO.qF rfl ?_
                    refine WO.qF rfl ?_
                    refine WO.qF rfl ?_
                    refine WO.qT rfl (Y.pickT (u := .bool _) rfl rfl) ?_
                    refine WO.q (Y.pickT (u := .bool _) rfl rfl) ?_
                    refine WO.q (Y.assign (v := .bool _) rfl) ?_
                    refine WO.nil ?_
                    refine Then.nx ?_
                    refine W.ret ?_
                    refine BodyQ.ret1 Tryd.results47 (ResV.tmp _ rfl) ?_
                    first | exact ⟨retB (by (unfold rightR; rw [show badC c = true by assumption]; rfl)), S.ext⟩ | exact ⟨retB (by (unfold rightR; simp [*])), S.ext⟩
                  · (try simp only [decide_eq_true_eq, decide_eq_false_iff_not, Bool.not_eq_true', Bool.not_eq_false', Bool.and_eq_true, Bool.or_eq_true, Bool.and_eq_false_iff, Bool.or_eq_false_iff, Bool.not_true, Bool.not_false] at h28)
                    refine WO.qT rfl (Y.fieldB fo_58_4 rfl) ?_
                    first | refine WO.qT rfl (Y.load rfl (loadS1 sz_4 S 0 rfl rfl)) ?_ | refine WO.qT rfl (Y.load rfl (loadS1 sz_4 S 1 rfl rfl)) ?_
                    refine WO.qT rfl (Y.not rfl) ?_
                    refine WO.qT rfl (Y.pickF (u := .bool _) rfl rfl) ?_
                    refine WO.q (Y.pickT (u := .bool _) rfl rfl) ?_
                    refine WO.q (Y.assign (v := .bool _) rfl) ?_
                    refine WO.nil ?_
                    refine Then.nx ?_
                    refine W.ret ?_
                    refine BodyQ.ret1 Tryd.results47 (ResV.tmp _ rfl) ?_
                    first | exact ⟨retB (by (unfold rightR; rw [show badC c = true by assumption]; rfl)), S.ext⟩ | exact ⟨retB (by (unfold rightR; simp [*])), S.ext⟩
                · (try simp only [decide_eq_true_eq, decide_eq_false_iff_not, Bool.not_eq_true', Bool.not_eq_false', Bool.and_eq_true, Bool.or_eq_true, Bool.and_eq_false_iff, Bool.or_eq_false_iff, Bool.not_true, Bool.not_false] at h27)
                  refine WO.qF rfl ?_
                  refine WO.qF rfl ?_
                  refine WO.qF rfl ?_
                  refine WO.qF rfl ?_
                  refine WO.qF rfl ?_
                  refine WO.qF rfl ?_
                  refine WO.q (Y.pickF (u := .bool _) rfl rfl) ?_
                  refine WO.q (Y.assign (v := .bool _) rfl) ?_
                  refine WO.nil ?_
                  refine Then.nx ?_
                  refine W.ret ?_
                  refine BodyQ.ret1 Tryd.results47 (ResV.tmp _ rfl) ?_
                  first | exact ⟨retB (by (unfold rightR; rw [show badC c = true by assumption]; rfl)), S.ext⟩ | exact ⟨retB (by (unfold rightR; simp [*])), S.ext⟩
            · (try simp only [decide_eq_true_eq, decide_eq_false_iff_not, Bool.not_eq_true', Bool.not_eq_false', Bool.and_eq_true, Bool.or_eq_true, Bool.and_eq_false_iff, Bool.or_eq_false_iff, Bool.not_true, Bool.not_false] at h24)
              refine WO.qT rfl (Y.fieldB fo_58_2 rfl) ?_
              first | refine WO.qT rfl (Y.load rfl (loadS1 sz_2 S 0 rfl rfl)) ?_ | refine WO.qT rfl (Y.load rfl (loadS1 sz_2 S 1 rfl rfl)) ?_
              refine WO.qT rfl (Y.eql rfl rfl) ?_
              refine WO.qT rfl (Y.pickF (u := .bool _) rfl rfl) ?_
              refine WO.q (Y.pickT (u := .bool _) rfl rfl) ?_
              refine WO.q (Y.move (v := .bool _) rfl) ?_
              refine WO.splitB (fun h29 => ?_) (fun h29 => ?_)
              · (try simp only [decide_eq_true_eq, decide_eq_false_iff_not, Bool.not_eq_true', Bool.not_eq_false', Bool.and_eq_true, Bool.or_eq_true, Bool.and_eq_false_iff, Bool.or_eq_false_iff, Bool.not_true, Bool.not_false] at h29)
                refine WO.qT rfl (Y.move (v := .bool _) rfl) ?_
                refine WO.qT rfl (Y.move (v := .bool _) rfl) ?_
                refine WO.splitB (fun h30 => ?_) (fun h30 => ?_)
                · (try simp only [decide_eq_true_eq, decide_eq_false_iff_not, Bool.not_eq_true', Bool.not_eq_false', Bool.and_eq_true, Bool.or_eq_true, Bool.and_eq_false_iff, Bool.or_eq_false_iff, Bool.not_true, Bool.not_false] at h30)
                  refine WO.qF rfl ?_
                  refine WO.qF rfl ?_
                  refine WO.qF rfl ?_
                  refine WO.qT rfl (Y.pickT (u := .bool _) rfl rfl) ?_
                  refine WO.q (Y.pickT (u := .bool _) rfl rfl) ?_
                  refine WO.q (Y.move (v := .bool _) rfl) ?_
                  refine WO.qT rfl (Y.move (v := .bool _) rfl) ?_
                  refine WO.qT rfl (Y.move (v := .bool _) rfl) ?_
                  refine WO.splitB (fun h31 => ?_) (fun h31 => ?_)
                  · (try simp only [decide_eq_true_eq, decide_eq_false_iff_not, Bool.not_eq_true', Bool.not_eq_false', Bool.and_eq_true, Bool.or_eq_true, Bool.and_eq_false_iff, Bool.or_eq_false_iff, Bool.not_true, Bool.not_false] at h31)
                    refine WO.qF rfl ?_
                    refine WO.qF rfl ?_
                    refine WO.qF rfl ?_
                    refine WO.qT rfl (Y.pickT (u := .bool _) rfl rfl) ?_
                    refine WO.q (Y.pickT (u := .bool _) rfl rfl) ?_
                    refine WO.q (Y.assign (v := .bool _) rfl) ?_
                    refine WO.nil ?_
                    refine Then.nx ?_
                    refine W.ret ?_
                    refine BodyQ.ret1 Tryd.results47 (ResV.tmp _ rfl) ?_
                    first | exact ⟨retB (by (unfold rightR; rw [show badC c = true by assumption]; rfl)), S.ext⟩ | exact ⟨retB (by (unfold rightR; simp [*])), S.ext⟩
                  · (try simp only [decide_eq_true_eq, decide_eq_false_iff_not, Bool.not_eq_true', Bool.not_eq_false', Bool.and_eq_true, Bool.or_eq_true, Bool.and_eq_false_iff, Bool.or_eq_false_iff, Bool.not_true, Bool.not_false] at h31)
                    refine WO.qT rfl (Y.fieldB fo_58_4 rfl) ?_
                    first | refine WO.qT rfl (Y.load rfl (loadS1 sz_4 S 0 rfl rfl)) ?_ | refine WO.qT rfl (Y.load rfl (loadS1 sz_4 S 1 rfl rfl)) ?_
                    refine WO.qT rfl (Y.not rfl) ?_
                    refine WO.qT rfl (Y.pickF (u := .bool _) rfl rfl) ?_
                    refine WO.q (Y.pickT (u := .bool _) rfl rfl) ?_
                    refine WO.q (Y.assign (v := .bool _) rfl) ?_
                    refine WO.nil ?_
                    refine Then.nx ?_
                    refine W.ret ?_
                    refine BodyQ.ret1 Tryd.results47 (ResV.tmp _ rfl) ?_
                    first | exact ⟨retB (by (unfold rightR; rw [show badC c = true by assumption]; rfl)), S.ext⟩ | exact ⟨retB (by (unfold rightR; simp [*])), S.ext⟩
                · (try simp only [decide_eq_true_eq, decide_eq_false_iff_not, Bool.not_eq_true', Bool.not_eq_false', Bool.and_eq_true, Bool.or_eq_true, Bool.and_eq_false_iff, Bool.or_eq_false_iff, Bool.not_true, Bool.not_false] at h30)
                  refine WO.qT rfl (Y.fieldB fo_58_3 rfl) ?_
                  first | refine WO.qT rfl (Y.load rfl (loadS1 sz_2 S 0 rfl rfl)) ?_ | refine WO.qT rfl (Y.load rfl (loadS1 sz_2 S 1 rfl rfl)) ?_
                  refine WO.qT rfl (Y.eql rfl rfl) ?_
                  refine WO.qT rfl (Y.pickF (u := .bool _) rfl rfl) ?_
                  refine WO.q (Y.pickT (u := .bool _) rfl rfl) ?_
                  refine WO.q (Y.move (v := .bool _) rfl) ?_
                  refine WO.splitB (fun h32 => ?_) (fun h32 => ?_)
                  · (try simp only [decide_eq_true_eq, decide_eq_false_iff_not, Bool.not_eq_true', Bool.not_eq_false', Bool.and_eq_true, Bool.or_eq_true, Bool.and_eq_false_iff, Bool.or_eq_false_iff, Bool.not_true, Bool.not_false] at h32)
                    refine WO.qT rfl (Y.move (v := .bool _) rfl) ?_
                    refine WO.qT rfl (Y.move (v := .bool _) rfl) ?_
                    refine WO.splitB (fun h33 => ?_) (fun h33 => ?_)
                    · (try simp only [decide_eq_true_eq, decide_eq_false_iff_not, Bool.not_eq_true', Bool.not_eq_false', Bool.and_eq_true, Bool.or_eq_true, Bool.and_eq_false_iff, Bool.or_eq_false_iff, Bool.not_true, Bool.not_false] at h33)
                      refine WO.qF rfl ?_
                      refine WO.qF rfl ?_
                      refine WO.qF rfl ?_
                      refine WO.qT rfl (Y.pickT (u := .bool _) rfl rfl) ?_
                      refine WO.q (Y.pickT (u := .bool _) rfl rfl) ?_
                      refine WO.q (Y.assign (v := .bool _) rfl) ?_
                      refine WO.nil ?_
                      refine Then.nx ?_
                      refine W.ret ?_
                      refine BodyQ.ret1 Tryd.results47 (ResV.tmp _ rfl) ?_
                      first | exact ⟨retB (by (unfold rightR; rw [show badC c = true by assumption]; rfl)), S.ext⟩ | exact ⟨retB (by (unfold rightR; simp [*])), S.ext⟩
                    · (try simp only [decide_eq_true_eq, decide_eq_false_iff_not, Bool.not_eq_true', Bool.not_eq_false', Bool.and_eq_true, Bool.or_eq_true, Bool.and_eq_false_iff, Bool.or_eq_false_iff, Bool.not_true, Bool.not_false] at h33)
                      refine WO.qT rfl (Y.fieldB fo_58_4 rfl) ?_
                      first | refine WO.qT rfl (Y.load rfl (loadS1 sz_4 S 0 rfl rfl)) ?_ | refine WO.qT rfl (Y.load rfl (loadS1 sz_4 S 1 rfl rfl)) ?_
                      refine WO.qT rfl (Y.not rfl) ?_
                      refine WO.qT rfl (Y.pickF (u := .bool _) rfl rfl) ?_
                      refine WO.q (Y.pickT (u := .bool _) rfl rfl) ?_
                      refine WO.q (Y.assign (v := .bool _) rfl) ?_
                      refine WO.nil ?_
                      refine Then.nx ?_
                      refine W.ret ?_
                      refine BodyQ.ret1 Tryd.results47 (ResV.tmp _ rfl) ?_
                      first | exact ⟨retB (by (unfold rightR; rw [show badC c = true by assumption]; rfl)), S.ext⟩ | exact ⟨retB (by (unfold rightR; simp [*])), S.ext⟩
                  · (try simp only [decide_eq_true_eq, decide_eq_false_iff_not, Bool.not_eq_true', Bool.not_eq_false', Bool.and_eq_true, Bool.or_eq_true, Bool.and_eq_false_iff, Bool.or_eq_false_iff, Bool.not_true, Bool.not_false] at h32)
                    refine WO.qF rfl ?_
                    refine WO.qF rfl ?_
                    refine WO.qF rfl ?_
                    refine WO.qF rfl ?_
                    refine WO.qF rfl ?_
                    refine WO.qF rfl ?_
                    refine WO.q (Y.pickF (u := .bool _) rfl rfl) ?_
                    refine WO.q (Y.assign (v := .bool _) rfl) ?_
                    refine WO.nil ?_
                    refine Then.nx ?_
                    refine W.ret ?_
                    refine BodyQ.ret1 Tryd.results47 (ResV.tmp _ rfl) ?_
                    first | exact ⟨retB (by (unfold rightR; rw [show badC c = true by assumption]; rfl)), S.ext⟩ | exact ⟨retB (by (unfold rightR; simp [*])), S.ext⟩
              · (try simp only [decide_eq_true_eq, decide_eq_false_iff_not, Bool.not_eq_true', Bool.not_eq_false', Bool.and_eq_true, Bool.or_eq_true, Bool.and_eq_false_iff, Bool.or_eq_false_iff, Bool.not_true, Bool.not_false] at h29)
                refine WO.qF rfl ?_
                refine WO.qF rfl ?_
                refine WO.qF rfl ?_
                refine WO.qF rfl ?_
                refine WO.qF rfl ?_
                refine WO.qF rfl ?_
                refine WO.q (Y.pickF (u := .bool _) rfl rfl) ?_
                refine WO.q (Y.move (v := .bool _) rfl) ?_
                refine WO.qF rfl ?_
                refine WO.qF rfl ?_
                refine WO.qF rfl ?_
                refine WO.qF rfl ?_
                refine WO.qF rfl ?_
                refine WO.qF rfl ?_
                refine WO.q (Y.pickF (u := .bool _) rfl rfl) ?_
                refine WO.q (Y.assign (v := .bool _) rfl) ?_
                refine WO.nil ?_
                refine Then.nx ?_
                refine W.ret ?_
                refine BodyQ.ret1 Tryd.results47 (ResV.tmp _ rfl) ?_
                first | exact ⟨retB (by (unfold rightR; rw [show badC c = true by assumption]; rfl)), S.ext⟩ | exact ⟨retB (by (unfold rightR; simp [*])), S.ext⟩
          · (try simp only [decide_eq_true_eq, decide_eq_false_iff_not, Bool.not_eq_true', Bool.not_eq_false', Bool.and_eq_true, Bool.or_eq_true, Bool.and_eq_false_iff, Bool.or_eq_false_iff, Bool.not_true, Bool.not_false] at h23)
            refine WO.qT rfl (Y.fieldB fo_58_1 rfl) ?_
            first | refine WO.qT rfl (Y.load rfl (loadS1 sz_2 S 0 rfl rfl)) ?_ | refine WO.qT rfl (Y.load rfl (loadS1 sz_2 S 1 rfl rfl)) ?_
            refine WO.qT rfl (Y.eql rfl rfl) ?_
            refine WO.qT rfl (Y.pickF (u := .bool _) rfl rfl) ?_
            refine WO.q (Y.pickT (u := .bool _) rfl rfl) ?_
            refine WO.q (Y.move (v := .bool _) rfl) ?_
            refine WO.splitB (fun h34 => ?_) (fun h34 => ?_)
            · (try simp only [decide_eq_true_eq, decide_eq_false_iff_not, Bool.not_eq_true', Bool.not_eq_false', Bool.and_eq_true, Bool.or_eq_true, Bool.and_eq_false_iff, Bool.or_eq_false_iff, Bool.not_true, Bool.not_false] at h34)
              refine WO.qT rfl (Y.move (v := .bool _) rfl) ?_
              refine WO.qT rfl (Y.move (v := .bool _) rfl) ?_
              refine WO.splitB (fun h35 => ?_) (fun h35 => ?_)
              · (try simp only [decide_eq_true_eq, decide_eq_false_iff_not, Bool.not_eq_true', Bool.not_eq_false', Bool.and_eq_true, Bool.or_eq_true, Bool.and_eq_false_iff, Bool.or_eq_false_iff, Bool.not_true, Bool.not_false] at h35)
                refine WO.qF rfl ?_
                refine WO.qF rfl ?_
                refine WO.qF rfl ?_
                refine WO.qT rfl (Y.pickT (u := .bool _) rfl rfl) ?_
                refine WO.q (Y.pickT (u := .bool _) rfl rfl) ?_
                refine WO.q (Y.move (v := .bool _) rfl) ?_
                refine WO.qT rfl (Y.move (v := .bool _) rfl) ?_
                refine WO.qT rfl (Y.move (v := .bool _) rfl) ?_
                refine WO.splitB (fun h36 => ?_) (fun h36 => ?_)
                · (try simp only [decide_eq_true_eq, decide_eq_false_iff_not, Bool.not_eq_true', Bool.not_eq_false', Bool.and_eq_true, Bool.or_eq_true, Bool.and_eq_false_iff, Bool.or_eq_false_iff, Bool.not_true, Bool.not_false] at h36)
                  refine WO.qF rfl ?_
                  refine WO.qF rfl ?_
                  refine WO.qF rfl ?_
                  refine WO.qT rfl (Y.pickT (u := .bool _) rfl rfl) ?_
                  refine WO.q (Y.pickT (u := .bool _) rfl rfl) ?_
                  refine WO.q (Y.move (v := .bool _) rfl) ?_
                  refine WO.qT rfl (Y.move (v := .bool _) rfl) ?_
                  refine WO.qT rfl (Y.move (v := .bool _) rfl) ?_
                  refine WO.splitB (fun h37 => ?_) (fun h37 => ?_)
                  · (try simp only [decide_eq_true_eq, decide_eq_false_iff_not, Bool.not_eq_true', Bool.not_eq_false', Bool.and_eq_true, Bool.or_eq_true, Bool.and_eq_false_iff, Bool.or_eq_false_iff, Bool.not_true, Bool.not_false] at h37)
                    refine WO.qF rfl ?_
                    refine WO.qF rfl ?_
                    refine WO.qF rfl ?_
                    refine WO.qT rfl (Y.pickT (u := .bool _) rfl rfl) ?_
                    refine WO.q (Y.pickT (u := .bool _) rfl rfl) ?_
                    refine WO.q (Y.assign (v := .bool _) rfl) ?_
                    refine WO.nil ?_
                    refine Then.nx ?_
                    refine W.ret ?_
                    refine BodyQ.ret1 Tryd.results47 (ResV.tmp _ rfl) ?_
                    first | exact ⟨retB (by (unfold rightR; rw [show badC c = true by assumption]; rfl)), S.ext⟩ | exact ⟨retB (by (unfold rightR; simp [*])), S.ext⟩
                  · (try simp only [decide_eq_true_eq, decide_eq_false_iff_not, Bool.not_eq_true', Bool.not_eq_false', Bool.and_eq_true, Bool.or_eq_true, Bool.and_eq_false_iff, Bool.or_eq_false_iff, Bool.not_true, Bool.not_false] at h37)
                    refine WO.qT rfl (Y.fieldB fo_58_4 rfl) ?_
                    first | refine WO.qT rfl (Y.load rfl (loadS1 sz_4 S 0 rfl rfl)) ?_ | refine WO.qT rfl (Y.load rfl (loadS1 sz_4 S 1 rfl rfl)) ?_
                    refine WO.qT rfl (Y.not rfl) ?_
                    refine WO.qT rfl (Y.pickF (u := .bool _) rfl rfl) ?_
                    refine WO.q (Y.pickT (u := .bool _) rfl rfl) ?_
                    refine WO.q (Y.assign (v := .bool _) rfl) ?_
                    refine WO.nil ?_
                    refine Then.nx ?_
                    refine W.ret ?_
                    refine BodyQ.ret1 Tryd.results47 (ResV.tmp _ rfl) ?_
                    first | exact ⟨retB (by (unfold rightR; rw [show badC c = true by assumption]; rfl)), S.ext⟩ | exact ⟨retB (by (unfold rightR; simp [*])), S.ext⟩
                · (try simp only [decide_eq_true_eq, decide_eq_false_iff_not, Bool.not_eq_true', Bool.not_eq_false', Bool.and_eq_true, Bool.or_eq_true, Bool.and_eq_false_iff, Bool.or_eq_false_iff, Bool.not_true, Bool.not_false] at h36)
                  refine WO.qT rfl (Y.fieldB fo_58_3 rfl) ?_
                  first | refine WO.qT rfl (Y.load rfl (loadS1 sz_2 S 0 rfl rfl)) ?_ | refine WO.qT rfl (Y.load rfl (loadS1 sz_2 S 1 rfl rfl)) ?_
                  refine WO.qT rfl (Y.eql rfl rfl) ?_
                  refine WO.qT rfl (Y.pickF (u := .bool _) rfl rfl) ?_
                  refine WO.q (Y.pickT (u := .bool _) rfl rfl) ?_
                  refine WO.q (Y.move (v := .bool _) rfl) ?_
                  refine WO.splitB (fun h38 => ?_) (fun h38 => ?_)
                  · (try simp only [decide_eq_true_eq, decide_eq_false_iff_not, Bool.not_eq_true', Bool.not_eq_false', Bool.and_eq_true, Bool.or_eq_true, Bool.and_eq_false_iff, Bool.or_eq_false_iff, Bool.not_true, Bool.not_false] at h38)
                    refine WO.qT rfl (Y.move (v := .bool _) rfl) ?_
                    refine WO.qT rfl (Y.move (v := .bool _) rfl) ?_
                    refine WO.splitB (fun h39 => ?_) (fun h39 => ?_)
                    · (try simp only [decide_eq_true_eq, decide_eq_false_iff_not, Bool.not_eq_true', Bool.not_eq_false', Bool.and_eq_true, Bool.or_eq_true, Bool.and_eq_false_iff, Bool.or_eq_false_iff, Bool.not_true, Bool.not_false] at h39)
                      refine WO.qF rfl ?_
                      refine WO.qF rfl ?_
                      refine WO.qF rfl ?_
                      refine WO.qT rfl (Y.pickT (u := .bool _) rfl rfl) ?_
                      refine WO.q (Y.pickT (u := .bool _) rfl rfl) ?_
                      refine WO.q (Y.assign (v := .bool _) rfl) ?_
                      refine WO.nil ?_
                      refine Then.nx ?_
                      refine W.ret ?_
                      refine BodyQ.ret1 Tryd.results47 (ResV.tmp _ rfl) ?_
                      first | exact ⟨retB (by (unfold rightR; rw [show badC c = true by assumption]; rfl)), S.ext⟩ | exact ⟨retB (by (unfold rightR; simp [*])), S.ext⟩
                    · (try simp only [decide_eq_true_eq, decide_eq_false_iff_not, Bool.not_eq_true', Bool.not_eq_false', Bool.and_eq_true, Bool.or_eq_true, Bool.and_eq_false_iff, Bool.or_eq_false_iff, Bool.not_true, Bool.not_false] at h39)
                      refine WO.qT rfl (Y.fieldB fo_58_4 rfl) ?_
                      first | refine WO.qT rfl (Y.load rfl (loadS1 sz_4 S 0 rfl rfl)) ?_ | refine WO.qT rfl (Y.load rfl (loadS1 sz_4 S 1 rfl rfl)) ?_
                      refine WO.qT rfl (Y.not rfl) ?_
                      refine WO.qT rfl (Y.pickF (u := .bool _) rfl rfl) ?_
                      refine WO.q (Y.pickT (u := .bool _) rfl rfl) ?_
                      refine WO.q (Y.assign (v := .bool _) rfl) ?_
                      refine WO.nil ?_
                      refine Then.nx ?_
                      refine W.ret ?_
                      refine BodyQ.ret1 Tryd.results47 (ResV.tmp _ rfl) ?_
                      first | exact ⟨retB (by (unfold rightR; rw [show badC c = true by assumption]; rfl)), S.ext⟩ | exact ⟨retB (by (unfold rightR; simp [*])), S.ext⟩
                  · (try simp only [decide_eq_true_eq, decide_eq_false_iff_not, Bool.not_eq_true', Bool.not_eq_false', Bool.and_eq_true, Bool.or_eq_true, Bool.and_eq_false_iff, Bool.or_eq_false_iff, Bool.not_true, Bool.not_false] at h38)
                    refine WO.qF rfl ?_
                    refine WO.qF rfl ?_
                    refine WO.qF rfl ?_
                    refine WO.qF rfl ?_
                    refine WO.qF rfl ?_
                    refine WO.qF rfl ?_
                    refine WO.q (Y.pickF (u := .bool _) rfl rfl) ?_
                    refine WO.q (Y.assign (v := .bool _) rfl) ?_
                    refine WO.nil ?_
                    refine Then.nx ?_
                    refine W.ret ?_
                    refine BodyQ.ret1 Tryd.results47 (ResV.tmp _ rfl) ?_
                    first | exact ⟨retB (by (unfold rightR; rw [show badC c = true by assumption]; rfl)), S.ext⟩ | exact ⟨retB (by (unfold rightR; simp [*])), S.ext⟩
              · (try simp only [decide_eq_true_eq, decide_eq_false_iff_not, Bool.not_eq_true', Bool.not_eq_false', Bool.and_eq_true, Bool.or_eq_true, Bool.and_eq_false_iff, Bool.or_eq_false_iff, Bool.not_true, Bool.not_false] at h35)
                refine WO.qT rfl (Y.fieldB fo_58_2 rfl) ?_
                first | refine WO.qT rfl (Y.load rfl (loadS1 sz_2 S 0 rfl rfl)) ?_ | refine WO.qT rfl (Y.load rfl (loadS1 sz_2 S 1 rfl rfl)) ?_
                refine WO.qT rfl (Y.eql rfl rfl) ?_
                refine WO.qT rfl (Y.pickF (u := .bool _) rfl rfl) ?_
                refine WO.q (Y.pickT (u := .bool _) rfl rfl) ?_
                refine WO.q (Y.move (v := .bool _) rfl) ?_
                refine WO.splitB (fun h40 => ?_) (fun h40 => ?_)
                · (try simp only [decide_eq_true_eq, decide_eq_false_iff_not, Bool.not_eq_true', Bool.not_eq_false', Bool.and_eq_true, Bool.or_eq_true, Bool.and_eq_false_iff, Bool.or_eq_false_iff, Bool.not_true, Bool.not_false] at h40)
                  refine WO.qT rfl (Y.move (v := .bool _) rfl) ?_
                  refine WO.qT rfl (Y.move (v := .bool _) rfl) ?_
                  refine WO.splitB (fun h41 => ?_) (fun h41 => ?_)
                  · (try simp only [decide_eq_true_eq, decide_eq_false_iff_not, Bool.not_eq_true', Bool.not_eq_false', Bool.and_eq_true, Bool.or_eq_true, Bool.and_eq_false_iff, Bool.or_eq_false_iff, Bool.not_true, Bool.not_false] at h41)
                    refine WO.qF rfl ?_
                    refine WO.qF rfl ?_
                    refine WO.qF rfl ?_
                    refine WO.qT rfl (Y.pickT (u := .bool _) rfl rfl) ?_
                    refine WO.q (Y.pickT (u := .bool _) rfl rfl) ?_
                    refine WO.q (Y.move (v := .bool _) rfl) ?_
                    refine WO.qT rfl (Y.move (v := .bool _) rfl) ?_
                    refine WO.qT rfl (Y.move (v := .bool _) rfl) ?_
                    refine WO.splitB (fun h42 => ?_) (fun h42 => ?_)
                    · (try simp only [decide_eq_true_eq, decide_eq_false_iff_not, Bool.not_eq_true', Bool.not_eq_false', Bool.and_eq_true, Bool.or_eq_true, Bool.and_eq_false_iff, Bool.or_eq_false_iff, Bool.not_true, Bool.not_false] at h42)
                      refine WO.qF rfl ?_
                      refine WO.qF rfl ?_
                      refine WO.qF rfl ?_
                      refine WO.qT rfl (Y.pickT (u := .bool _) rfl rfl) ?_
                      refine WO.q (Y.pickT (u := .bool _) rfl rfl) ?_
                      refine WO.q (Y.assign (v := .bool _) rfl) ?_
                      refine WO.nil ?_
                      refine Then.nx ?_
                      refine W.ret ?_
                      refine BodyQ.ret1 Tryd.results47 (ResV.tmp _ rfl) ?_
                      first | exact ⟨retB (by (unfold rightR; rw [show badC c = true by assumption]; rfl)), S.ext⟩ | exact ⟨retB (by (unfold rightR; simp [*])), S.ext⟩
                    · (try simp only [decide_eq_true_eq, decide_eq_false_iff_not, Bool.not_eq_true', Bool.not_eq_false', Bool.and_eq_true, Bool.or_eq_true, Bool.and_eq_false_iff, Bool.or_eq_false_iff, Bool.not_true, Bool.not_false] at h42)
                      refine WO.qT rfl (Y.fieldB fo_58_4 rfl) ?_
                      first | refine WO.qT rfl (Y.load rfl (loadS1 sz_4 S 0 rfl rfl)) ?_ | refine WO.qT rfl (Y.load rfl (loadS1 sz_4 S 1 rfl rfl)) ?_
                      refine WO.qT rfl (Y.not rfl) ?_
                      refine WO.qT rfl (Y.pickF (u := .bool _) rfl rfl) ?_
                      refine WO.q (Y.pickT (u := .bool _) rfl rfl) ?_
                      refine WO.q (Y.assign (v := .bool _) rfl) ?_
                      refine WO.nil ?_
                      refine Then.nx ?_
                      refine W.ret ?_
                      refine BodyQ.ret1 Tryd.results47 (ResV.tmp _ rfl) ?_
                      first | exact ⟨retB (by (unfold rightR; rw [show badC c = true by assumption]; rfl)), S.ext⟩ | exact ⟨retB (by (unfold rightR; simp [*])), S.ext⟩
                  · (try simp only [decide_eq_true_eq, decide_eq_false_iff_not, Bool.not_eq_true', Bool.not_eq_false', Bool.and_eq_true, Bool.or_eq_true, Bool.and_eq_false_iff, Bool.or_eq_false_iff, Bool.not_true, Bool.not_false] at h41)
                    refine WO.qT rfl (Y.fieldB fo_58_3 rfl) ?_
                    first | refine WO.qT rfl (Y.load rfl (loadS1 sz_2 S 0 rfl rfl)) ?_ | refine WO.qT rfl (Y.load rfl (loadS1 sz_2 S 1 rfl rfl)) ?_
                    refine WO.qT rfl (Y.eql rfl rfl) ?_
                    refine WO.qT rfl (Y.pickF (u := .bool _) rfl rfl) ?_
                    refine WO.q (Y.pickT (u := .bool _) rfl rfl) ?_
                    refine WO.q (Y.move (v := .bool _) rfl) ?_
                    refine WO.splitB (fun h43 => ?_) (fun h43 => ?_)
                    · (try simp only [decide_eq_true_eq, decide_eq_false_iff_not, Bool.not_eq_true', Bool.not_eq_false', Bool.and_eq_true, Bool.or_eq_true, Bool.and_eq_false_iff, Bool.or_eq_false_iff, Bool.not_true, Bool.not_false] at h43)
                      refine WO.qT rfl (Y.move (v := .bool _) rfl) ?_
                      refine WO.qT rfl (Y.move (v := .bool _) rfl) ?_
                      refine WO.splitB (fun h44 => ?_) (fun h44 => ?_)
                      · (try simp only [decide_eq_true_eq, decide_eq_false_iff_not, Bool.not_eq_true', Bool.not_eq_false', Bool.and_eq_true, Bool.or_eq_true, Bool.and_eq_false_iff, Bool.or_eq_false_iff, Bool.not_true, Bool.not_false] at h44)
                        refine WO.qF rfl ?_
                        refine WO.qF rfl ?_
                        refine WO.qF rfl ?_
                        refine WO.qT rfl (Y.pickT (u := .bool _) rfl rfl) ?_
                        refine WO.q (Y.pickT (u := .bool _) rfl rfl) ?_
                        refine WO.q (Y.assign (v := .bool _) rfl) ?_
                        refine WO.nil ?_
                        refine Then.nx ?_
                        refine W.ret ?_
                        refine BodyQ.ret1 Tryd.results47 (ResV.tmp _ rfl) ?_
                        first | exact ⟨retB (by (unfold rightR; rw [show badC c = true by assumption]; rfl)), S.ext⟩ | exact ⟨retB (by (unfold rightR; simp [*])), S.ext⟩
                      · (try simp only [decide_eq_true_eq, decide_eq_false_iff_not, Bool.not_eq_true', Bool.not_eq_false', Bool.and_eq_true, Bool.or_eq_true, Bool.and_eq_false_iff, Bool.or_eq_false_iff, Bool.not_true, Bool.not_false] at h44)
                        refine WO.qT rfl (Y.fieldB fo_58_4 rfl) ?_
                        first | refine WO.qT rfl (Y.load rfl (loadS1 sz_4 S 0 rfl rfl)) ?_ | refine WO.qT rfl (Y.load rfl (loadS1 sz_4 S 1 rfl rfl)) ?_
                        refine WO.qT rfl (Y.not rfl) ?_
                        refine WO.qT rfl (Y.pickF (u := .bool _) rfl rfl) ?_
                        refine WO.q (Y.pickT (u := .bool _) rfl rfl) ?_
                        refine WO.q (Y.assign (v := .bool _) rfl) ?_
                        refine WO.nil ?_
                        refine Then.nx ?_
                        refine W.ret ?_
                        refine BodyQ.ret1 Tryd.results47 (ResV.tmp _ rfl) ?_
                        first | exact ⟨retB (by (unfold rightR; rw [show badC c = true by assumption]; rfl)), S.ext⟩ | exact ⟨retB (by (unfold rightR; simp [*])), S.ext⟩
                    · (try simp only [decide_eq_true_eq, decide_eq_false_iff_not, Bool.not_eq_true', Bool.not_eq_false', Bool.and_eq_true, Bool.or_eq_true, Bool.and_eq_false_iff, Bool.or_eq_false_iff, Bool.not_true, Bool.not_false] at h43)
                      refine WO.qF rfl ?_
                      refine WO.qF rfl ?_
                      refine WO.qF rfl ?_
                      refine WO.qF rfl ?_
                      refine WO.qF rfl ?_
                      refine WO.qF rfl ?_
                      refine WO.q (Y.pickF (u := .bool _) rfl rfl) ?_
                      refine WO.q (Y.assign (v := .bool _) rfl) ?_
                      refine WO.nil ?_
                      refine Then.nx ?_
                      refine W.ret ?_
                      refine BodyQ.ret1 Tryd.results47 (ResV.tmp _ rfl) ?_
                      first | exact ⟨retB (by (unfold rightR; rw [show badC c = true by assumption]; rfl)), S.ext⟩ | exact ⟨retB (by (unfold rightR; simp [*])), S.ext⟩
                · (try simp only [decide_eq_true_eq, decide_eq_false_iff_not, Bool.not_eq_true', Bool.not_eq_false', Bool.and_eq_true, Bool.or_eq_true, Bool.and_eq_false_iff, Bool.or_eq_false_iff, Bool.not_true, Bool.not_false] at h40)
                  refine WO.qF rfl ?_
                  refine WO.qF rfl ?_
                  refine WO.qF rfl ?_
                  refine WO.qF rfl ?_
                  refine WO.qF rfl ?_
                  refine WO.qF rfl ?_
                  refine WO.q (Y.pickF (u := .bool _) rfl rfl) ?_
                  refine WO.q (Y.move (v := .bool _) rfl) ?_
                  refine WO.qF rfl ?_
                  refine WO.qF rfl ?_
                  refine WO.qF rfl ?_
                  refine WO.qF rfl ?_
                  refine WO.qF rfl ?_
                  refine WO.qF rfl ?_
                  refine WO.q (Y.pickF (u := .bool _) rfl rfl) ?_
                  refine WO.q (Y.assign (v := .bool _) rfl) ?_
                  refine WO.nil ?_
                  refine Then.nx ?_
                  refine W.ret ?_
                  refine BodyQ.ret1 Tryd.results47 (ResV.tmp _ rfl) ?_
                  first | exact ⟨retB (by (unfold rightR; rw [show badC c = true by assumption]; rfl)), S.ext⟩ | exact ⟨retB (by (unfold rightR; simp [*])), S.ext⟩
            · (try simp only [decide_eq_true_eq, decide_eq_false_iff_not, Bool.not_eq_true', Bool.not_eq_false', Bool.and_eq_true, Bool.or_eq_true, Bool.and_eq_false_iff, Bool.or_eq_false_iff, Bool.not_true, Bool.not_false] at h34)
              refine WO.qF rfl ?_
              refine WO.qF rfl ?_
              refine WO.qF rfl ?_
              refine WO.qF rfl ?_
              refine WO.qF rfl ?_
              refine WO.qF rfl ?_
              refine WO.q (Y.pickF (u := .bool _) rfl rfl) ?_
              refine WO.q (Y.move (v := .bool _) rfl) ?_
              refine WO.qF rfl ?_
              refine WO.qF rfl ?_
              refine WO.qF rfl ?_
              refine WO.qF rfl ?_
              refine WO.qF rfl ?_
              refine WO.qF rfl ?_
              refine WO.q (Y.pickF (u := .bool _) rfl rfl) ?_
              refine WO.q (Y.move (v := .bool _) rfl) ?_
              refine WO.qF rfl ?_
              refine WO.qF rfl ?_
              refine WO.qF rfl ?_
              refine WO.qF rfl ?_
              refine WO.qF rfl ?_
              refine WO.qF rfl ?_
              refine WO.q (Y.pickF (u := .bool _) rfl rfl) ?_
              refine WO.q (Y.assign (v := .bool _) rfl) ?_
              refine WO.nil ?_
              refine Then.nx ?_
              refine W.ret ?_
              refine BodyQ.ret1 Tryd.results47 (ResV.tmp _ rfl) ?_
              first | exact ⟨retB (by (unfold rightR; rw [show badC c = true by assumption]; rfl)), S.ext⟩ | exact ⟨retB (by (unfold rightR; simp [*])), S.ext⟩
        · (try simp only [decide_eq_true_eq, decide_eq_false_iff_not, Bool.not_eq_true', Bool.not_eq_false', Bool.and_eq_true, Bool.or_eq_true, Bool.and_eq_false_iff, Bool.or_eq_false_iff, Bool.not_true, Bool.not_false] at h22)
          refine WO.qF rfl ?_
          refine WO.qF rfl ?_
          refine WO.qF rfl ?_
          refine WO.qF rfl ?_
          refine WO.qF rfl ?_
          refine WO.qF rfl ?_
          refine WO.q (Y.pickF (u := .bool _) rfl rfl) ?_
          refine WO.q (Y.move (v := .bool _) rfl) ?_
          refine WO.qF rfl ?_
          refine WO.qF rfl ?_
          refine WO.qF rfl ?_
          refine WO.qF rfl ?_
          refine WO.qF rfl ?_
          refine WO.qF rfl ?_
          refine WO.q (Y.pickF (u := .bool _) rfl rfl) ?_
          refine WO.q (Y.move (v := .bool _) rfl) ?_
          refine WO.qF rfl ?_
          refine WO.qF rfl ?_
          refine WO.qF rfl ?_
          refine WO.qF rfl ?_
          refine WO.qF rfl ?_
          refine WO.qF rfl ?_
          refine WO.q (Y.pickF (u := .bool _) rfl rfl) ?_
          refine WO.q (Y.move (v := .bool _) rfl) ?_
          refine WO.qF rfl ?_
          refine WO.qF rfl ?_
          refine WO.qF rfl ?_
          refine WO.qF rfl ?_
          refine WO.qF rfl ?_
          refine WO.qF rfl ?_
          refine WO.q (Y.pickF (u := .bool _) rfl rfl) ?_
          refine WO.q (Y.assign (v := .bool _) rfl) ?_
          refine WO.nil ?_
          refine Then.nx ?_
          refine W.ret ?_
          refine BodyQ.ret1 Tryd.results47 (ResV.tmp _ rfl) ?_
          first | exact ⟨retB (by (unfold rightR; rw [show badC c = true by assumption]; rfl)), S.ext⟩ | exact ⟨retB (by (unfold rightR; simp [*])), S.ext⟩
theorem Do_spec (w0 : World) (k : Int) (a : Option Addr) (cap : Nat) (R : List Int) (c : GCall) (R1 : Rd (tI .i64) w0 a R) (hk : 1 ≤ k ∧ k ≤ 4) (hR : 2 < k → R.length ≤ 1) (hl : R.length ≤ 4096) :
    Calls Tryd.prog 78 [.int .i64 k, .slice a R.length cap, .agg (tCall.enc c).toArray].toArray w0 (fun e w => ∃ a' cap' M, e = .returned (.tuple #[.slice a' (DoM k R c).1.length cap', .int .i64 (DoM k R c).2.1, .bool (DoM k R c).2.2]) ∧ Sat w0 w [M] ∧ Reads M (tI .i64) a' (DoM k R c).1) := by
  have S := Sat.refl w0
  refine calls_of_W (args := [.int .i64 k, .slice a R.length cap, .agg (tCall.enc c).toArray]) 99 Tryd.func78 rfl Tryd.ntmps78 rfl ?_
  refine W.seq ?_
  refine W.region rfl ?_
  refine WO.e (O.box rfl rfl S (fun b5 w S => ?_))
  refine WO.q (Y.assign (v := .slice _ _ _) rfl) ?_
  refine WO.q (Y.assign (v := .int .i64 _) rfl) ?_
  refine WO.q (Y.assign (v := .bool _) rfl) ?_
  refine WO.nil ?_
  refine Then.nx ?_
  refine W.seq ?_
  refine W.region rfl ?_
  refine WO.q (Y.assign (v := .slice _ _ _) rfl) ?_
  refine WO.nil ?_
  refine Then.nx ?_
  refine W.seq ?_
  replace S := S.nilOwn (tI .i64) 2
  refine W.region rfl ?_
  refine WO.q (Y.move (v := .slice _ _ _) rfl) ?_
  refine WO.q (Y.move (v := .slice _ _ _) rfl) ?_
  refine WO.e (O.append 0 sl_54 S rfl rfl rfl rfl (R1.ext S.ext) rfl (by (simp only [List.length_nil]; omega)) (by (simp only [List.length_nil, maxLen]; omega)) (fun a12 c12 w S hn12 => ?_))
  simp only [List.nil_append] at S ⊢
  refine WO.q (Y.assign (v := .slice _ _ _) rfl) ?_
  refine WO.nil ?_
  refine Then.nx ?_
  refine W.seq ?_
  refine W.seq ?_
  replace S : Sat w0 w [Own (tI .i64) 2 a12 c12 R, Cel b5 (tCall.enc c) 58] := S
  have hcp := (S.ownLen 0 rfl).1
  refine W.region rfl ?_
  refine WO.q (Y.move (v := .int .i64 _) rfl) ?_
  refine WO.q (Y.eql rfl rfl) ?_
  refine WO.q (Y.move (v := .bool _) rfl) ?_
  refine WO.splitB (fun h1 => ?_) (fun h1 => ?_)
  · (try simp only [decide_eq_true_eq, decide_eq_false_iff_not, Bool.not_eq_true', Bool.not_eq_false', Bool.and_eq_true, Bool.or_eq_true, Bool.and_eq_false_iff, Bool.or_eq_false_iff, Bool.not_true, Bool.not_false] at h1)
    refine WO.qF rfl ?_
    refine WO.qF rfl ?_
    refine WO.q (Y.pickT (u := .bool _) rfl rfl) ?_
    refine WO.nil ?_
    refine Then.nx ?_
    first | refine W.condT rfl ?_ | refine W.condT (congrArg Value.bool (by assumption)) ?_
    refine W.seq ?_
    refine W.block ?_
    refine W.seq ?_
    refine W.region rfl ?_
    refine WO.q (Y.fieldB fo_58_0 rfl) ?_
    first | refine WO.q (Y.load rfl (loadS1 sz_56 S 0 rfl rfl)) ?_ | refine WO.q (Y.load rfl (loadS1 sz_56 S 1 rfl rfl)) ?_ | refine WO.q (Y.load rfl (loadS1 sz_56 S 2 rfl rfl)) ?_
    refine WO.q (Y.eql rfl rfl) ?_
    refine WO.q (Y.assign (v := .bool _) rfl) ?_
    refine WO.nil ?_
    refine Then.nx ?_
    refine W.cond rfl (fun h2 => ?_) (fun h2 => ?_) -- cond 0
    · have rh2 := h2
      (try simp only [decide_eq_true_eq, decide_eq_false_iff_not, Bool.not_eq_true', Bool.not_eq_false', Bool.and_eq_true, Bool.or_eq_true, Bool.and_eq_false_iff, Bool.or_eq_false_iff, Bool.not_true, Bool.not_false] at h2)
      refine W.seq ?_
      refine W.region rfl ?_
      refine WO.q (Y.move (v := .slice _ _ _) rfl) ?_
      refine WO.q (Y.fieldB fo_58_1 rfl) ?_
      first | refine WO.q (Y.load rfl (loadS1 sz_2 S 0 rfl rfl)) ?_ | refine WO.q (Y.load rfl (loadS1 sz_2 S 1 rfl rfl)) ?_ | refine WO.q (Y.load rfl (loadS1 sz_2 S 2 rfl rfl)) ?_
      first | refine WO.e (O.buildSlice rfl (buildOne sl_54 (by decide) rfl rfl) S (fun b26 w S => ?_)) | refine WO.e (O.buildSlice rfl (buildOne sl_54 (by decide) rfl (by simp)) S (fun b26 w S => ?_)) | refine WO.e (O.buildSlice rfl (bs_54_1_0) S (fun b26 w S => ?_))
      refine WO.e (O.append (T := tI .i64) (ys := [c.arg]) 1 sl_54 S rfl rfl rfl rfl (S.rd1 (T := tI .i64) (x := c.arg) 0 rfl) rfl (by (simp only [List.length_singleton]; omega)) (by (simp only [List.length_singleton, maxLen]; omega)) (fun a27 c27 w S hn27 => ?_))
      refine WO.q (Y.assign (v := .slice _ _ _) rfl) ?_
      refine WO.q (Y.assign (v := .int .i64 _) rfl) ?_
      refine WO.q (Y.assign (v := .bool _) rfl) ?_
      refine WO.nil ?_
      refine Then.nx ?_
      refine W.ret ?_
      refine InB.r ?_
      refine Then.r ?_
      refine Then.r ?_
      refine BodyQ.ret3 Tryd.results78 (ResV.tmp _ rfl) (ResV.tmp _ rfl) (ResV.tmp _ rfl) ?_
      first | (exfalso; omega) | ((have e1 : DoM k R c = ((doesM k R c).1, (doesM k R c).2.answer, (doesM k R c).2.ok) := if_pos (by omega)); rw [e1, doesM_put (by omega) (by assumption)]; exact ⟨a27, c27, _, rfl, S.pk (.cons 1 rfl (.nil _)), Reads.own _ _ _ _ _⟩) | ((have e1 : DoM k R c = ((doesM k R c).1, (doesM k R c).2.answer, (doesM k R c).2.ok) := if_pos (by omega)); rw [e1, doesM_nil (by omega) (by assumption) (List.eq_nil_of_length_eq_zero (by omega))]; exact ⟨a12, c12, _, rfl, S.pk (.cons 0 rfl (.nil _)), Reads.own _ _ _ _ _⟩) | ((have e1 : DoM k R c = ((doesM k R c).1, (doesM k R c).2.answer, (doesM k R c).2.ok) := if_pos (by omega)); rw [e1, doesM_queue (by omega) (by assumption) hx1 (by assumption)]; exact ⟨sla a12 1 c12 1, c12 - 1, _, (by rw [List.length_drop]; rfl), S.pk (.cons 0 rfl (.nil _)), (Reads.own _ _ _ _ _).drop 1 c12 hcp⟩) | ((have e1 : DoM k R c = ((doesM k R c).1, (doesM k R c).2.answer, (doesM k R c).2.ok) := if_pos (by omega)); rw [e1, doesM_stack (by omega) (by assumption) hx1 (by omega)]; (have hlt : (R.take (R.length - 1)).length = R.length - 1 := (by (rw [List.length_take]; omega))); exact ⟨a12, c12, _, (by (rw [hlt]; rfl)), S.pk (.cons 0 rfl (.nil _)), (Reads.own _ _ _ _ _).take _⟩) | ((have e1 : DoM k R c = ([wr (x + c.arg)], wr (x + c.arg), false) := (by (unfold DoM; rw [if_neg (by omega), hx]; exact if_pos (by assumption)))); rw [e1]; exact ⟨_, _, _, rfl, S.pk (.cons 0 rfl (.nil _)), Reads.own _ _ _ _ _⟩) | ((have e1 : DoM k R c = ([c.arg], 0, false) := (by (unfold DoM; rw [if_neg (by omega), hx]; exact (if_neg (by omega)).trans (if_pos (by assumption))))); rw [e1]; exact ⟨_, _, _, rfl, S.pk (.cons 0 rfl (.nil _)), Reads.own _ _ _ _ _⟩) | ((have e1 : DoM k R c = ([c.new], 0, true) := (by (unfold DoM; rw [if_neg (by omega), hx]; exact (if_neg (by omega)).trans ((if_neg (by omega)).trans ((if_pos (by assumption)).trans (if_pos (by assumption))))))); rw [e1]; exact ⟨_, _, _, rfl, S.pk (.cons 0 rfl (.nil _)), Reads.own _ _ _ _ _⟩) | ((have e1 : DoM k R c = ([x], 0, false) := (by (unfold DoM; rw [if_neg (by omega), hx]; exact (if_neg (by omega)).trans ((if_neg (by omega)).trans ((if_pos (by assumption)).trans (if_neg (by assumption))))))); rw [e1]; exact ⟨_, _, _, rfl, S.pk (.cons 0 rfl (.nil _)), Reads.own _ _ _ _ _⟩) | ((have e1 : DoM k R c = ([x], x, false) := (by (unfold DoM; rw [if_neg (by omega), hx]; exact (if_neg (by omega)).trans ((if_neg (by omega)).trans (if_neg (by assumption)))))); rw [e1]; exact ⟨_, _, _, rfl, S.pk (.cons 0 rfl (.nil _)), Reads.own _ _ _ _ _⟩)
    · have rh2 := h2
      (try simp only [decide_eq_true_eq, decide_eq_false_iff_not, Bool.not_eq_true', Bool.not_eq_false', Bool.and_eq_true, Bool.or_eq_true, Bool.and_eq_false_iff, Bool.or_eq_false_iff, Bool.not_true, Bool.not_false] at h2)
      refine W.seq ?_
      refine W.region rfl ?_
      refine WO.q (Y.move (v := .slice _ _ _) rfl) ?_
      refine WO.q (Y.len (t' := 0) Tryd.underlying54 rfl) ?_
      refine WO.q (Y.eql rfl rfl) ?_
      refine WO.q (Y.assign (v := .bool _) rfl) ?_
      refine WO.nil ?_
      refine Then.nx ?_
      refine W.cond rfl (fun h3 => ?_) (fun h3 => ?_) -- cond 1
      · have rh3 := h3
        (try simp only [decide_eq_true_eq, decide_eq_false_iff_not, Bool.not_eq_true', Bool.not_eq_false', Bool.and_eq_true, Bool.or_eq_true, Bool.and_eq_false_iff, Bool.or_eq_false_iff, Bool.not_true, Bool.not_false] at h3)
        refine W.seq ?_
        refine W.region rfl ?_
        refine WO.q (Y.move (v := .slice _ _ _) rfl) ?_
        refine WO.q (Y.assign (v := .slice _ _ _) rfl) ?_
        refine WO.q (Y.assign (v := .int .i64 _) rfl) ?_
        refine WO.q (Y.assign (v := .bool _) rfl) ?_
        refine WO.nil ?_
        refine Then.nx ?_
        refine W.ret ?_
        refine InB.r ?_
        refine Then.r ?_
        refine Then.r ?_
        refine BodyQ.ret3 Tryd.results78 (ResV.tmp _ rfl) (ResV.tmp _ rfl) (ResV.tmp _ rfl) ?_
        first | (exfalso; omega) | ((have e1 : DoM k R c = ((doesM k R c).1, (doesM k R c).2.answer, (doesM k R c).2.ok) := if_pos (by omega)); rw [e1, doesM_put (by omega) (by assumption)]; exact ⟨a27, c27, _, rfl, S.pk (.cons 1 rfl (.nil _)), Reads.own _ _ _ _ _⟩) | ((have e1 : DoM k R c = ((doesM k R c).1, (doesM k R c).2.answer, (doesM k R c).2.ok) := if_pos (by omega)); rw [e1, doesM_nil (by omega) (by assumption) (List.eq_nil_of_length_eq_zero (by omega))]; exact ⟨a12, c12, _, rfl, S.pk (.cons 0 rfl (.nil _)), Reads.own _ _ _ _ _⟩) | ((have e1 : DoM k R c = ((doesM k R c).1, (doesM k R c).2.answer, (doesM k R c).2.ok) := if_pos (by omega)); rw [e1, doesM_queue (by omega) (by assumption) hx1 (by assumption)]; exact ⟨sla a12 1 c12 1, c12 - 1, _, (by rw [List.length_drop]; rfl), S.pk (.cons 0 rfl (.nil _)), (Reads.own _ _ _ _ _).drop 1 c12 hcp⟩) | ((have e1 : DoM k R c = ((doesM k R c).1, (doesM k R c).2.answer, (doesM k R c).2.ok) := if_pos (by omega)); rw [e1, doesM_stack (by omega) (by assumption) hx1 (by omega)]; (have hlt : (R.take (R.length - 1)).length = R.length - 1 := (by (rw [List.length_take]; omega))); exact ⟨a12, c12, _, (by (rw [hlt]; rfl)), S.pk (.cons 0 rfl (.nil _)), (Reads.own _ _ _ _ _).take _⟩) | ((have e1 : DoM k R c = ([wr (x + c.arg)], wr (x + c.arg), false) := (by (unfold DoM; rw [if_neg (by omega), hx]; exact if_pos (by assumption)))); rw [e1]; exact ⟨_, _, _, rfl, S.pk (.cons 0 rfl (.nil _)), Reads.own _ _ _ _ _⟩) | ((have e1 : DoM k R c = ([c.arg], 0, false) := (by (unfold DoM; rw [if_neg (by omega), hx]; exact (if_neg (by omega)).trans (if_pos (by assumption))))); rw [e1]; exact ⟨_, _, _, rfl, S.pk (.cons 0 rfl (.nil _)), Reads.own _ _ _ _ _⟩) | ((have e1 : DoM k R c = ([c.new], 0, true) := (by (unfold DoM; rw [if_neg (by omega), hx]; exact (if_neg (by omega)).trans ((if_neg (by omega)).trans ((if_pos (by assumption)).trans (if_pos (by assumption))))))); rw [e1]; exact ⟨_, _, _, rfl, S.pk (.cons 0 rfl (.nil _)), Reads.own _ _ _ _ _⟩) | ((have e1 : DoM k R c = ([x], 0, false) := (by (unfold DoM; rw [if_neg (by omega), hx]; exact (if_neg (by omega)).trans ((if_neg (by omega)).trans ((if_pos (by assumption)).trans (if_neg (by assumption))))))); rw [e1]; exact ⟨_, _, _, rfl, S.pk (.cons 0 rfl (.nil _)), Reads.own _ _ _ _ _⟩) | ((have e1 : DoM k R c = ([x], x, false) := (by (unfold DoM; rw [if_neg (by omega), hx]; exact (if_neg (by omega)).trans ((if_neg (by omega)).trans (if_neg (by assumption)))))); rw [e1]; exact ⟨_, _, _, rfl, S.pk (.cons 0 rfl (.nil _)), Reads.own _ _ _ _ _⟩)
      · have rh3 := h3
        (try simp only [decide_eq_true_eq, decide_eq_false_iff_not, Bool.not_eq_true', Bool.not_eq_false', Bool.and_eq_true, Bool.or_eq_true, Bool.and_eq_false_iff, Bool.or_eq_false_iff, Bool.not_true, Bool.not_false] at h3)
        refine W.seq ?_
        refine W.region rfl ?_
        refine WO.q (Y.move (v := .int .i64 _) rfl) ?_
        refine WO.q (Y.eql rfl rfl) ?_
        refine WO.q (Y.assign (v := .bool _) rfl) ?_
        refine WO.nil ?_
        refine Then.nx ?_
        refine W.cond rfl (fun h4 => ?_) (fun h4 => ?_) -- cond 2
        · have rh4 := h4
          (try simp only [decide_eq_true_eq, decide_eq_false_iff_not, Bool.not_eq_true', Bool.not_eq_false', Bool.and_eq_true, Bool.or_eq_true, Bool.and_eq_false_iff, Bool.or_eq_false_iff, Bool.not_true, Bool.not_false] at h4)
          refine W.seq ?_
          have hx0 : 0 < R.length := by omega
          have ha := (S.rd 0 rfl).1 hx0
          obtain ⟨x, hx1⟩ := at_ex (xs := R) (k := 0) hx0
          refine W.draw (.q 0 (.q 1 (.q 2 (.q 3 (.q 4 (.q 5 (.q 6 (.q 7 .nil)))))))) (fun w => Sat _ w _) rfl rfl (by kernel_rfl) rfl (by kernel_rfl) (by repeat (first | exact BodyQ.noFrame | refine Then.noFrame ?_ | refine InB.noFrame ?_)) S.drew ?_
          clear S
          refine Plan.q rfl (fun w S => Y.move (v := .slice _ _ _) rfl) ?_
          refine Plan.q rfl (fun w S => Y.sliceL sl_54 rfl rfl (by (first | assumption | omega))) ?_
          refine Plan.q rfl (fun w S => Y.move (v := .slice _ _ _) rfl) ?_
          first | refine Plan.q rfl (fun w S => Y.ixN sl_54 rfl rfl (by (first | assumption | rfl)) (by (first | assumption | omega))) ?_ | refine Plan.q rfl (fun w S => Y.ix sl_54 rfl rfl (by (first | assumption | rfl)) (by (first | assumption | omega)) (by (first | assumption | omega))) ?_
          refine Plan.q rfl (fun w S => Y.load rfl (loadRd1 sz_2 (S.rd 0 rfl) (by assumption) rfl)) ?_
          refine Plan.q rfl (fun w S => Y.assign (v := .slice _ _ _) rfl) ?_
          refine Plan.q rfl (fun w S => Y.assign (v := .int .i64 _) rfl) ?_
          refine Plan.q rfl (fun w S => Y.assign (v := .bool _) rfl) ?_
          refine Plan.nil (fun w S => ?_)
          replace S : Sat _ _ _ := S
          refine Then.nx ?_
          refine W.ret ?_
          refine InB.r ?_
          refine Then.r ?_
          refine Then.r ?_
          refine BodyQ.ret3 Tryd.results78 (ResV.tmp _ rfl) (ResV.tmp _ rfl) (ResV.tmp _ rfl) ?_
          first | (exfalso; omega) | ((have e1 : DoM k R c = ((doesM k R c).1, (doesM k R c).2.answer, (doesM k R c).2.ok) := if_pos (by omega)); rw [e1, doesM_put (by omega) (by assumption)]; exact ⟨a27, c27, _, rfl, S.pk (.cons 1 rfl (.nil _)), Reads.own _ _ _ _ _⟩) | ((have e1 : DoM k R c = ((doesM k R c).1, (doesM k R c).2.answer, (doesM k R c).2.ok) := if_pos (by omega)); rw [e1, doesM_nil (by omega) (by assumption) (List.eq_nil_of_length_eq_zero (by omega))]; exact ⟨a12, c12, _, rfl, S.pk (.cons 0 rfl (.nil _)), Reads.own _ _ _ _ _⟩) | ((have e1 : DoM k R c = ((doesM k R c).1, (doesM k R c).2.answer, (doesM k R c).2.ok) := if_pos (by omega)); rw [e1, doesM_queue (by omega) (by assumption) hx1 (by assumption)]; exact ⟨sla a12 1 c12 1, c12 - 1, _, (by rw [List.length_drop]; rfl), S.pk (.cons 0 rfl (.nil _)), (Reads.own _ _ _ _ _).drop 1 c12 hcp⟩) | ((have e1 : DoM k R c = ((doesM k R c).1, (doesM k R c).2.answer, (doesM k R c).2.ok) := if_pos (by omega)); rw [e1, doesM_stack (by omega) (by assumption) hx1 (by omega)]; (have hlt : (R.take (R.length - 1)).length = R.length - 1 := (by (rw [List.length_take]; omega))); exact ⟨a12, c12, _, (by (rw [hlt]; rfl)), S.pk (.cons 0 rfl (.nil _)), (Reads.own _ _ _ _ _).take _⟩) | ((have e1 : DoM k R c = ([wr (x + c.arg)], wr (x + c.arg), false) := (by (unfold DoM; rw [if_neg (by omega), hx]; exact if_pos (by assumption)))); rw [e1]; exact ⟨_, _, _, rfl, S.pk (.cons 0 rfl (.nil _)), Reads.own _ _ _ _ _⟩) | ((have e1 : DoM k R c = ([c.arg], 0, false) := (by (unfold DoM; rw [if_neg (by omega), hx]; exact (if_neg (by omega)).trans (if_pos (by assumption))))); rw [e1]; exact ⟨_, _, _, rfl, S.pk (.cons 0 rfl (.nil _)), Reads.own _ _ _ _ _⟩) | ((have e1 : DoM k R c = ([c.new], 0, true) := (by (unfold DoM; rw [if_neg (by omega), hx]; exact (if_neg (by omega)).trans ((if_neg (by omega)).trans ((if_pos (by assumption)).trans (if_pos (by assumption))))))); rw [e1]; exact ⟨_, _, _, rfl, S.pk (.cons 0 rfl (.nil _)), Reads.own _ _ _ _ _⟩) | ((have e1 : DoM k R c = ([x], 0, false) := (by (unfold DoM; rw [if_neg (by omega), hx]; exact (if_neg (by omega)).trans ((if_neg (by omega)).trans ((if_pos (by assumption)).trans (if_neg (by assumption))))))); rw [e1]; exact ⟨_, _, _, rfl, S.pk (.cons 0 rfl (.nil _)), Reads.own _ _ _ _ _⟩) | ((have e1 : DoM k R c = ([x], x, false) := (by (unfold DoM; rw [if_neg (by omega), hx]; exact (if_neg (by omega)).trans ((if_neg (by omega)).trans (if_neg (by assumption)))))); rw [e1]; exact ⟨_, _, _, rfl, S.pk (.cons 0 rfl (.nil _)), Reads.own _ _ _ _ _⟩)
        · have rh4 := h4
          (try simp only [decide_eq_true_eq, decide_eq_false_iff_not, Bool.not_eq_true', Bool.not_eq_false', Bool.and_eq_true, Bool.or_eq_true, Bool.and_eq_false_iff, Bool.or_eq_false_iff, Bool.not_true, Bool.not_false] at h4)
          refine W.skip ?_
          refine InB.nx ?_
          refine Then.nx ?_
          refine W.seq ?_
          have hx0 : 0 < R.length := by omega
          have ha := (S.rd 0 rfl).1 hx0
          obtain ⟨x, hx1⟩ := at_ex (xs := R) (k := R.length - 1) (by omega)
          refine W.draw (.q 0 (.q 1 (.q 2 (.q 3 (.q 4 (.q 5 (.q 6 (.q 7 (.q 8 (.q 9 (.q 10 (.q 11 (.q 12 (.q 13 .nil)))))))))))))) (fun w => Sat _ w _) rfl rfl (by kernel_rfl) rfl (by kernel_rfl) (by repeat (first | exact BodyQ.noFrame | refine Then.noFrame ?_ | refine InB.noFrame ?_)) S.drew ?_
          clear S
          refine Plan.q rfl (fun w S => Y.move (v := .slice _ _ _) rfl) ?_
          refine Plan.q rfl (fun w S => Y.move (v := .slice _ _ _) rfl) ?_
          refine Plan.q rfl (fun w S => Y.len (t' := 0) Tryd.underlying54 rfl) ?_
          refine Plan.q rfl (fun w S => Y.subN (x := R.length) (y := 1) rfl rfl (by omega) (by omega)) ?_
          refine Plan.q rfl (fun w S => Y.sliceH sl_54 rfl rfl (by (first | assumption | omega))) ?_
          refine Plan.q rfl (fun w S => Y.move (v := .slice _ _ _) rfl) ?_
          refine Plan.q rfl (fun w S => Y.move (v := .slice _ _ _) rfl) ?_
          refine Plan.q rfl (fun w S => Y.len (t' := 0) Tryd.underlying54 rfl) ?_
          refine Plan.q rfl (fun w S => Y.subN (x := R.length) (y := 1) rfl rfl (by omega) (by omega)) ?_
          first | refine Plan.q rfl (fun w S => Y.ixN sl_54 rfl rfl (by (first | assumption | rfl)) (by (first | assumption | omega))) ?_ | refine Plan.q rfl (fun w S => Y.ix sl_54 rfl rfl (by (first | assumption | rfl)) (by (first | assumption | omega)) (by (first | assumption | omega))) ?_
          refine Plan.q rfl (fun w S => Y.load rfl (loadRd1 sz_2 (S.rd 0 rfl) (by assumption) rfl)) ?_
          refine Plan.q rfl (fun w S => Y.assign (v := .slice _ _ _) rfl) ?_
          refine Plan.q rfl (fun w S => Y.assign (v := .int .i64 _) rfl) ?_
          refine Plan.q rfl (fun w S => Y.assign (v := .bool _) rfl) ?_
          refine Plan.nil (fun w S => ?_)
          replace S : Sat _ _ _ := S
          refine Then.nx ?_
          refine W.ret ?_
          refine Then.r ?_
          refine BodyQ.ret3 Tryd.results78 (ResV.tmp _ rfl) (ResV.tmp _ rfl) (ResV.tmp _ rfl) ?_
          first | (exfalso; omega) | ((have e1 : DoM k R c = ((doesM k R c).1, (doesM k R c).2.answer, (doesM k R c).2.ok) := if_pos (by omega)); rw [e1, doesM_put (by omega) (by assumption)]; exact ⟨a27, c27, _, rfl, S.pk (.cons 1 rfl (.nil _)), Reads.own _ _ _ _ _⟩) | ((have e1 : DoM k R c = ((doesM k R c).1, (doesM k R c).2.answer, (doesM k R c).2.ok) := if_pos (by omega)); rw [e1, doesM_nil (by omega) (by assumption) (List.eq_nil_of_length_eq_zero (by omega))]; exact ⟨a12, c12, _, rfl, S.pk (.cons 0 rfl (.nil _)), Reads.own _ _ _ _ _⟩) | ((have e1 : DoM k R c = ((doesM k R c).1, (doesM k R c).2.answer, (doesM k R c).2.ok) := if_pos (by omega)); rw [e1, doesM_queue (by omega) (by assumption) hx1 (by assumption)]; exact ⟨sla a12 1 c12 1, c12 - 1, _, (by rw [List.length_drop]; rfl), S.pk (.cons 0 rfl (.nil _)), (Reads.own _ _ _ _ _).drop 1 c12 hcp⟩) | ((have e1 : DoM k R c = ((doesM k R c).1, (doesM k R c).2.answer, (doesM k R c).2.ok) := if_pos (by omega)); rw [e1, doesM_stack (by omega) (by assumption) hx1 (by omega)]; (have hlt : (R.take (R.length - 1)).length = R.length - 1 := (by (rw [List.length_take]; omega))); exact ⟨a12, c12, _, (by (rw [hlt]; rfl)), S.pk (.cons 0 rfl (.nil _)), (Reads.own _ _ _ _ _).take _⟩) | ((have e1 : DoM k R c = ([wr (x + c.arg)], wr (x + c.arg), false) := (by (unfold DoM; rw [if_neg (by omega), hx]; exact if_pos (by assumption)))); rw [e1]; exact ⟨_, _, _, rfl, S.pk (.cons 0 rfl (.nil _)), Reads.own _ _ _ _ _⟩) | ((have e1 : DoM k R c = ([c.arg], 0, false) := (by (unfold DoM; rw [if_neg (by omega), hx]; exact (if_neg (by omega)).trans (if_pos (by assumption))))); rw [e1]; exact ⟨_, _, _, rfl, S.pk (.cons 0 rfl (.nil _)), Reads.own _ _ _ _ _⟩) | ((have e1 : DoM k R c = ([c.new], 0, true) := (by (unfold DoM; rw [if_neg (by omega), hx]; exact (if_neg (by omega)).trans ((if_neg (by omega)).trans ((if_pos (by assumption)).trans (if_pos (by assumption))))))); rw [e1]; exact ⟨_, _, _, rfl, S.pk (.cons 0 rfl (.nil _)), Reads.own _ _ _ _ _⟩) | ((have e1 : DoM k R c = ([x], 0, false) := (by (unfold DoM; rw [if_neg (by omega), hx]; exact (if_neg (by omega)).trans ((if_neg (by omega)).trans ((if_pos (by assumption)).trans (if_neg (by assumption))))))); rw [e1]; exact ⟨_, _, _, rfl, S.pk (.cons 0 rfl (.nil _)), Reads.own _ _ _ _ _⟩) | ((have e1 : DoM k R c = ([x], x, false) := (by (unfold DoM; rw [if_neg (by omega), hx]; exact (if_neg (by omega)).trans ((if_neg (by omega)).trans (if_neg (by assumption)))))); rw [e1]; exact ⟨_, _, _, rfl, S.pk (.cons 0 rfl (.nil _)), Reads.own _ _ _ _ _⟩)
  · (try simp only [decide_eq_true_eq, decide_eq_false_iff_not, Bool.not_eq_true', Bool.not_eq_false', Bool.and_eq_true, Bool.or_eq_true, Bool.and_eq_false_iff, Bool.or_eq_false_iff, Bool.not_true, Bool.not_false] at h1)
    refine WO.qT rfl (Y.move (v := .int .i64 _) rfl) ?_
    refine WO.qT rfl (Y.eql rfl rfl) ?_
    refine WO.q (Y.pickF (u := .bool _) rfl rfl) ?_
    refine WO.nil ?_
    refine Then.nx ?_
    refine W.cond rfl (fun h5 => ?_) (fun h5 => ?_) -- cond 3
    · have rh5 := h5
      (try simp only [decide_eq_true_eq, decide_eq_false_iff_not, Bool.not_eq_true', Bool.not_eq_false', Bool.and_eq_true, Bool.or_eq_true, Bool.and_eq_false_iff, Bool.or_eq_false_iff, Bool.not_true, Bool.not_false] at h5)
      refine W.seq ?_
      refine W.block ?_
      refine W.seq ?_
      refine W.region rfl ?_
      refine WO.q (Y.fieldB fo_58_0 rfl) ?_
      first | refine WO.q (Y.load rfl (loadS1 sz_56 S 0 rfl rfl)) ?_ | refine WO.q (Y.load rfl (loadS1 sz_56 S 1 rfl rfl)) ?_ | refine WO.q (Y.load rfl (loadS1 sz_56 S 2 rfl rfl)) ?_
      refine WO.q (Y.eql rfl rfl) ?_
      refine WO.q (Y.assign (v := .bool _) rfl) ?_
      refine WO.nil ?_
      refine Then.nx ?_
      refine W.cond rfl (fun h6 => ?_) (fun h6 => ?_) -- cond 4
      · have rh6 := h6
        (try simp only [decide_eq_true_eq, decide_eq_false_iff_not, Bool.not_eq_true', Bool.not_eq_false', Bool.and_eq_true, Bool.or_eq_true, Bool.and_eq_false_iff, Bool.or_eq_false_iff, Bool.not_true, Bool.not_false] at h6)
        refine W.seq ?_
        refine W.region rfl ?_
        refine WO.q (Y.move (v := .slice _ _ _) rfl) ?_
        refine WO.q (Y.fieldB fo_58_1 rfl) ?_
        first | refine WO.q (Y.load rfl (loadS1 sz_2 S 0 rfl rfl)) ?_ | refine WO.q (Y.load rfl (loadS1 sz_2 S 1 rfl rfl)) ?_ | refine WO.q (Y.load rfl (loadS1 sz_2 S 2 rfl rfl)) ?_
        first | refine WO.e (O.buildSlice rfl (buildOne sl_54 (by decide) rfl rfl) S (fun b26 w S => ?_)) | refine WO.e (O.buildSlice rfl (buildOne sl_54 (by decide) rfl (by simp)) S (fun b26 w S => ?_)) | refine WO.e (O.buildSlice rfl (bs_54_1_0) S (fun b26 w S => ?_))
        refine WO.e (O.append (T := tI .i64) (ys := [c.arg]) 1 sl_54 S rfl rfl rfl rfl (S.rd1 (T := tI .i64) (x := c.arg) 0 rfl) rfl (by (simp only [List.length_singleton]; omega)) (by (simp only [List.length_singleton, maxLen]; omega)) (fun a27 c27 w S hn27 => ?_))
        refine WO.q (Y.assign (v := .slice _ _ _) rfl) ?_
        refine WO.q (Y.assign (v := .int .i64 _) rfl) ?_
        refine WO.q (Y.assign (v := .bool _) rfl) ?_
        refine WO.nil ?_
        refine Then.nx ?_
        refine W.ret ?_
        refine InB.r ?_
        refine Then.r ?_
        refine Then.r ?_
        refine BodyQ.ret3 Tryd.results78 (ResV.tmp _ rfl) (ResV.tmp _ rfl) (ResV.tmp _ rfl) ?_
        first | (exfalso; omega) | ((have e1 : DoM k R c = ((doesM k R c).1, (doesM k R c).2.answer, (doesM k R c).2.ok) := if_pos (by omega)); rw [e1, doesM_put (by omega) (by assumption)]; exact ⟨a27, c27, _, rfl, S.pk (.cons 1 rfl (.nil _)), Reads.own _ _ _ _ _⟩) | ((have e1 : DoM k R c = ((doesM k R c).1, (doesM k R c).2.answer, (doesM k R c).2.ok) := if_pos (by omega)); rw [e1, doesM_nil (by omega) (by assumption) (List.eq_nil_of_length_eq_zero (by omega))]; exact ⟨a12, c12, _, rfl, S.pk (.cons 0 rfl (.nil _)), Reads.own _ _ _ _ _⟩) | ((have e1 : DoM k R c = ((doesM k R c).1, (doesM k R c).2.answer, (doesM k R c).2.ok) := if_pos (by omega)); rw [e1, doesM_queue (by omega) (by assumption) hx1 (by assumption)]; exact ⟨sla a12 1 c12 1, c12 - 1, _, (by rw [List.length_drop]; rfl), S.pk (.cons 0 rfl (.nil _)), (Reads.own _ _ _ _ _).drop 1 c12 hcp⟩) | ((have e1 : DoM k R c = ((doesM k R c).1, (doesM k R c).2.answer, (doesM k R c).2.ok) := if_pos (by omega)); rw [e1, doesM_stack (by omega) (by assumption) hx1 (by omega)]; (have hlt : (R.take (R.length - 1)).length = R.length - 1 := (by (rw [List.length_take]; omega))); exact ⟨a12, c12, _, (by (rw [hlt]; rfl)), S.pk (.cons 0 rfl (.nil _)), (Reads.own _ _ _ _ _).take _⟩) | ((have e1 : DoM k R c = ([wr (x + c.arg)], wr (x + c.arg), false) := (by (unfold DoM; rw [if_neg (by omega), hx]; exact if_pos (by assumption)))); rw [e1]; exact ⟨_, _, _, rfl, S.pk (.cons 0 rfl (.nil _)), Reads.own _ _ _ _ _⟩) | ((have e1 : DoM k R c = ([c.arg], 0, false) := (by (unfold DoM; rw [if_neg (by omega), hx]; exact (if_neg (by omega)).trans (if_pos (by assumption))))); rw [e1]; exact ⟨_, _, _, rfl, S.pk (.cons 0 rfl (.nil _)), Reads.own _ _ _ _ _⟩) | ((have e1 : DoM k R c = ([c.new], 0, true) := (by (unfold DoM; rw [if_neg (by omega), hx]; exact (if_neg (by omega)).trans ((if_neg (by omega)).trans ((if_pos (by assumption)).trans (if_pos (by assumption))))))); rw [e1]; exact ⟨_, _, _, rfl, S.pk (.cons 0 rfl (.nil _)), Reads.own _ _ _ _ _⟩) | ((have e1 : DoM k R c = ([x], 0, false) := (by (unfold DoM; rw [if_neg (by omega), hx]; exact (if_neg (by omega)).trans ((if_neg (by omega)).trans ((if_pos (by assumption)).trans (if_neg (by assumption))))))); rw [e1]; exact ⟨_, _, _, rfl, S.pk (.cons 0 rfl (.nil _)), Reads.own _ _ _ _ _⟩) | ((have e1 : DoM k R c = ([x], x, false) := (by (unfold DoM; rw [if_neg (by omega), hx]; exact (if_neg (by omega)).trans ((if_neg (by omega)).trans (if_neg (by assumption)))))); rw [e1]; exact ⟨_, _, _, rfl, S.pk (.cons 0 rfl (.nil _)), Reads.own _ _ _ _ _⟩)
      · have rh6 := h6
        (try simp only [decide_eq_true_eq, decide_eq_false_iff_not, Bool.not_eq_true', Bool.not_eq_false', Bool.and_eq_true, Bool.or_eq_true, Bool.and_eq_false_iff, Bool.or_eq_false_iff, Bool.not_true, Bool.not_false] at h6)
        refine W.seq ?_
        refine W.region rfl ?_
        refine WO.q (Y.move (v := .slice _ _ _) rfl) ?_
        refine WO.q (Y.len (t' := 0) Tryd.underlying54 rfl) ?_
        refine WO.q (Y.eql rfl rfl) ?_
        refine WO.q (Y.assign (v := .bool _) rfl) ?_
        refine WO.nil ?_
        refine Then.nx ?_
        refine W.cond rfl (fun h7 => ?_) (fun h7 => ?_) -- cond 5
        · have rh7 := h7
          (try simp only [decide_eq_true_eq, decide_eq_false_iff_not, Bool.not_eq_true', Bool.not_eq_false', Bool.and_eq_true, Bool.or_eq_true, Bool.and_eq_false_iff, Bool.or_eq_false_iff, Bool.not_true, Bool.not_false] at h7)
          refine W.seq ?_
          refine W.region rfl ?_
          refine WO.q (Y.move (v := .slice _ _ _) rfl) ?_
          refine WO.q (Y.assign (v := .slice _ _ _) rfl) ?_
          refine WO.q (Y.assign (v := .int .i64 _) rfl) ?_
          refine WO.q (Y.assign (v := .bool _) rfl) ?_
          refine WO.nil ?_
          refine Then.nx ?_
          refine W.ret ?_
          refine InB.r ?_
          refine Then.r ?_
          refine Then.r ?_
          refine BodyQ.ret3 Tryd.results78 (ResV.tmp _ rfl) (ResV.tmp _ rfl) (ResV.tmp _ rfl) ?_
          first | (exfalso; omega) | ((have e1 : DoM k R c = ((doesM k R c).1, (doesM k R c).2.answer, (doesM k R c).2.ok) := if_pos (by omega)); rw [e1, doesM_put (by omega) (by assumption)]; exact ⟨a27, c27, _, rfl, S.pk (.cons 1 rfl (.nil _)), Reads.own _ _ _ _ _⟩) | ((have e1 : DoM k R c = ((doesM k R c).1, (doesM k R c).2.answer, (doesM k R c).2.ok) := if_pos (by omega)); rw [e1, doesM_nil (by omega) (by assumption) (List.eq_nil_of_length_eq_zero (by omega))]; exact ⟨a12, c12, _, rfl, S.pk (.cons 0 rfl (.nil _)), Reads.own _ _ _ _ _⟩) | ((have e1 : DoM k R c = ((doesM k R c).1, (doesM k R c).2.answer, (doesM k R c).2.ok) := if_pos (by omega)); rw [e1, doesM_queue (by omega) (by assumption) hx1 (by assumption)]; exact ⟨sla a12 1 c12 1, c12 - 1, _, (by rw [List.length_drop]; rfl), S.pk (.cons 0 rfl (.nil _)), (Reads.own _ _ _ _ _).drop 1 c12 hcp⟩) | ((have e1 : DoM k R c = ((doesM k R c).1, (doesM k R c).2.answer, (doesM k R c).2.ok) := if_pos (by omega)); rw [e1, doesM_stack (by omega) (by assumption) hx1 (by omega)]; (have hlt : (R.take (R.length - 1)).length = R.length - 1 := (by (rw [List.length_take]; omega))); exact ⟨a12, c12, _, (by (rw [hlt]; rfl)), S.pk (.cons 0 rfl (.nil _)), (Reads.own _ _ _ _ _).take _⟩) | ((have e1 : DoM k R c = ([wr (x + c.arg)], wr (x + c.arg), false) := (by (unfold DoM; rw [if_neg (by omega), hx]; exact if_pos (by assumption)))); rw [e1]; exact ⟨_, _, _, rfl, S.pk (.cons 0 rfl (.nil _)), Reads.own _ _ _ _ _⟩) | ((have e1 : DoM k R c = ([c.arg], 0, false) := (by (unfold DoM; rw [if_neg (by omega), hx]; exact (if_neg (by omega)).trans (if_pos (by assumption))))); rw [e1]; exact ⟨_, _, _, rfl, S.pk (.cons 0 rfl (.nil _)), Reads.own _ _ _ _ _⟩) | ((have e1 : DoM k R c = ([c.new], 0, true) := (by (unfold DoM; rw [if_neg (by omega), hx]; exact (if_neg (by omega)).trans ((if_neg (by omega)).trans ((if_pos (by assumption)).trans (if_pos (by assumption))))))); rw [e1]; exact ⟨_, _, _, rfl, S.pk (.cons 0 rfl (.nil _)), Reads.own _ _ _ _ _⟩) | ((have e1 : DoM k R c = ([x], 0, false) := (by (unfold DoM; rw [if_neg (by omega), hx]; exact (if_neg (by omega)).trans ((if_neg (by omega)).trans ((if_pos (by assumption)).trans (if_neg (by assumption))))))); rw [e1]; exact ⟨_, _, _, rfl, S.pk (.cons 0 rfl (.nil _)), Reads.own _ _ _ _ _⟩) | ((have e1 : DoM k R c = ([x], x, false) := (by (unfold DoM; rw [if_neg (by omega), hx]; exact (if_neg (by omega)).trans ((if_neg (by omega)).trans (if_neg (by assumption)))))); rw [e1]; exact ⟨_, _, _, rfl, S.pk (.cons 0 rfl (.nil _)), Reads.own _ _ _ _ _⟩)
        · have rh7 := h7
          (try simp only [decide_eq_true_eq, decide_eq_false_iff_not, Bool.not_eq_true', Bool.not_eq_false', Bool.and_eq_true, Bool.or_eq_true, Bool.and_eq_false_iff, Bool.or_eq_false_iff, Bool.not_true, Bool.not_false] at h7)
          refine W.seq ?_
          refine W.region rfl ?_
          refine WO.q (Y.move (v := .int .i64 _) rfl) ?_
          refine WO.q (Y.eql rfl rfl) ?_
          refine WO.q (Y.assign (v := .bool _) rfl) ?_
          refine WO.nil ?_
          refine Then.nx ?_
          refine W.cond rfl (fun h8 => ?_) (fun h8 => ?_) -- cond 6
          · have rh8 := h8
            (try simp only [decide_eq_true_eq, decide_eq_false_iff_not, Bool.not_eq_true', Bool.not_eq_false', Bool.and_eq_true, Bool.or_eq_true, Bool.and_eq_false_iff, Bool.or_eq_false_iff, Bool.not_true, Bool.not_false] at h8)
            refine W.seq ?_
            have hx0 : 0 < R.length := by omega
            have ha := (S.rd 0 rfl).1 hx0
            obtain ⟨x, hx1⟩ := at_ex (xs := R) (k := 0) hx0
            refine W.draw (.q 0 (.q 1 (.q 2 (.q 3 (.q 4 (.q 5 (.q 6 (.q 7 .nil)))))))) (fun w => Sat _ w _) rfl rfl (by kernel_rfl) rfl (by kernel_rfl) (by repeat (first | exact BodyQ.noFrame | refine Then.noFrame ?_ | refine InB.noFrame ?_)) S.drew ?_
            clear S
            refine Plan.q rfl (fun w S => Y.move (v := .slice _ _ _) rfl) ?_
            refine Plan.q rfl (fun w S => Y.sliceL sl_54 rfl rfl (by (first | assumption | omega))) ?_
            refine Plan.q rfl (fun w S => Y.move (v := .slice _ _ _) rfl) ?_
            first | refine Plan.q rfl (fun w S => Y.ixN sl_54 rfl rfl (by (first | assumption | rfl)) (by (first | assumption | omega))) ?_ | refine Plan.q rfl (fun w S => Y.ix sl_54 rfl rfl (by (first | assumption | rfl)) (by (first | assumption | omega)) (by (first | assumption | omega))) ?_
            refine Plan.q rfl (fun w S => Y.load rfl (loadRd1 sz_2 (S.rd 0 rfl) (by assumption) rfl)) ?_
            refine Plan.q rfl (fun w S => Y.assign (v := .slice _ _ _) rfl) ?_
            refine Plan.q rfl (fun w S => Y.assign (v := .int .i64 _) rfl) ?_
            refine Plan.q rfl (fun w S => Y.assign (v := .bool _) rfl) ?_
            refine Plan.nil (fun w S => ?_)
            replace S : Sat _ _ _ := S
            refine Then.nx ?_
            refine W.ret ?_
            refine InB.r ?_
            refine Then.r ?_
            refine Then.r ?_
            refine BodyQ.ret3 Tryd.results78 (ResV.tmp _ rfl) (ResV.tmp _ rfl) (ResV.tmp _ rfl) ?_
            first | (exfalso; omega) | ((have e1 : DoM k R c = ((doesM k R c).1, (doesM k R c).2.answer, (doesM k R c).2.ok) := if_pos (by omega)); rw [e1, doesM_put (by omega) (by assumption)]; exact ⟨a27, c27, _, rfl, S.pk (.cons 1 rfl (.nil _)), Reads.own _ _ _ _ _⟩) | ((have e1 : DoM k R c = ((doesM k R c).1, (doesM k R c).2.answer, (doesM k R c).2.ok) := if_pos (by omega)); rw [e1, doesM_nil (by omega) (by assumption) (List.eq_nil_of_length_eq_zero (by omega))]; exact ⟨a12, c12, _, rfl, S.pk (.cons 0 rfl (.nil _)), Reads.own _ _ _ _ _⟩) | ((have e1 : DoM k R c = ((doesM k R c).1, (doesM k R c).2.answer, (doesM k R c).2.ok) := if_pos (by omega)); rw [e1, doesM_queue (by omega) (by assumption) hx1 (by assumption)]; exact ⟨sla a12 1 c12 1, c12 - 1, _, (by rw [List.length_drop]; rfl), S.pk (.cons 0 rfl (.nil _)), (Reads.own _ _ _ _ _).drop 1 c12 hcp⟩) | ((have e1 : DoM k R c = ((doesM k R c).1, (doesM k R c).2.answer, (doesM k R c).2.ok) := if_pos (by omega)); rw [e1, doesM_stack (by omega) (by assumption) hx1 (by omega)]; (have hlt : (R.take (R.length - 1)).length = R.length - 1 := (by (rw [List.length_take]; omega))); exact ⟨a12, c12, _, (by (rw [hlt]; rfl)), S.pk (.cons 0 rfl (.nil _)), (Reads.own _ _ _ _ _).take _⟩) | ((have e1 : DoM k R c = ([wr (x + c.arg)], wr (x + c.arg), false) := (by (unfold DoM; rw [if_neg (by omega), hx]; exact if_pos (by assumption)))); rw [e1]; exact ⟨_, _, _, rfl, S.pk (.cons 0 rfl (.nil _)), Reads.own _ _ _ _ _⟩) | ((have e1 : DoM k R c = ([c.arg], 0, false) := (by (unfold DoM; rw [if_neg (by omega), hx]; exact (if_neg (by omega)).trans (if_pos (by assumption))))); rw [e1]; exact ⟨_, _, _, rfl, S.pk (.cons 0 rfl (.nil _)), Reads.own _ _ _ _ _⟩) | ((have e1 : DoM k R c = ([c.new], 0, true) := (by (unfold DoM; rw [if_neg (by omega), hx]; exact (if_neg (by omega)).trans ((if_neg (by omega)).trans ((if_pos (by assumption)).trans (if_pos (by assumption))))))); rw [e1]; exact ⟨_, _, _, rfl, S.pk (.cons 0 rfl (.nil _)), Reads.own _ _ _ _ _⟩) | ((have e1 : DoM k R c = ([x], 0, false) := (by (unfold DoM; rw [if_neg (by omega), hx]; exact (if_neg (by omega)).trans ((if_neg (by omega)).trans ((if_pos (by assumption)).trans (if_neg (by assumption))))))); rw [e1]; exact ⟨_, _, _, rfl, S.pk (.cons 0 rfl (.nil _)), Reads.own _ _ _ _ _⟩) | ((have e1 : DoM k R c = ([x], x, false) := (by (unfold DoM; rw [if_neg (by omega), hx]; exact (if_neg (by omega)).trans ((if_neg (by omega)).trans (if_neg (by assumption)))))); rw [e1]; exact ⟨_, _, _, rfl, S.pk (.cons 0 rfl (.nil _)), Reads.own _ _ _ _ _⟩)
          · have rh8 := h8
            (try simp only [decide_eq_true_eq, decide_eq_false_iff_not, Bool.not_eq_true', Bool.not_eq_false', Bool.and_eq_true, Bool.or_eq_true, Bool.and_eq_false_iff, Bool.or_eq_false_iff, Bool.not_true, Bool.not_false] at h8)
            refine W.skip ?_
            refine InB.nx ?_
            refine Then.nx ?_
            refine W.seq ?_
            have hx0 : 0 < R.length := by omega
            have ha := (S.rd 0 rfl).1 hx0
            obtain ⟨x, hx1⟩ := at_ex (xs := R) (k := R.length - 1) (by omega)
            refine W.draw (.q 0 (.q 1 (.q 2 (.q 3 (.q 4 (.q 5 (.q 6 (.q 7 (.q 8 (.q 9 (.q 10 (.q 11 (.q 12 (.q 13 .nil)))))))))))))) (fun w => Sat _ w _) rfl rfl (by kernel_rfl) rfl (by kernel_rfl) (by repeat (first | exact BodyQ.noFrame | refine Then.noFrame ?_ | refine InB.noFrame ?_)) S.drew ?_
            clear S
            refine Plan.q rfl (fun w S => Y.move (v := .slice _ _ _) rfl) ?_
            refine Plan.q rfl (fun w S => Y.move (v := .slice _ _ _) rfl) ?_
            refine Plan.q rfl (fun w S => Y.len (t' := 0) Tryd.underlying54 rfl) ?_
            refine Plan.q rfl (fun w S => Y.subN (x := R.length) (y := 1) rfl rfl (by omega) (by omega)) ?_
            refine Plan.q rfl (fun w S => Y.sliceH sl_54 rfl rfl (by (first | assumption | omega))) ?_
            refine Plan.q rfl (fun w S => Y.move (v := .slice _ _ _) rfl) ?_
            refine Plan.q rfl (fun w S => Y.move (v := .slice _ _ _) rfl) ?_
            refine Plan.q rfl (fun w S => Y.len (t' := 0) Tryd.underlying54 rfl) ?_
            refine Plan.q rfl (fun w S => Y.subN (x := R.length) (y := 1) rfl rfl (by omega) (by omega)) ?_
            first | refine Plan.q rfl (fun w S => Y.ixN sl_54 rfl rfl (by (first | assumption | rfl)) (by (first | assumption | omega))) ?_ | refine Plan.q rfl (fun w S => Y.ix sl_54 rfl rfl (by (first | assumption | rfl)) (by (first | assumption | omega)) (by (first | assumption | omega))) ?_
            refine Plan.q rfl (fun w S => Y.load rfl (loadRd1 sz_2 (S.rd 0 rfl) (by assumption) rfl)) ?_
            refine Plan.q rfl (fun w S => Y.assign (v := .slice _ _ _) rfl) ?_
            refine Plan.q rfl (fun w S => Y.assign (v := .int .i64 _) rfl) ?_
            refine Plan.q rfl (fun w S => Y.assign (v := .bool _) rfl) ?_
            refine Plan.nil (fun w S => ?_)
            replace S : Sat _ _ _ := S
            refine Then.nx ?_
            refine W.ret ?_
            refine Then.r ?_
            refine BodyQ.ret3 Tryd.results78 (ResV.tmp _ rfl) (ResV.tmp _ rfl) (ResV.tmp _ rfl) ?_
            first | (exfalso; omega) | ((have e1 : DoM k R c = ((doesM k R c).1, (doesM k R c).2.answer, (doesM k R c).2.ok) := if_pos (by omega)); rw [e1, doesM_put (by omega) (by assumption)]; exact ⟨a27, c27, _, rfl, S.pk (.cons 1 rfl (.nil _)), Reads.own _ _ _ _ _⟩) | ((have e1 : DoM k R c = ((doesM k R c).1, (doesM k R c).2.answer, (doesM k R c).2.ok) := if_pos (by omega)); rw [e1, doesM_nil (by omega) (by assumption) (List.eq_nil_of_length_eq_zero (by omega))]; exact ⟨a12, c12, _, rfl, S.pk (.cons 0 rfl (.nil _)), Reads.own _ _ _ _ _⟩) | ((have e1 : DoM k R c = ((doesM k R c).1, (doesM k R c).2.answer, (doesM k R c).2.ok) := if_pos (by omega)); rw [e1, doesM_queue (by omega) (by assumption) hx1 (by assumption)]; exact ⟨sla a12 1 c12 1, c12 - 1, _, (by rw [List.length_drop]; rfl), S.pk (.cons 0 rfl (.nil _)), (Reads.own _ _ _ _ _).drop 1 c12 hcp⟩) | ((have e1 : DoM k R c = ((doesM k R c).1, (doesM k R c).2.answer, (doesM k R c).2.ok) := if_pos (by omega)); rw [e1, doesM_stack (by omega) (by assumption) hx1 (by omega)]; (have hlt : (R.take (R.length - 1)).length = R.length - 1 := (by (rw [List.length_take]; omega))); exact ⟨a12, c12, _, (by (rw [hlt]; rfl)), S.pk (.cons 0 rfl (.nil _)), (Reads.own _ _ _ _ _).take _⟩) | ((have e1 : DoM k R c = ([wr (x + c.arg)], wr (x + c.arg), false) := (by (unfold DoM; rw [if_neg (by omega), hx]; exact if_pos (by assumption)))); rw [e1]; exact ⟨_, _, _, rfl, S.pk (.cons 0 rfl (.nil _)), Reads.own _ _ _ _ _⟩) | ((have e1 : DoM k R c = ([c.arg], 0, false) := (by (unfold DoM; rw [if_neg (by omega), hx]; exact (if_neg (by omega)).trans (if_pos (by assumption))))); rw [e1]; exact ⟨_, _, _, rfl, S.pk (.cons 0 rfl (.nil _)), Reads.own _ _ _ _ _⟩) | ((have e1 : DoM k R c = ([c.new], 0, true) := (by (unfold DoM; rw [if_neg (by omega), hx]; exact (if_neg (by omega)).trans ((if_neg (by omega)).trans ((if_pos (by assumption)).trans (if_pos (by assumption))))))); rw [e1]; exact ⟨_, _, _, rfl, S.pk (.cons 0 rfl (.nil _)), Reads.own _ _ _ _ _⟩) | ((have e1 : DoM k R c = ([x], 0, false) := (by (unfold DoM; rw [if_neg (by omega), hx]; exact (if_neg (by omega)).trans ((if_neg (by omega)).trans ((if_pos (by assumption)).trans (if_neg (by assumption))))))); rw [e1]; exact ⟨_, _, _, rfl, S.pk (.cons 0 rfl (.nil _)), Reads.own _ _ _ _ _⟩) | ((have e1 : DoM k R c = ([x], x, false) := (by (unfold DoM; rw [if_neg (by omega), hx]; exact (if_neg (by omega)).trans ((if_neg (by omega)).trans (if_neg (by assumption)))))); rw [e1]; exact ⟨_, _, _, rfl, S.pk (.cons 0 rfl (.nil _)), Reads.own _ _ _ _ _⟩)
    · have rh5 := h5
      (try simp only [decide_eq_true_eq, decide_eq_false_iff_not, Bool.not_eq_true', Bool.not_eq_false', Bool.and_eq_true, Bool.or_eq_true, Bool.and_eq_false_iff, Bool.or_eq_false_iff, Bool.not_true, Bool.not_false] at h5)
      refine W.skip ?_
      refine Then.nx ?_
      refine W.cut1 [9, 52, 53, 54, 55, 56, 57] 9 (fun v9 w => ∃ (aa : Option Addr) (cc : Nat) (x : Int), v9 = .slice aa 1 cc ∧ (norm k R).headD 0 = x ∧ Sat w0 w [Own (tI .i64) 2 aa cc [x], Cel b5 (tCall.enc c) 58]) ?_ ?_
      ·
        refine W.seq ?_
        refine W.region rfl ?_
        refine WO.q (Y.move (v := .slice _ _ _) rfl) ?_
        refine WO.q (Y.len (t' := 0) Tryd.underlying54 rfl) ?_
        refine WO.q (Y.eql rfl rfl) ?_
        refine WO.nil ?_
        refine Then.nx ?_
        refine W.cond rfl (fun h9 => ?_) (fun h9 => ?_) -- cond 7
        · have rh9 := h9
          (try simp only [decide_eq_true_eq, decide_eq_false_iff_not, Bool.not_eq_true', Bool.not_eq_false', Bool.and_eq_true, Bool.or_eq_true, Bool.and_eq_false_iff, Bool.or_eq_false_iff, Bool.not_true, Bool.not_false] at h9)
          refine W.region rfl ?_
          refine WO.q (Y.move (v := .slice _ _ _) rfl) ?_
          first | refine WO.e (O.buildSlice rfl (buildOne sl_54 (by decide) rfl rfl) S (fun b56 w S => ?_)) | refine WO.e (O.buildSlice rfl (buildOne sl_54 (by decide) rfl (by simp)) S (fun b56 w S => ?_)) | refine WO.e (O.buildSlice rfl (bs_54_1_0) S (fun b56 w S => ?_))
          refine WO.e (O.append (T := tI .i64) (ys := [(0 : Int)]) 1 sl_54 S rfl rfl rfl rfl (S.rd1 (T := tI .i64) (x := (0 : Int)) 0 rfl) rfl (by (simp only [List.length_singleton]; omega)) (by (simp only [List.length_singleton, maxLen]; omega)) (fun a57 c57 w S hn57 => ?_))
          refine WO.q (Y.assign (v := .slice _ _ _) rfl) ?_
          refine WO.nil ?_
          refine Then.nx ⟨?_, ?_⟩
          · (repeat (first | exact Out.hav _ _ _ | exact Out.refl _ _ | refine Out.up rfl ?_ | refine Out.sub rfl ?_))
          · first | (have e0 : R = [] := List.eq_nil_of_length_eq_zero (by omega); subst e0; exact ⟨a57, c57, 0, rfl, by (unfold norm; rw [if_neg (by omega)]; rfl), S.tl⟩) | (obtain ⟨x, e0⟩ := List.length_eq_one_iff.1 (show R.length = 1 by omega); subst e0; exact ⟨a12, c12, x, rfl, by (unfold norm; rw [if_neg (by omega), if_neg (by simp)]; rfl), S⟩)
        · have rh9 := h9
          (try simp only [decide_eq_true_eq, decide_eq_false_iff_not, Bool.not_eq_true', Bool.not_eq_false', Bool.and_eq_true, Bool.or_eq_true, Bool.and_eq_false_iff, Bool.or_eq_false_iff, Bool.not_true, Bool.not_false] at h9)
          refine W.skip ?_
          refine Then.nx ⟨?_, ?_⟩
          · (repeat (first | exact Out.hav _ _ _ | exact Out.refl _ _ | refine Out.up rfl ?_ | refine Out.sub rfl ?_))
          · first | (have e0 : R = [] := List.eq_nil_of_length_eq_zero (by omega); subst e0; exact ⟨a57, c57, 0, rfl, by (unfold norm; rw [if_neg (by omega)]; rfl), S.tl⟩) | (obtain ⟨x, e0⟩ := List.length_eq_one_iff.1 (show R.length = 1 by omega); subst e0; exact ⟨a12, c12, x, rfl, by (unfold norm; rw [if_neg (by omega), if_neg (by simp)]; rfl), S⟩)
      · rintro gj332 v9 w ⟨aa, cc, x, rfl, hx, S⟩
        refine W.seq ?_
        refine W.seq ?_
        have ha := (S.rd 0 rfl).1 Nat.zero_lt_one
        have hx1 : ([x] : List Int)[0]? = some x := rfl
        refine W.region rfl ?_
        refine WO.q (Y.fieldB fo_58_0 rfl) ?_
        first | refine WO.q (Y.load rfl (loadS1 sz_56 S 0 rfl rfl)) ?_ | refine WO.q (Y.load rfl (loadS1 sz_56 S 1 rfl rfl)) ?_ | refine WO.q (Y.load rfl (loadS1 sz_56 S 2 rfl rfl)) ?_
        refine WO.nil ?_
        refine Then.nx ?_
        refine W.block ?_
        refine W.seq ?_
        refine W.region rfl ?_
        refine WO.q (Y.eql rfl rfl) ?_
        refine WO.q (Y.assign (v := .bool _) rfl) ?_
        refine WO.nil ?_
        refine Then.nx ?_
        refine W.cond rfl (fun h10 => ?_) (fun h10 => ?_) -- cond 8
        · have rh10 := h10
          (try simp only [decide_eq_true_eq, decide_eq_false_iff_not, Bool.not_eq_true', Bool.not_eq_false', Bool.and_eq_true, Bool.or_eq_true, Bool.and_eq_false_iff, Bool.or_eq_false_iff, Bool.not_true, Bool.not_false] at h10)
          refine W.seq ?_
          refine W.draw (.q 0 (.q 1 (.q 2 (.q 3 (.q 4 (.q 5 (.q 6 (.q 7 (.e 8 .nil))))))))) (fun w => Sat _ w _) rfl rfl (by kernel_rfl) rfl (by kernel_rfl) (by repeat (first | exact BodyQ.noFrame | refine Then.noFrame ?_ | refine InB.noFrame ?_)) S.drew ?_
          clear S
          refine Plan.q rfl (fun w S => Y.move (v := .slice _ _ _) rfl) ?_
          refine Plan.q rfl (fun w S => Y.move (v := .slice _ _ _) rfl) ?_
          first | refine Plan.q rfl (fun w S => Y.ixN sl_54 rfl rfl (by (first | assumption | rfl)) (by (first | assumption | omega))) ?_ | refine Plan.q rfl (fun w S => Y.ix sl_54 rfl rfl (by (first | assumption | rfl)) (by (first | assumption | omega)) (by (first | assumption | omega))) ?_
          refine Plan.q rfl (fun w S => Y.load rfl (loadRd1 sz_2 (S.rd 0 rfl) (by assumption) rfl)) ?_
          refine Plan.q rfl (fun w S => Y.fieldB fo_58_1 rfl) ?_
          first | refine Plan.q rfl (fun w S => Y.load rfl (loadS1 sz_2 S 0 rfl rfl)) ?_ | refine Plan.q rfl (fun w S => Y.load rfl (loadS1 sz_2 S 1 rfl rfl)) ?_ | refine Plan.q rfl (fun w S => Y.load rfl (loadS1 sz_2 S 2 rfl rfl)) ?_
          first | refine Plan.q rfl (fun w S => Y.addI rfl rfl (by omega)) ?_ | refine Plan.q rfl (fun w S => Y.add rfl rfl) ?_
          first | refine Plan.q rfl (fun w S => Y.ixN sl_54 rfl rfl (by (first | assumption | rfl)) (by (first | assumption | omega))) ?_ | refine Plan.q rfl (fun w S => Y.ix sl_54 rfl rfl (by (first | assumption | rfl)) (by (first | assumption | omega)) (by (first | assumption | omega))) ?_
          refine Plan.e0 rfl (fun w S => O.storeEl (k := 0) 0 (wr (x + c.arg)) S rfl rfl Nat.zero_lt_one rfl sz_2 rfl (fun w S => ?_))
          refine ⟨(fun w => Sat _ w _), S, (.inl (by kernel_rfl)), ?_⟩
          clear S
          refine Plan.nil (fun w S => ?_)
          replace S : Sat _ _ _ := S
          refine Then.nx ?_
          refine W.seq ?_
          replace S : Sat w0 w [Own (tI .i64) 2 aa cc [wr (x + c.arg)], Cel b5 (tCall.enc c) 58] := S
          have hx1 : ([wr (x + c.arg)] : List Int)[0]? = some (wr (x + c.arg)) := rfl
          refine W.draw (.q 0 (.q 1 (.q 2 (.q 3 (.q 4 (.q 5 (.q 6 .nil))))))) (fun w => Sat _ w _) rfl rfl (by kernel_rfl) rfl (by kernel_rfl) (by repeat (first | exact BodyQ.noFrame | refine Then.noFrame ?_ | refine InB.noFrame ?_)) S.drew ?_
          clear S
          refine Plan.q rfl (fun w S => Y.move (v := .slice _ _ _) rfl) ?_
          refine Plan.q rfl (fun w S => Y.move (v := .slice _ _ _) rfl) ?_
          first | refine Plan.q rfl (fun w S => Y.ixN sl_54 rfl rfl (by (first | assumption | rfl)) (by (first | assumption | omega))) ?_ | refine Plan.q rfl (fun w S => Y.ix sl_54 rfl rfl (by (first | assumption | rfl)) (by (first | assumption | omega)) (by (first | assumption | omega))) ?_
          refine Plan.q rfl (fun w S => Y.load rfl (loadRd1 sz_2 (S.rd 0 rfl) (by assumption) rfl)) ?_
          refine Plan.q rfl (fun w S => Y.assign (v := .slice _ _ _) rfl) ?_
          refine Plan.q rfl (fun w S => Y.assign (v := .int .i64 _) rfl) ?_
          refine Plan.q rfl (fun w S => Y.assign (v := .bool _) rfl) ?_
          refine Plan.nil (fun w S => ?_)
          replace S : Sat _ _ _ := S
          refine Then.nx ?_
          refine W.ret ?_
          refine InB.r ?_
          refine Then.r ?_
          refine BodyQ.ret3 Tryd.results78 (ResV.tmp _ rfl) (ResV.tmp _ rfl) (ResV.tmp _ rfl) ?_
          first | (exfalso; omega) | ((have e1 : DoM k R c = ((doesM k R c).1, (doesM k R c).2.answer, (doesM k R c).2.ok) := if_pos (by omega)); rw [e1, doesM_put (by omega) (by assumption)]; exact ⟨a27, c27, _, rfl, S.pk (.cons 1 rfl (.nil _)), Reads.own _ _ _ _ _⟩) | ((have e1 : DoM k R c = ((doesM k R c).1, (doesM k R c).2.answer, (doesM k R c).2.ok) := if_pos (by omega)); rw [e1, doesM_nil (by omega) (by assumption) (List.eq_nil_of_length_eq_zero (by omega))]; exact ⟨a12, c12, _, rfl, S.pk (.cons 0 rfl (.nil _)), Reads.own _ _ _ _ _⟩) | ((have e1 : DoM k R c = ((doesM k R c).1, (doesM k R c).2.answer, (doesM k R c).2.ok) := if_pos (by omega)); rw [e1, doesM_queue (by omega) (by assumption) hx1 (by assumption)]; exact ⟨sla a12 1 c12 1, c12 - 1, _, (by rw [List.length_drop]; rfl), S.pk (.cons 0 rfl (.nil _)), (Reads.own _ _ _ _ _).drop 1 c12 hcp⟩) | ((have e1 : DoM k R c = ((doesM k R c).1, (doesM k R c).2.answer, (doesM k R c).2.ok) := if_pos (by omega)); rw [e1, doesM_stack (by omega) (by assumption) hx1 (by omega)]; (have hlt : (R.take (R.length - 1)).length = R.length - 1 := (by (rw [List.length_take]; omega))); exact ⟨a12, c12, _, (by (rw [hlt]; rfl)), S.pk (.cons 0 rfl (.nil _)), (Reads.own _ _ _ _ _).take _⟩) | ((have e1 : DoM k R c = ([wr (x + c.arg)], wr (x + c.arg), false) := (by (unfold DoM; rw [if_neg (by omega), hx]; exact if_pos (by assumption)))); rw [e1]; exact ⟨_, _, _, rfl, S.pk (.cons 0 rfl (.nil _)), Reads.own _ _ _ _ _⟩) | ((have e1 : DoM k R c = ([c.arg], 0, false) := (by (unfold DoM; rw [if_neg (by omega), hx]; exact (if_neg (by omega)).trans (if_pos (by assumption))))); rw [e1]; exact ⟨_, _, _, rfl, S.pk (.cons 0 rfl (.nil _)), Reads.own _ _ _ _ _⟩) | ((have e1 : DoM k R c = ([c.new], 0, true) := (by (unfold DoM; rw [if_neg (by omega), hx]; exact (if_neg (by omega)).trans ((if_neg (by omega)).trans ((if_pos (by assumption)).trans (if_pos (by assumption))))))); rw [e1]; exact ⟨_, _, _, rfl, S.pk (.cons 0 rfl (.nil _)), Reads.own _ _ _ _ _⟩) | ((have e1 : DoM k R c = ([x], 0, false) := (by (unfold DoM; rw [if_neg (by omega), hx]; exact (if_neg (by omega)).trans ((if_neg (by omega)).trans ((if_pos (by assumption)).trans (if_neg (by assumption))))))); rw [e1]; exact ⟨_, _, _, rfl, S.pk (.cons 0 rfl (.nil _)), Reads.own _ _ _ _ _⟩) | ((have e1 : DoM k R c = ([x], x, false) := (by (unfold DoM; rw [if_neg (by omega), hx]; exact (if_neg (by omega)).trans ((if_neg (by omega)).trans (if_neg (by assumption)))))); rw [e1]; exact ⟨_, _, _, rfl, S.pk (.cons 0 rfl (.nil _)), Reads.own _ _ _ _ _⟩)
        · have rh10 := h10
          (try simp only [decide_eq_true_eq, decide_eq_false_iff_not, Bool.not_eq_true', Bool.not_eq_false', Bool.and_eq_true, Bool.or_eq_true, Bool.and_eq_false_iff, Bool.or_eq_false_iff, Bool.not_true, Bool.not_false] at h10)
          refine W.seq ?_
          refine W.region rfl ?_
          refine WO.q (Y.eql rfl rfl) ?_
          refine WO.q (Y.assign (v := .bool _) rfl) ?_
          refine WO.nil ?_
          refine Then.nx ?_
          refine W.cond rfl (fun h11 => ?_) (fun h11 => ?_) -- cond 9
          · have rh11 := h11
            (try simp only [decide_eq_true_eq, decide_eq_false_iff_not, Bool.not_eq_true', Bool.not_eq_false', Bool.and_eq_true, Bool.or_eq_true, Bool.and_eq_false_iff, Bool.or_eq_false_iff, Bool.not_true, Bool.not_false] at h11)
            refine W.seq ?_
            refine W.region rfl ?_
            refine WO.q (Y.move (v := .slice _ _ _) rfl) ?_
            refine WO.q (Y.fieldB fo_58_1 rfl) ?_
            first | refine WO.q (Y.load rfl (loadS1 sz_2 S 0 rfl rfl)) ?_ | refine WO.q (Y.load rfl (loadS1 sz_2 S 1 rfl rfl)) ?_ | refine WO.q (Y.load rfl (loadS1 sz_2 S 2 rfl rfl)) ?_
            first | refine WO.q (Y.ixN sl_54 rfl rfl (by (first | assumption | rfl)) (by (first | assumption | omega))) ?_ | refine WO.q (Y.ix sl_54 rfl rfl (by (first | assumption | rfl)) (by (first | assumption | omega)) (by (first | assumption | omega))) ?_
            refine WO.e0 (O.storeEl (k := 0) 0 (c.arg) S rfl rfl Nat.zero_lt_one rfl sz_2 rfl (fun w S => ?_))
            refine WO.nil ?_
            refine Then.nx ?_
            refine W.seq ?_
            refine W.region rfl ?_
            refine WO.q (Y.move (v := .slice _ _ _) rfl) ?_
            refine WO.q (Y.assign (v := .slice _ _ _) rfl) ?_
            refine WO.q (Y.assign (v := .int .i64 _) rfl) ?_
            refine WO.q (Y.assign (v := .bool _) rfl) ?_
            refine WO.nil ?_
            refine Then.nx ?_
            refine W.ret ?_
            refine InB.r ?_
            refine Then.r ?_
            refine BodyQ.ret3 Tryd.results78 (ResV.tmp _ rfl) (ResV.tmp _ rfl) (ResV.tmp _ rfl) ?_
            first | (exfalso; omega) | ((have e1 : DoM k R c = ((doesM k R c).1, (doesM k R c).2.answer, (doesM k R c).2.ok) := if_pos (by omega)); rw [e1, doesM_put (by omega) (by assumption)]; exact ⟨a27, c27, _, rfl, S.pk (.cons 1 rfl (.nil _)), Reads.own _ _ _ _ _⟩) | ((have e1 : DoM k R c = ((doesM k R c).1, (doesM k R c).2.answer, (doesM k R c).2.ok) := if_pos (by omega)); rw [e1, doesM_nil (by omega) (by assumption) (List.eq_nil_of_length_eq_zero (by omega))]; exact ⟨a12, c12, _, rfl, S.pk (.cons 0 rfl (.nil _)), Reads.own _ _ _ _ _⟩) | ((have e1 : DoM k R c = ((doesM k R c).1, (doesM k R c).2.answer, (doesM k R c).2.ok) := if_pos (by omega)); rw [e1, doesM_queue (by omega) (by assumption) hx1 (by assumption)]; exact ⟨sla a12 1 c12 1, c12 - 1, _, (by rw [List.length_drop]; rfl), S.pk (.cons 0 rfl (.nil _)), (Reads.own _ _ _ _ _).drop 1 c12 hcp⟩) | ((have e1 : DoM k R c = ((doesM k R c).1, (doesM k R c).2.answer, (doesM k R c).2.ok) := if_pos (by omega)); rw [e1, doesM_stack (by omega) (by assumption) hx1 (by omega)]; (have hlt : (R.take (R.length - 1)).length = R.length - 1 := (by (rw [List.length_take]; omega))); exact ⟨a12, c12, _, (by (rw [hlt]; rfl)), S.pk (.cons 0 rfl (.nil _)), (Reads.own _ _ _ _ _).take _⟩) | ((have e1 : DoM k R c = ([wr (x + c.arg)], wr (x + c.arg), false) := (by (unfold DoM; rw [if_neg (by omega), hx]; exact if_pos (by assumption)))); rw [e1]; exact ⟨_, _, _, rfl, S.pk (.cons 0 rfl (.nil _)), Reads.own _ _ _ _ _⟩) | ((have e1 : DoM k R c = ([c.arg], 0, false) := (by (unfold DoM; rw [if_neg (by omega), hx]; exact (if_neg (by omega)).trans (if_pos (by assumption))))); rw [e1]; exact ⟨_, _, _, rfl, S.pk (.cons 0 rfl (.nil _)), Reads.own _ _ _ _ _⟩) | ((have e1 : DoM k R c = ([c.new], 0, true) := (by (unfold DoM; rw [if_neg (by omega), hx]; exact (if_neg (by omega)).trans ((if_neg (by omega)).trans ((if_pos (by assumption)).trans (if_pos (by assumption))))))); rw [e1]; exact ⟨_, _, _, rfl, S.pk (.cons 0 rfl (.nil _)), Reads.own _ _ _ _ _⟩) | ((have e1 : DoM k R c = ([x], 0, false) := (by (unfold DoM; rw [if_neg (by omega), hx]; exact (if_neg (by omega)).trans ((if_neg (by omega)).trans ((if_pos (by assumption)).trans (if_neg (by assumption))))))); rw [e1]; exact ⟨_, _, _, rfl, S.pk (.cons 0 rfl (.nil _)), Reads.own _ _ _ _ _⟩) | ((have e1 : DoM k R c = ([x], x, false) := (by (unfold DoM; rw [if_neg (by omega), hx]; exact (if_neg (by omega)).trans ((if_neg (by omega)).trans (if_neg (by assumption)))))); rw [e1]; exact ⟨_, _, _, rfl, S.pk (.cons 0 rfl (.nil _)), Reads.own _ _ _ _ _⟩)
          · have rh11 := h11
            (try simp only [decide_eq_true_eq, decide_eq_false_iff_not, Bool.not_eq_true', Bool.not_eq_false', Bool.and_eq_true, Bool.or_eq_true, Bool.and_eq_false_iff, Bool.or_eq_false_iff, Bool.not_true, Bool.not_false] at h11)
            refine W.seq ?_
            refine W.region rfl ?_
            refine WO.q (Y.eql rfl rfl) ?_
            refine WO.q (Y.assign (v := .bool _) rfl) ?_
            refine WO.nil ?_
            refine Then.nx ?_
            refine W.cond rfl (fun h12 => ?_) (fun h12 => ?_) -- cond 10
            · have rh12 := h12
              (try simp only [decide_eq_true_eq, decide_eq_false_iff_not, Bool.not_eq_true', Bool.not_eq_false', Bool.and_eq_true, Bool.or_eq_true, Bool.and_eq_false_iff, Bool.or_eq_false_iff, Bool.not_true, Bool.not_false] at h12)
              refine W.seq ?_
              refine W.seq ?_
              refine W.draw (.q 0 (.q 1 (.q 2 (.q 3 (.q 4 (.q 5 .nil)))))) (fun w => Sat _ w _) rfl rfl (by kernel_rfl) rfl (by kernel_rfl) (by repeat (first | exact BodyQ.noFrame | refine Then.noFrame ?_ | refine InB.noFrame ?_)) S.drew ?_
              clear S
              refine Plan.q rfl (fun w S => Y.move (v := .slice _ _ _) rfl) ?_
              first | refine Plan.q rfl (fun w S => Y.ixN sl_54 rfl rfl (by (first | assumption | rfl)) (by (first | assumption | omega))) ?_ | refine Plan.q rfl (fun w S => Y.ix sl_54 rfl rfl (by (first | assumption | rfl)) (by (first | assumption | omega)) (by (first | assumption | omega))) ?_
              refine Plan.q rfl (fun w S => Y.load rfl (loadRd1 sz_2 (S.rd 0 rfl) (by assumption) rfl)) ?_
              refine Plan.q rfl (fun w S => Y.fieldB fo_58_1 rfl) ?_
              first | refine Plan.q rfl (fun w S => Y.load rfl (loadS1 sz_2 S 0 rfl rfl)) ?_ | refine Plan.q rfl (fun w S => Y.load rfl (loadS1 sz_2 S 1 rfl rfl)) ?_ | refine Plan.q rfl (fun w S => Y.load rfl (loadS1 sz_2 S 2 rfl rfl)) ?_
              refine Plan.q rfl (fun w S => Y.eql rfl rfl) ?_
              refine Plan.nil (fun w S => ?_)
              replace S : Sat _ _ _ := S
              refine Then.nx ?_
              refine W.cond rfl (fun h13 => ?_) (fun h13 => ?_) -- cond 11
              · have rh13 := h13
                (try simp only [decide_eq_true_eq, decide_eq_false_iff_not, Bool.not_eq_true', Bool.not_eq_false', Bool.and_eq_true, Bool.or_eq_true, Bool.and_eq_false_iff, Bool.or_eq_false_iff, Bool.not_true, Bool.not_false] at h13)
                refine W.seq ?_
                refine W.region rfl ?_
                refine WO.q (Y.move (v := .slice _ _ _) rfl) ?_
                refine WO.q (Y.fieldB fo_58_2 rfl) ?_
                first | refine WO.q (Y.load rfl (loadS1 sz_2 S 0 rfl rfl)) ?_ | refine WO.q (Y.load rfl (loadS1 sz_2 S 1 rfl rfl)) ?_ | refine WO.q (Y.load rfl (loadS1 sz_2 S 2 rfl rfl)) ?_
                first | refine WO.q (Y.ixN sl_54 rfl rfl (by (first | assumption | rfl)) (by (first | assumption | omega))) ?_ | refine WO.q (Y.ix sl_54 rfl rfl (by (first | assumption | rfl)) (by (first | assumption | omega)) (by (first | assumption | omega))) ?_
                refine WO.e0 (O.storeEl (k := 0) 0 (c.new) S rfl rfl Nat.zero_lt_one rfl sz_2 rfl (fun w S => ?_))
                refine WO.nil ?_
                refine Then.nx ?_
                refine W.seq ?_
                refine W.region rfl ?_
                refine WO.q (Y.move (v := .slice _ _ _) rfl) ?_
                refine WO.q (Y.assign (v := .slice _ _ _) rfl) ?_
                refine WO.q (Y.assign (v := .int .i64 _) rfl) ?_
                refine WO.q (Y.assign (v := .bool _) rfl) ?_
                refine WO.nil ?_
                refine Then.nx ?_
                refine W.ret ?_
                refine Then.r ?_
                refine InB.r ?_
                refine Then.r ?_
                refine BodyQ.ret3 Tryd.results78 (ResV.tmp _ rfl) (ResV.tmp _ rfl) (ResV.tmp _ rfl) ?_
                first | (exfalso; omega) | ((have e1 : DoM k R c = ((doesM k R c).1, (doesM k R c).2.answer, (doesM k R c).2.ok) := if_pos (by omega)); rw [e1, doesM_put (by omega) (by assumption)]; exact ⟨a27, c27, _, rfl, S.pk (.cons 1 rfl (.nil _)), Reads.own _ _ _ _ _⟩) | ((have e1 : DoM k R c = ((doesM k R c).1, (doesM k R c).2.answer, (doesM k R c).2.ok) := if_pos (by omega)); rw [e1, doesM_nil (by omega) (by assumption) (List.eq_nil_of_length_eq_zero (by omega))]; exact ⟨a12, c12, _, rfl, S.pk (.cons 0 rfl (.nil _)), Reads.own _ _ _ _ _⟩) | ((have e1 : DoM k R c = ((doesM k R c).1, (doesM k R c).2.answer, (doesM k R c).2.ok) := if_pos (by omega)); rw [e1, doesM_queue (by omega) (by assumption) hx1 (by assumption)]; exact ⟨sla a12 1 c12 1, c12 - 1, _, (by rw [List.length_drop]; rfl), S.pk (.cons 0 rfl (.nil _)), (Reads.own _ _ _ _ _).drop 1 c12 hcp⟩) | ((have e1 : DoM k R c = ((doesM k R c).1, (doesM k R c).2.answer, (doesM k R c).2.ok) := if_pos (by omega)); rw [e1, doesM_stack (by omega) (by assumption) hx1 (by omega)]; (have hlt : (R.take (R.length - 1)).length = R.length - 1 := (by (rw [List.length_take]; omega))); exact ⟨a12, c12, _, (by (rw [hlt]; rfl)), S.pk (.cons 0 rfl (.nil _)), (Reads.own _ _ _ _ _).take _⟩) | ((have e1 : DoM k R c = ([wr (x + c.arg)], wr (x + c.arg), false) := (by (unfold DoM; rw [if_neg (by omega), hx]; exact if_pos (by assumption)))); rw [e1]; exact ⟨_, _, _, rfl, S.pk (.cons 0 rfl (.nil _)), Reads.own _ _ _ _ _⟩) | ((have e1 : DoM k R c = ([c.arg], 0, false) := (by (unfold DoM; rw [if_neg (by omega), hx]; exact (if_neg (by omega)).trans (if_pos (by assumption))))); rw [e1]; exact ⟨_, _, _, rfl, S.pk (.cons 0 rfl (.nil _)), Reads.own _ _ _ _ _⟩) | ((have e1 : DoM k R c = ([c.new], 0, true) := (by (unfold DoM; rw [if_neg (by omega), hx]; exact (if_neg (by omega)).trans ((if_neg (by omega)).trans ((if_pos (by assumption)).trans (if_pos (by assumption))))))); rw [e1]; exact ⟨_, _, _, rfl, S.pk (.cons 0 rfl (.nil _)), Reads.own _ _ _ _ _⟩) | ((have e1 : DoM k R c = ([x], 0, false) := (by (unfold DoM; rw [if_neg (by omega), hx]; exact (if_neg (by omega)).trans ((if_neg (by omega)).trans ((if_pos (by assumption)).trans (if_neg (by assumption))))))); rw [e1]; exact ⟨_, _, _, rfl, S.pk (.cons 0 rfl (.nil _)), Reads.own _ _ _ _ _⟩) | ((have e1 : DoM k R c = ([x], x, false) := (by (unfold DoM; rw [if_neg (by omega), hx]; exact (if_neg (by omega)).trans ((if_neg (by omega)).trans (if_neg (by assumption)))))); rw [e1]; exact ⟨_, _, _, rfl, S.pk (.cons 0 rfl (.nil _)), Reads.own _ _ _ _ _⟩)
              · have rh13 := h13
                (try simp only [decide_eq_true_eq, decide_eq_false_iff_not, Bool.not_eq_true', Bool.not_eq_false', Bool.and_eq_true, Bool.or_eq_true, Bool.and_eq_false_iff, Bool.or_eq_false_iff, Bool.not_true, Bool.not_false] at h13)
                refine W.skip ?_
                refine Then.nx ?_
                refine W.seq ?_
                refine W.region rfl ?_
                refine WO.q (Y.move (v := .slice _ _ _) rfl) ?_
                refine WO.q (Y.assign (v := .slice _ _ _) rfl) ?_
                refine WO.q (Y.assign (v := .int .i64 _) rfl) ?_
                refine WO.q (Y.assign (v := .bool _) rfl) ?_
                refine WO.nil ?_
                refine Then.nx ?_
                refine W.ret ?_
                refine InB.r ?_
                refine Then.r ?_
                refine BodyQ.ret3 Tryd.results78 (ResV.tmp _ rfl) (ResV.tmp _ rfl) (ResV.tmp _ rfl) ?_
                first | (exfalso; omega) | ((have e1 : DoM k R c = ((doesM k R c).1, (doesM k R c).2.answer, (doesM k R c).2.ok) := if_pos (by omega)); rw [e1, doesM_put (by omega) (by assumption)]; exact ⟨a27, c27, _, rfl, S.pk (.cons 1 rfl (.nil _)), Reads.own _ _ _ _ _⟩) | ((have e1 : DoM k R c = ((doesM k R c).1, (doesM k R c).2.answer, (doesM k R c).2.ok) := if_pos (by omega)); rw [e1, doesM_nil (by omega) (by assumption) (List.eq_nil_of_length_eq_zero (by omega))]; exact ⟨a12, c12, _, rfl, S.pk (.cons 0 rfl (.nil _)), Reads.own _ _ _ _ _⟩) | ((have e1 : DoM k R c = ((doesM k R c).1, (doesM k R c).2.answer, (doesM k R c).2.ok) := if_pos (by omega)); rw [e1, doesM_queue (by omega) (by assumption) hx1 (by assumption)]; exact ⟨sla a12 1 c12 1, c12 - 1, _, (by rw [List.length_drop]; rfl), S.pk (.cons 0 rfl (.nil _)), (Reads.own _ _ _ _ _).drop 1 c12 hcp⟩) | ((have e1 : DoM k R c = ((doesM k R c).1, (doesM k R c).2.answer, (doesM k R c).2.ok) := if_pos (by omega)); rw [e1, doesM_stack (by omega) (by assumption) hx1 (by omega)]; (have hlt : (R.take (R.length - 1)).length = R.length - 1 := (by (rw [List.length_take]; omega))); exact ⟨a12, c12, _, (by (rw [hlt]; rfl)), S.pk (.cons 0 rfl (.nil _)), (Reads.own _ _ _ _ _).take _⟩) | ((have e1 : DoM k R c = ([wr (x + c.arg)], wr (x + c.arg), false) := (by (unfold DoM; rw [if_neg (by omega), hx]; exact if_pos (by assumption)))); rw [e1]; exact ⟨_, _, _, rfl, S.pk (.cons 0 rfl (.nil _)), Reads.own _ _ _ _ _⟩) | ((have e1 : DoM k R c = ([c.arg], 0, false) := (by (unfold DoM; rw [if_neg (by omega), hx]; exact (if_neg (by omega)).trans (if_pos (by assumption))))); rw [e1]; exact ⟨_, _, _, rfl, S.pk (.cons 0 rfl (.nil _)), Reads.own _ _ _ _ _⟩) | ((have e1 : DoM k R c = ([c.new], 0, true) := (by (unfold DoM; rw [if_neg (by omega), hx]; exact (if_neg (by omega)).trans ((if_neg (by omega)).trans ((if_pos (by assumption)).trans (if_pos (by assumption))))))); rw [e1]; exact ⟨_, _, _, rfl, S.pk (.cons 0 rfl (.nil _)), Reads.own _ _ _ _ _⟩) | ((have e1 : DoM k R c = ([x], 0, false) := (by (unfold DoM; rw [if_neg (by omega), hx]; exact (if_neg (by omega)).trans ((if_neg (by omega)).trans ((if_pos (by assumption)).trans (if_neg (by assumption))))))); rw [e1]; exact ⟨_, _, _, rfl, S.pk (.cons 0 rfl (.nil _)), Reads.own _ _ _ _ _⟩) | ((have e1 : DoM k R c = ([x], x, false) := (by (unfold DoM; rw [if_neg (by omega), hx]; exact (if_neg (by omega)).trans ((if_neg (by omega)).trans (if_neg (by assumption)))))); rw [e1]; exact ⟨_, _, _, rfl, S.pk (.cons 0 rfl (.nil _)), Reads.own _ _ _ _ _⟩)
            · have rh12 := h12
              (try simp only [decide_eq_true_eq, decide_eq_false_iff_not, Bool.not_eq_true', Bool.not_eq_false', Bool.and_eq_true, Bool.or_eq_true, Bool.and_eq_false_iff, Bool.or_eq_false_iff, Bool.not_true, Bool.not_false] at h12)
              refine W.skip ?_
              refine InB.nx ?_
              refine Then.nx ?_
              refine W.seq ?_
              refine W.draw (.q 0 (.q 1 (.q 2 (.q 3 (.q 4 (.q 5 (.q 6 .nil))))))) (fun w => Sat _ w _) rfl rfl (by kernel_rfl) rfl (by kernel_rfl) (by repeat (first | exact BodyQ.noFrame | refine Then.noFrame ?_ | refine InB.noFrame ?_)) S.drew ?_
              clear S
              refine Plan.q rfl (fun w S => Y.move (v := .slice _ _ _) rfl) ?_
              refine Plan.q rfl (fun w S => Y.move (v := .slice _ _ _) rfl) ?_
              first | refine Plan.q rfl (fun w S => Y.ixN sl_54 rfl rfl (by (first | assumption | rfl)) (by (first | assumption | omega))) ?_ | refine Plan.q rfl (fun w S => Y.ix sl_54 rfl rfl (by (first | assumption | rfl)) (by (first | assumption | omega)) (by (first | assumption | omega))) ?_
              refine Plan.q rfl (fun w S => Y.load rfl (loadRd1 sz_2 (S.rd 0 rfl) (by assumption) rfl)) ?_
              refine Plan.q rfl (fun w S => Y.assign (v := .slice _ _ _) rfl) ?_
              refine Plan.q rfl (fun w S => Y.assign (v := .int .i64 _) rfl) ?_
              refine Plan.q rfl (fun w S => Y.assign (v := .bool _) rfl) ?_
              refine Plan.nil (fun w S => ?_)
              replace S : Sat _ _ _ := S
              refine Then.nx ?_
              refine W.ret ?_
              refine BodyQ.ret3 Tryd.results78 (ResV.tmp _ rfl) (ResV.tmp _ rfl) (ResV.tmp _ rfl) ?_
              first | (exfalso; omega) | ((have e1 : DoM k R c = ((doesM k R c).1, (doesM k R c).2.answer, (doesM k R c).2.ok) := if_pos (by omega)); rw [e1, doesM_put (by omega) (by assumption)]; exact ⟨a27, c27, _, rfl, S.pk (.cons 1 rfl (.nil _)), Reads.own _ _ _ _ _⟩) | ((have e1 : DoM k R c = ((doesM k R c).1, (doesM k R c).2.answer, (doesM k R c).2.ok) := if_pos (by omega)); rw [e1, doesM_nil (by omega) (by assumption) (List.eq_nil_of_length_eq_zero (by omega))]; exact ⟨a12, c12, _, rfl, S.pk (.cons 0 rfl (.nil _)), Reads.own _ _ _ _ _⟩) | ((have e1 : DoM k R c = ((doesM k R c).1, (doesM k R c).2.answer, (doesM k R c).2.ok) := if_pos (by omega)); rw [e1, doesM_queue (by omega) (by assumption) hx1 (by assumption)]; exact ⟨sla a12 1 c12 1, c12 - 1, _, (by rw [List.length_drop]; rfl), S.pk (.cons 0 rfl (.nil _)), (Reads.own _ _ _ _ _).drop 1 c12 hcp⟩) | ((have e1 : DoM k R c = ((doesM k R c).1, (doesM k R c).2.answer, (doesM k R c).2.ok) := if_pos (by omega)); rw [e1, doesM_stack (by omega) (by assumption) hx1 (by omega)]; (have hlt : (R.take (R.length - 1)).length = R.length - 1 := (by (rw [List.length_take]; omega))); exact ⟨a12, c12, _, (by (rw [hlt]; rfl)), S.pk (.cons 0 rfl (.nil _)), (Reads.own _ _ _ _ _).take _⟩) | ((have e1 : DoM k R c = ([wr (x + c.arg)], wr (x + c.arg), false) := (by (unfold DoM; rw [if_neg (by omega), hx]; exact if_pos (by assumption)))); rw [e1]; exact ⟨_, _, _, rfl, S.pk (.cons 0 rfl (.nil _)), Reads.own _ _ _ _ _⟩) | ((have e1 : DoM k R c = ([c.arg], 0, false) := (by (unfold DoM; rw [if_neg (by omega), hx]; exact (if_neg (by omega)).trans (if_pos (by assumption))))); rw [e1]; exact ⟨_, _, _, rfl, S.pk (.cons 0 rfl (.nil _)), Reads.own _ _ _ _ _⟩) | ((have e1 : DoM k R c = ([c.new], 0, true) := (by (unfold DoM; rw [if_neg (by omega), hx]; exact (if_neg (by omega)).trans ((if_neg (by omega)).trans ((if_pos (by assumption)).trans (if_pos (by assumption))))))); rw [e1]; exact ⟨_, _, _, rfl, S.pk (.cons 0 rfl (.nil _)), Reads.own _ _ _ _ _⟩) | ((have e1 : DoM k R c = ([x], 0, false) := (by (unfold DoM; rw [if_neg (by omega), hx]; exact (if_neg (by omega)).trans ((if_neg (by omega)).trans ((if_pos (by assumption)).trans (if_neg (by assumption))))))); rw [e1]; exact ⟨_, _, _, rfl, S.pk (.cons 0 rfl (.nil _)), Reads.own _ _ _ _ _⟩) | ((have e1 : DoM k R c = ([x], x, false) := (by (unfold DoM; rw [if_neg (by omega), hx]; exact (if_neg (by omega)).trans ((if_neg (by omega)).trans (if_neg (by assumption)))))); rw [e1]; exact ⟨_, _, _, rfl, S.pk (.cons 0 rfl (.nil _)), Reads.own _ _ _ _ _⟩)
theorem free_spec (w0 w : World) (bs : Nat) (k : Int) (h : List GCall) (ah : Option Addr) (ch : Nat) (v2 v3 : Value) (R1 : Rd tCall w0 ah h) (hl : h.length ≤ 12) (d i : Nat) (c : GCall) (hc : h[i]? = some c) (hd : d < 4096) (L : List HA) (S : Sat w0 w (Cel bs [.int .i64 k, .slice ah h.length ch, v2, v3] 100 :: L)) :
    Calls Tryd.prog 77 [.pointer (some ⟨bs, 0, none⟩), .int .i64 (d : Int), .int .i64 (i : Int)].toArray w (fun e w' => e = .returned (.bool (!lateB h d c)) ∧ Sat w0 w' (Cel bs [.int .i64 k, .slice ah h.length ch, v2, v3] 100 :: L)) := by
  refine calls_of_W (args := [.pointer (some ⟨bs, 0, none⟩), .int .i64 (d : Int), .int .i64 (i : Int)]) 52 Tryd.func77 rfl Tryd.ntmps77 rfl ?_
  refine W.seq ?_
  refine W.region rfl ?_
  refine WO.q (Y.assign (v := .bool _) rfl) ?_
  refine WO.nil ?_
  refine Then.nx ?_
  refine W.seq ?_
  refine W.seq ?_
  refine W.region rfl ?_
  refine WO.q (Y.assign (v := .int .i64 _) rfl) ?_
  refine WO.nil ?_
  refine Then.nx ?_
  refine W.block ?_
  -- loop 0 carries 7:k
  refine W.loop1 [6, 7, 8, 9, 10, 11, 12, 13, 14, 15, 16, 17, 18, 19, 20, 21, 22, 23, 24, 25, 26, 27, 28, 29, 30, 31, 32, 33, 34, 35, 36, 37, 38, 39, 40, 41, 42, 43, 44, 45, 46, 47, 48, 49, 50, 51] 7 (fun v7 w => ∃ k1 : Nat, v7 = .int .i64 (k1 : Int) ∧ k1 ≤ h.length ∧ (∀ j, j < k1 → lateAt h d c j = false) ∧ Sat w0 w (Cel bs [.int .i64 k, .slice ah h.length ch, v2, v3] 100 :: L)) (fun v7 w => h.length - (intOf v7).toNat) ?_ ?_
  · exact ⟨0, rfl, Nat.zero_le _, fun j h => by omega, S⟩
  · rintro g0 v7 w ⟨k1, rfl, hk, hf, S⟩
    refine W.seq ?_
    refine W.seq ?_
    refine W.region rfl ?_
    refine WO.q (Y.move (v := .int .i64 _) rfl) ?_
    first | refine WO.q (Y.move (v := .pointer (some _)) rfl) ?_ | refine WO.q (Y.move (v := .pointer _) rfl) ?_
    refine WO.q (Y.nilP rfl) ?_
    first | refine WO.q (Y.fieldB fo_100_1 rfl) ?_ | refine WO.q (Y.fieldE fo_100_1 rfl) ?_
    first | refine WO.q (Y.load rfl (loadS1 sz_22 S 0 rfl rfl)) ?_ | refine WO.q (Y.load rfl (loadRdF sz_22 (R1.ext S.ext) (by assumption) rfl)) ?_ | refine WO.q (Y.load rfl (loadRd1 sz_22 (R1.ext S.ext) (by assumption) rfl)) ?_
    refine WO.q (Y.len (t' := 0) Tryd.underlying22 rfl) ?_
    refine WO.q (Y.lss rfl rfl) ?_
    refine WO.nil ?_
    refine Then.nx ?_
    refine W.cond rfl (fun h1 => ?_) (fun h1 => ?_) -- cond 0
    · have rh1 := h1
      (try simp only [decide_eq_true_eq, decide_eq_false_iff_not, Bool.not_eq_true', Bool.not_eq_false', Bool.and_eq_true, Bool.or_eq_true, Bool.and_eq_false_iff, Bool.or_eq_false_iff, Bool.not_true, Bool.not_false] at h1)
      have haH := R1.1 (by omega)
      obtain ⟨x, hx1⟩ := at_ex (xs := h) (k := k1) (by omega)
      have hbk := and_bit d k1
      have hbc := bitN_cases d k1
      have hih := at_lt hc
      have hsh : 1 <<< k1 < 4096 := by (rw [Nat.shiftLeft_eq, Nat.one_mul]; exact Nat.pow_lt_pow_right (m := k1) (n := 12) (by decide) (by omega))
      refine W.skip ?_
      refine Then.nx ?_
      refine W.seq ?_
      refine W.block ?_
      refine W.seq ?_
      refine W.draw (.q 0 (.q 1 (.q 2 (.q 3 (.q 4 (.q 5 (.q 6 (.q 7 (.q 8 (.q 9 (.q 10 (.q 11 (.q 12 (.q 13 (.q 14 (.q 15 (.q 16 (.q 17 (.q 18 (.q 19 (.q 20 (.q 21 (.q 22 (.q 23 (.q 24 (.q 25 (.q 26 (.q 27 (.q 28 (.q 29 (.q 30 (.q 31 (.q 32 (.q 33 (.q 34 .nil))))))))))))))))))))))))))))))))))) (fun w => Sat _ w _) rfl rfl (by kernel_rfl) rfl (by kernel_rfl) (by repeat (first | exact BodyQ.noFrame | refine Then.noFrame ?_ | refine InB.noFrame ?_)) S.drew ?_
      clear S
      refine Plan.q rfl (fun w S => Y.move (v := .int .i64 _) rfl) ?_
      refine Plan.q rfl (fun w S => Y.move (v := .int .i64 _) rfl) ?_
      refine Plan.q rfl (fun w S => Y.shlN (x := 1) (y := k1) rfl rfl (by omega) (by omega)) ?_
      refine Plan.q rfl (fun w S => Y.andN (x := d) (y := 1 <<< k1) rfl rfl (by omega) (by omega)) ?_
      refine Plan.q rfl (fun w S => Y.eql rfl rfl) ?_
      refine Plan.q rfl (fun w S => Y.move (v := .bool _) rfl) ?_
      refine Plan.splitB (fun h2 => ?_) (fun h2 => ?_)
      · (try simp only [decide_eq_true_eq, decide_eq_false_iff_not, Bool.not_eq_true', Bool.not_eq_false', Bool.and_eq_true, Bool.or_eq_true, Bool.and_eq_false_iff, Bool.or_eq_false_iff, Bool.not_true, Bool.not_false] at h2)
        first | refine Plan.qT rfl rfl (fun w S => Y.move (v := .pointer (some _)) rfl) ?_ | refine Plan.qT rfl rfl (fun w S => Y.move (v := .pointer _) rfl) ?_
        refine Plan.qT rfl rfl (fun w S => Y.nilP rfl) ?_
        first | refine Plan.qT rfl rfl (fun w S => Y.fieldB fo_100_1 rfl) ?_ | refine Plan.qT rfl rfl (fun w S => Y.fieldE fo_100_1 rfl) ?_
        first | refine Plan.qT rfl rfl (fun w S => Y.load rfl (loadS1 sz_22 S 0 rfl rfl)) ?_ | refine Plan.qT rfl rfl (fun w S => Y.load rfl (loadRdF sz_22 (R1.ext S.ext) (by assumption) rfl)) ?_ | refine Plan.qT rfl rfl (fun w S => Y.load rfl (loadRd1 sz_22 (R1.ext S.ext) (by assumption) rfl)) ?_
        refine Plan.qT rfl rfl (fun w S => Y.move (v := .int .i64 _) rfl) ?_
        first | refine Plan.qT rfl rfl (fun w S => Y.ixN sl_22 rfl rfl (by (first | assumption | rfl)) (by (first | assumption | omega))) ?_ | refine Plan.qT rfl rfl (fun w S => Y.ix sl_22 rfl rfl (by (first | assumption | rfl)) (by (first | assumption | omega)) (by (first | assumption | omega))) ?_
        refine Plan.qT rfl rfl (fun w S => Y.fieldE fo_58_6 rfl) ?_
        refine Plan.qT rfl rfl (fun w S => Y.load rfl (loadRdF sz_3 (R1.ext S.ext) (by assumption) rfl)) ?_
        refine Plan.qT rfl rfl (fun w S => Y.neq rfl rfl) ?_
        refine Plan.q rfl (fun w S => Y.pickT (u := .bool _) rfl rfl) ?_
        refine Plan.q rfl (fun w S => Y.move (v := .bool _) rfl) ?_
        refine Plan.splitB (fun h3 => ?_) (fun h3 => ?_)
        · (try simp only [decide_eq_true_eq, decide_eq_false_iff_not, Bool.not_eq_true', Bool.not_eq_false', Bool.and_eq_true, Bool.or_eq_true, Bool.and_eq_false_iff, Bool.or_eq_false_iff, Bool.not_true, Bool.not_false] at h3)
          first | refine Plan.qT rfl rfl (fun w S => Y.move (v := .pointer (some _)) rfl) ?_ | refine Plan.qT rfl rfl (fun w S => Y.move (v := .pointer _) rfl) ?_
          refine Plan.qT rfl rfl (fun w S => Y.nilP rfl) ?_
          first | refine Plan.qT rfl rfl (fun w S => Y.fieldB fo_100_1 rfl) ?_ | refine Plan.qT rfl rfl (fun w S => Y.fieldE fo_100_1 rfl) ?_
          first | refine Plan.qT rfl rfl (fun w S => Y.load rfl (loadS1 sz_22 S 0 rfl rfl)) ?_ | refine Plan.qT rfl rfl (fun w S => Y.load rfl (loadRdF sz_22 (R1.ext S.ext) (by assumption) rfl)) ?_ | refine Plan.qT rfl rfl (fun w S => Y.load rfl (loadRd1 sz_22 (R1.ext S.ext) (by assumption) rfl)) ?_
          refine Plan.qT rfl rfl (fun w S => Y.move (v := .int .i64 _) rfl) ?_
          first | refine Plan.qT rfl rfl (fun w S => Y.ixN sl_22 rfl rfl (by (first | assumption | rfl)) (by (first | assumption | omega))) ?_ | refine Plan.qT rfl rfl (fun w S => Y.ix sl_22 rfl rfl (by (first | assumption | rfl)) (by (first | assumption | omega)) (by (first | assumption | omega))) ?_
          refine Plan.qT rfl rfl (fun w S => Y.fieldE fo_58_6 rfl) ?_
          refine Plan.qT rfl rfl (fun w S => Y.load rfl (loadRdF sz_3 (R1.ext S.ext) (by assumption) rfl)) ?_
          first | refine Plan.qT rfl rfl (fun w S => Y.move (v := .pointer (some _)) rfl) ?_ | refine Plan.qT rfl rfl (fun w S => Y.move (v := .pointer _) rfl) ?_
          refine Plan.qT rfl rfl (fun w S => Y.nilP rfl) ?_
          first | refine Plan.qT rfl rfl (fun w S => Y.fieldB fo_100_1 rfl) ?_ | refine Plan.qT rfl rfl (fun w S => Y.fieldE fo_100_1 rfl) ?_
          first | refine Plan.qT rfl rfl (fun w S => Y.load rfl (loadS1 sz_22 S 0 rfl rfl)) ?_ | refine Plan.qT rfl rfl (fun w S => Y.load rfl (loadRdF sz_22 (R1.ext S.ext) (by assumption) rfl)) ?_ | refine Plan.qT rfl rfl (fun w S => Y.load rfl (loadRd1 sz_22 (R1.ext S.ext) (by assumption) rfl)) ?_
          refine Plan.qT rfl rfl (fun w S => Y.move (v := .int .i64 _) rfl) ?_
          first | refine Plan.qT rfl rfl (fun w S => Y.ixN sl_22 rfl rfl (by (first | assumption | rfl)) (by (first | assumption | omega))) ?_ | refine Plan.qT rfl rfl (fun w S => Y.ix sl_22 rfl rfl (by (first | assumption | rfl)) (by (first | assumption | omega)) (by (first | assumption | omega))) ?_
          refine Plan.qT rfl rfl (fun w S => Y.fieldE fo_58_5 rfl) ?_
          refine Plan.qT rfl rfl (fun w S => Y.load rfl (loadRdF sz_3 (R1.ext S.ext) (by assumption) rfl)) ?_
          refine Plan.qT rfl rfl (fun w S => Y.lss rfl rfl) ?_
          refine Plan.q rfl (fun w S => Y.pickT (u := .bool _) rfl rfl) ?_
          refine Plan.nil (fun w S => ?_)
          replace S : Sat _ _ _ := S
          refine Then.nx ?_
          refine W.cond rfl (fun h4 => ?_) (fun h4 => ?_) -- cond 1
          · have rh4 := h4
            (try simp only [decide_eq_true_eq, decide_eq_false_iff_not, Bool.not_eq_true', Bool.not_eq_false', Bool.and_eq_true, Bool.or_eq_true, Bool.and_eq_false_iff, Bool.or_eq_false_iff, Bool.not_true, Bool.not_false] at h4)
            refine W.seq ?_
            refine W.region rfl ?_
            refine WO.q (Y.assign (v := .bool _) rfl) ?_
            refine WO.nil ?_
            refine Then.nx ?_
            refine W.ret ?_
            refine InB.r ?_
            refine Then.r ?_
            refine Then.r ?_
            refine InB.r ?_
            refine Then.r ?_
            refine BodyQ.ret1 Tryd.results77 (ResV.tmp _ rfl) ?_
            first | exact ⟨retB (by rw [late_yes (at_lt hx1) (by rw [lateAt_eq hx1, decide_eq_true]; omega)]; rfl), S⟩ | exact ⟨retB (by rw [late_no (by omega) hf]; rfl), S⟩
          · have rh4 := h4
            (try simp only [decide_eq_true_eq, decide_eq_false_iff_not, Bool.not_eq_true', Bool.not_eq_false', Bool.and_eq_true, Bool.or_eq_true, Bool.and_eq_false_iff, Bool.or_eq_false_iff, Bool.not_true, Bool.not_false] at h4)
            refine W.skip ?_
            refine InB.nx ?_
            refine Then.nx ?_
            refine W.region rfl ?_
            refine WO.q (Y.move (v := .int .i64 _) rfl) ?_
            first | refine WO.q (Y.addI rfl rfl (by omega)) ?_ | refine WO.q (Y.add rfl rfl) ?_
            refine WO.q (Y.assign (v := .int .i64 _) rfl) ?_
            refine WO.nil ?_
            refine Then.nx ⟨?_, ?_, ?_⟩
            · (repeat (first | exact Out.hav _ _ _ | exact Out.refl _ _ | refine Out.up rfl ?_ | refine Out.sub rfl ?_))
            · exact ⟨k1 + 1, rfl, by omega, fun j hj => by rcases Nat.lt_succ_iff_lt_or_eq.1 hj with hj | rfl; exact hf j hj; (rw [lateAt_eq hx1, decide_eq_false]; omega), S⟩
            · (show h.length - (k1 + 1) < h.length - k1; omega)
        · (try simp only [decide_eq_true_eq, decide_eq_false_iff_not, Bool.not_eq_true', Bool.not_eq_false', Bool.and_eq_true, Bool.or_eq_true, Bool.and_eq_false_iff, Bool.or_eq_false_iff, Bool.not_true, Bool.not_false] at h3)
          refine Plan.qF rfl rfl ?_
          refine Plan.qF rfl rfl ?_
          refine Plan.qF rfl rfl ?_
          refine Plan.qF rfl rfl ?_
          refine Plan.qF rfl rfl ?_
          refine Plan.qF rfl rfl ?_
          refine Plan.qF rfl rfl ?_
          refine Plan.qF rfl rfl ?_
          refine Plan.qF rfl rfl ?_
          refine Plan.qF rfl rfl ?_
          refine Plan.qF rfl rfl ?_
          refine Plan.qF rfl rfl ?_
          refine Plan.qF rfl rfl ?_
          refine Plan.qF rfl rfl ?_
          refine Plan.qF rfl rfl ?_
          refine Plan.qF rfl rfl ?_
          refine Plan.qF rfl rfl ?_
          refine Plan.q rfl (fun w S => Y.pickF (u := .bool _) rfl rfl) ?_
          refine Plan.nil (fun w S => ?_)
          replace S : Sat _ _ _ := S
          refine Then.nx ?_
          first | refine W.condF rfl ?_ | refine W.condF (congrArg Value.bool (by assumption)) ?_
          refine W.skip ?_
          refine InB.nx ?_
          refine Then.nx ?_
          refine W.region rfl ?_
          refine WO.q (Y.move (v := .int .i64 _) rfl) ?_
          first | refine WO.q (Y.addI rfl rfl (by omega)) ?_ | refine WO.q (Y.add rfl rfl) ?_
          refine WO.q (Y.assign (v := .int .i64 _) rfl) ?_
          refine WO.nil ?_
          refine Then.nx ⟨?_, ?_, ?_⟩
          · (repeat (first | exact Out.hav _ _ _ | exact Out.refl _ _ | refine Out.up rfl ?_ | refine Out.sub rfl ?_))
          · exact ⟨k1 + 1, rfl, by omega, fun j hj => by rcases Nat.lt_succ_iff_lt_or_eq.1 hj with hj | rfl; exact hf j hj; (rw [lateAt_eq hx1, decide_eq_false]; omega), S⟩
          · (show h.length - (k1 + 1) < h.length - k1; omega)
      · (try simp only [decide_eq_true_eq, decide_eq_false_iff_not, Bool.not_eq_true', Bool.not_eq_false', Bool.and_eq_true, Bool.or_eq_true, Bool.and_eq_false_iff, Bool.or_eq_false_iff, Bool.not_true, Bool.not_false] at h2)
        refine Plan.qF rfl rfl ?_
        refine Plan.qF rfl rfl ?_
        refine Plan.qF rfl rfl ?_
        refine Plan.qF rfl rfl ?_
        refine Plan.qF rfl rfl ?_
        refine Plan.qF rfl rfl ?_
        refine Plan.qF rfl rfl ?_
        refine Plan.qF rfl rfl ?_
        refine Plan.qF rfl rfl ?_
        refine Plan.q rfl (fun w S => Y.pickF (u := .bool _) rfl rfl) ?_
        refine Plan.q rfl (fun w S => Y.move (v := .bool _) rfl) ?_
        refine Plan.qF rfl rfl ?_
        refine Plan.qF rfl rfl ?_
        refine Plan.qF rfl rfl ?_
        refine Plan.qF rfl rfl ?_
        refine Plan.qF rfl rfl ?_
        refine Plan.qF rfl rfl ?_
        refine Plan.qF rfl rfl ?_
        refine Plan.qF rfl rfl ?_
        refine Plan.qF rfl rfl ?_
        refine Plan.qF rfl rfl ?_
        refine Plan.qF rfl rfl ?_
        refine Plan.qF rfl rfl ?_
        refine Plan.qF rfl rfl ?_
        refine Plan.qF rfl rfl ?_
        refine Plan.qF rfl rfl ?_
        refine Plan.qF rfl rfl ?_
        refine Plan.qF rfl rfl ?_
        refine Plan.q rfl (fun w S => Y.pickF (u := .bool _) rfl rfl) ?_
        refine Plan.nil (fun w S => ?_)
        replace S : Sat _ _ _ := S
        refine Then.nx ?_
        first | refine W.condF rfl ?_ | refine W.condF (congrArg Value.bool (by assumption)) ?_
        refine W.skip ?_
        refine InB.nx ?_
        refine Then.nx ?_
        refine W.region rfl ?_
        refine WO.q (Y.move (v := .int .i64 _) rfl) ?_
        first | refine WO.q (Y.addI rfl rfl (by omega)) ?_ | refine WO.q (Y.add rfl rfl) ?_
        refine WO.q (Y.assign (v := .int .i64 _) rfl) ?_
        refine WO.nil ?_
        refine Then.nx ⟨?_, ?_, ?_⟩
        · (repeat (first | exact Out.hav _ _ _ | exact Out.refl _ _ | refine Out.up rfl ?_ | refine Out.sub rfl ?_))
        · exact ⟨k1 + 1, rfl, by omega, fun j hj => by rcases Nat.lt_succ_iff_lt_or_eq.1 hj with hj | rfl; exact hf j hj; (rw [lateAt_eq hx1, decide_eq_false]; omega), S⟩
        · (show h.length - (k1 + 1) < h.length - k1; omega)
    · have rh1 := h1
      (try simp only [decide_eq_true_eq, decide_eq_false_iff_not, Bool.not_eq_true', Bool.not_eq_false', Bool.and_eq_true, Bool.or_eq_true, Bool.and_eq_false_iff, Bool.or_eq_false_iff, Bool.not_true, Bool.not_false] at h1)
      refine W.exit ?_
      refine Then.x ?_
      refine Then.x ?_
      refine InB.e ?_
      refine Then.nx ?_
      refine W.seq ?_
      refine W.region rfl ?_
      refine WO.q (Y.assign (v := .bool _) rfl) ?_
      refine WO.nil ?_
      refine Then.nx ?_
      refine W.ret ?_
      refine BodyQ.ret1 Tryd.results77 (ResV.tmp _ rfl) ?_
      first | exact ⟨retB (by rw [late_yes (at_lt hx1) (by rw [lateAt_eq hx1, decide_eq_true]; omega)]; rfl), S⟩ | exact ⟨retB (by rw [late_no (by omega) hf]; rfl), S⟩
end Go.Proofs
