/-
  Walks of rfrom.
-/
import Derived.Test.YticopppiogophaaDoorTr
import Derived.Test.YticopppiogophaaDoorSx
import Derived.Test.YticopppiogophaaDoorFa
import Derived.Test.YticopppiogophaaDoorFb
import Derived.Test.YticopppiogophaaDoorFc
import Derived.Test.YticopppiogophaaDoorXa
import Derived.Test.YticopppiogophaaDoorWa
set_option linter.unusedVariables false
set_option linter.unusedSimpArgs false
set_option maxRecDepth 100000
set_option maxHeartbeats 1000000
namespace Go.Proofs
open Go Go.TL Go.RowKit
theorem rfrom_spec (w0 : World) (bs : Nat) (k : Int) (hk : 1 ≤ k ∧ k ≤ 4) (h : List GCall) (ah : Option Addr) (ch : Nat) (R1 : Rd tCall w0 ah h) (hl : h.length ≤ 12) : ∀ (fuel d : Nat) (R : List Int) (bn : Been) (ps : List SlV) (ab : Option Addr) (cb : Nat) (ac : Option Addr) (cc : Nat) (X MX : HA) (a : Option Addr) (cap : Nat) (L : List HA) (w : World), undone h.length d < fuel → d < 4096 → Reads X (tI .i64) a R → R.length + undone h.length d ≤ 13 → (2 < k → R.length ≤ 1) → Memo bn ps MX → bn.length + callsW (undone h.length d) ≤ 4294967296 → Sat w0 w (X :: MX :: Cel bs [.int .i64 k, .slice ah h.length ch, .slice ab bn.length cb, .slice ac ps.length cc] 100 :: Own tN 3 ab cb (bn.map Prod.fst) :: Own tSl 54 ac cc ps :: L) →
    Calls Tryd.prog 48 [.pointer (some ⟨bs, 0, none⟩), .int .i64 (d : Int), .slice a R.length cap].toArray w (fun e w' => ∃ (ao : Option Addr) (co : Nat) (bn' : Been) (ps' : List SlV) (ab' : Option Addr) (cb' : Nat) (ac' : Option Addr) (cc' : Nat) (MX' : HA), e = .returned (.tuple #[.slice ao ((refFrom k h fuel d R bn).1.getD []).length co, .bool (refFrom k h fuel d R bn).1.isSome]) ∧ (refFrom k h fuel d R bn).2 = bn' ∧ Memo bn' ps' MX' ∧ bn'.length ≤ bn.length + callsW (undone h.length d) ∧ ((refFrom k h fuel d R bn).1.getD []).length ≤ undone h.length d ∧ Sat w0 w' (Own tN 3 ao co ((refFrom k h fuel d R bn).1.getD []) :: MX' :: Cel bs [.int .i64 k, .slice ah h.length ch, .slice ab' bn'.length cb', .slice ac' ps'.length cc'] 100 :: Own tN 3 ab' cb' (bn'.map Prod.fst) :: Own tSl 54 ac' cc' ps' :: L)) := by
  intro fuel
  induction fuel
  case zero => (intro d R bn ps ab cb ac cc X MX a cap L w hu; omega)
  rename_i fuel ih
  intro d R bn ps ab cb ac cc X MX a cap L w hu hd hX hRl hR1 hm hbw S
  have hW1 : callsW (undone h.length d) ≥ 1 := (by (have := callsW_mono (Nat.zero_le (undone h.length d)); exact this))
  refine calls_of_W (args := [.pointer (some ⟨bs, 0, none⟩), .int .i64 (d : Int), .slice a R.length cap]) 165 Tryd.func48 rfl Tryd.ntmps48 rfl ?_
  refine W.seq ?_
  refine W.region rfl ?_
  refine WO.q (Y.assign (v := .slice _ _ _) rfl) ?_
  refine WO.q (Y.assign (v := .bool _) rfl) ?_
  refine WO.nil ?_
  refine Then.nx ?_
  refine W.seq ?_
  refine W.region rfl ?_
  refine WO.q (Y.assign (v := .bool _) rfl) ?_
  refine WO.nil ?_
  refine Then.nx ?_
  refine W.seq ?_
  refine W.seq ?_
  refine W.region rfl ?_
  refine WO.q (Y.assign (v := .int .i64 _) rfl) ?_
  refine WO.nil ?_
  refine Then.nx ?_
  refine W.block ?_
  -- loop 0 carries 8:over, 9:i
  refine W.loop2 [8, 9, 18, 19, 20, 21, 22, 23, 24, 25, 26, 27, 28, 29, 30, 31, 32, 33, 34, 35, 36, 37, 38, 39, 40, 41, 42, 43, 44, 45] 8 9 (fun v8 v9 w => ∃ i : Nat, v9 = .int .i64 (i : Int) ∧ i ≤ h.length ∧ v8 = .bool (overN h d i) ∧ Sat w0 w (X :: MX :: Cel bs [.int .i64 k, .slice ah h.length ch, .slice ab bn.length cb, .slice ac ps.length cc] 100 :: Own tN 3 ab cb (bn.map Prod.fst) :: Own tSl 54 ac cc ps :: L)) (fun v8 v9 w => h.length - (intOf v9).toNat) ?_ ?_
  · exact ⟨0, rfl, Nat.zero_le _, rfl, S⟩
  · rintro g0 v8 v9 w ⟨i, rfl, hi, rfl, S⟩
    refine W.seq ?_
    refine W.seq ?_
    refine W.region rfl ?_
    refine WO.q (Y.move (v := .int .i64 _) rfl) ?_
    first | refine WO.q (Y.move (v := .pointer (some _)) rfl) ?_ | refine WO.q (Y.move (v := .pointer _) rfl) ?_
    refine WO.q (Y.nilP rfl) ?_
    first | refine WO.q (Y.fieldB fo_100_1 rfl) ?_ | refine WO.q (Y.fieldE fo_100_1 rfl) ?_
    first | refine WO.q (Y.load rfl (loadS1 sz_22 S 0 rfl rfl)) ?_ | refine WO.q (Y.load rfl (loadS1 sz_22 S 1 rfl rfl)) ?_ | refine WO.q (Y.load rfl (loadS1 sz_22 S 2 rfl rfl)) ?_ | refine WO.q (Y.load rfl (loadS1 sz_22 S 3 rfl rfl)) ?_ | refine WO.q (Y.load rfl (loadRdF sz_22 (R1.ext S.ext) (by assumption) rfl)) ?_ | refine WO.q (Y.load rfl (loadRdF sz_22 (S.rd 3 rfl) (by assumption) rfl)) ?_ | refine WO.q (Y.load rfl (loadRdF sz_22 (S.rd 4 rfl) (by assumption) rfl)) ?_ | refine WO.q (Y.load rfl (loadRd1 sz_22 (R1.ext S.ext) (by assumption) rfl)) ?_ | refine WO.q (Y.load rfl (loadRd1 sz_22 (S.rd 3 rfl) (by assumption) rfl)) ?_ | refine WO.q (Y.load rfl (loadRd1 sz_22 (S.rd 4 rfl) (by assumption) rfl)) ?_
    refine WO.q (Y.len (t' := 0) Tryd.underlying22 rfl) ?_
    refine WO.q (Y.lss rfl rfl) ?_
    refine WO.nil ?_
    refine Then.nx ?_
    refine W.cond rfl (fun h1 => ?_) (fun h1 => ?_) -- cond 0
    · have rh1 := h1
      (try simp only [decide_eq_true_eq, decide_eq_false_iff_not, Bool.not_eq_true', Bool.not_eq_false', Bool.and_eq_true, Bool.or_eq_true, Bool.and_eq_false_iff, Bool.or_eq_false_iff, Bool.not_true, Bool.not_false] at h1)
      have hi2 : i < h.length := by omega
      have haH := R1.1 (by omega)
      obtain ⟨x, hx1⟩ := at_ex (xs := h) (k := i) (by omega)
      have hbk := and_bit d i
      have hsh : 1 <<< i < 4096 := by (rw [Nat.shiftLeft_eq, Nat.one_mul]; exact Nat.pow_lt_pow_right (m := i) (n := 12) (by decide) (by omega))
      refine W.skip ?_
      refine Then.nx ?_
      refine W.seq ?_
      refine W.block ?_
      refine W.region rfl ?_
      refine WO.q (Y.move (v := .bool _) rfl) ?_
      refine WO.q (Y.move (v := .bool _) rfl) ?_
      refine WO.splitB (fun h2 => ?_) (fun h2 => ?_)
      · (try simp only [decide_eq_true_eq, decide_eq_false_iff_not, Bool.not_eq_true', Bool.not_eq_false', Bool.and_eq_true, Bool.or_eq_true, Bool.and_eq_false_iff, Bool.or_eq_false_iff, Bool.not_true, Bool.not_false] at h2)
        refine WO.qT rfl (Y.move (v := .int .i64 _) rfl) ?_
        refine WO.qT rfl (Y.move (v := .int .i64 _) rfl) ?_
        refine WO.qT rfl (Y.shlN (x := 1) (y := i) rfl rfl (by omega) (by omega)) ?_
        refine WO.qT rfl (Y.andN (x := d) (y := 1 <<< i) rfl rfl (by omega) (by omega)) ?_
        refine WO.qT rfl (Y.neq rfl rfl) ?_
        refine WO.qT rfl (Y.move (v := .bool _) rfl) ?_
        refine WO.splitB (fun h3 => ?_) (fun h3 => ?_)
        · (try simp only [decide_eq_true_eq, decide_eq_false_iff_not, Bool.not_eq_true', Bool.not_eq_false', Bool.and_eq_true, Bool.or_eq_true, Bool.and_eq_false_iff, Bool.or_eq_false_iff, Bool.not_true, Bool.not_false] at h3)
          refine WO.qF rfl ?_
          refine WO.qF rfl ?_
          refine WO.qF rfl ?_
          refine WO.qF rfl ?_
          refine WO.qF rfl ?_
          refine WO.qF rfl ?_
          refine WO.qF rfl ?_
          refine WO.qF rfl ?_
          refine WO.qF rfl ?_
          refine WO.qT rfl (Y.pickT (u := .bool _) rfl rfl) ?_
          refine WO.q (Y.pickT (u := .bool _) rfl rfl) ?_
          refine WO.q (Y.assign (v := .bool _) rfl) ?_
          refine WO.nil ?_
          refine InB.nx ?_
          refine Then.nx ?_
          refine W.region rfl ?_
          refine WO.q (Y.move (v := .int .i64 _) rfl) ?_
          first | refine WO.q (Y.addI rfl rfl (by omega)) ?_ | refine WO.q (Y.add rfl rfl) ?_
          refine WO.q (Y.assign (v := .int .i64 _) rfl) ?_
          refine WO.nil ?_
          refine Then.nx ⟨?_, ?_, ?_⟩
          · (repeat (first | exact Out.hav _ _ _ | exact Out.refl _ _ | refine Out.up rfl ?_ | refine Out.sub rfl ?_))
          · exact ⟨i + 1, rfl, by omega, by (show Value.bool _ = Value.bool _; congr 1; rw [overN_succ hx1]; first | (rw [show overN h d i = false by assumption]; rfl) | (have hb : bitN d i = 1 := (by omega); rw [show overN h d i = true by assumption]; simp only [hb, decide_true, Bool.true_or, Bool.and_true]) | (have hb : ¬ bitN d i = 1 := (by omega); rw [show overN h d i = true by assumption]; simp only [hb, decide_false, Bool.false_or, Bool.true_and])), S⟩
          · (show h.length - (i + 1) < h.length - i; omega)
        · (try simp only [decide_eq_true_eq, decide_eq_false_iff_not, Bool.not_eq_true', Bool.not_eq_false', Bool.and_eq_true, Bool.or_eq_true, Bool.and_eq_false_iff, Bool.or_eq_false_iff, Bool.not_true, Bool.not_false] at h3)
          first | refine WO.qT rfl (Y.move (v := .pointer (some _)) rfl) ?_ | refine WO.qT rfl (Y.move (v := .pointer _) rfl) ?_
          refine WO.qT rfl (Y.nilP rfl) ?_
          first | refine WO.qT rfl (Y.fieldB fo_100_1 rfl) ?_ | refine WO.qT rfl (Y.fieldE fo_100_1 rfl) ?_
          first | refine WO.qT rfl (Y.load rfl (loadS1 sz_22 S 0 rfl rfl)) ?_ | refine WO.qT rfl (Y.load rfl (loadS1 sz_22 S 1 rfl rfl)) ?_ | refine WO.qT rfl (Y.load rfl (loadS1 sz_22 S 2 rfl rfl)) ?_ | refine WO.qT rfl (Y.load rfl (loadS1 sz_22 S 3 rfl rfl)) ?_ | refine WO.qT rfl (Y.load rfl (loadRdF sz_22 (R1.ext S.ext) (by assumption) rfl)) ?_ | refine WO.qT rfl (Y.load rfl (loadRdF sz_22 (S.rd 3 rfl) (by assumption) rfl)) ?_ | refine WO.qT rfl (Y.load rfl (loadRdF sz_22 (S.rd 4 rfl) (by assumption) rfl)) ?_ | refine WO.qT rfl (Y.load rfl (loadRd1 sz_22 (R1.ext S.ext) (by assumption) rfl)) ?_ | refine WO.qT rfl (Y.load rfl (loadRd1 sz_22 (S.rd 3 rfl) (by assumption) rfl)) ?_ | refine WO.qT rfl (Y.load rfl (loadRd1 sz_22 (S.rd 4 rfl) (by assumption) rfl)) ?_
          refine WO.qT rfl (Y.move (v := .int .i64 _) rfl) ?_
          first | refine WO.qT rfl (Y.ixN sl_22 rfl rfl (by (first | assumption | rfl)) (by (first | assumption | omega))) ?_ | refine WO.qT rfl (Y.ix sl_22 rfl rfl (by (first | assumption | rfl)) (by (first | assumption | omega)) (by (first | assumption | omega))) ?_
          refine WO.qT rfl (Y.fieldE fo_58_6 rfl) ?_
          first | refine WO.qT rfl (Y.load rfl (loadRdF sz_3 (R1.ext S.ext) (by assumption) rfl)) ?_ | refine WO.qT rfl (Y.load rfl (loadRdF sz_3 (S.rd 3 rfl) (by assumption) rfl)) ?_ | refine WO.qT rfl (Y.load rfl (loadRdF sz_3 (S.rd 4 rfl) (by assumption) rfl)) ?_
          refine WO.qT rfl (Y.eql rfl rfl) ?_
          refine WO.qT rfl (Y.pickF (u := .bool _) rfl rfl) ?_
          refine WO.q (Y.pickT (u := .bool _) rfl rfl) ?_
          refine WO.q (Y.assign (v := .bool _) rfl) ?_
          refine WO.nil ?_
          refine InB.nx ?_
          refine Then.nx ?_
          refine W.region rfl ?_
          refine WO.q (Y.move (v := .int .i64 _) rfl) ?_
          first | refine WO.q (Y.addI rfl rfl (by omega)) ?_ | refine WO.q (Y.add rfl rfl) ?_
          refine WO.q (Y.assign (v := .int .i64 _) rfl) ?_
          refine WO.nil ?_
          refine Then.nx ⟨?_, ?_, ?_⟩
          · (repeat (first | exact Out.hav _ _ _ | exact Out.refl _ _ | refine Out.up rfl ?_ | refine Out.sub rfl ?_))
          · exact ⟨i + 1, rfl, by omega, by (show Value.bool _ = Value.bool _; congr 1; rw [overN_succ hx1]; first | (rw [show overN h d i = false by assumption]; rfl) | (have hb : bitN d i = 1 := (by omega); rw [show overN h d i = true by assumption]; simp only [hb, decide_true, Bool.true_or, Bool.and_true]) | (have hb : ¬ bitN d i = 1 := (by omega); rw [show overN h d i = true by assumption]; simp only [hb, decide_false, Bool.false_or, Bool.true_and])), S⟩
          · (show h.length - (i + 1) < h.length - i; omega)
      · (try simp only [decide_eq_true_eq, decide_eq_false_iff_not, Bool.not_eq_true', Bool.not_eq_false', Bool.and_eq_true, Bool.or_eq_true, Bool.and_eq_false_iff, Bool.or_eq_false_iff, Bool.not_true, Bool.not_false] at h2)
        refine WO.qF rfl ?_
        refine WO.qF rfl ?_
        refine WO.qF rfl ?_
        refine WO.qF rfl ?_
        refine WO.qF rfl ?_
        refine WO.qF rfl ?_
        refine WO.qF rfl ?_
        refine WO.qF rfl ?_
        refine WO.qF rfl ?_
        refine WO.qF rfl ?_
        refine WO.qF rfl ?_
        refine WO.qF rfl ?_
        refine WO.qF rfl ?_
        refine WO.qF rfl ?_
        refine WO.qF rfl ?_
        refine WO.qF rfl ?_
        refine WO.q (Y.pickF (u := .bool _) rfl rfl) ?_
        refine WO.q (Y.assign (v := .bool _) rfl) ?_
        refine WO.nil ?_
        refine InB.nx ?_
        refine Then.nx ?_
        refine W.region rfl ?_
        refine WO.q (Y.move (v := .int .i64 _) rfl) ?_
        first | refine WO.q (Y.addI rfl rfl (by omega)) ?_ | refine WO.q (Y.add rfl rfl) ?_
        refine WO.q (Y.assign (v := .int .i64 _) rfl) ?_
        refine WO.nil ?_
        refine Then.nx ⟨?_, ?_, ?_⟩
        · (repeat (first | exact Out.hav _ _ _ | exact Out.refl _ _ | refine Out.up rfl ?_ | refine Out.sub rfl ?_))
        · exact ⟨i + 1, rfl, by omega, by (show Value.bool _ = Value.bool _; congr 1; rw [overN_succ hx1]; first | (rw [show overN h d i = false by assumption]; rfl) | (have hb : bitN d i = 1 := (by omega); rw [show overN h d i = true by assumption]; simp only [hb, decide_true, Bool.true_or, Bool.and_true]) | (have hb : ¬ bitN d i = 1 := (by omega); rw [show overN h d i = true by assumption]; simp only [hb, decide_false, Bool.false_or, Bool.true_and])), S⟩
        · (show h.length - (i + 1) < h.length - i; omega)
    · have rh1 := h1
      (try simp only [decide_eq_true_eq, decide_eq_false_iff_not, Bool.not_eq_true', Bool.not_eq_false', Bool.and_eq_true, Bool.or_eq_true, Bool.and_eq_false_iff, Bool.or_eq_false_iff, Bool.not_true, Bool.not_false] at h1)
      refine W.exit ?_
      refine Then.x ?_
      refine Then.x ?_
      refine InB.e ?_
      refine Then.nx ?_
      refine W.seq ?_
      refine W.seq ?_
      have e1 : i = h.length := by omega
      subst e1
      rw [overN_all]
      refine W.region rfl ?_
      refine WO.q (Y.move (v := .bool _) rfl) ?_
      refine WO.nil ?_
      refine Then.nx ?_
      refine W.cond rfl (fun h4 => ?_) (fun h4 => ?_) -- cond 1
      · have rh4 := h4
        (try simp only [decide_eq_true_eq, decide_eq_false_iff_not, Bool.not_eq_true', Bool.not_eq_false', Bool.and_eq_true, Bool.or_eq_true, Bool.and_eq_false_iff, Bool.or_eq_false_iff, Bool.not_true, Bool.not_false] at h4)
        refine W.seq ?_
        refine W.region rfl ?_
        refine WO.q (Y.assign (v := .slice _ _ _) rfl) ?_
        refine WO.q (Y.assign (v := .bool _) rfl) ?_
        refine WO.nil ?_
        refine Then.nx ?_
        refine W.ret ?_
        refine Then.r ?_
        refine BodyQ.ret2 Tryd.results48 (ResV.tmp _ rfl) (ResV.tmp _ rfl) ?_
        first | (have e1 : refFrom k h (fuel + 1) d R bn = (some [], bn) := (by rw [refFrom, if_pos (by assumption)]); rw [e1]; exact ⟨none, 0, bn, ps, ab, cb, ac, cc, MX, rfl, rfl, hm, by omega, Nat.zero_le _, (S.tl).nilOwn tN 3⟩) | (have hpe : p = (d, R) := Prod.ext (by (show p.1 = d; omega)) (by assumption); have hin : (d, R) ∈ bn := (by rw [← hpe]; exact List.mem_of_getElem? hp); have e1 : refFrom k h (fuel + 1) d R bn = (none, bn) := (by rw [refFrom, if_neg (by (rw [show overB h d = false by assumption]; decide)), if_pos hin]); rw [e1]; exact ⟨none, 0, bn, ps, ab, cb, ac, cc, MX, rfl, rfl, hm, by omega, Nat.zero_le _, (S.tl).nilOwn tN 3⟩) | (have e1 : refFrom k h (fuel + 1) d R bn = (some (i :: l), bn3) := (by rw [hlf, drop_range hi2, refLoop_yes hx1 (by (intro hh; rcases hh with hh | hh; omega; rw [show lateB h d x = false by assumption] at hh; cases hh)) (by (intro hh; first | exact hh.1 (by assumption) | exact hh.2.elim (fun h => h (by assumption)) (fun h => h (eq_of_beq (by assumption))))) hsome, hbn3]); rw [e1]; rw [hsome] at S hll3; exact ⟨a144, c144, bn3, ps3, ab3, cb3, ac3, cc3, MX3, (by (rw [hsome]; rfl)), rfl, hm3, by omega, (by (simp only [Option.getD_some, List.length_cons] at hll3 ⊢; omega)), S.pk (.cons 0 rfl (.cons 2 rfl (.cons 2 rfl (.cons 2 rfl (.cons 2 rfl (.drop (.drop (.refl _))))))))⟩) | (have e1 : refFrom k h (fuel + 1) d R bn = (none, bn2 ++ [(d, R)]) := (by rw [hlf, hir]; rfl); rw [e1]; have e3 : (bn2.map Prod.fst ++ [d]).length = (bn2 ++ [(d, R)]).length := (by simp); have e2 : bn2.map Prod.fst ++ [d] = (bn2 ++ [(d, R)]).map Prod.fst := (by simp); replace S : Sat w0 w (X :: MX2 :: Cel bs [.int .i64 k, .slice ah h.length ch, .slice a152 (bn2.map Prod.fst ++ [d]).length c152, .slice a162 (ps2 ++ [((a, R.length, cap) : SlV)]).length c162] 100 :: Own tN 3 a152 c152 (bn2.map Prod.fst ++ [d]) :: Own tSl 54 a162 c162 (ps2 ++ [((a, R.length, cap) : SlV)]) :: L) := S; rw [e3, e2] at S; exact ⟨none, 0, bn2 ++ [(d, R)], ps2 ++ [((a, R.length, cap) : SlV)], a152, c152, a162, c162, Bun [X, MX2], rfl, rfl, hm2.snoc hX (by omega), (by (rw [List.length_append, List.length_singleton]; omega)), Nat.zero_le _, ((show Sat w0 w ([X, MX2] ++ _) from S).bun).nilOwn tN 3⟩)
      · have rh4 := h4
        (try simp only [decide_eq_true_eq, decide_eq_false_iff_not, Bool.not_eq_true', Bool.not_eq_false', Bool.and_eq_true, Bool.or_eq_true, Bool.and_eq_false_iff, Bool.or_eq_false_iff, Bool.not_true, Bool.not_false] at h4)
        refine W.skip ?_
        refine Then.nx ?_
        refine W.seq ?_
        refine W.seq ?_
        refine W.region rfl ?_
        refine WO.q (Y.assign (v := .int .i64 _) rfl) ?_
        refine WO.nil ?_
        refine Then.nx ?_
        refine W.block ?_
        -- loop 1 carries 10:i
        refine W.loop1 [6, 7, 10, 47, 48, 49, 50, 51, 52, 53, 54, 55, 56, 57, 58, 59, 60, 61, 62, 63, 64, 65, 66, 67, 68, 69, 70, 71, 72, 73, 74, 75] 10 (fun v10 w => ∃ j : Nat, v10 = .int .i64 (j : Int) ∧ j ≤ bn.length ∧ (∀ m, m < j → ¬ bn[m]? = some (d, R)) ∧ Sat w0 w (X :: MX :: Cel bs [.int .i64 k, .slice ah h.length ch, .slice ab bn.length cb, .slice ac ps.length cc] 100 :: Own tN 3 ab cb (bn.map Prod.fst) :: Own tSl 54 ac cc ps :: L)) (fun v10 w => bn.length - (intOf v10).toNat) ?_ ?_
        · exact ⟨0, rfl, Nat.zero_le _, fun m h => by omega, S⟩
        · rintro g1 v10 w ⟨j, rfl, hj, hnot, S⟩
          refine W.seq ?_
          refine W.seq ?_
          refine W.region rfl ?_
          refine WO.q (Y.move (v := .int .i64 _) rfl) ?_
          first | refine WO.q (Y.move (v := .pointer (some _)) rfl) ?_ | refine WO.q (Y.move (v := .pointer _) rfl) ?_
          refine WO.q (Y.nilP rfl) ?_
          first | refine WO.q (Y.fieldB fo_100_2 rfl) ?_ | refine WO.q (Y.fieldE fo_100_2 rfl) ?_
          first | refine WO.q (Y.load rfl (loadS1 sz_27 S 0 rfl rfl)) ?_ | refine WO.q (Y.load rfl (loadS1 sz_27 S 1 rfl rfl)) ?_ | refine WO.q (Y.load rfl (loadS1 sz_27 S 2 rfl rfl)) ?_ | refine WO.q (Y.load rfl (loadS1 sz_27 S 3 rfl rfl)) ?_ | refine WO.q (Y.load rfl (loadRdF sz_27 (R1.ext S.ext) (by assumption) rfl)) ?_ | refine WO.q (Y.load rfl (loadRdF sz_27 (S.rd 3 rfl) (by assumption) rfl)) ?_ | refine WO.q (Y.load rfl (loadRdF sz_27 (S.rd 4 rfl) (by assumption) rfl)) ?_ | refine WO.q (Y.load rfl (loadRd1 sz_27 (R1.ext S.ext) (by assumption) rfl)) ?_ | refine WO.q (Y.load rfl (loadRd1 sz_27 (S.rd 3 rfl) (by assumption) rfl)) ?_ | refine WO.q (Y.load rfl (loadRd1 sz_27 (S.rd 4 rfl) (by assumption) rfl)) ?_
          refine WO.q (Y.len (t' := 0) Tryd.underlying27 rfl) ?_
          refine WO.q (Y.lss rfl rfl) ?_
          refine WO.nil ?_
          refine Then.nx ?_
          refine W.cond rfl (fun h5 => ?_) (fun h5 => ?_) -- cond 2
          · have rh5 := h5
            (try simp only [decide_eq_true_eq, decide_eq_false_iff_not, Bool.not_eq_true', Bool.not_eq_false', Bool.and_eq_true, Bool.or_eq_true, Bool.and_eq_false_iff, Bool.or_eq_false_iff, Bool.not_true, Bool.not_false] at h5)
            have hpl := hm.1
            obtain ⟨p, hp⟩ := at_ex (xs := bn) (k := j) (by omega)
            obtain ⟨⟨qa, ql, qc⟩, hq⟩ := at_ex (xs := ps) (k := j) (by omega)
            obtain ⟨hql, hqr, hp4⟩ := hm.2 j p _ hp hq
            replace hql : ql = p.2.length := hql
            subst hql
            have hpm : (bn.map Prod.fst)[j]? = some p.1 := (by (rw [List.getElem?_map, hp]; rfl))
            have hab := (S.rd 3 rfl).1 (by (rw [List.length_map]; omega))
            have hac := (S.rd 4 rfl).1 (by omega)
            refine W.skip ?_
            refine Then.nx ?_
            refine W.seq ?_
            refine W.block ?_
            refine W.seq ?_
            refine W.region rfl ?_
            first | refine WO.q (Y.move (v := .pointer (some _)) rfl) ?_ | refine WO.q (Y.move (v := .pointer _) rfl) ?_
            refine WO.q (Y.nilP rfl) ?_
            first | refine WO.q (Y.fieldB fo_100_2 rfl) ?_ | refine WO.q (Y.fieldE fo_100_2 rfl) ?_
            first | refine WO.q (Y.load rfl (loadS1 sz_27 S 0 rfl rfl)) ?_ | refine WO.q (Y.load rfl (loadS1 sz_27 S 1 rfl rfl)) ?_ | refine WO.q (Y.load rfl (loadS1 sz_27 S 2 rfl rfl)) ?_ | refine WO.q (Y.load rfl (loadS1 sz_27 S 3 rfl rfl)) ?_ | refine WO.q (Y.load rfl (loadRdF sz_27 (R1.ext S.ext) (by assumption) rfl)) ?_ | refine WO.q (Y.load rfl (loadRdF sz_27 (S.rd 3 rfl) (by assumption) rfl)) ?_ | refine WO.q (Y.load rfl (loadRdF sz_27 (S.rd 4 rfl) (by assumption) rfl)) ?_ | refine WO.q (Y.load rfl (loadRd1 sz_27 (R1.ext S.ext) (by assumption) rfl)) ?_ | refine WO.q (Y.load rfl (loadRd1 sz_27 (S.rd 3 rfl) (by assumption) rfl)) ?_ | refine WO.q (Y.load rfl (loadRd1 sz_27 (S.rd 4 rfl) (by assumption) rfl)) ?_
            refine WO.q (Y.move (v := .int .i64 _) rfl) ?_
            first | refine WO.q (Y.ixN sl_27 rfl rfl (by (first | assumption | rfl)) (by (first | assumption | omega))) ?_ | refine WO.q (Y.ix sl_27 rfl rfl (by (first | assumption | rfl)) (by (first | assumption | omega)) (by (first | assumption | omega))) ?_
            first | refine WO.q (Y.load rfl (loadRd1 sz_3 (R1.ext S.ext) (by assumption) rfl)) ?_ | refine WO.q (Y.load rfl (loadRd1 sz_3 (S.rd 3 rfl) (by assumption) rfl)) ?_ | refine WO.q (Y.load rfl (loadRd1 sz_3 (S.rd 4 rfl) (by assumption) rfl)) ?_
            refine WO.q (Y.move (v := .int .i64 _) rfl) ?_
            refine WO.q (Y.eql rfl rfl) ?_
            refine WO.q (Y.move (v := .bool _) rfl) ?_
            refine WO.splitB (fun h6 => ?_) (fun h6 => ?_)
            · (try simp only [decide_eq_true_eq, decide_eq_false_iff_not, Bool.not_eq_true', Bool.not_eq_false', Bool.and_eq_true, Bool.or_eq_true, Bool.and_eq_false_iff, Bool.or_eq_false_iff, Bool.not_true, Bool.not_false] at h6)
              first | refine WO.qT rfl (Y.move (v := .pointer (some _)) rfl) ?_ | refine WO.qT rfl (Y.move (v := .pointer _) rfl) ?_
              refine WO.qT rfl (Y.nilP rfl) ?_
              first | refine WO.qT rfl (Y.fieldB fo_100_3 rfl) ?_ | refine WO.qT rfl (Y.fieldE fo_100_3 rfl) ?_
              first | refine WO.qT rfl (Y.load rfl (loadS1 sz_37 S 0 rfl rfl)) ?_ | refine WO.qT rfl (Y.load rfl (loadS1 sz_37 S 1 rfl rfl)) ?_ | refine WO.qT rfl (Y.load rfl (loadS1 sz_37 S 2 rfl rfl)) ?_ | refine WO.qT rfl (Y.load rfl (loadS1 sz_37 S 3 rfl rfl)) ?_ | refine WO.qT rfl (Y.load rfl (loadRdF sz_37 (R1.ext S.ext) (by assumption) rfl)) ?_ | refine WO.qT rfl (Y.load rfl (loadRdF sz_37 (S.rd 3 rfl) (by assumption) rfl)) ?_ | refine WO.qT rfl (Y.load rfl (loadRdF sz_37 (S.rd 4 rfl) (by assumption) rfl)) ?_ | refine WO.qT rfl (Y.load rfl (loadRd1 sz_37 (R1.ext S.ext) (by assumption) rfl)) ?_ | refine WO.qT rfl (Y.load rfl (loadRd1 sz_37 (S.rd 3 rfl) (by assumption) rfl)) ?_ | refine WO.qT rfl (Y.load rfl (loadRd1 sz_37 (S.rd 4 rfl) (by assumption) rfl)) ?_
              refine WO.qT rfl (Y.move (v := .int .i64 _) rfl) ?_
              first | refine WO.qT rfl (Y.ixN sl_37 rfl rfl (by (first | assumption | rfl)) (by (first | assumption | omega))) ?_ | refine WO.qT rfl (Y.ix sl_37 rfl rfl (by (first | assumption | rfl)) (by (first | assumption | omega)) (by (first | assumption | omega))) ?_
              refine WO.qT rfl (Y.load rfl (loadRd1 (c := .slice qa p.2.length qc) sz_54 (S.rd 4 rfl) hq rfl)) ?_
              refine WO.qT rfl (Y.move (v := .slice _ _ _) rfl) ?_
              refine WO.eT rfl (O.call cf_76 rfl (same_spec _ _ _ _ _ p.2 R (S.reads 1 rfl hqr) (S.reads 0 rfl hX) (by omega)) ?_)
              rintro _ w ⟨rfl, E⟩
              replace S := S.keep E
              refine ⟨_, rfl, ?_⟩
              refine WO.q (Y.pickT (u := .bool _) rfl rfl) ?_
              refine WO.nil ?_
              refine Then.nx ?_
              refine W.cond rfl (fun h7 => ?_) (fun h7 => ?_) -- cond 3
              · have rh7 := h7
                (try simp only [decide_eq_true_eq, decide_eq_false_iff_not, Bool.not_eq_true', Bool.not_eq_false', Bool.and_eq_true, Bool.or_eq_true, Bool.and_eq_false_iff, Bool.or_eq_false_iff, Bool.not_true, Bool.not_false] at h7)
                refine W.seq ?_
                refine W.region rfl ?_
                refine WO.q (Y.assign (v := .slice _ _ _) rfl) ?_
                refine WO.q (Y.assign (v := .bool _) rfl) ?_
                refine WO.nil ?_
                refine Then.nx ?_
                refine W.ret ?_
                refine InB.r ?_
                refine Then.r ?_
                refine Then.r ?_
                refine InB.r ?_
                refine Then.r ?_
                refine BodyQ.ret2 Tryd.results48 (ResV.tmp _ rfl) (ResV.tmp _ rfl) ?_
                first | (have e1 : refFrom k h (fuel + 1) d R bn = (some [], bn) := (by rw [refFrom, if_pos (by assumption)]); rw [e1]; exact ⟨none, 0, bn, ps, ab, cb, ac, cc, MX, rfl, rfl, hm, by omega, Nat.zero_le _, (S.tl).nilOwn tN 3⟩) | (have hpe : p = (d, R) := Prod.ext (by (show p.1 = d; omega)) (by assumption); have hin : (d, R) ∈ bn := (by rw [← hpe]; exact List.mem_of_getElem? hp); have e1 : refFrom k h (fuel + 1) d R bn = (none, bn) := (by rw [refFrom, if_neg (by (rw [show overB h d = false by assumption]; decide)), if_pos hin]); rw [e1]; exact ⟨none, 0, bn, ps, ab, cb, ac, cc, MX, rfl, rfl, hm, by omega, Nat.zero_le _, (S.tl).nilOwn tN 3⟩) | (have e1 : refFrom k h (fuel + 1) d R bn = (some (i :: l), bn3) := (by rw [hlf, drop_range hi2, refLoop_yes hx1 (by (intro hh; rcases hh with hh | hh; omega; rw [show lateB h d x = false by assumption] at hh; cases hh)) (by (intro hh; first | exact hh.1 (by assumption) | exact hh.2.elim (fun h => h (by assumption)) (fun h => h (eq_of_beq (by assumption))))) hsome, hbn3]); rw [e1]; rw [hsome] at S hll3; exact ⟨a144, c144, bn3, ps3, ab3, cb3, ac3, cc3, MX3, (by (rw [hsome]; rfl)), rfl, hm3, by omega, (by (simp only [Option.getD_some, List.length_cons] at hll3 ⊢; omega)), S.pk (.cons 0 rfl (.cons 2 rfl (.cons 2 rfl (.cons 2 rfl (.cons 2 rfl (.drop (.drop (.refl _))))))))⟩) | (have e1 : refFrom k h (fuel + 1) d R bn = (none, bn2 ++ [(d, R)]) := (by rw [hlf, hir]; rfl); rw [e1]; have e3 : (bn2.map Prod.fst ++ [d]).length = (bn2 ++ [(d, R)]).length := (by simp); have e2 : bn2.map Prod.fst ++ [d] = (bn2 ++ [(d, R)]).map Prod.fst := (by simp); replace S : Sat w0 w (X :: MX2 :: Cel bs [.int .i64 k, .slice ah h.length ch, .slice a152 (bn2.map Prod.fst ++ [d]).length c152, .slice a162 (ps2 ++ [((a, R.length, cap) : SlV)]).length c162] 100 :: Own tN 3 a152 c152 (bn2.map Prod.fst ++ [d]) :: Own tSl 54 a162 c162 (ps2 ++ [((a, R.length, cap) : SlV)]) :: L) := S; rw [e3, e2] at S; exact ⟨none, 0, bn2 ++ [(d, R)], ps2 ++ [((a, R.length, cap) : SlV)], a152, c152, a162, c162, Bun [X, MX2], rfl, rfl, hm2.snoc hX (by omega), (by (rw [List.length_append, List.length_singleton]; omega)), Nat.zero_le _, ((show Sat w0 w ([X, MX2] ++ _) from S).bun).nilOwn tN 3⟩)
              · have rh7 := h7
                (try simp only [decide_eq_true_eq, decide_eq_false_iff_not, Bool.not_eq_true', Bool.not_eq_false', Bool.and_eq_true, Bool.or_eq_true, Bool.and_eq_false_iff, Bool.or_eq_false_iff, Bool.not_true, Bool.not_false] at h7)
                refine W.skip ?_
                refine InB.nx ?_
                refine Then.nx ?_
                refine W.region rfl ?_
                refine WO.q (Y.move (v := .int .i64 _) rfl) ?_
                first | refine WO.q (Y.addI rfl rfl (by omega)) ?_ | refine WO.q (Y.add rfl rfl) ?_
                refine WO.q (Y.assign (v := .int .i64 _) rfl) ?_
                refine WO.nil ?_
                refine Then.nx ⟨?_, ?_, ?_⟩
                · (repeat (first | exact Out.hav _ _ _ | exact Out.refl _ _ | refine Out.up rfl ?_ | refine Out.sub rfl ?_))
                · exact ⟨j + 1, rfl, by omega, fun m h => by (rcases Nat.lt_succ_iff_lt_or_eq.1 h with h | rfl; exact hnot m h; rw [hp]; intro e; cases e; first | omega | contradiction), S⟩
                · (show bn.length - (j + 1) < bn.length - j; omega)
            · (try simp only [decide_eq_true_eq, decide_eq_false_iff_not, Bool.not_eq_true', Bool.not_eq_false', Bool.and_eq_true, Bool.or_eq_true, Bool.and_eq_false_iff, Bool.or_eq_false_iff, Bool.not_true, Bool.not_false] at h6)
              refine WO.qF rfl ?_
              refine WO.qF rfl ?_
              refine WO.qF rfl ?_
              refine WO.qF rfl ?_
              refine WO.qF rfl ?_
              refine WO.qF rfl ?_
              refine WO.qF rfl ?_
              refine WO.qF rfl ?_
              refine WO.qF rfl ?_
              refine WO.q (Y.pickF (u := .bool _) rfl rfl) ?_
              refine WO.nil ?_
              refine Then.nx ?_
              first | refine W.condF rfl ?_ | refine W.condF (congrArg Value.bool (by assumption)) ?_
              refine W.skip ?_
              refine InB.nx ?_
              refine Then.nx ?_
              refine W.region rfl ?_
              refine WO.q (Y.move (v := .int .i64 _) rfl) ?_
              first | refine WO.q (Y.addI rfl rfl (by omega)) ?_ | refine WO.q (Y.add rfl rfl) ?_
              refine WO.q (Y.assign (v := .int .i64 _) rfl) ?_
              refine WO.nil ?_
              refine Then.nx ⟨?_, ?_, ?_⟩
              · (repeat (first | exact Out.hav _ _ _ | exact Out.refl _ _ | refine Out.up rfl ?_ | refine Out.sub rfl ?_))
              · exact ⟨j + 1, rfl, by omega, fun m h => by (rcases Nat.lt_succ_iff_lt_or_eq.1 h with h | rfl; exact hnot m h; rw [hp]; intro e; cases e; first | omega | contradiction), S⟩
              · (show bn.length - (j + 1) < bn.length - j; omega)
          · have rh5 := h5
            (try simp only [decide_eq_true_eq, decide_eq_false_iff_not, Bool.not_eq_true', Bool.not_eq_false', Bool.and_eq_true, Bool.or_eq_true, Bool.and_eq_false_iff, Bool.or_eq_false_iff, Bool.not_true, Bool.not_false] at h5)
            refine W.exit ?_
            refine Then.x ?_
            refine Then.x ?_
            refine InB.e ?_
            refine Then.nx ?_
            refine W.seq ?_
            refine W.seq ?_
            have hov : ¬ overB h d = true := (by (rw [show overB h d = false by assumption]; decide))
            have hin : ¬ (d, R) ∈ bn := fun hh => (by (obtain ⟨m, hm1⟩ := List.getElem?_of_mem hh; exact hnot m (by (have := at_lt hm1; omega)) hm1))
            have hst : refFrom k h (fuel + 1) d R bn = refLoop (refFrom k h fuel) k h d R (List.range h.length) bn := by (rw [refFrom, if_neg (by assumption), if_neg hin])
            have hup := over_undone (h := h) (d := d) (by assumption)
            have hWa := callsW_all hup
            refine W.region rfl ?_
            refine WO.q (Y.assign (v := .int .i64 _) rfl) ?_
            refine WO.nil ?_
            refine Then.nx ?_
            refine W.block ?_
            -- loop 2 carries 11:i
            refine W.loop1 [6, 7, 11, 12, 13, 14, 15, 16, 17, 76, 77, 78, 79, 80, 81, 82, 83, 84, 85, 86, 87, 88, 89, 90, 91, 92, 93, 94, 95, 96, 97, 98, 99, 100, 101, 102, 103, 104, 105, 106, 107, 108, 109, 110, 111, 112, 113, 114, 115, 116, 117, 118, 119, 120, 121, 122, 123, 124, 125, 126, 127, 128, 129, 130, 131, 132, 133, 134, 135, 136, 137, 138, 139, 140, 141, 142, 143, 144] 11 (fun v11 w => ∃ (i : Nat) (bn2 : Been) (ps2 : List SlV) (ab2 : Option Addr) (cb2 : Nat) (ac2 : Option Addr) (cc2 : Nat) (MX2 : HA), v11 = .int .i64 (i : Int) ∧ i ≤ h.length ∧ refFrom k h (fuel + 1) d R bn = refLoop (refFrom k h fuel) k h d R ((List.range h.length).drop i) bn2 ∧ Memo bn2 ps2 MX2 ∧ bn2.length ≤ bn.length + cntW d i (callsW (undone h.length d - 1)) ∧ Sat w0 w (X :: MX2 :: Cel bs [.int .i64 k, .slice ah h.length ch, .slice ab2 bn2.length cb2, .slice ac2 ps2.length cc2] 100 :: Own tN 3 ab2 cb2 (bn2.map Prod.fst) :: Own tSl 54 ac2 cc2 ps2 :: L)) (fun v11 w => h.length - (intOf v11).toNat) ?_ ?_
            · exact ⟨0, bn, ps, ab, cb, ac, cc, MX, rfl, Nat.zero_le _, hst, hm, (by (rw [cntW_zero]; exact Nat.le_refl _)), S⟩
            · rintro g2 v11 w ⟨i, bn2, ps2, ab2, cb2, ac2, cc2, MX2, rfl, hi, hlf, hm2, hbc, S⟩
              refine W.seq ?_
              refine W.seq ?_
              refine W.region rfl ?_
              refine WO.q (Y.move (v := .int .i64 _) rfl) ?_
              first | refine WO.q (Y.move (v := .pointer (some _)) rfl) ?_ | refine WO.q (Y.move (v := .pointer _) rfl) ?_
              refine WO.q (Y.nilP rfl) ?_
              first | refine WO.q (Y.fieldB fo_100_1 rfl) ?_ | refine WO.q (Y.fieldE fo_100_1 rfl) ?_
              first | refine WO.q (Y.load rfl (loadS1 sz_22 S 0 rfl rfl)) ?_ | refine WO.q (Y.load rfl (loadS1 sz_22 S 1 rfl rfl)) ?_ | refine WO.q (Y.load rfl (loadS1 sz_22 S 2 rfl rfl)) ?_ | refine WO.q (Y.load rfl (loadS1 sz_22 S 3 rfl rfl)) ?_ | refine WO.q (Y.load rfl (loadRdF sz_22 (R1.ext S.ext) (by assumption) rfl)) ?_ | refine WO.q (Y.load rfl (loadRdF sz_22 (S.rd 3 rfl) (by assumption) rfl)) ?_ | refine WO.q (Y.load rfl (loadRdF sz_22 (S.rd 4 rfl) (by assumption) rfl)) ?_ | refine WO.q (Y.load rfl (loadRd1 sz_22 (R1.ext S.ext) (by assumption) rfl)) ?_ | refine WO.q (Y.load rfl (loadRd1 sz_22 (S.rd 3 rfl) (by assumption) rfl)) ?_ | refine WO.q (Y.load rfl (loadRd1 sz_22 (S.rd 4 rfl) (by assumption) rfl)) ?_
              refine WO.q (Y.len (t' := 0) Tryd.underlying22 rfl) ?_
              refine WO.q (Y.lss rfl rfl) ?_
              refine WO.nil ?_
              refine Then.nx ?_
              refine W.cond rfl (fun h8 => ?_) (fun h8 => ?_) -- cond 4
              · have rh8 := h8
                (try simp only [decide_eq_true_eq, decide_eq_false_iff_not, Bool.not_eq_true', Bool.not_eq_false', Bool.and_eq_true, Bool.or_eq_true, Bool.and_eq_false_iff, Bool.or_eq_false_iff, Bool.not_true, Bool.not_false] at h8)
                have hi2 : i < h.length := by omega
                have haH := R1.1 (by omega)
                obtain ⟨x, hx1⟩ := at_ex (xs := h) (k := i) (by omega)
                have hbk := and_bit d i
                have hsh : 1 <<< i < 4096 := by (rw [Nat.shiftLeft_eq, Nat.one_mul]; exact Nat.pow_lt_pow_right (m := i) (n := 12) (by decide) (by omega))
                refine W.skip ?_
                refine Then.nx ?_
                refine W.seq ?_
                refine W.block ?_
                refine W.seq ?_
                refine W.seq ?_
                refine W.region rfl ?_
                refine WO.q (Y.move (v := .int .i64 _) rfl) ?_
                refine WO.q (Y.move (v := .int .i64 _) rfl) ?_
                refine WO.q (Y.shlN (x := 1) (y := i) rfl rfl (by omega) (by omega)) ?_
                refine WO.q (Y.andN (x := d) (y := 1 <<< i) rfl rfl (by omega) (by omega)) ?_
                refine WO.q (Y.neq rfl rfl) ?_
                refine WO.q (Y.move (v := .bool _) rfl) ?_
                refine WO.splitB (fun h9 => ?_) (fun h9 => ?_)
                · (try simp only [decide_eq_true_eq, decide_eq_false_iff_not, Bool.not_eq_true', Bool.not_eq_false', Bool.and_eq_true, Bool.or_eq_true, Bool.and_eq_false_iff, Bool.or_eq_false_iff, Bool.not_true, Bool.not_false] at h9)
                  refine WO.qF rfl ?_
                  refine WO.qF rfl ?_
                  refine WO.qF rfl ?_
                  refine WO.qF rfl ?_
                  refine WO.qF rfl ?_
                  refine WO.q (Y.pickT (u := .bool _) rfl rfl) ?_
                  refine WO.nil ?_
                  refine Then.nx ?_
                  first | refine W.condT rfl ?_ | refine W.condT (congrArg Value.bool (by assumption)) ?_
                  refine W.exit ?_
                  refine Then.x ?_
                  refine InB.e ?_
                  refine Then.nx ?_
                  refine W.region rfl ?_
                  refine WO.q (Y.move (v := .int .i64 _) rfl) ?_
                  first | refine WO.q (Y.addI rfl rfl (by omega)) ?_ | refine WO.q (Y.add rfl rfl) ?_
                  refine WO.q (Y.assign (v := .int .i64 _) rfl) ?_
                  refine WO.nil ?_
                  refine Then.nx ⟨?_, ?_, ?_⟩
                  · (repeat (first | exact Out.hav _ _ _ | exact Out.refl _ _ | refine Out.up rfl ?_ | refine Out.sub rfl ?_))
                  · first | (exact ⟨i + 1, bn2, ps2, ab2, cb2, ac2, cc2, MX2, rfl, by omega, (by rw [hlf, drop_range hi2, refLoop_skip hx1 (.inl (by omega))]), hm2, (by (have hcw := cntW_mono d (callsW (undone h.length d - 1)) (show i ≤ i + 1 by omega); omega)), S.pk (.refl _)⟩) | (exact ⟨i + 1, bn2, ps2, ab2, cb2, ac2, cc2, MX2, rfl, by omega, (by rw [hlf, drop_range hi2, refLoop_skip hx1 (.inr (by assumption))]), hm2, (by (have hcw := cntW_mono d (callsW (undone h.length d - 1)) (show i ≤ i + 1 by omega); omega)), S.pk (.refl _)⟩) | (exact ⟨i + 1, bn2, ps2, ab2, cb2, ac2, cc2, MX2, rfl, by omega, (by rw [hlf, drop_range hi2, refLoop_ne hx1 (by (intro hh; rcases hh with hh | hh; omega; rw [show lateB h d x = false by assumption] at hh; cases hh)) (by first | exact ⟨by assumption, .inl (by assumption)⟩ | exact ⟨by assumption, .inr (ne_of_beq_false (by assumption))⟩)]), hm2, (by (have hcw := cntW_mono d (callsW (undone h.length d - 1)) (show i ≤ i + 1 by omega); omega)), S.pk (.drop (.drop (.refl _)))⟩) | (exact ⟨i + 1, bn3, ps3, ab3, cb3, ac3, cc3, MX3, rfl, by omega, (by rw [hlf, drop_range hi2, refLoop_no hx1 (by (intro hh; rcases hh with hh | hh; omega; rw [show lateB h d x = false by assumption] at hh; cases hh)) (by (intro hh; first | exact hh.1 (by assumption) | exact hh.2.elim (fun h => h (by assumption)) (fun h => h (eq_of_beq (by assumption))))) hnone, hbn3]), hm3, by omega, S.tl⟩)
                  · (show h.length - (i + 1) < h.length - i; omega)
                · (try simp only [decide_eq_true_eq, decide_eq_false_iff_not, Bool.not_eq_true', Bool.not_eq_false', Bool.and_eq_true, Bool.or_eq_true, Bool.and_eq_false_iff, Bool.or_eq_false_iff, Bool.not_true, Bool.not_false] at h9)
                  first | refine WO.qT rfl (Y.move (v := .pointer (some _)) rfl) ?_ | refine WO.qT rfl (Y.move (v := .pointer _) rfl) ?_
                  refine WO.qT rfl (Y.move (v := .int .i64 _) rfl) ?_
                  refine WO.qT rfl (Y.move (v := .int .i64 _) rfl) ?_
                  refine WO.eT rfl (O.call cf_77 rfl (free_spec w0 _ bs k h ah ch _ _ R1 hl d i x hx1 hd _ (S.pk (.cons 2 rfl (.refl _)))) ?_)
                  rintro _ w ⟨rfl, S⟩
                  replace S := S.pk (.cons 1 rfl (.cons 1 rfl (.cons 0 rfl (.refl _))))
                  refine ⟨_, rfl, ?_⟩
                  refine WO.qT rfl (Y.not rfl) ?_
                  refine WO.q (Y.pickF (u := .bool _) rfl rfl) ?_
                  refine WO.nil ?_
                  refine Then.nx ?_
                  refine W.cond rfl (fun h10 => ?_) (fun h10 => ?_) -- cond 5
                  · have rh10 := h10
                    (try simp only [decide_eq_true_eq, decide_eq_false_iff_not, Bool.not_eq_true', Bool.not_eq_false', Bool.and_eq_true, Bool.or_eq_true, Bool.and_eq_false_iff, Bool.or_eq_false_iff, Bool.not_true, Bool.not_false] at h10)
                    refine W.exit ?_
                    refine Then.x ?_
                    refine InB.e ?_
                    refine Then.nx ?_
                    refine W.region rfl ?_
                    refine WO.q (Y.move (v := .int .i64 _) rfl) ?_
                    first | refine WO.q (Y.addI rfl rfl (by omega)) ?_ | refine WO.q (Y.add rfl rfl) ?_
                    refine WO.q (Y.assign (v := .int .i64 _) rfl) ?_
                    refine WO.nil ?_
                    refine Then.nx ⟨?_, ?_, ?_⟩
                    · (repeat (first | exact Out.hav _ _ _ | exact Out.refl _ _ | refine Out.up rfl ?_ | refine Out.sub rfl ?_))
                    · first | (exact ⟨i + 1, bn2, ps2, ab2, cb2, ac2, cc2, MX2, rfl, by omega, (by rw [hlf, drop_range hi2, refLoop_skip hx1 (.inl (by omega))]), hm2, (by (have hcw := cntW_mono d (callsW (undone h.length d - 1)) (show i ≤ i + 1 by omega); omega)), S.pk (.refl _)⟩) | (exact ⟨i + 1, bn2, ps2, ab2, cb2, ac2, cc2, MX2, rfl, by omega, (by rw [hlf, drop_range hi2, refLoop_skip hx1 (.inr (by assumption))]), hm2, (by (have hcw := cntW_mono d (callsW (undone h.length d - 1)) (show i ≤ i + 1 by omega); omega)), S.pk (.refl _)⟩) | (exact ⟨i + 1, bn2, ps2, ab2, cb2, ac2, cc2, MX2, rfl, by omega, (by rw [hlf, drop_range hi2, refLoop_ne hx1 (by (intro hh; rcases hh with hh | hh; omega; rw [show lateB h d x = false by assumption] at hh; cases hh)) (by first | exact ⟨by assumption, .inl (by assumption)⟩ | exact ⟨by assumption, .inr (ne_of_beq_false (by assumption))⟩)]), hm2, (by (have hcw := cntW_mono d (callsW (undone h.length d - 1)) (show i ≤ i + 1 by omega); omega)), S.pk (.drop (.drop (.refl _)))⟩) | (exact ⟨i + 1, bn3, ps3, ab3, cb3, ac3, cc3, MX3, rfl, by omega, (by rw [hlf, drop_range hi2, refLoop_no hx1 (by (intro hh; rcases hh with hh | hh; omega; rw [show lateB h d x = false by assumption] at hh; cases hh)) (by (intro hh; first | exact hh.1 (by assumption) | exact hh.2.elim (fun h => h (by assumption)) (fun h => h (eq_of_beq (by assumption))))) hnone, hbn3]), hm3, by omega, S.tl⟩)
                    · (show h.length - (i + 1) < h.length - i; omega)
                  · have rh10 := h10
                    (try simp only [decide_eq_true_eq, decide_eq_false_iff_not, Bool.not_eq_true', Bool.not_eq_false', Bool.and_eq_true, Bool.or_eq_true, Bool.and_eq_false_iff, Bool.or_eq_false_iff, Bool.not_true, Bool.not_false] at h10)
                    have hbit : ¬ bitN d i = 1 := by omega
                    refine W.skip ?_
                    refine Then.nx ?_
                    refine W.seq ?_
                    refine W.region rfl ?_
                    first | refine WO.q (Y.move (v := .pointer (some _)) rfl) ?_ | refine WO.q (Y.move (v := .pointer _) rfl) ?_
                    refine WO.q (Y.nilP rfl) ?_
                    first | refine WO.q (Y.fieldB fo_100_1 rfl) ?_ | refine WO.q (Y.fieldE fo_100_1 rfl) ?_
                    first | refine WO.q (Y.load rfl (loadS1 sz_22 S 0 rfl rfl)) ?_ | refine WO.q (Y.load rfl (loadS1 sz_22 S 1 rfl rfl)) ?_ | refine WO.q (Y.load rfl (loadS1 sz_22 S 2 rfl rfl)) ?_ | refine WO.q (Y.load rfl (loadS1 sz_22 S 3 rfl rfl)) ?_ | refine WO.q (Y.load rfl (loadRdF sz_22 (R1.ext S.ext) (by assumption) rfl)) ?_ | refine WO.q (Y.load rfl (loadRdF sz_22 (S.rd 3 rfl) (by assumption) rfl)) ?_ | refine WO.q (Y.load rfl (loadRdF sz_22 (S.rd 4 rfl) (by assumption) rfl)) ?_ | refine WO.q (Y.load rfl (loadRd1 sz_22 (R1.ext S.ext) (by assumption) rfl)) ?_ | refine WO.q (Y.load rfl (loadRd1 sz_22 (S.rd 3 rfl) (by assumption) rfl)) ?_ | refine WO.q (Y.load rfl (loadRd1 sz_22 (S.rd 4 rfl) (by assumption) rfl)) ?_
                    refine WO.q (Y.move (v := .int .i64 _) rfl) ?_
                    first | refine WO.q (Y.ixN sl_22 rfl rfl (by (first | assumption | rfl)) (by (first | assumption | omega))) ?_ | refine WO.q (Y.ix sl_22 rfl rfl (by (first | assumption | rfl)) (by (first | assumption | omega)) (by (first | assumption | omega))) ?_
                    first | refine WO.q (Y.load rfl (loadRdN sz_58 (R1.ext S.ext) (by assumption))) ?_ | refine WO.q (Y.load rfl (loadRdN sz_58 (S.rd 3 rfl) (by assumption))) ?_ | refine WO.q (Y.load rfl (loadRdN sz_58 (S.rd 4 rfl) (by assumption))) ?_
                    refine WO.e (O.alloc z_58 S (fun b12 w S => ?_))
                    first | refine WO.e0 (O.store (v := .agg _) 0 S rfl rfl rfl sz_58 rfl rfl rfl rfl (fun w S => ?_)) | refine WO.e0 (O.store (v := .agg _) 1 S rfl rfl rfl sz_58 rfl rfl rfl rfl (fun w S => ?_)) | refine WO.e0 (O.store (v := .agg _) 2 S rfl rfl rfl sz_58 rfl rfl rfl rfl (fun w S => ?_)) | refine WO.e0 (O.store (v := .agg _) 3 S rfl rfl rfl sz_58 rfl rfl rfl rfl (fun w S => ?_))
                    refine WO.nil ?_
                    refine Then.nx ?_
                    refine W.seq ?_
                    refine W.draw (.q 0 (.q 1 (.q 2 (.q 3 (.q 4 (.q 5 (.e 6 (.q 7 (.q 8 (.q 9 (.q 10 (.q 11 (.q 12 (.q 13 .nil)))))))))))))) (fun w => Sat _ w _) rfl rfl (by kernel_rfl) rfl (by kernel_rfl) (by repeat (first | exact BodyQ.noFrame | refine Then.noFrame ?_ | refine InB.noFrame ?_)) S.drew ?_
                    clear S
                    first | refine Plan.q rfl (fun w S => Y.move (v := .pointer (some _)) rfl) ?_ | refine Plan.q rfl (fun w S => Y.move (v := .pointer _) rfl) ?_
                    refine Plan.q rfl (fun w S => Y.nilP rfl) ?_
                    first | refine Plan.q rfl (fun w S => Y.fieldB fo_100_0 rfl) ?_ | refine Plan.q rfl (fun w S => Y.fieldE fo_100_0 rfl) ?_
                    first | refine Plan.q rfl (fun w S => Y.load rfl (loadS1 sz_3 S 0 rfl rfl)) ?_ | refine Plan.q rfl (fun w S => Y.load rfl (loadS1 sz_3 S 1 rfl rfl)) ?_ | refine Plan.q rfl (fun w S => Y.load rfl (loadS1 sz_3 S 2 rfl rfl)) ?_ | refine Plan.q rfl (fun w S => Y.load rfl (loadS1 sz_3 S 3 rfl rfl)) ?_ | refine Plan.q rfl (fun w S => Y.load rfl (loadRdF sz_3 (R1.ext S.ext) (by assumption) rfl)) ?_ | refine Plan.q rfl (fun w S => Y.load rfl (loadRdF sz_3 (S.rd 3 rfl) (by assumption) rfl)) ?_ | refine Plan.q rfl (fun w S => Y.load rfl (loadRdF sz_3 (S.rd 4 rfl) (by assumption) rfl)) ?_ | refine Plan.q rfl (fun w S => Y.load rfl (loadRd1 sz_3 (R1.ext S.ext) (by assumption) rfl)) ?_ | refine Plan.q rfl (fun w S => Y.load rfl (loadRd1 sz_3 (S.rd 3 rfl) (by assumption) rfl)) ?_ | refine Plan.q rfl (fun w S => Y.load rfl (loadRd1 sz_3 (S.rd 4 rfl) (by assumption) rfl)) ?_
                    refine Plan.q rfl (fun w S => Y.move (v := .slice _ _ _) rfl) ?_
                    first | refine Plan.q rfl (fun w S => Y.load rfl (loadSN sz_58 S 0 rfl rfl rfl)) ?_ | refine Plan.q rfl (fun w S => Y.load rfl (loadSN sz_58 S 1 rfl rfl rfl)) ?_ | refine Plan.q rfl (fun w S => Y.load rfl (loadSN sz_58 S 2 rfl rfl rfl)) ?_ | refine Plan.q rfl (fun w S => Y.load rfl (loadSN sz_58 S 3 rfl rfl rfl)) ?_
                    refine Plan.e1 rfl (fun w S => O.call cf_78 rfl (Do_spec _ k a cap R x (S.reads 1 rfl hX) hk hR1 (by omega)) ?_)
                    rintro _ w ⟨a112, c112, M, rfl, S2, hM⟩
                    replace S := S.trans S2
                    refine ⟨_, rfl, ?_⟩
                    refine ⟨(fun w => Sat _ w _), S, (.inr (fun w S => S.pk (by repeat (first | exact Pk.nil _ | exact Pk.refl _ | refine Pk.cons 0 rfl ?_ | refine Pk.cons 1 rfl ?_ | refine Pk.cons 2 rfl ?_ | refine Pk.cons 3 rfl ?_ | refine Pk.cons 4 rfl ?_ | refine Pk.cons 5 rfl ?_ | refine Pk.cons 6 rfl ?_ | refine Pk.cons 7 rfl ?_ | refine Pk.cons 8 rfl ?_ | refine Pk.cons 9 rfl ?_ | refine Pk.cons 10 rfl ?_ | refine Pk.cons 11 rfl ?_ | refine Pk.cons 12 rfl ?_ | refine Pk.cons 13 rfl ?_ | refine Pk.drop ?_)))), ?_⟩
                    clear S
                    refine Plan.q rfl (fun w S => Y.move (v := .tuple _) rfl) ?_
                    refine Plan.q rfl (fun w S => Y.extract (v := .slice _ _ _) rfl rfl) ?_
                    refine Plan.q rfl (fun w S => Y.extract (v := .int .i64 _) rfl rfl) ?_
                    refine Plan.q rfl (fun w S => Y.extract (v := .bool _) rfl rfl) ?_
                    refine Plan.q rfl (fun w S => Y.assign (v := .slice _ _ _) rfl) ?_
                    refine Plan.q rfl (fun w S => Y.assign (v := .int .i64 _) rfl) ?_
                    refine Plan.q rfl (fun w S => Y.assign (v := .bool _) rfl) ?_
                    refine Plan.nil (fun w S => ?_)
                    replace S : Sat _ _ _ := S
                    refine Then.nx ?_
                    refine W.seq ?_
                    refine W.seq ?_
                    refine W.region rfl ?_
                    refine WO.q (Y.fieldB fo_58_6 rfl) ?_
                    first | refine WO.q (Y.load rfl (loadS1 sz_3 S 0 rfl rfl)) ?_ | refine WO.q (Y.load rfl (loadS1 sz_3 S 1 rfl rfl)) ?_ | refine WO.q (Y.load rfl (loadS1 sz_3 S 2 rfl rfl)) ?_ | refine WO.q (Y.load rfl (loadS1 sz_3 S 3 rfl rfl)) ?_
                    refine WO.q (Y.neq rfl rfl) ?_
                    refine WO.q (Y.move (v := .bool _) rfl) ?_
                    refine WO.splitB (fun h11 => ?_) (fun h11 => ?_)
                    · (try simp only [decide_eq_true_eq, decide_eq_false_iff_not, Bool.not_eq_true', Bool.not_eq_false', Bool.and_eq_true, Bool.or_eq_true, Bool.and_eq_false_iff, Bool.or_eq_false_iff, Bool.not_true, Bool.not_false] at h11)
                      refine WO.qT rfl (Y.move (v := .int .i64 _) rfl) ?_
                      refine WO.qT rfl (Y.fieldB fo_58_3 rfl) ?_
                      first | refine WO.qT rfl (Y.load rfl (loadS1 sz_2 S 0 rfl rfl)) ?_ | refine WO.qT rfl (Y.load rfl (loadS1 sz_2 S 1 rfl rfl)) ?_ | refine WO.qT rfl (Y.load rfl (loadS1 sz_2 S 2 rfl rfl)) ?_ | refine WO.qT rfl (Y.load rfl (loadS1 sz_2 S 3 rfl rfl)) ?_
                      refine WO.qT rfl (Y.neq rfl rfl) ?_
                      refine WO.qT rfl (Y.move (v := .bool _) rfl) ?_
                      refine WO.splitB (fun h12 => ?_) (fun h12 => ?_)
                      · (try simp only [decide_eq_true_eq, decide_eq_false_iff_not, Bool.not_eq_true', Bool.not_eq_false', Bool.and_eq_true, Bool.or_eq_true, Bool.and_eq_false_iff, Bool.or_eq_false_iff, Bool.not_true, Bool.not_false] at h12)
                        refine WO.qF rfl ?_
                        refine WO.qF rfl ?_
                        refine WO.qF rfl ?_
                        refine WO.qF rfl ?_
                        refine WO.qT rfl (Y.pickT (u := .bool _) rfl rfl) ?_
                        refine WO.q (Y.pickT (u := .bool _) rfl rfl) ?_
                        refine WO.nil ?_
                        refine Then.nx ?_
                        first | refine W.condT rfl ?_ | refine W.condT (congrArg Value.bool (by assumption)) ?_
                        refine W.exit ?_
                        refine Then.x ?_
                        refine InB.e ?_
                        refine Then.nx ?_
                        refine W.region rfl ?_
                        refine WO.q (Y.move (v := .int .i64 _) rfl) ?_
                        first | refine WO.q (Y.addI rfl rfl (by omega)) ?_ | refine WO.q (Y.add rfl rfl) ?_
                        refine WO.q (Y.assign (v := .int .i64 _) rfl) ?_
                        refine WO.nil ?_
                        refine Then.nx ⟨?_, ?_, ?_⟩
                        · (repeat (first | exact Out.hav _ _ _ | exact Out.refl _ _ | refine Out.up rfl ?_ | refine Out.sub rfl ?_))
                        · first | (exact ⟨i + 1, bn2, ps2, ab2, cb2, ac2, cc2, MX2, rfl, by omega, (by rw [hlf, drop_range hi2, refLoop_skip hx1 (.inl (by omega))]), hm2, (by (have hcw := cntW_mono d (callsW (undone h.length d - 1)) (show i ≤ i + 1 by omega); omega)), S.pk (.refl _)⟩) | (exact ⟨i + 1, bn2, ps2, ab2, cb2, ac2, cc2, MX2, rfl, by omega, (by rw [hlf, drop_range hi2, refLoop_skip hx1 (.inr (by assumption))]), hm2, (by (have hcw := cntW_mono d (callsW (undone h.length d - 1)) (show i ≤ i + 1 by omega); omega)), S.pk (.refl _)⟩) | (exact ⟨i + 1, bn2, ps2, ab2, cb2, ac2, cc2, MX2, rfl, by omega, (by rw [hlf, drop_range hi2, refLoop_ne hx1 (by (intro hh; rcases hh with hh | hh; omega; rw [show lateB h d x = false by assumption] at hh; cases hh)) (by first | exact ⟨by assumption, .inl (by assumption)⟩ | exact ⟨by assumption, .inr (ne_of_beq_false (by assumption))⟩)]), hm2, (by (have hcw := cntW_mono d (callsW (undone h.length d - 1)) (show i ≤ i + 1 by omega); omega)), S.pk (.drop (.drop (.refl _)))⟩) | (exact ⟨i + 1, bn3, ps3, ab3, cb3, ac3, cc3, MX3, rfl, by omega, (by rw [hlf, drop_range hi2, refLoop_no hx1 (by (intro hh; rcases hh with hh | hh; omega; rw [show lateB h d x = false by assumption] at hh; cases hh)) (by (intro hh; first | exact hh.1 (by assumption) | exact hh.2.elim (fun h => h (by assumption)) (fun h => h (eq_of_beq (by assumption))))) hnone, hbn3]), hm3, by omega, S.tl⟩)
                        · (show h.length - (i + 1) < h.length - i; omega)
                      · (try simp only [decide_eq_true_eq, decide_eq_false_iff_not, Bool.not_eq_true', Bool.not_eq_false', Bool.and_eq_true, Bool.or_eq_true, Bool.and_eq_false_iff, Bool.or_eq_false_iff, Bool.not_true, Bool.not_false] at h12)
                        refine WO.qT rfl (Y.move (v := .bool _) rfl) ?_
                        refine WO.qT rfl (Y.fieldB fo_58_4 rfl) ?_
                        first | refine WO.qT rfl (Y.load rfl (loadS1 sz_4 S 0 rfl rfl)) ?_ | refine WO.qT rfl (Y.load rfl (loadS1 sz_4 S 1 rfl rfl)) ?_ | refine WO.qT rfl (Y.load rfl (loadS1 sz_4 S 2 rfl rfl)) ?_ | refine WO.qT rfl (Y.load rfl (loadS1 sz_4 S 3 rfl rfl)) ?_
                        refine WO.qT rfl (Y.neqB Tryd.underlying4 rfl rfl) ?_
                        refine WO.qT rfl (Y.pickF (u := .bool _) rfl rfl) ?_
                        refine WO.q (Y.pickT (u := .bool _) rfl rfl) ?_
                        refine WO.nil ?_
                        refine Then.nx ?_
                        refine W.cond rfl (fun h13 => ?_) (fun h13 => ?_) -- cond 6
                        · have rh13 := h13
                          (try simp only [decide_eq_true_eq, decide_eq_false_iff_not, Bool.not_eq_true', Bool.not_eq_false', Bool.and_eq_true, Bool.or_eq_true, Bool.and_eq_false_iff, Bool.or_eq_false_iff, Bool.not_true, Bool.not_false] at h13)
                          refine W.exit ?_
                          refine Then.x ?_
                          refine InB.e ?_
                          refine Then.nx ?_
                          refine W.region rfl ?_
                          refine WO.q (Y.move (v := .int .i64 _) rfl) ?_
                          first | refine WO.q (Y.addI rfl rfl (by omega)) ?_ | refine WO.q (Y.add rfl rfl) ?_
                          refine WO.q (Y.assign (v := .int .i64 _) rfl) ?_
                          refine WO.nil ?_
                          refine Then.nx ⟨?_, ?_, ?_⟩
                          · (repeat (first | exact Out.hav _ _ _ | exact Out.refl _ _ | refine Out.up rfl ?_ | refine Out.sub rfl ?_))
                          · first | (exact ⟨i + 1, bn2, ps2, ab2, cb2, ac2, cc2, MX2, rfl, by omega, (by rw [hlf, drop_range hi2, refLoop_skip hx1 (.inl (by omega))]), hm2, (by (have hcw := cntW_mono d (callsW (undone h.length d - 1)) (show i ≤ i + 1 by omega); omega)), S.pk (.refl _)⟩) | (exact ⟨i + 1, bn2, ps2, ab2, cb2, ac2, cc2, MX2, rfl, by omega, (by rw [hlf, drop_range hi2, refLoop_skip hx1 (.inr (by assumption))]), hm2, (by (have hcw := cntW_mono d (callsW (undone h.length d - 1)) (show i ≤ i + 1 by omega); omega)), S.pk (.refl _)⟩) | (exact ⟨i + 1, bn2, ps2, ab2, cb2, ac2, cc2, MX2, rfl, by omega, (by rw [hlf, drop_range hi2, refLoop_ne hx1 (by (intro hh; rcases hh with hh | hh; omega; rw [show lateB h d x = false by assumption] at hh; cases hh)) (by first | exact ⟨by assumption, .inl (by assumption)⟩ | exact ⟨by assumption, .inr (ne_of_beq_false (by assumption))⟩)]), hm2, (by (have hcw := cntW_mono d (callsW (undone h.length d - 1)) (show i ≤ i + 1 by omega); omega)), S.pk (.drop (.drop (.refl _)))⟩) | (exact ⟨i + 1, bn3, ps3, ab3, cb3, ac3, cc3, MX3, rfl, by omega, (by rw [hlf, drop_range hi2, refLoop_no hx1 (by (intro hh; rcases hh with hh | hh; omega; rw [show lateB h d x = false by assumption] at hh; cases hh)) (by (intro hh; first | exact hh.1 (by assumption) | exact hh.2.elim (fun h => h (by assumption)) (fun h => h (eq_of_beq (by assumption))))) hnone, hbn3]), hm3, by omega, S.tl⟩)
                          · (show h.length - (i + 1) < h.length - i; omega)
                        · have rh13 := h13
                          (try simp only [decide_eq_true_eq, decide_eq_false_iff_not, Bool.not_eq_true', Bool.not_eq_false', Bool.and_eq_true, Bool.or_eq_true, Bool.and_eq_false_iff, Bool.or_eq_false_iff, Bool.not_true, Bool.not_false] at h13)
                          refine W.skip ?_
                          refine Then.nx ?_
                          refine W.seq ?_
                          have hud := undone_lt hi2 hbit
                          have hor : (d ||| 1 <<< i) < 4096 := or_lt (n := 12) hd (by omega)
                          have hWc := callsW_mono (show undone h.length (d ||| 1 <<< i) ≤ undone h.length d - 1 by omega)
                          have hcn := cntW_not (V := callsW (undone h.length d - 1)) hbit
                          have hcm := cntW_mono d (callsW (undone h.length d - 1)) (show i + 1 ≤ h.length by omega)
                          refine W.region rfl ?_
                          first | refine WO.q (Y.move (v := .pointer (some _)) rfl) ?_ | refine WO.q (Y.move (v := .pointer _) rfl) ?_
                          refine WO.q (Y.move (v := .int .i64 _) rfl) ?_
                          refine WO.q (Y.move (v := .int .i64 _) rfl) ?_
                          refine WO.q (Y.shlN (x := 1) (y := i) rfl rfl (by omega) (by omega)) ?_
                          refine WO.q (Y.orN (x := d) (y := 1 <<< i) rfl rfl (by omega) (by omega)) ?_
                          refine WO.q (Y.move (v := .slice _ _ _) rfl) ?_
                          refine WO.e (O.call cf_48 rfl (ih (d ||| 1 <<< i) (DoM k R x).1 bn2 ps2 ab2 cb2 ac2 cc2 M MX2 a112 c112 (X :: L) _ (by omega) hor hM (by (have := (DoM_len (k := k) (R := R) (c := x)).1; omega)) (fun h2 => Nat.le_of_eq ((DoM_len (k := k) (R := R) (c := x)).2 h2)) hm2 (by omega) (S.pk (.cons 0 rfl (.cons 2 rfl (.cons 2 rfl (.cons 2 rfl (.cons 2 rfl (.cons 1 rfl (.drop (.refl _)))))))))) ?_)
                          rintro _ w ⟨ao3, co3, bn3, ps3, ab3, cb3, ac3, cc3, MX3, rfl, hbn3, hm3, hbl3, hll3, S⟩
                          replace S : Sat w0 w (Own tN 3 ao3 co3 (((refFrom k h fuel) (d ||| 1 <<< i) (DoM k R x).1 bn2).1.getD []) :: X :: MX3 :: Cel bs [.int .i64 k, .slice ah h.length ch, .slice ab3 bn3.length cb3, .slice ac3 ps3.length cc3] 100 :: Own tN 3 ab3 cb3 (bn3.map Prod.fst) :: Own tSl 54 ac3 cc3 ps3 :: L) := S.pk (.cons 0 rfl (.cons 4 rfl (.cons 0 rfl (.cons 0 rfl (.cons 0 rfl (.cons 0 rfl (.refl _)))))))
                          refine ⟨_, rfl, ?_⟩
                          refine WO.q (Y.move (v := .tuple _) rfl) ?_
                          refine WO.q (Y.extract (v := .slice _ _ _) rfl rfl) ?_
                          refine WO.q (Y.extract (v := .bool _) rfl rfl) ?_
                          refine WO.q (Y.assign (v := .slice _ _ _) rfl) ?_
                          refine WO.q (Y.assign (v := .bool _) rfl) ?_
                          refine WO.nil ?_
                          refine Then.nx ?_
                          refine W.seq ?_
                          refine W.region rfl ?_
                          refine WO.q (Y.move (v := .bool _) rfl) ?_
                          refine WO.nil ?_
                          refine Then.nx ?_
                          refine W.cond rfl (fun h14 => ?_) (fun h14 => ?_) -- cond 7
                          · have rh14 := h14
                            (try simp only [decide_eq_true_eq, decide_eq_false_iff_not, Bool.not_eq_true', Bool.not_eq_false', Bool.and_eq_true, Bool.or_eq_true, Bool.and_eq_false_iff, Bool.or_eq_false_iff, Bool.not_true, Bool.not_false] at h14)
                            obtain ⟨l, hsome⟩ := Option.isSome_iff_exists.1 rh14
                            refine W.seq ?_
                            refine W.region rfl ?_
                            refine WO.q (Y.move (v := .int .i64 _) rfl) ?_
                            first | refine WO.e (O.buildSlice rfl (buildOne sl_27 (by decide) rfl rfl) S (fun b142 w S => ?_)) | refine WO.e (O.buildSlice rfl (buildOne sl_27 (by decide) rfl (by simp)) S (fun b142 w S => ?_)) | refine WO.e (O.buildSlice rfl (bs_27_1_0) S (fun b142 w S => ?_))
                            refine WO.q (Y.move (v := .slice _ _ _) rfl) ?_
                            refine WO.e (O.append (T := tN) (xs := [i]) (ys := (refFrom k h fuel (d ||| 1 <<< i) (DoM k R x).1 bn2).1.getD []) 0 sl_27 (S.imp 0 rfl (fun _ o => Own.one (T := tN) (x := i) o)) rfl rfl rfl rfl (((S.imp 0 rfl (fun _ o => Own.one (T := tN) (x := i) o))).rd 1 rfl) rfl (by (simp only [List.length_singleton]; omega)) (by (simp only [List.length_singleton, maxLen]; omega)) (fun a144 c144 w S hn144 => ?_))
                            refine WO.q (Y.assign (v := .slice _ _ _) rfl) ?_
                            refine WO.q (Y.assign (v := .bool _) rfl) ?_
                            refine WO.nil ?_
                            refine Then.nx ?_
                            refine W.ret ?_
                            refine InB.r ?_
                            refine Then.r ?_
                            refine Then.r ?_
                            refine InB.r ?_
                            refine Then.r ?_
                            refine BodyQ.ret2 Tryd.results48 (ResV.tmp _ rfl) (ResV.tmp _ rfl) ?_
                            first | (have e1 : refFrom k h (fuel + 1) d R bn = (some [], bn) := (by rw [refFrom, if_pos (by assumption)]); rw [e1]; exact ⟨none, 0, bn, ps, ab, cb, ac, cc, MX, rfl, rfl, hm, by omega, Nat.zero_le _, (S.tl).nilOwn tN 3⟩) | (have hpe : p = (d, R) := Prod.ext (by (show p.1 = d; omega)) (by assumption); have hin : (d, R) ∈ bn := (by rw [← hpe]; exact List.mem_of_getElem? hp); have e1 : refFrom k h (fuel + 1) d R bn = (none, bn) := (by rw [refFrom, if_neg (by (rw [show overB h d = false by assumption]; decide)), if_pos hin]); rw [e1]; exact ⟨none, 0, bn, ps, ab, cb, ac, cc, MX, rfl, rfl, hm, by omega, Nat.zero_le _, (S.tl).nilOwn tN 3⟩) | (have e1 : refFrom k h (fuel + 1) d R bn = (some (i :: l), bn3) := (by rw [hlf, drop_range hi2, refLoop_yes hx1 (by (intro hh; rcases hh with hh | hh; omega; rw [show lateB h d x = false by assumption] at hh; cases hh)) (by (intro hh; first | exact hh.1 (by assumption) | exact hh.2.elim (fun h => h (by assumption)) (fun h => h (eq_of_beq (by assumption))))) hsome, hbn3]); rw [e1]; rw [hsome] at S hll3; exact ⟨a144, c144, bn3, ps3, ab3, cb3, ac3, cc3, MX3, (by (rw [hsome]; rfl)), rfl, hm3, by omega, (by (simp only [Option.getD_some, List.length_cons] at hll3 ⊢; omega)), S.pk (.cons 0 rfl (.cons 2 rfl (.cons 2 rfl (.cons 2 rfl (.cons 2 rfl (.drop (.drop (.refl _))))))))⟩) | (have e1 : refFrom k h (fuel + 1) d R bn = (none, bn2 ++ [(d, R)]) := (by rw [hlf, hir]; rfl); rw [e1]; have e3 : (bn2.map Prod.fst ++ [d]).length = (bn2 ++ [(d, R)]).length := (by simp); have e2 : bn2.map Prod.fst ++ [d] = (bn2 ++ [(d, R)]).map Prod.fst := (by simp); replace S : Sat w0 w (X :: MX2 :: Cel bs [.int .i64 k, .slice ah h.length ch, .slice a152 (bn2.map Prod.fst ++ [d]).length c152, .slice a162 (ps2 ++ [((a, R.length, cap) : SlV)]).length c162] 100 :: Own tN 3 a152 c152 (bn2.map Prod.fst ++ [d]) :: Own tSl 54 a162 c162 (ps2 ++ [((a, R.length, cap) : SlV)]) :: L) := S; rw [e3, e2] at S; exact ⟨none, 0, bn2 ++ [(d, R)], ps2 ++ [((a, R.length, cap) : SlV)], a152, c152, a162, c162, Bun [X, MX2], rfl, rfl, hm2.snoc hX (by omega), (by (rw [List.length_append, List.length_singleton]; omega)), Nat.zero_le _, ((show Sat w0 w ([X, MX2] ++ _) from S).bun).nilOwn tN 3⟩)
                          · have rh14 := h14
                            (try simp only [decide_eq_true_eq, decide_eq_false_iff_not, Bool.not_eq_true', Bool.not_eq_false', Bool.and_eq_true, Bool.or_eq_true, Bool.and_eq_false_iff, Bool.or_eq_false_iff, Bool.not_true, Bool.not_false] at h14)
                            have hnone := Option.not_isSome_iff_eq_none.1 (by rw [rh14]; decide)
                            refine W.skip ?_
                            refine InB.nx ?_
                            refine Then.nx ?_
                            refine W.region rfl ?_
                            refine WO.q (Y.move (v := .int .i64 _) rfl) ?_
                            first | refine WO.q (Y.addI rfl rfl (by omega)) ?_ | refine WO.q (Y.add rfl rfl) ?_
                            refine WO.q (Y.assign (v := .int .i64 _) rfl) ?_
                            refine WO.nil ?_
                            refine Then.nx ⟨?_, ?_, ?_⟩
                            · (repeat (first | exact Out.hav _ _ _ | exact Out.refl _ _ | refine Out.up rfl ?_ | refine Out.sub rfl ?_))
                            · first | (exact ⟨i + 1, bn2, ps2, ab2, cb2, ac2, cc2, MX2, rfl, by omega, (by rw [hlf, drop_range hi2, refLoop_skip hx1 (.inl (by omega))]), hm2, (by (have hcw := cntW_mono d (callsW (undone h.length d - 1)) (show i ≤ i + 1 by omega); omega)), S.pk (.refl _)⟩) | (exact ⟨i + 1, bn2, ps2, ab2, cb2, ac2, cc2, MX2, rfl, by omega, (by rw [hlf, drop_range hi2, refLoop_skip hx1 (.inr (by assumption))]), hm2, (by (have hcw := cntW_mono d (callsW (undone h.length d - 1)) (show i ≤ i + 1 by omega); omega)), S.pk (.refl _)⟩) | (exact ⟨i + 1, bn2, ps2, ab2, cb2, ac2, cc2, MX2, rfl, by omega, (by rw [hlf, drop_range hi2, refLoop_ne hx1 (by (intro hh; rcases hh with hh | hh; omega; rw [show lateB h d x = false by assumption] at hh; cases hh)) (by first | exact ⟨by assumption, .inl (by assumption)⟩ | exact ⟨by assumption, .inr (ne_of_beq_false (by assumption))⟩)]), hm2, (by (have hcw := cntW_mono d (callsW (undone h.length d - 1)) (show i ≤ i + 1 by omega); omega)), S.pk (.drop (.drop (.refl _)))⟩) | (exact ⟨i + 1, bn3, ps3, ab3, cb3, ac3, cc3, MX3, rfl, by omega, (by rw [hlf, drop_range hi2, refLoop_no hx1 (by (intro hh; rcases hh with hh | hh; omega; rw [show lateB h d x = false by assumption] at hh; cases hh)) (by (intro hh; first | exact hh.1 (by assumption) | exact hh.2.elim (fun h => h (by assumption)) (fun h => h (eq_of_beq (by assumption))))) hnone, hbn3]), hm3, by omega, S.tl⟩)
                            · (show h.length - (i + 1) < h.length - i; omega)
                    · (try simp only [decide_eq_true_eq, decide_eq_false_iff_not, Bool.not_eq_true', Bool.not_eq_false', Bool.and_eq_true, Bool.or_eq_true, Bool.and_eq_false_iff, Bool.or_eq_false_iff, Bool.not_true, Bool.not_false] at h11)
                      refine WO.qF rfl ?_
                      refine WO.qF rfl ?_
                      refine WO.qF rfl ?_
                      refine WO.qF rfl ?_
                      refine WO.qF rfl ?_
                      refine WO.qF rfl ?_
                      refine WO.qF rfl ?_
                      refine WO.qF rfl ?_
                      refine WO.qF rfl ?_
                      refine WO.qF rfl ?_
                      refine WO.q (Y.pickF (u := .bool _) rfl rfl) ?_
                      refine WO.nil ?_
                      refine Then.nx ?_
                      first | refine W.condF rfl ?_ | refine W.condF (congrArg Value.bool (by assumption)) ?_
                      refine W.skip ?_
                      refine Then.nx ?_
                      refine W.seq ?_
                      have hud := undone_lt hi2 hbit
                      have hor : (d ||| 1 <<< i) < 4096 := or_lt (n := 12) hd (by omega)
                      have hWc := callsW_mono (show undone h.length (d ||| 1 <<< i) ≤ undone h.length d - 1 by omega)
                      have hcn := cntW_not (V := callsW (undone h.length d - 1)) hbit
                      have hcm := cntW_mono d (callsW (undone h.length d - 1)) (show i + 1 ≤ h.length by omega)
                      refine W.region rfl ?_
                      first | refine WO.q (Y.move (v := .pointer (some _)) rfl) ?_ | refine WO.q (Y.move (v := .pointer _) rfl) ?_
                      refine WO.q (Y.move (v := .int .i64 _) rfl) ?_
                      refine WO.q (Y.move (v := .int .i64 _) rfl) ?_
                      refine WO.q (Y.shlN (x := 1) (y := i) rfl rfl (by omega) (by omega)) ?_
                      refine WO.q (Y.orN (x := d) (y := 1 <<< i) rfl rfl (by omega) (by omega)) ?_
                      refine WO.q (Y.move (v := .slice _ _ _) rfl) ?_
                      refine WO.e (O.call cf_48 rfl (ih (d ||| 1 <<< i) (DoM k R x).1 bn2 ps2 ab2 cb2 ac2 cc2 M MX2 a112 c112 (X :: L) _ (by omega) hor hM (by (have := (DoM_len (k := k) (R := R) (c := x)).1; omega)) (fun h2 => Nat.le_of_eq ((DoM_len (k := k) (R := R) (c := x)).2 h2)) hm2 (by omega) (S.pk (.cons 0 rfl (.cons 2 rfl (.cons 2 rfl (.cons 2 rfl (.cons 2 rfl (.cons 1 rfl (.drop (.refl _)))))))))) ?_)
                      rintro _ w ⟨ao3, co3, bn3, ps3, ab3, cb3, ac3, cc3, MX3, rfl, hbn3, hm3, hbl3, hll3, S⟩
                      replace S : Sat w0 w (Own tN 3 ao3 co3 (((refFrom k h fuel) (d ||| 1 <<< i) (DoM k R x).1 bn2).1.getD []) :: X :: MX3 :: Cel bs [.int .i64 k, .slice ah h.length ch, .slice ab3 bn3.length cb3, .slice ac3 ps3.length cc3] 100 :: Own tN 3 ab3 cb3 (bn3.map Prod.fst) :: Own tSl 54 ac3 cc3 ps3 :: L) := S.pk (.cons 0 rfl (.cons 4 rfl (.cons 0 rfl (.cons 0 rfl (.cons 0 rfl (.cons 0 rfl (.refl _)))))))
                      refine ⟨_, rfl, ?_⟩
                      refine WO.q (Y.move (v := .tuple _) rfl) ?_
                      refine WO.q (Y.extract (v := .slice _ _ _) rfl rfl) ?_
                      refine WO.q (Y.extract (v := .bool _) rfl rfl) ?_
                      refine WO.q (Y.assign (v := .slice _ _ _) rfl) ?_
                      refine WO.q (Y.assign (v := .bool _) rfl) ?_
                      refine WO.nil ?_
                      refine Then.nx ?_
                      refine W.seq ?_
                      refine W.region rfl ?_
                      refine WO.q (Y.move (v := .bool _) rfl) ?_
                      refine WO.nil ?_
                      refine Then.nx ?_
                      refine W.cond rfl (fun h15 => ?_) (fun h15 => ?_) -- cond 8
                      · have rh15 := h15
                        (try simp only [decide_eq_true_eq, decide_eq_false_iff_not, Bool.not_eq_true', Bool.not_eq_false', Bool.and_eq_true, Bool.or_eq_true, Bool.and_eq_false_iff, Bool.or_eq_false_iff, Bool.not_true, Bool.not_false] at h15)
                        obtain ⟨l, hsome⟩ := Option.isSome_iff_exists.1 rh15
                        refine W.seq ?_
                        refine W.region rfl ?_
                        refine WO.q (Y.move (v := .int .i64 _) rfl) ?_
                        first | refine WO.e (O.buildSlice rfl (buildOne sl_27 (by decide) rfl rfl) S (fun b142 w S => ?_)) | refine WO.e (O.buildSlice rfl (buildOne sl_27 (by decide) rfl (by simp)) S (fun b142 w S => ?_)) | refine WO.e (O.buildSlice rfl (bs_27_1_0) S (fun b142 w S => ?_))
                        refine WO.q (Y.move (v := .slice _ _ _) rfl) ?_
                        refine WO.e (O.append (T := tN) (xs := [i]) (ys := (refFrom k h fuel (d ||| 1 <<< i) (DoM k R x).1 bn2).1.getD []) 0 sl_27 (S.imp 0 rfl (fun _ o => Own.one (T := tN) (x := i) o)) rfl rfl rfl rfl (((S.imp 0 rfl (fun _ o => Own.one (T := tN) (x := i) o))).rd 1 rfl) rfl (by (simp only [List.length_singleton]; omega)) (by (simp only [List.length_singleton, maxLen]; omega)) (fun a144 c144 w S hn144 => ?_))
                        refine WO.q (Y.assign (v := .slice _ _ _) rfl) ?_
                        refine WO.q (Y.assign (v := .bool _) rfl) ?_
                        refine WO.nil ?_
                        refine Then.nx ?_
                        refine W.ret ?_
                        refine InB.r ?_
                        refine Then.r ?_
                        refine Then.r ?_
                        refine InB.r ?_
                        refine Then.r ?_
                        refine BodyQ.ret2 Tryd.results48 (ResV.tmp _ rfl) (ResV.tmp _ rfl) ?_
                        first | (have e1 : refFrom k h (fuel + 1) d R bn = (some [], bn) := (by rw [refFrom, if_pos (by assumption)]); rw [e1]; exact ⟨none, 0, bn, ps, ab, cb, ac, cc, MX, rfl, rfl, hm, by omega, Nat.zero_le _, (S.tl).nilOwn tN 3⟩) | (have hpe : p = (d, R) := Prod.ext (by (show p.1 = d; omega)) (by assumption); have hin : (d, R) ∈ bn := (by rw [← hpe]; exact List.mem_of_getElem? hp); have e1 : refFrom k h (fuel + 1) d R bn = (none, bn) := (by rw [refFrom, if_neg (by (rw [show overB h d = false by assumption]; decide)), if_pos hin]); rw [e1]; exact ⟨none, 0, bn, ps, ab, cb, ac, cc, MX, rfl, rfl, hm, by omega, Nat.zero_le _, (S.tl).nilOwn tN 3⟩) | (have e1 : refFrom k h (fuel + 1) d R bn = (some (i :: l), bn3) := (by rw [hlf, drop_range hi2, refLoop_yes hx1 (by (intro hh; rcases hh with hh | hh; omega; rw [show lateB h d x = false by assumption] at hh; cases hh)) (by (intro hh; first | exact hh.1 (by assumption) | exact hh.2.elim (fun h => h (by assumption)) (fun h => h (eq_of_beq (by assumption))))) hsome, hbn3]); rw [e1]; rw [hsome] at S hll3; exact ⟨a144, c144, bn3, ps3, ab3, cb3, ac3, cc3, MX3, (by (rw [hsome]; rfl)), rfl, hm3, by omega, (by (simp only [Option.getD_some, List.length_cons] at hll3 ⊢; omega)), S.pk (.cons 0 rfl (.cons 2 rfl (.cons 2 rfl (.cons 2 rfl (.cons 2 rfl (.drop (.drop (.refl _))))))))⟩) | (have e1 : refFrom k h (fuel + 1) d R bn = (none, bn2 ++ [(d, R)]) := (by rw [hlf, hir]; rfl); rw [e1]; have e3 : (bn2.map Prod.fst ++ [d]).length = (bn2 ++ [(d, R)]).length := (by simp); have e2 : bn2.map Prod.fst ++ [d] = (bn2 ++ [(d, R)]).map Prod.fst := (by simp); replace S : Sat w0 w (X :: MX2 :: Cel bs [.int .i64 k, .slice ah h.length ch, .slice a152 (bn2.map Prod.fst ++ [d]).length c152, .slice a162 (ps2 ++ [((a, R.length, cap) : SlV)]).length c162] 100 :: Own tN 3 a152 c152 (bn2.map Prod.fst ++ [d]) :: Own tSl 54 a162 c162 (ps2 ++ [((a, R.length, cap) : SlV)]) :: L) := S; rw [e3, e2] at S; exact ⟨none, 0, bn2 ++ [(d, R)], ps2 ++ [((a, R.length, cap) : SlV)], a152, c152, a162, c162, Bun [X, MX2], rfl, rfl, hm2.snoc hX (by omega), (by (rw [List.length_append, List.length_singleton]; omega)), Nat.zero_le _, ((show Sat w0 w ([X, MX2] ++ _) from S).bun).nilOwn tN 3⟩)
                      · have rh15 := h15
                        (try simp only [decide_eq_true_eq, decide_eq_false_iff_not, Bool.not_eq_true', Bool.not_eq_false', Bool.and_eq_true, Bool.or_eq_true, Bool.and_eq_false_iff, Bool.or_eq_false_iff, Bool.not_true, Bool.not_false] at h15)
                        have hnone := Option.not_isSome_iff_eq_none.1 (by rw [rh15]; decide)
                        refine W.skip ?_
                        refine InB.nx ?_
                        refine Then.nx ?_
                        refine W.region rfl ?_
                        refine WO.q (Y.move (v := .int .i64 _) rfl) ?_
                        first | refine WO.q (Y.addI rfl rfl (by omega)) ?_ | refine WO.q (Y.add rfl rfl) ?_
                        refine WO.q (Y.assign (v := .int .i64 _) rfl) ?_
                        refine WO.nil ?_
                        refine Then.nx ⟨?_, ?_, ?_⟩
                        · (repeat (first | exact Out.hav _ _ _ | exact Out.refl _ _ | refine Out.up rfl ?_ | refine Out.sub rfl ?_))
                        · first | (exact ⟨i + 1, bn2, ps2, ab2, cb2, ac2, cc2, MX2, rfl, by omega, (by rw [hlf, drop_range hi2, refLoop_skip hx1 (.inl (by omega))]), hm2, (by (have hcw := cntW_mono d (callsW (undone h.length d - 1)) (show i ≤ i + 1 by omega); omega)), S.pk (.refl _)⟩) | (exact ⟨i + 1, bn2, ps2, ab2, cb2, ac2, cc2, MX2, rfl, by omega, (by rw [hlf, drop_range hi2, refLoop_skip hx1 (.inr (by assumption))]), hm2, (by (have hcw := cntW_mono d (callsW (undone h.length d - 1)) (show i ≤ i + 1 by omega); omega)), S.pk (.refl _)⟩) | (exact ⟨i + 1, bn2, ps2, ab2, cb2, ac2, cc2, MX2, rfl, by omega, (by rw [hlf, drop_range hi2, refLoop_ne hx1 (by (intro hh; rcases hh with hh | hh; omega; rw [show lateB h d x = false by assumption] at hh; cases hh)) (by first | exact ⟨by assumption, .inl (by assumption)⟩ | exact ⟨by assumption, .inr (ne_of_beq_false (by assumption))⟩)]), hm2, (by (have hcw := cntW_mono d (callsW (undone h.length d - 1)) (show i ≤ i + 1 by omega); omega)), S.pk (.drop (.drop (.refl _)))⟩) | (exact ⟨i + 1, bn3, ps3, ab3, cb3, ac3, cc3, MX3, rfl, by omega, (by rw [hlf, drop_range hi2, refLoop_no hx1 (by (intro hh; rcases hh with hh | hh; omega; rw [show lateB h d x = false by assumption] at hh; cases hh)) (by (intro hh; first | exact hh.1 (by assumption) | exact hh.2.elim (fun h => h (by assumption)) (fun h => h (eq_of_beq (by assumption))))) hnone, hbn3]), hm3, by omega, S.tl⟩)
                        · (show h.length - (i + 1) < h.length - i; omega)
              · have rh8 := h8
                (try simp only [decide_eq_true_eq, decide_eq_false_iff_not, Bool.not_eq_true', Bool.not_eq_false', Bool.and_eq_true, Bool.or_eq_true, Bool.and_eq_false_iff, Bool.or_eq_false_iff, Bool.not_true, Bool.not_false] at h8)
                refine W.exit ?_
                refine Then.x ?_
                refine Then.x ?_
                refine InB.e ?_
                refine Then.nx ?_
                refine W.seq ?_
                have hir : (List.range h.length).drop i = [] := List.drop_eq_nil_of_le (by (rw [List.length_range]; omega))
                have e1 : i = h.length := by omega
                subst e1
                have hp2 := hm2.1
                refine W.region rfl ?_
                first | refine WO.q (Y.move (v := .pointer (some _)) rfl) ?_ | refine WO.q (Y.move (v := .pointer _) rfl) ?_
                first | refine WO.q (Y.move (v := .pointer (some _)) rfl) ?_ | refine WO.q (Y.move (v := .pointer _) rfl) ?_
                refine WO.q (Y.nilP rfl) ?_
                first | refine WO.q (Y.fieldB fo_100_2 rfl) ?_ | refine WO.q (Y.fieldE fo_100_2 rfl) ?_
                first | refine WO.q (Y.load rfl (loadS1 sz_27 S 0 rfl rfl)) ?_ | refine WO.q (Y.load rfl (loadS1 sz_27 S 1 rfl rfl)) ?_ | refine WO.q (Y.load rfl (loadS1 sz_27 S 2 rfl rfl)) ?_ | refine WO.q (Y.load rfl (loadS1 sz_27 S 3 rfl rfl)) ?_ | refine WO.q (Y.load rfl (loadRdF sz_27 (R1.ext S.ext) (by assumption) rfl)) ?_ | refine WO.q (Y.load rfl (loadRdF sz_27 (S.rd 3 rfl) (by assumption) rfl)) ?_ | refine WO.q (Y.load rfl (loadRdF sz_27 (S.rd 4 rfl) (by assumption) rfl)) ?_ | refine WO.q (Y.load rfl (loadRd1 sz_27 (R1.ext S.ext) (by assumption) rfl)) ?_ | refine WO.q (Y.load rfl (loadRd1 sz_27 (S.rd 3 rfl) (by assumption) rfl)) ?_ | refine WO.q (Y.load rfl (loadRd1 sz_27 (S.rd 4 rfl) (by assumption) rfl)) ?_
                refine WO.q (Y.move (v := .int .i64 _) rfl) ?_
                first | refine WO.e (O.buildSlice rfl (buildOne sl_27 (by decide) rfl rfl) S (fun b151 w S => ?_)) | refine WO.e (O.buildSlice rfl (buildOne sl_27 (by decide) rfl (by simp)) S (fun b151 w S => ?_)) | refine WO.e (O.buildSlice rfl (bs_27_1_0) S (fun b151 w S => ?_))
                refine WO.e (O.append (T := tN) (ys := [d]) 4 sl_27 S rfl rfl (by (rw [List.length_map])) rfl (S.rd1 (T := tN) (x := d) 0 rfl) rfl (by (simp only [List.length_map, List.length_singleton]; omega)) (by (simp only [List.length_map, List.length_singleton, maxLen]; omega)) (fun a152 c152 w S hn152 => ?_))
                refine WO.q (Y.nilP rfl) ?_
                first | refine WO.q (Y.fieldB fo_100_2 rfl) ?_ | refine WO.q (Y.fieldE fo_100_2 rfl) ?_
                refine WO.e0 (O.store (v := .slice _ _ _) 3 S rfl rfl rfl sz_27 rfl rfl rfl rfl (fun w S => ?_))
                refine WO.nil ?_
                refine Then.nx ?_
                refine W.seq ?_
                replace S : Sat w0 w (X :: MX2 :: Cel bs [.int .i64 k, .slice ah h.length ch, .slice a152 (bn2.map Prod.fst ++ [d]).length c152, .slice ac2 ps2.length cc2] 100 :: Own tN 3 a152 c152 (bn2.map Prod.fst ++ [d]) :: Own tSl 54 ac2 cc2 ps2 :: L) := S.tl
                refine W.region rfl ?_
                first | refine WO.q (Y.move (v := .pointer (some _)) rfl) ?_ | refine WO.q (Y.move (v := .pointer _) rfl) ?_
                first | refine WO.q (Y.move (v := .pointer (some _)) rfl) ?_ | refine WO.q (Y.move (v := .pointer _) rfl) ?_
                refine WO.q (Y.nilP rfl) ?_
                first | refine WO.q (Y.fieldB fo_100_3 rfl) ?_ | refine WO.q (Y.fieldE fo_100_3 rfl) ?_
                first | refine WO.q (Y.load rfl (loadS1 sz_37 S 0 rfl rfl)) ?_ | refine WO.q (Y.load rfl (loadS1 sz_37 S 1 rfl rfl)) ?_ | refine WO.q (Y.load rfl (loadS1 sz_37 S 2 rfl rfl)) ?_ | refine WO.q (Y.load rfl (loadS1 sz_37 S 3 rfl rfl)) ?_ | refine WO.q (Y.load rfl (loadRdF sz_37 (R1.ext S.ext) (by assumption) rfl)) ?_ | refine WO.q (Y.load rfl (loadRdF sz_37 (S.rd 3 rfl) (by assumption) rfl)) ?_ | refine WO.q (Y.load rfl (loadRdF sz_37 (S.rd 4 rfl) (by assumption) rfl)) ?_ | refine WO.q (Y.load rfl (loadRd1 sz_37 (R1.ext S.ext) (by assumption) rfl)) ?_ | refine WO.q (Y.load rfl (loadRd1 sz_37 (S.rd 3 rfl) (by assumption) rfl)) ?_ | refine WO.q (Y.load rfl (loadRd1 sz_37 (S.rd 4 rfl) (by assumption) rfl)) ?_
                refine WO.q (Y.move (v := .slice _ _ _) rfl) ?_
                first | refine WO.e (O.buildSlice rfl (buildOne sl_37 (by decide) rfl rfl) S (fun b161 w S => ?_)) | refine WO.e (O.buildSlice rfl (buildOne sl_37 (by decide) rfl (by simp)) S (fun b161 w S => ?_)) | refine WO.e (O.buildSlice rfl (bs_37_1_0) S (fun b161 w S => ?_))
                refine WO.e (O.append (T := tSl) (ys := [((a, R.length, cap) : SlV)]) 5 sl_37 S rfl rfl rfl rfl (S.rd1 (T := tSl) (x := ((a, R.length, cap) : SlV)) 0 rfl) rfl (by (simp only [List.length_singleton]; omega)) (by (simp only [List.length_singleton, maxLen]; omega)) (fun a162 c162 w S hn162 => ?_))
                refine WO.q (Y.nilP rfl) ?_
                first | refine WO.q (Y.fieldB fo_100_3 rfl) ?_ | refine WO.q (Y.fieldE fo_100_3 rfl) ?_
                refine WO.e0 (O.store (v := .slice _ _ _) 3 S rfl rfl rfl sz_37 rfl rfl rfl rfl (fun w S => ?_))
                refine WO.nil ?_
                refine Then.nx ?_
                refine W.seq ?_
                replace S := S.tl
                refine W.region rfl ?_
                refine WO.q (Y.assign (v := .slice _ _ _) rfl) ?_
                refine WO.q (Y.assign (v := .bool _) rfl) ?_
                refine WO.nil ?_
                refine Then.nx ?_
                refine W.ret ?_
                refine BodyQ.ret2 Tryd.results48 (ResV.tmp _ rfl) (ResV.tmp _ rfl) ?_
                first | (have e1 : refFrom k h (fuel + 1) d R bn = (some [], bn) := (by rw [refFrom, if_pos (by assumption)]); rw [e1]; exact ⟨none, 0, bn, ps, ab, cb, ac, cc, MX, rfl, rfl, hm, by omega, Nat.zero_le _, (S.tl).nilOwn tN 3⟩) | (have hpe : p = (d, R) := Prod.ext (by (show p.1 = d; omega)) (by assumption); have hin : (d, R) ∈ bn := (by rw [← hpe]; exact List.mem_of_getElem? hp); have e1 : refFrom k h (fuel + 1) d R bn = (none, bn) := (by rw [refFrom, if_neg (by (rw [show overB h d = false by assumption]; decide)), if_pos hin]); rw [e1]; exact ⟨none, 0, bn, ps, ab, cb, ac, cc, MX, rfl, rfl, hm, by omega, Nat.zero_le _, (S.tl).nilOwn tN 3⟩) | (have e1 : refFrom k h (fuel + 1) d R bn = (some (i :: l), bn3) := (by rw [hlf, drop_range hi2, refLoop_yes hx1 (by (intro hh; rcases hh with hh | hh; omega; rw [show lateB h d x = false by assumption] at hh; cases hh)) (by (intro hh; first | exact hh.1 (by assumption) | exact hh.2.elim (fun h => h (by assumption)) (fun h => h (eq_of_beq (by assumption))))) hsome, hbn3]); rw [e1]; rw [hsome] at S hll3; exact ⟨a144, c144, bn3, ps3, ab3, cb3, ac3, cc3, MX3, (by (rw [hsome]; rfl)), rfl, hm3, by omega, (by (simp only [Option.getD_some, List.length_cons] at hll3 ⊢; omega)), S.pk (.cons 0 rfl (.cons 2 rfl (.cons 2 rfl (.cons 2 rfl (.cons 2 rfl (.drop (.drop (.refl _))))))))⟩) | (have e1 : refFrom k h (fuel + 1) d R bn = (none, bn2 ++ [(d, R)]) := (by rw [hlf, hir]; rfl); rw [e1]; have e3 : (bn2.map Prod.fst ++ [d]).length = (bn2 ++ [(d, R)]).length := (by simp); have e2 : bn2.map Prod.fst ++ [d] = (bn2 ++ [(d, R)]).map Prod.fst := (by simp); replace S : Sat w0 w (X :: MX2 :: Cel bs [.int .i64 k, .slice ah h.length ch, .slice a152 (bn2.map Prod.fst ++ [d]).length c152, .slice a162 (ps2 ++ [((a, R.length, cap) : SlV)]).length c162] 100 :: Own tN 3 a152 c152 (bn2.map Prod.fst ++ [d]) :: Own tSl 54 a162 c162 (ps2 ++ [((a, R.length, cap) : SlV)]) :: L) := S; rw [e3, e2] at S; exact ⟨none, 0, bn2 ++ [(d, R)], ps2 ++ [((a, R.length, cap) : SlV)], a152, c152, a162, c162, Bun [X, MX2], rfl, rfl, hm2.snoc hX (by omega), (by (rw [List.length_append, List.length_singleton]; omega)), Nat.zero_le _, ((show Sat w0 w ([X, MX2] ++ _) from S).bun).nilOwn tN 3⟩)
end Go.Proofs
