/-
  Walks of JudgeLinear.
-/
import Derived.Test.YticopppiogophaaDoorTr
import Derived.Test.YticopppiogophaaDoorSx
import Derived.Test.YticopppiogophaaDoorFa
import Derived.Test.YticopppiogophaaDoorFb
import Derived.Test.YticopppiogophaaDoorFc
import Derived.Test.YticopppiogophaaDoorXc
import Derived.Test.YticopppiogophaaDoorWj
import Derived.Test.YticopppiogophaaDoorVd
set_option linter.unusedVariables false
set_option linter.unusedSimpArgs false
set_option maxRecDepth 100000
set_option maxHeartbeats 1000000
namespace Go.Proofs
open Go Go.TL Go.RowKit
theorem JudgeLinear_spec (w0 : World) (htab : Lib.TabIs Tryd.prog w0 "internal/strconv.uint64pow10" .u64 Lib.pow10Tab) (k : Int) (h : List GCall) (a : Option Addr) (cap : Nat) (R1 : Rd tCall w0 a h) (hlm : h.length ≤ 9223372036854775807) (hI : ∀ c ∈ h, I64 c.arg ∧ I64 c.new) :
    Calls Tryd.prog 3 [.int .i64 k, .slice a h.length cap].toArray w0 (fun e w => e = .returned (.bool true) ∧ Ext w0 w) := by
  have S := Sat.refl w0
  have hll := linR_len k h
  refine calls_of_W (args := [.int .i64 k, .slice a h.length cap]) 112 Tryd.func3 rfl Tryd.ntmps3 rfl ?_
  refine W.seq ?_
  refine W.region rfl ?_
  refine WO.q (Y.assign (v := .bool _) rfl) ?_
  refine WO.nil ?_
  refine Then.nx ?_
  refine W.cut0 [4, 16, 17, 18, 19, 20, 21, 22, 23, 24, 25, 26, 27, 28, 29]  (fun w => h.length ≤ 2147483647 ∧ Sat w0 w []) ?_ ?_
  ·
    refine W.seq ?_
    refine W.region rfl ?_
    refine WO.q (Y.move (v := .slice _ _ _) rfl) ?_
    refine WO.q (Y.len (t' := 0) Tryd.underlying22 rfl) ?_
    refine WO.e (O.call cf_8 rfl (Long_spec _ _) ?_)
    rintro _ w ⟨rfl, E⟩
    replace S := S.keep E
    refine ⟨_, rfl, ?_⟩
    refine WO.q (Y.move (v := .bool _) rfl) ?_
    refine WO.splitB (fun h1 => ?_) (fun h1 => ?_)
    · (try simp only [decide_eq_true_eq, decide_eq_false_iff_not, Bool.not_eq_true', Bool.not_eq_false', Bool.and_eq_true, Bool.or_eq_true, Bool.and_eq_false_iff, Bool.or_eq_false_iff, Bool.not_true, Bool.not_false] at h1)
      refine WO.qF rfl ?_
      refine WO.qF rfl ?_
      refine WO.qF rfl ?_
      refine WO.qF rfl ?_
      refine WO.qF rfl ?_
      refine WO.qF rfl ?_
      refine WO.qF rfl ?_
      refine WO.qF rfl ?_
      refine WO.q (Y.pickT (u := .bool _) rfl rfl) ?_
      refine WO.nil ?_
      refine Then.nx ?_
      first | refine W.condT rfl ?_ | refine W.condT (congrArg Value.bool (by assumption)) ?_
      refine W.seq ?_
      refine W.region rfl ?_
      refine WO.e (O.call cf_10 rfl (lives_spec _ (Lib.tabBelow_of_tabIs htab _ S.ext)) ?_)
      rintro _ w ⟨rfl, E⟩
      replace S := S.keep E
      refine ⟨_, rfl, ?_⟩
      refine WO.q (Y.assign (v := .bool _) rfl) ?_
      refine WO.nil ?_
      refine Then.nx ?_
      refine W.ret ?_
      refine Then.r ?_
      refine BodyQ.ret1 Tryd.results3 (ResV.tmp _ rfl) ?_
      first | exact ⟨rfl, S.ext⟩ | contradiction | (exfalso; omega) | (exfalso; simp_all; done)
    · (try simp only [decide_eq_true_eq, decide_eq_false_iff_not, Bool.not_eq_true', Bool.not_eq_false', Bool.and_eq_true, Bool.or_eq_true, Bool.and_eq_false_iff, Bool.or_eq_false_iff, Bool.not_true, Bool.not_false] at h1)
      refine WO.qT rfl (Y.move (v := .slice _ _ _) rfl) ?_
      refine WO.qT rfl (Y.len (t' := 0) Tryd.underlying22 rfl) ?_
      refine WO.qT rfl (Y.leq rfl rfl) ?_
      refine WO.qT rfl (Y.move (v := .bool _) rfl) ?_
      refine WO.splitB (fun h2 => ?_) (fun h2 => ?_)
      · (try simp only [decide_eq_true_eq, decide_eq_false_iff_not, Bool.not_eq_true', Bool.not_eq_false', Bool.and_eq_true, Bool.or_eq_true, Bool.and_eq_false_iff, Bool.or_eq_false_iff, Bool.not_true, Bool.not_false] at h2)
        refine WO.qT rfl (Y.move (v := .slice _ _ _) rfl) ?_
        refine WO.eT rfl (O.call cf_9 rfl (crowd_spec _ h a cap (R1.ext S.ext) hlm) ?_)
        rintro _ w ⟨n, rfl, E⟩
        replace S := S.keep E
        refine ⟨_, rfl, ?_⟩
        refine WO.qT rfl (Y.gtr rfl rfl) ?_
        refine WO.qT rfl (Y.pickT (u := .bool _) rfl rfl) ?_
        refine WO.q (Y.pickF (u := .bool _) rfl rfl) ?_
        refine WO.nil ?_
        refine Then.nx ?_
        refine W.cond rfl (fun h3 => ?_) (fun h3 => ?_) -- cond 0
        · have rh3 := h3
          (try simp only [decide_eq_true_eq, decide_eq_false_iff_not, Bool.not_eq_true', Bool.not_eq_false', Bool.and_eq_true, Bool.or_eq_true, Bool.and_eq_false_iff, Bool.or_eq_false_iff, Bool.not_true, Bool.not_false] at h3)
          refine W.seq ?_
          refine W.region rfl ?_
          refine WO.e (O.call cf_10 rfl (lives_spec _ (Lib.tabBelow_of_tabIs htab _ S.ext)) ?_)
          rintro _ w ⟨rfl, E⟩
          replace S := S.keep E
          refine ⟨_, rfl, ?_⟩
          refine WO.q (Y.assign (v := .bool _) rfl) ?_
          refine WO.nil ?_
          refine Then.nx ?_
          refine W.ret ?_
          refine Then.r ?_
          refine BodyQ.ret1 Tryd.results3 (ResV.tmp _ rfl) ?_
          first | exact ⟨rfl, S.ext⟩ | contradiction | (exfalso; omega) | (exfalso; simp_all; done)
        · have rh3 := h3
          (try simp only [decide_eq_true_eq, decide_eq_false_iff_not, Bool.not_eq_true', Bool.not_eq_false', Bool.and_eq_true, Bool.or_eq_true, Bool.and_eq_false_iff, Bool.or_eq_false_iff, Bool.not_true, Bool.not_false] at h3)
          refine W.skip ?_
          refine Then.nx ⟨?_, ?_⟩
          · (repeat (first | exact Out.hav _ _ _ | exact Out.refl _ _ | refine Out.up rfl ?_ | refine Out.sub rfl ?_))
          · exact ⟨by omega, S⟩
      · (try simp only [decide_eq_true_eq, decide_eq_false_iff_not, Bool.not_eq_true', Bool.not_eq_false', Bool.and_eq_true, Bool.or_eq_true, Bool.and_eq_false_iff, Bool.or_eq_false_iff, Bool.not_true, Bool.not_false] at h2)
        refine WO.qF rfl ?_
        refine WO.qF rfl ?_
        refine WO.qF rfl ?_
        refine WO.qT rfl (Y.pickF (u := .bool _) rfl rfl) ?_
        refine WO.q (Y.pickF (u := .bool _) rfl rfl) ?_
        refine WO.nil ?_
        refine Then.nx ?_
        first | refine W.condF rfl ?_ | refine W.condF (congrArg Value.bool (by assumption)) ?_
        refine W.skip ?_
        refine Then.nx ⟨?_, ?_⟩
        · (repeat (first | exact Out.hav _ _ _ | exact Out.refl _ _ | refine Out.up rfl ?_ | refine Out.sub rfl ?_))
        · exact ⟨by omega, S⟩
  · rintro gj99 w ⟨hL, S⟩
    refine W.seq ?_
    refine W.region rfl ?_
    refine WO.q (Y.move (v := .slice _ _ _) rfl) ?_
    refine WO.e (O.call cf_11 rfl (WideCalls_spec _ a cap h (R1.ext S.ext) hL) ?_)
    rintro _ w ⟨a4, rfl, S2⟩
    replace S := S.trans S2
    refine ⟨_, rfl, ?_⟩
    refine WO.q (Y.assign (v := .slice _ _ _) rfl) ?_
    refine WO.nil ?_
    refine Then.nx ?_
    refine W.seq ?_
    refine W.region rfl ?_
    refine WO.q (Y.move (v := .int .i64 _) rfl) ?_
    refine WO.q (Y.move (v := .slice _ _ _) rfl) ?_
    refine WO.e (O.call cf_12 rfl (Linear_spec _ (Lib.tabBelow_of_tabIs htab _ S.ext) k h _ _ (S.rd 0 rfl).pre hlm hI) ?_)
    rintro _ w ⟨a5, c5, rfl, S2⟩
    replace S := S.trans S2
    refine ⟨_, rfl, ?_⟩
    refine WO.q (Y.move (v := .tuple _) rfl) ?_
    refine WO.q (Y.extract (v := .slice _ _ _) rfl rfl) ?_
    refine WO.q (Y.extract (v := .bool _) rfl rfl) ?_
    refine WO.q (Y.extract (v := .int .i64 _) rfl rfl) ?_
    refine WO.q (Y.assign (v := .slice _ _ _) rfl) ?_
    refine WO.q (Y.assign (v := .bool _) rfl) ?_
    refine WO.q (Y.assign (v := .int .i64 _) rfl) ?_
    refine WO.nil ?_
    refine Then.nx ?_
    refine W.seq ?_
    refine W.region rfl ?_
    refine WO.q (Y.move (v := .int .i64 _) rfl) ?_
    refine WO.q (Y.move (v := .slice _ _ _) rfl) ?_
    refine WO.e (O.call cf_12 rfl (Linear_spec _ (Lib.tabBelow_of_tabIs htab _ S.ext) k h _ _ (S.rd 1 rfl).pre hlm hI) ?_)
    rintro _ w ⟨a6, c6, rfl, S2⟩
    replace S := S.trans S2
    refine ⟨_, rfl, ?_⟩
    refine WO.q (Y.move (v := .tuple _) rfl) ?_
    refine WO.q (Y.extract (v := .slice _ _ _) rfl rfl) ?_
    refine WO.q (Y.extract (v := .bool _) rfl rfl) ?_
    refine WO.q (Y.extract (v := .int .i64 _) rfl rfl) ?_
    refine WO.q (Y.assign (v := .slice _ _ _) rfl) ?_
    refine WO.q (Y.assign (v := .bool _) rfl) ?_
    refine WO.q (Y.assign (v := .int .i64 _) rfl) ?_
    refine WO.nil ?_
    refine Then.nx ?_
    refine W.seq ?_
    refine W.region rfl ?_
    refine WO.q (Y.move (v := .int .i64 _) rfl) ?_
    refine WO.q (Y.move (v := .slice _ _ _) rfl) ?_
    refine WO.e (O.call cf_13 rfl (rLinear_spec _ k h a cap (R1.ext S.ext) hlm) ?_)
    rintro _ w ⟨a7, c7, rfl, S2⟩
    replace S := S.trans S2
    refine ⟨_, rfl, ?_⟩
    refine WO.q (Y.move (v := .tuple _) rfl) ?_
    refine WO.q (Y.extract (v := .slice _ _ _) rfl rfl) ?_
    refine WO.q (Y.extract (v := .bool _) rfl rfl) ?_
    refine WO.q (Y.extract (v := .int .i64 _) rfl rfl) ?_
    refine WO.q (Y.assign (v := .slice _ _ _) rfl) ?_
    refine WO.q (Y.assign (v := .bool _) rfl) ?_
    refine WO.q (Y.assign (v := .int .i64 _) rfl) ?_
    refine WO.nil ?_
    refine Then.nx ?_
    refine W.seq ?_
    refine W.seq ?_
    refine W.region rfl ?_
    refine WO.q (Y.move (v := .int .i64 _) rfl) ?_
    refine WO.q (Y.move (v := .int .i64 _) rfl) ?_
    refine WO.q (Y.neq rfl rfl) ?_
    refine WO.q (Y.move (v := .bool _) rfl) ?_
    refine WO.splitB (fun h4 => ?_) (fun h4 => ?_)
    · (try simp only [decide_eq_true_eq, decide_eq_false_iff_not, Bool.not_eq_true', Bool.not_eq_false', Bool.and_eq_true, Bool.or_eq_true, Bool.and_eq_false_iff, Bool.or_eq_false_iff, Bool.not_true, Bool.not_false] at h4)
      refine WO.qF rfl ?_
      refine WO.qF rfl ?_
      refine WO.qF rfl ?_
      refine WO.q (Y.pickT (u := .bool _) rfl rfl) ?_
      refine WO.q (Y.move (v := .bool _) rfl) ?_
      refine WO.qF rfl ?_
      refine WO.qF rfl ?_
      refine WO.qF rfl ?_
      refine WO.q (Y.pickT (u := .bool _) rfl rfl) ?_
      refine WO.q (Y.move (v := .bool _) rfl) ?_
      refine WO.qF rfl ?_
      refine WO.qF rfl ?_
      refine WO.qF rfl ?_
      refine WO.q (Y.pickT (u := .bool _) rfl rfl) ?_
      refine WO.q (Y.move (v := .bool _) rfl) ?_
      refine WO.qF rfl ?_
      refine WO.qF rfl ?_
      refine WO.qF rfl ?_
      refine WO.qF rfl ?_
      refine WO.q (Y.pickT (u := .bool _) rfl rfl) ?_
      refine WO.q (Y.move (v := .bool _) rfl) ?_
      refine WO.qF rfl ?_
      refine WO.qF rfl ?_
      refine WO.qF rfl ?_
      refine WO.qF rfl ?_
      refine WO.q (Y.pickT (u := .bool _) rfl rfl) ?_
      refine WO.q (Y.move (v := .bool _) rfl) ?_
      refine WO.qF rfl ?_
      refine WO.qF rfl ?_
      refine WO.qF rfl ?_
      refine WO.qF rfl ?_
      refine WO.q (Y.pickT (u := .bool _) rfl rfl) ?_
      refine WO.q (Y.move (v := .bool _) rfl) ?_
      refine WO.qF rfl ?_
      refine WO.qF rfl ?_
      refine WO.qF rfl ?_
      refine WO.q (Y.pickT (u := .bool _) rfl rfl) ?_
      refine WO.nil ?_
      refine Then.nx ?_
      first | refine W.condT rfl ?_ | refine W.condT (congrArg Value.bool (by assumption)) ?_
      refine W.seq ?_
      refine W.region rfl ?_
      refine WO.q (Y.assign (v := .bool _) rfl) ?_
      refine WO.nil ?_
      refine Then.nx ?_
      refine W.ret ?_
      refine Then.r ?_
      refine BodyQ.ret1 Tryd.results3 (ResV.tmp _ rfl) ?_
      first | exact ⟨rfl, S.ext⟩ | contradiction | (exfalso; omega) | (exfalso; simp_all; done)
    · (try simp only [decide_eq_true_eq, decide_eq_false_iff_not, Bool.not_eq_true', Bool.not_eq_false', Bool.and_eq_true, Bool.or_eq_true, Bool.and_eq_false_iff, Bool.or_eq_false_iff, Bool.not_true, Bool.not_false] at h4)
      refine WO.qT rfl (Y.move (v := .int .i64 _) rfl) ?_
      refine WO.qT rfl (Y.move (v := .int .i64 _) rfl) ?_
      refine WO.qT rfl (Y.neq rfl rfl) ?_
      refine WO.q (Y.pickF (u := .bool _) rfl rfl) ?_
      refine WO.q (Y.move (v := .bool _) rfl) ?_
      refine WO.splitB (fun h5 => ?_) (fun h5 => ?_)
      · (try simp only [decide_eq_true_eq, decide_eq_false_iff_not, Bool.not_eq_true', Bool.not_eq_false', Bool.and_eq_true, Bool.or_eq_true, Bool.and_eq_false_iff, Bool.or_eq_false_iff, Bool.not_true, Bool.not_false] at h5)
        refine WO.qF rfl ?_
        refine WO.qF rfl ?_
        refine WO.qF rfl ?_
        refine WO.q (Y.pickT (u := .bool _) rfl rfl) ?_
        refine WO.q (Y.move (v := .bool _) rfl) ?_
        refine WO.qF rfl ?_
        refine WO.qF rfl ?_
        refine WO.qF rfl ?_
        refine WO.q (Y.pickT (u := .bool _) rfl rfl) ?_
        refine WO.q (Y.move (v := .bool _) rfl) ?_
        refine WO.qF rfl ?_
        refine WO.qF rfl ?_
        refine WO.qF rfl ?_
        refine WO.qF rfl ?_
        refine WO.q (Y.pickT (u := .bool _) rfl rfl) ?_
        refine WO.q (Y.move (v := .bool _) rfl) ?_
        refine WO.qF rfl ?_
        refine WO.qF rfl ?_
        refine WO.qF rfl ?_
        refine WO.qF rfl ?_
        refine WO.q (Y.pickT (u := .bool _) rfl rfl) ?_
        refine WO.q (Y.move (v := .bool _) rfl) ?_
        refine WO.qF rfl ?_
        refine WO.qF rfl ?_
        refine WO.qF rfl ?_
        refine WO.qF rfl ?_
        refine WO.q (Y.pickT (u := .bool _) rfl rfl) ?_
        refine WO.q (Y.move (v := .bool _) rfl) ?_
        refine WO.qF rfl ?_
        refine WO.qF rfl ?_
        refine WO.qF rfl ?_
        refine WO.q (Y.pickT (u := .bool _) rfl rfl) ?_
        refine WO.nil ?_
        refine Then.nx ?_
        first | refine W.condT rfl ?_ | refine W.condT (congrArg Value.bool (by assumption)) ?_
        refine W.seq ?_
        refine W.region rfl ?_
        refine WO.q (Y.assign (v := .bool _) rfl) ?_
        refine WO.nil ?_
        refine Then.nx ?_
        refine W.ret ?_
        refine Then.r ?_
        refine BodyQ.ret1 Tryd.results3 (ResV.tmp _ rfl) ?_
        first | exact ⟨rfl, S.ext⟩ | contradiction | (exfalso; omega) | (exfalso; simp_all; done)
      · (try simp only [decide_eq_true_eq, decide_eq_false_iff_not, Bool.not_eq_true', Bool.not_eq_false', Bool.and_eq_true, Bool.or_eq_true, Bool.and_eq_false_iff, Bool.or_eq_false_iff, Bool.not_true, Bool.not_false] at h5)
        refine WO.qT rfl (Y.move (v := .bool _) rfl) ?_
        refine WO.qT rfl (Y.move (v := .bool _) rfl) ?_
        refine WO.qT rfl (Y.neqB Tryd.underlying4 rfl rfl) ?_
        refine WO.q (Y.pickF (u := .bool _) rfl rfl) ?_
        refine WO.q (Y.move (v := .bool _) rfl) ?_
        refine WO.splitB (fun h6 => ?_) (fun h6 => ?_)
        · (try simp only [decide_eq_true_eq, decide_eq_false_iff_not, Bool.not_eq_true', Bool.not_eq_false', Bool.and_eq_true, Bool.or_eq_true, Bool.and_eq_false_iff, Bool.or_eq_false_iff, Bool.not_true, Bool.not_false] at h6)
          refine WO.qF rfl ?_
          refine WO.qF rfl ?_
          refine WO.qF rfl ?_
          refine WO.q (Y.pickT (u := .bool _) rfl rfl) ?_
          refine WO.q (Y.move (v := .bool _) rfl) ?_
          refine WO.qF rfl ?_
          refine WO.qF rfl ?_
          refine WO.qF rfl ?_
          refine WO.qF rfl ?_
          refine WO.q (Y.pickT (u := .bool _) rfl rfl) ?_
          refine WO.q (Y.move (v := .bool _) rfl) ?_
          refine WO.qF rfl ?_
          refine WO.qF rfl ?_
          refine WO.qF rfl ?_
          refine WO.qF rfl ?_
          refine WO.q (Y.pickT (u := .bool _) rfl rfl) ?_
          refine WO.q (Y.move (v := .bool _) rfl) ?_
          refine WO.qF rfl ?_
          refine WO.qF rfl ?_
          refine WO.qF rfl ?_
          refine WO.qF rfl ?_
          refine WO.q (Y.pickT (u := .bool _) rfl rfl) ?_
          refine WO.q (Y.move (v := .bool _) rfl) ?_
          refine WO.qF rfl ?_
          refine WO.qF rfl ?_
          refine WO.qF rfl ?_
          refine WO.q (Y.pickT (u := .bool _) rfl rfl) ?_
          refine WO.nil ?_
          refine Then.nx ?_
          first | refine W.condT rfl ?_ | refine W.condT (congrArg Value.bool (by assumption)) ?_
          refine W.seq ?_
          refine W.region rfl ?_
          refine WO.q (Y.assign (v := .bool _) rfl) ?_
          refine WO.nil ?_
          refine Then.nx ?_
          refine W.ret ?_
          refine Then.r ?_
          refine BodyQ.ret1 Tryd.results3 (ResV.tmp _ rfl) ?_
          first | exact ⟨rfl, S.ext⟩ | contradiction | (exfalso; omega) | (exfalso; simp_all; done)
        · (try simp only [decide_eq_true_eq, decide_eq_false_iff_not, Bool.not_eq_true', Bool.not_eq_false', Bool.and_eq_true, Bool.or_eq_true, Bool.and_eq_false_iff, Bool.or_eq_false_iff, Bool.not_true, Bool.not_false] at h6)
          refine WO.qT rfl (Y.move (v := .bool _) rfl) ?_
          refine WO.qT rfl (Y.move (v := .bool _) rfl) ?_
          refine WO.qT rfl (Y.neqB Tryd.underlying4 rfl rfl) ?_
          refine WO.q (Y.pickF (u := .bool _) rfl rfl) ?_
          refine WO.q (Y.move (v := .bool _) rfl) ?_
          refine WO.splitB (fun h7 => ?_) (fun h7 => ?_)
          · (try simp only [decide_eq_true_eq, decide_eq_false_iff_not, Bool.not_eq_true', Bool.not_eq_false', Bool.and_eq_true, Bool.or_eq_true, Bool.and_eq_false_iff, Bool.or_eq_false_iff, Bool.not_true, Bool.not_false] at h7)
            refine WO.qF rfl ?_
            refine WO.qF rfl ?_
            refine WO.qF rfl ?_
            refine WO.qF rfl ?_
            refine WO.q (Y.pickT (u := .bool _) rfl rfl) ?_
            refine WO.q (Y.move (v := .bool _) rfl) ?_
            refine WO.qF rfl ?_
            refine WO.qF rfl ?_
            refine WO.qF rfl ?_
            refine WO.qF rfl ?_
            refine WO.q (Y.pickT (u := .bool _) rfl rfl) ?_
            refine WO.q (Y.move (v := .bool _) rfl) ?_
            refine WO.qF rfl ?_
            refine WO.qF rfl ?_
            refine WO.qF rfl ?_
            refine WO.qF rfl ?_
            refine WO.q (Y.pickT (u := .bool _) rfl rfl) ?_
            refine WO.q (Y.move (v := .bool _) rfl) ?_
            refine WO.qF rfl ?_
            refine WO.qF rfl ?_
            refine WO.qF rfl ?_
            refine WO.q (Y.pickT (u := .bool _) rfl rfl) ?_
            refine WO.nil ?_
            refine Then.nx ?_
            first | refine W.condT rfl ?_ | refine W.condT (congrArg Value.bool (by assumption)) ?_
            refine W.seq ?_
            refine W.region rfl ?_
            refine WO.q (Y.assign (v := .bool _) rfl) ?_
            refine WO.nil ?_
            refine Then.nx ?_
            refine W.ret ?_
            refine Then.r ?_
            refine BodyQ.ret1 Tryd.results3 (ResV.tmp _ rfl) ?_
            first | exact ⟨rfl, S.ext⟩ | contradiction | (exfalso; omega) | (exfalso; simp_all; done)
          · (try simp only [decide_eq_true_eq, decide_eq_false_iff_not, Bool.not_eq_true', Bool.not_eq_false', Bool.and_eq_true, Bool.or_eq_true, Bool.and_eq_false_iff, Bool.or_eq_false_iff, Bool.not_true, Bool.not_false] at h7)
            refine WO.qT rfl (Y.move (v := .slice _ _ _) rfl) ?_
            refine WO.qT rfl (Y.move (v := .slice _ _ _) rfl) ?_
            refine WO.eT rfl (O.call cf_14 rfl (EqIntsN_spec _ _ _ _ _ _ _ (S.rd 2 rfl) (S.rd 0 rfl) (by omega)) ?_)
            rintro _ w ⟨rfl, E⟩
            replace S := S.keep E
            refine ⟨_, rfl, ?_⟩
            refine WO.qT rfl (Y.not rfl) ?_
            refine WO.q (Y.pickF (u := .bool _) rfl rfl) ?_
            refine WO.q (Y.move (v := .bool _) rfl) ?_
            refine WO.splitB (fun h8 => ?_) (fun h8 => ?_)
            · (try simp only [decide_eq_true_eq, decide_eq_false_iff_not, Bool.not_eq_true', Bool.not_eq_false', Bool.and_eq_true, Bool.or_eq_true, Bool.and_eq_false_iff, Bool.or_eq_false_iff, Bool.not_true, Bool.not_false] at h8)
              refine WO.qF rfl ?_
              refine WO.qF rfl ?_
              refine WO.qF rfl ?_
              refine WO.qF rfl ?_
              refine WO.q (Y.pickT (u := .bool _) rfl rfl) ?_
              refine WO.q (Y.move (v := .bool _) rfl) ?_
              refine WO.qF rfl ?_
              refine WO.qF rfl ?_
              refine WO.qF rfl ?_
              refine WO.qF rfl ?_
              refine WO.q (Y.pickT (u := .bool _) rfl rfl) ?_
              refine WO.q (Y.move (v := .bool _) rfl) ?_
              refine WO.qF rfl ?_
              refine WO.qF rfl ?_
              refine WO.qF rfl ?_
              refine WO.q (Y.pickT (u := .bool _) rfl rfl) ?_
              refine WO.nil ?_
              refine Then.nx ?_
              first | refine W.condT rfl ?_ | refine W.condT (congrArg Value.bool (by assumption)) ?_
              refine W.seq ?_
              refine W.region rfl ?_
              refine WO.q (Y.assign (v := .bool _) rfl) ?_
              refine WO.nil ?_
              refine Then.nx ?_
              refine W.ret ?_
              refine Then.r ?_
              refine BodyQ.ret1 Tryd.results3 (ResV.tmp _ rfl) ?_
              first | exact ⟨rfl, S.ext⟩ | contradiction | (exfalso; omega) | (exfalso; simp_all; done)
            · (try simp only [decide_eq_true_eq, decide_eq_false_iff_not, Bool.not_eq_true', Bool.not_eq_false', Bool.and_eq_true, Bool.or_eq_true, Bool.and_eq_false_iff, Bool.or_eq_false_iff, Bool.not_true, Bool.not_false] at h8)
              refine WO.qT rfl (Y.move (v := .slice _ _ _) rfl) ?_
              refine WO.qT rfl (Y.move (v := .slice _ _ _) rfl) ?_
              refine WO.eT rfl (O.call cf_14 rfl (EqIntsN_spec _ _ _ _ _ _ _ (S.rd 1 rfl) (S.rd 0 rfl) (by omega)) ?_)
              rintro _ w ⟨rfl, E⟩
              replace S := S.keep E
              refine ⟨_, rfl, ?_⟩
              refine WO.qT rfl (Y.not rfl) ?_
              refine WO.q (Y.pickF (u := .bool _) rfl rfl) ?_
              refine WO.q (Y.move (v := .bool _) rfl) ?_
              refine WO.splitB (fun h9 => ?_) (fun h9 => ?_)
              · (try simp only [decide_eq_true_eq, decide_eq_false_iff_not, Bool.not_eq_true', Bool.not_eq_false', Bool.and_eq_true, Bool.or_eq_true, Bool.and_eq_false_iff, Bool.or_eq_false_iff, Bool.not_true, Bool.not_false] at h9)
                refine WO.qF rfl ?_
                refine WO.qF rfl ?_
                refine WO.qF rfl ?_
                refine WO.qF rfl ?_
                refine WO.q (Y.pickT (u := .bool _) rfl rfl) ?_
                refine WO.q (Y.move (v := .bool _) rfl) ?_
                refine WO.qF rfl ?_
                refine WO.qF rfl ?_
                refine WO.qF rfl ?_
                refine WO.q (Y.pickT (u := .bool _) rfl rfl) ?_
                refine WO.nil ?_
                refine Then.nx ?_
                first | refine W.condT rfl ?_ | refine W.condT (congrArg Value.bool (by assumption)) ?_
                refine W.seq ?_
                refine W.region rfl ?_
                refine WO.q (Y.assign (v := .bool _) rfl) ?_
                refine WO.nil ?_
                refine Then.nx ?_
                refine W.ret ?_
                refine Then.r ?_
                refine BodyQ.ret1 Tryd.results3 (ResV.tmp _ rfl) ?_
                first | exact ⟨rfl, S.ext⟩ | contradiction | (exfalso; omega) | (exfalso; simp_all; done)
              · (try simp only [decide_eq_true_eq, decide_eq_false_iff_not, Bool.not_eq_true', Bool.not_eq_false', Bool.and_eq_true, Bool.or_eq_true, Bool.and_eq_false_iff, Bool.or_eq_false_iff, Bool.not_true, Bool.not_false] at h9)
                refine WO.qT rfl (Y.move (v := .slice _ _ _) rfl) ?_
                refine WO.qT rfl (Y.move (v := .slice _ _ _) rfl) ?_
                refine WO.eT rfl (O.call cf_15 rfl (EqCalls_spec _ _ _ _ _ h h (S.rd 3 rfl).pre (R1.ext S.ext) hlm) ?_)
                rintro _ w ⟨rfl, E⟩
                replace S := S.keep E
                refine ⟨_, rfl, ?_⟩
                refine WO.qT rfl (Y.not rfl) ?_
                refine WO.q (Y.pickF (u := .bool _) rfl rfl) ?_
                refine WO.q (Y.move (v := .bool _) rfl) ?_
                refine WO.splitB (fun h10 => ?_) (fun h10 => ?_)
                · (try simp only [decide_eq_true_eq, decide_eq_false_iff_not, Bool.not_eq_true', Bool.not_eq_false', Bool.and_eq_true, Bool.or_eq_true, Bool.and_eq_false_iff, Bool.or_eq_false_iff, Bool.not_true, Bool.not_false] at h10)
                  refine WO.qF rfl ?_
                  refine WO.qF rfl ?_
                  refine WO.qF rfl ?_
                  refine WO.q (Y.pickT (u := .bool _) rfl rfl) ?_
                  refine WO.nil ?_
                  refine Then.nx ?_
                  first | refine W.condT rfl ?_ | refine W.condT (congrArg Value.bool (by assumption)) ?_
                  refine W.seq ?_
                  refine W.region rfl ?_
                  refine WO.q (Y.assign (v := .bool _) rfl) ?_
                  refine WO.nil ?_
                  refine Then.nx ?_
                  refine W.ret ?_
                  refine Then.r ?_
                  refine BodyQ.ret1 Tryd.results3 (ResV.tmp _ rfl) ?_
                  first | exact ⟨rfl, S.ext⟩ | contradiction | (exfalso; omega) | (exfalso; simp_all; done)
                · (try simp only [decide_eq_true_eq, decide_eq_false_iff_not, Bool.not_eq_true', Bool.not_eq_false', Bool.and_eq_true, Bool.or_eq_true, Bool.and_eq_false_iff, Bool.or_eq_false_iff, Bool.not_true, Bool.not_false] at h10)
                  refine WO.qT rfl (Y.move (v := .slice _ _ _) rfl) ?_
                  refine WO.eT rfl (O.call cf_16 rfl (SpareCalls_spec _ _ h (S.rd 3 rfl) hL) ?_)
                  rintro _ w ⟨rfl, E⟩
                  replace S := S.keep E
                  refine ⟨_, rfl, ?_⟩
                  refine WO.qT rfl (Y.not rfl) ?_
                  refine WO.q (Y.pickF (u := .bool _) rfl rfl) ?_
                  refine WO.nil ?_
                  refine Then.nx ?_
                  refine W.cond rfl (fun h11 => ?_) (fun h11 => ?_) -- cond 1
                  · have rh11 := h11
                    (try simp only [decide_eq_true_eq, decide_eq_false_iff_not, Bool.not_eq_true', Bool.not_eq_false', Bool.and_eq_true, Bool.or_eq_true, Bool.and_eq_false_iff, Bool.or_eq_false_iff, Bool.not_true, Bool.not_false] at h11)
                    refine W.seq ?_
                    refine W.region rfl ?_
                    refine WO.q (Y.assign (v := .bool _) rfl) ?_
                    refine WO.nil ?_
                    refine Then.nx ?_
                    refine W.ret ?_
                    refine Then.r ?_
                    refine BodyQ.ret1 Tryd.results3 (ResV.tmp _ rfl) ?_
                    first | exact ⟨rfl, S.ext⟩ | contradiction | (exfalso; omega) | (exfalso; simp_all; done)
                  · have rh11 := h11
                    (try simp only [decide_eq_true_eq, decide_eq_false_iff_not, Bool.not_eq_true', Bool.not_eq_false', Bool.and_eq_true, Bool.or_eq_true, Bool.and_eq_false_iff, Bool.or_eq_false_iff, Bool.not_true, Bool.not_false] at h11)
                    refine W.skip ?_
                    refine Then.nx ?_
                    refine W.seq ?_
                    refine W.region rfl ?_
                    refine WO.q (Y.build rfl (bld_50_)) ?_
                    refine WO.e (O.box rfl rfl S (fun b95 w S => ?_))
                    first | refine WO.q (Y.assign (v := .pointer (some _)) rfl) ?_ | refine WO.q (Y.assign (v := .pointer _) rfl) ?_
                    refine WO.nil ?_
                    refine Then.nx ?_
                    refine W.seq ?_
                    replace S : Sat w0 w [Cel b95 [.slice none 0 0, .slice none 0 0, .slice none 0 0, .slice none 0 0, .slice none 0 0, .slice none 0 0, .slice none 0 0, .slice none 0 0, .slice none 0 0, .slice none 0 0, .slice none 0 0, .slice none 0 0, .slice none 0 0, .slice none 0 0] 50, Own tSl 27 none 0 [], Own tN 3 a7 c7 (linR k h), Own tN 3 a6 c6 (linR k h), Own tN 3 a5 c5 (linR k h), Own tCall 58 a4 (h.length + 64) (h ++ mks (mkCalls 9) h.length 64)] := (S.nilOwn tSl 27).pk (.cons 1 rfl (.cons 0 rfl (.refl _)))
                    refine W.region rfl ?_
                    first | refine WO.q (Y.move (v := .pointer (some _)) rfl) ?_ | refine WO.q (Y.move (v := .pointer _) rfl) ?_
                    refine WO.q (Y.move (v := .slice _ _ _) rfl) ?_
                    refine WO.e (O.call cf_17 rfl (AddInts_spec w0 _ b95 [.slice none 0 0, .slice none 0 0, .slice none 0 0, .slice none 0 0, .slice none 0 0, .slice none 0 0, .slice none 0 0, .slice none 0 0, .slice none 0 0, .slice none 0 0, .slice none 0 0, .slice none 0 0, .slice none 0 0, .slice none 0 0] none 0 [] a5 (linR k h).length c5 _ rfl (by decide) S) ?_)
                    rintro _ w ⟨g1, gc1, rfl, S⟩
                    refine ⟨_, rfl, ?_⟩
                    refine WO.nil ?_
                    refine Then.nx ?_
                    refine W.seq ?_
                    refine W.region rfl ?_
                    first | refine WO.q (Y.move (v := .pointer (some _)) rfl) ?_ | refine WO.q (Y.move (v := .pointer _) rfl) ?_
                    refine WO.q (Y.move (v := .slice _ _ _) rfl) ?_
                    refine WO.e (O.call cf_17 rfl (AddInts_spec w0 _ b95 _ g1 gc1 [((a5, (linR k h).length, c5) : SlV)] a6 (linR k h).length c6 _ rfl (by simp) S) ?_)
                    rintro _ w ⟨g2, gc2, rfl, S⟩
                    refine ⟨_, rfl, ?_⟩
                    refine WO.nil ?_
                    refine Then.nx ?_
                    refine W.seq ?_
                    replace S := S.pk (.cons 4 rfl (.cons 3 rfl (.refl _)))
                    rw [own_tN, own_tN] at S
                    replace S := (S.rows2 (n1 := (linR k h).length) (n2 := (linR k h).length)).pk (.cons 1 rfl (.cons 1 rfl (.refl _)))
                    have hN : ∀ j, j < 2 → (([((a5, (linR k h).length, c5) : SlV), ((a6, (linR k h).length, c6) : SlV)]).getD j sl0).2.1 = (linR k h).length ∧ ((fun j => if j = 0 then (linR k h).map (fun x : Nat => (x : Int)) else (linR k h).map (fun x : Nat => (x : Int))) j).length = (linR k h).length ∧ (linR k h).length ≤ 1048576 := fun j hj => (by (rcases (show j = 0 ∨ j = 1 by omega) with rfl | rfl <;> exact ⟨rfl, by simp, by omega⟩))
                    refine W.region rfl ?_
                    first | refine WO.q (Y.move (v := .pointer (some _)) rfl) ?_ | refine WO.q (Y.move (v := .pointer _) rfl) ?_
                    refine WO.e (O.call cf_18 rfl (Apart_Ints_spec w0 _ b95 _ _ g2 gc2 [((a5, (linR k h).length, c5) : SlV), ((a6, (linR k h).length, c6) : SlV)] (fun _ => (linR k h).length) _ rfl (by simp) hN rfl rfl rfl rfl rfl rfl rfl rfl rfl rfl rfl rfl rfl S) ?_)
                    rintro _ w ⟨rfl, S⟩
                    refine ⟨_, rfl, ?_⟩
                    refine WO.q (Y.move (v := .bool _) rfl) ?_
                    refine WO.splitB (fun h12 => ?_) (fun h12 => ?_)
                    · (try simp only [decide_eq_true_eq, decide_eq_false_iff_not, Bool.not_eq_true', Bool.not_eq_false', Bool.and_eq_true, Bool.or_eq_true, Bool.and_eq_false_iff, Bool.or_eq_false_iff, Bool.not_true, Bool.not_false] at h12)
                      refine WO.qT rfl (Y.move (v := .slice _ _ _) rfl) ?_
                      refine WO.qT rfl (Y.move (v := .slice _ _ _) rfl) ?_
                      refine WO.eT rfl (O.call cf_15 rfl (EqCalls_spec _ _ _ _ _ h h (S.rd 2 rfl).pre (R1.ext S.ext) hlm) ?_)
                      rintro _ w ⟨rfl, E⟩
                      replace S := S.keep E
                      refine ⟨_, rfl, ?_⟩
                      refine WO.q (Y.pickT (u := .bool _) rfl rfl) ?_
                      refine WO.q (Y.move (v := .bool _) rfl) ?_
                      refine WO.splitB (fun h13 => ?_) (fun h13 => ?_)
                      · (try simp only [decide_eq_true_eq, decide_eq_false_iff_not, Bool.not_eq_true', Bool.not_eq_false', Bool.and_eq_true, Bool.or_eq_true, Bool.and_eq_false_iff, Bool.or_eq_false_iff, Bool.not_true, Bool.not_false] at h13)
                        refine WO.eT rfl (O.call cf_10 rfl (lives_spec _ (Lib.tabBelow_of_tabIs htab _ S.ext)) ?_)
                        rintro _ w ⟨rfl, E⟩
                        replace S := S.keep E
                        refine ⟨_, rfl, ?_⟩
                        refine WO.q (Y.pickT (u := .bool _) rfl rfl) ?_
                        refine WO.q (Y.assign (v := .bool _) rfl) ?_
                        refine WO.nil ?_
                        refine Then.nx ?_
                        refine W.ret ?_
                        refine BodyQ.ret1 Tryd.results3 (ResV.tmp _ rfl) ?_
                        first | exact ⟨rfl, S.ext⟩ | contradiction | (exfalso; omega) | (exfalso; simp_all; done)
                      · (try simp only [decide_eq_true_eq, decide_eq_false_iff_not, Bool.not_eq_true', Bool.not_eq_false', Bool.and_eq_true, Bool.or_eq_true, Bool.and_eq_false_iff, Bool.or_eq_false_iff, Bool.not_true, Bool.not_false] at h13)
                        refine WO.qF rfl ?_
                        refine WO.q (Y.pickF (u := .bool _) rfl rfl) ?_
                        refine WO.q (Y.assign (v := .bool _) rfl) ?_
                        refine WO.nil ?_
                        refine Then.nx ?_
                        refine W.ret ?_
                        refine BodyQ.ret1 Tryd.results3 (ResV.tmp _ rfl) ?_
                        first | exact ⟨rfl, S.ext⟩ | contradiction | (exfalso; omega) | (exfalso; simp_all; done)
                    · (try simp only [decide_eq_true_eq, decide_eq_false_iff_not, Bool.not_eq_true', Bool.not_eq_false', Bool.and_eq_true, Bool.or_eq_true, Bool.and_eq_false_iff, Bool.or_eq_false_iff, Bool.not_true, Bool.not_false] at h12)
                      refine WO.qF rfl ?_
                      refine WO.qF rfl ?_
                      refine WO.qF rfl ?_
                      refine WO.q (Y.pickF (u := .bool _) rfl rfl) ?_
                      refine WO.q (Y.move (v := .bool _) rfl) ?_
                      refine WO.qF rfl ?_
                      refine WO.q (Y.pickF (u := .bool _) rfl rfl) ?_
                      refine WO.q (Y.assign (v := .bool _) rfl) ?_
                      refine WO.nil ?_
                      refine Then.nx ?_
                      refine W.ret ?_
                      refine BodyQ.ret1 Tryd.results3 (ResV.tmp _ rfl) ?_
                      first | exact ⟨rfl, S.ext⟩ | contradiction | (exfalso; omega) | (exfalso; simp_all; done)
end Go.Proofs
