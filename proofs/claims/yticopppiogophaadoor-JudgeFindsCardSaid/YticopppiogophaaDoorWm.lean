/-
  Walks of JudgeFinds.
-/
import Derived.Test.YticopppiogophaaDoorTp
import Derived.Test.YticopppiogophaaDoorTo
import Derived.Test.YticopppiogophaaDoorTh
import Derived.Test.YticopppiogophaaDoorSx
import Derived.Test.YticopppiogophaaDoorWl
set_option linter.unusedVariables false
set_option linter.unusedSimpArgs false
set_option maxRecDepth 100000
set_option maxHeartbeats 1000000
namespace Go.Proofs
open Go Go.TL Go.RowKit
theorem cf_19 : CallF Tryd.prog 19 := fun args w => by kernel_rfl
theorem cf_20 : CallF Tryd.prog 20 := fun args w => by kernel_rfl
theorem cf_21 : CallF Tryd.prog 21 := fun args w => by kernel_rfl
theorem sl_53 : SlT Tryd.prog 53 5 1 1 := SlT.ofB (by kernel_rfl)
theorem sz_5 : SzT Tryd.prog 5 1 false := fun w => ⟨by kernel_rfl, by kernel_rfl⟩
theorem bs_22_1_0 {n1 : Int} {n2 : Int} {n3 : Int} {n4 : Int} {b5 : Bool} {n6 : Int} {n7 : Int} (w : World) : (Instr.buildSlice 22 1 [(0, .agg #[.int .i8 n1, .int .i64 n2, .int .i64 n3, .int .i64 n4, .bool b5, .int .i64 n6, .int .i64 n7])].toArray).run Tryd.prog w = .ok (.slice (some ⟨w.heap.size, 0, none⟩) 1 1) (w.alloc (.cells [.int .i8 n1, .int .i64 n2, .int .i64 n3, .int .i64 n4, .bool b5, .int .i64 n6, .int .i64 n7].toArray 58 (0, 0))) := by kernel_rfl
theorem cf_22 : CallF Tryd.prog 22 := fun args w => by kernel_rfl
theorem z_62 : ZeroT Tryd.prog 62 (.agg ([.bool false, .bool false, .bool false, .bool false, .bool false, .bool false, .bool false, .bool false, .bool false, .bool false, .bool false, .bool false]).toArray) ([.bool false, .bool false, .bool false, .bool false, .bool false, .bool false, .bool false, .bool false, .bool false, .bool false, .bool false, .bool false]) := ⟨fun w => by kernel_rfl, by kernel_rfl⟩
theorem ar_62 : ArT Tryd.prog 62 12 4 1 := ⟨by kernel_rfl, fun w => by kernel_rfl⟩
theorem JudgeFinds_spec (w0 : World) (htab : Lib.TabIs Tryd.prog w0 "internal/strconv.uint64pow10" .u64 Lib.pow10Tab) (k : Int) (a ae al : Option Addr) (c ce cl : Nat) (sc : List GCall) (ea la : List UInt8) (R1 : Rd tCall w0 a sc) (R2 : Rd tU w0 ae ea) (R3 : Rd tU w0 al la) (hx : sc.length ≤ 9223372036854775807) (hx2 : ea.length ≤ 9223372036854775807) (hx3 : la.length ≤ 9223372036854775807) (hI : ∀ c ∈ sc, I64 c.arg ∧ I64 c.new) :
    Calls Tryd.prog 4 [.int .i64 k, .slice a sc.length c, .slice ae ea.length ce, .slice al la.length cl].toArray w0 (fun e w => e = .returned (.bool true) ∧ Ext w0 w) := by
  have S := Sat.refl w0
  refine calls_of_W (args := [.int .i64 k, .slice a sc.length c, .slice ae ea.length ce, .slice al la.length cl]) 185 Tryd.func4 rfl Tryd.ntmps4 rfl ?_
  refine W.seq ?_
  refine W.region rfl ?_
  refine WO.q (Y.assign (v := .bool _) rfl) ?_
  refine WO.nil ?_
  refine Then.nx ?_
  refine W.seq ?_
  refine W.seq ?_
  refine W.region rfl ?_
  refine WO.q (Y.move (v := .int .i64 _) rfl) ?_
  refine WO.q (Y.lss rfl rfl) ?_
  refine WO.q (Y.move (v := .bool _) rfl) ?_
  refine WO.splitB (fun h1 => ?_) (fun h1 => ?_)
  · (try simp only [decide_eq_true_eq, decide_eq_false_iff_not, Bool.not_eq_true', Bool.not_eq_false', Bool.and_eq_true, Bool.or_eq_true, Bool.and_eq_false_iff, Bool.or_eq_false_iff, Bool.not_true, Bool.not_false] at h1)
    refine WO.qF rfl ?_
    refine WO.qF rfl ?_
    refine WO.q (Y.pickT (u := .bool _) rfl rfl) ?_
    refine WO.q (Y.move (v := .bool _) rfl) ?_
    refine WO.qF rfl ?_
    refine WO.qF rfl ?_
    refine WO.qF rfl ?_
    refine WO.q (Y.pickT (u := .bool _) rfl rfl) ?_
    refine WO.q (Y.move (v := .bool _) rfl) ?_
    refine WO.qF rfl ?_
    refine WO.qF rfl ?_
    refine WO.qF rfl ?_
    refine WO.qF rfl ?_
    refine WO.qF rfl ?_
    refine WO.q (Y.pickT (u := .bool _) rfl rfl) ?_
    refine WO.q (Y.move (v := .bool _) rfl) ?_
    refine WO.qF rfl ?_
    refine WO.qF rfl ?_
    refine WO.qF rfl ?_
    refine WO.qF rfl ?_
    refine WO.qF rfl ?_
    refine WO.q (Y.pickT (u := .bool _) rfl rfl) ?_
    refine WO.nil ?_
    refine Then.nx ?_
    first | refine W.condT rfl ?_ | refine W.condT (congrArg Value.bool (by assumption)) ?_
    refine W.seq ?_
    refine W.region rfl ?_
    refine WO.e (O.call cf_10 rfl (lives_spec _ (Lib.tabBelow_of_tabIs htab _ S.ext)) ?_)
    rintro _ w ⟨rfl, E⟩
    replace S := S.keep E
    refine ⟨_, rfl, ?_⟩
    refine WO.q (Y.assign (v := .bool _) rfl) ?_
    refine WO.nil ?_
    refine Then.nx ?_
    refine W.ret ?_
    refine Then.r ?_
    refine BodyQ.ret1 Tryd.results4 (ResV.tmp _ rfl) ?_
    first | exact ⟨rfl, S.ext⟩ | (exfalso; omega) | contradiction | (exfalso; exact hlt m z hz1 (fun h => absurd ((bitN_or d n m).2 (.inl h)) (by assumption)) (by assumption)) | (exfalso; simp_all; done)
  · (try simp only [decide_eq_true_eq, decide_eq_false_iff_not, Bool.not_eq_true', Bool.not_eq_false', Bool.and_eq_true, Bool.or_eq_true, Bool.and_eq_false_iff, Bool.or_eq_false_iff, Bool.not_true, Bool.not_false] at h1)
    refine WO.qT rfl (Y.move (v := .int .i64 _) rfl) ?_
    refine WO.qT rfl (Y.gtr rfl rfl) ?_
    refine WO.q (Y.pickF (u := .bool _) rfl rfl) ?_
    refine WO.q (Y.move (v := .bool _) rfl) ?_
    refine WO.splitB (fun h2 => ?_) (fun h2 => ?_)
    · (try simp only [decide_eq_true_eq, decide_eq_false_iff_not, Bool.not_eq_true', Bool.not_eq_false', Bool.and_eq_true, Bool.or_eq_true, Bool.and_eq_false_iff, Bool.or_eq_false_iff, Bool.not_true, Bool.not_false] at h2)
      refine WO.qF rfl ?_
      refine WO.qF rfl ?_
      refine WO.qF rfl ?_
      refine WO.q (Y.pickT (u := .bool _) rfl rfl) ?_
      refine WO.q (Y.move (v := .bool _) rfl) ?_
      refine WO.qF rfl ?_
      refine WO.qF rfl ?_
      refine WO.qF rfl ?_
      refine WO.qF rfl ?_
      refine WO.qF rfl ?_
      refine WO.q (Y.pickT (u := .bool _) rfl rfl) ?_
      refine WO.q (Y.move (v := .bool _) rfl) ?_
      refine WO.qF rfl ?_
      refine WO.qF rfl ?_
      refine WO.qF rfl ?_
      refine WO.qF rfl ?_
      refine WO.qF rfl ?_
      refine WO.q (Y.pickT (u := .bool _) rfl rfl) ?_
      refine WO.nil ?_
      refine Then.nx ?_
      first | refine W.condT rfl ?_ | refine W.condT (congrArg Value.bool (by assumption)) ?_
      refine W.seq ?_
      refine W.region rfl ?_
      refine WO.e (O.call cf_10 rfl (lives_spec _ (Lib.tabBelow_of_tabIs htab _ S.ext)) ?_)
      rintro _ w ⟨rfl, E⟩
      replace S := S.keep E
      refine ⟨_, rfl, ?_⟩
      refine WO.q (Y.assign (v := .bool _) rfl) ?_
      refine WO.nil ?_
      refine Then.nx ?_
      refine W.ret ?_
      refine Then.r ?_
      refine BodyQ.ret1 Tryd.results4 (ResV.tmp _ rfl) ?_
      first | exact ⟨rfl, S.ext⟩ | (exfalso; omega) | contradiction | (exfalso; exact hlt m z hz1 (fun h => absurd ((bitN_or d n m).2 (.inl h)) (by assumption)) (by assumption)) | (exfalso; simp_all; done)
    · (try simp only [decide_eq_true_eq, decide_eq_false_iff_not, Bool.not_eq_true', Bool.not_eq_false', Bool.and_eq_true, Bool.or_eq_true, Bool.and_eq_false_iff, Bool.or_eq_false_iff, Bool.not_true, Bool.not_false] at h2)
      refine WO.qT rfl (Y.move (v := .slice _ _ _) rfl) ?_
      refine WO.qT rfl (Y.len (t' := 0) Tryd.underlying22 rfl) ?_
      refine WO.qT rfl (Y.gtr rfl rfl) ?_
      refine WO.q (Y.pickF (u := .bool _) rfl rfl) ?_
      refine WO.q (Y.move (v := .bool _) rfl) ?_
      refine WO.splitB (fun h3 => ?_) (fun h3 => ?_)
      · (try simp only [decide_eq_true_eq, decide_eq_false_iff_not, Bool.not_eq_true', Bool.not_eq_false', Bool.and_eq_true, Bool.or_eq_true, Bool.and_eq_false_iff, Bool.or_eq_false_iff, Bool.not_true, Bool.not_false] at h3)
        refine WO.qF rfl ?_
        refine WO.qF rfl ?_
        refine WO.qF rfl ?_
        refine WO.qF rfl ?_
        refine WO.qF rfl ?_
        refine WO.q (Y.pickT (u := .bool _) rfl rfl) ?_
        refine WO.q (Y.move (v := .bool _) rfl) ?_
        refine WO.qF rfl ?_
        refine WO.qF rfl ?_
        refine WO.qF rfl ?_
        refine WO.qF rfl ?_
        refine WO.qF rfl ?_
        refine WO.q (Y.pickT (u := .bool _) rfl rfl) ?_
        refine WO.nil ?_
        refine Then.nx ?_
        first | refine W.condT rfl ?_ | refine W.condT (congrArg Value.bool (by assumption)) ?_
        refine W.seq ?_
        refine W.region rfl ?_
        refine WO.e (O.call cf_10 rfl (lives_spec _ (Lib.tabBelow_of_tabIs htab _ S.ext)) ?_)
        rintro _ w ⟨rfl, E⟩
        replace S := S.keep E
        refine ⟨_, rfl, ?_⟩
        refine WO.q (Y.assign (v := .bool _) rfl) ?_
        refine WO.nil ?_
        refine Then.nx ?_
        refine W.ret ?_
        refine Then.r ?_
        refine BodyQ.ret1 Tryd.results4 (ResV.tmp _ rfl) ?_
        first | exact ⟨rfl, S.ext⟩ | (exfalso; omega) | contradiction | (exfalso; exact hlt m z hz1 (fun h => absurd ((bitN_or d n m).2 (.inl h)) (by assumption)) (by assumption)) | (exfalso; simp_all; done)
      · (try simp only [decide_eq_true_eq, decide_eq_false_iff_not, Bool.not_eq_true', Bool.not_eq_false', Bool.and_eq_true, Bool.or_eq_true, Bool.and_eq_false_iff, Bool.or_eq_false_iff, Bool.not_true, Bool.not_false] at h3)
        refine WO.qT rfl (Y.move (v := .slice _ _ _) rfl) ?_
        refine WO.qT rfl (Y.len (t' := 0) Tryd.underlying53 rfl) ?_
        refine WO.qT rfl (Y.move (v := .slice _ _ _) rfl) ?_
        refine WO.qT rfl (Y.len (t' := 0) Tryd.underlying22 rfl) ?_
        refine WO.qT rfl (Y.lss rfl rfl) ?_
        refine WO.q (Y.pickF (u := .bool _) rfl rfl) ?_
        refine WO.q (Y.move (v := .bool _) rfl) ?_
        refine WO.splitB (fun h4 => ?_) (fun h4 => ?_)
        · (try simp only [decide_eq_true_eq, decide_eq_false_iff_not, Bool.not_eq_true', Bool.not_eq_false', Bool.and_eq_true, Bool.or_eq_true, Bool.and_eq_false_iff, Bool.or_eq_false_iff, Bool.not_true, Bool.not_false] at h4)
          refine WO.qF rfl ?_
          refine WO.qF rfl ?_
          refine WO.qF rfl ?_
          refine WO.qF rfl ?_
          refine WO.qF rfl ?_
          refine WO.q (Y.pickT (u := .bool _) rfl rfl) ?_
          refine WO.nil ?_
          refine Then.nx ?_
          first | refine W.condT rfl ?_ | refine W.condT (congrArg Value.bool (by assumption)) ?_
          refine W.seq ?_
          refine W.region rfl ?_
          refine WO.e (O.call cf_10 rfl (lives_spec _ (Lib.tabBelow_of_tabIs htab _ S.ext)) ?_)
          rintro _ w ⟨rfl, E⟩
          replace S := S.keep E
          refine ⟨_, rfl, ?_⟩
          refine WO.q (Y.assign (v := .bool _) rfl) ?_
          refine WO.nil ?_
          refine Then.nx ?_
          refine W.ret ?_
          refine Then.r ?_
          refine BodyQ.ret1 Tryd.results4 (ResV.tmp _ rfl) ?_
          first | exact ⟨rfl, S.ext⟩ | (exfalso; omega) | contradiction | (exfalso; exact hlt m z hz1 (fun h => absurd ((bitN_or d n m).2 (.inl h)) (by assumption)) (by assumption)) | (exfalso; simp_all; done)
        · (try simp only [decide_eq_true_eq, decide_eq_false_iff_not, Bool.not_eq_true', Bool.not_eq_false', Bool.and_eq_true, Bool.or_eq_true, Bool.and_eq_false_iff, Bool.or_eq_false_iff, Bool.not_true, Bool.not_false] at h4)
          refine WO.qT rfl (Y.move (v := .slice _ _ _) rfl) ?_
          refine WO.qT rfl (Y.len (t' := 0) Tryd.underlying53 rfl) ?_
          refine WO.qT rfl (Y.move (v := .slice _ _ _) rfl) ?_
          refine WO.qT rfl (Y.len (t' := 0) Tryd.underlying22 rfl) ?_
          refine WO.qT rfl (Y.lss rfl rfl) ?_
          refine WO.q (Y.pickF (u := .bool _) rfl rfl) ?_
          refine WO.nil ?_
          refine Then.nx ?_
          refine W.cond rfl (fun h5 => ?_) (fun h5 => ?_) -- cond 0
          · have rh5 := h5
            (try simp only [decide_eq_true_eq, decide_eq_false_iff_not, Bool.not_eq_true', Bool.not_eq_false', Bool.and_eq_true, Bool.or_eq_true, Bool.and_eq_false_iff, Bool.or_eq_false_iff, Bool.not_true, Bool.not_false] at h5)
            refine W.seq ?_
            refine W.region rfl ?_
            refine WO.e (O.call cf_10 rfl (lives_spec _ (Lib.tabBelow_of_tabIs htab _ S.ext)) ?_)
            rintro _ w ⟨rfl, E⟩
            replace S := S.keep E
            refine ⟨_, rfl, ?_⟩
            refine WO.q (Y.assign (v := .bool _) rfl) ?_
            refine WO.nil ?_
            refine Then.nx ?_
            refine W.ret ?_
            refine Then.r ?_
            refine BodyQ.ret1 Tryd.results4 (ResV.tmp _ rfl) ?_
            first | exact ⟨rfl, S.ext⟩ | (exfalso; omega) | contradiction | (exfalso; exact hlt m z hz1 (fun h => absurd ((bitN_or d n m).2 (.inl h)) (by assumption)) (by assumption)) | (exfalso; simp_all; done)
          · have rh5 := h5
            (try simp only [decide_eq_true_eq, decide_eq_false_iff_not, Bool.not_eq_true', Bool.not_eq_false', Bool.and_eq_true, Bool.or_eq_true, Bool.and_eq_false_iff, Bool.or_eq_false_iff, Bool.not_true, Bool.not_false] at h5)
            refine W.skip ?_
            refine Then.nx ?_
            refine W.seq ?_
            have hk4 : 1 ≤ k ∧ k ≤ 4 := by omega
            refine W.region rfl ?_
            refine WO.q (Y.move (v := .int .i64 _) rfl) ?_
            refine WO.e (O.call cf_19 rfl (begin_spec _ k hk4) ?_)
            rintro _ w ⟨a6, c6, rfl, S2⟩
            replace S := S.trans S2
            refine ⟨_, rfl, ?_⟩
            refine WO.q (Y.assign (v := .slice _ _ _) rfl) ?_
            refine WO.nil ?_
            refine Then.nx ?_
            refine W.seq ?_
            refine W.region rfl ?_
            refine WO.q (Y.assign (v := .slice _ _ _) rfl) ?_
            replace S := S.nilOwn tCall 58
            refine WO.nil ?_
            refine Then.nx ?_
            refine W.seq ?_
            refine W.seq ?_
            refine W.region rfl ?_
            refine WO.q (Y.assign (v := .int .i64 _) rfl) ?_
            refine WO.nil ?_
            refine Then.nx ?_
            refine W.block ?_
            -- loop 0 carries 9:now, 10:h, 11:i
            refine W.loop3 [9, 10, 11, 12, 49, 50, 51, 52, 53, 54, 55, 56, 57, 58, 59, 60, 61, 62, 63, 64, 65, 66, 67, 68, 69, 70, 71, 72, 73, 74, 75, 76, 77, 78, 79, 80, 81, 82, 83, 84, 85, 86, 87, 88, 89, 90, 91, 92, 93, 94, 95] 9 10 11 (fun v9 v10 v11 w => ∃ (i : Nat) (ah : Option Addr) (ch : Nat) (an : Option Addr) (cn : Nat), v11 = .int .i64 (i : Int) ∧ i ≤ sc.length ∧ v10 = .slice ah (hist k sc ea la i).length ch ∧ v9 = .slice an (hsAt k sc i).length cn ∧ Sat w0 w [Sub 2 an cn (hsAt k sc i), Own tCall 58 ah ch (hist k sc ea la i)]) (fun v9 v10 v11 w => sc.length - (intOf v11).toNat) ?_ ?_
            · exact ⟨0, none, 0, _, _, rfl, by omega, rfl, rfl, S.pk (.cons 1 rfl (.cons 0 rfl (.nil _)))⟩
            · rintro g0 v9 v10 v11 w ⟨i, ah, ch, an, cn, rfl, hi, rfl, rfl, S⟩
              refine W.seq ?_
              refine W.seq ?_
              refine W.region rfl ?_
              refine WO.q (Y.move (v := .int .i64 _) rfl) ?_
              refine WO.q (Y.move (v := .slice _ _ _) rfl) ?_
              refine WO.q (Y.len (t' := 0) Tryd.underlying22 rfl) ?_
              refine WO.q (Y.lss rfl rfl) ?_
              refine WO.nil ?_
              refine Then.nx ?_
              refine W.cond rfl (fun h6 => ?_) (fun h6 => ?_) -- cond 1
              · have rh6 := h6
                (try simp only [decide_eq_true_eq, decide_eq_false_iff_not, Bool.not_eq_true', Bool.not_eq_false', Bool.and_eq_true, Bool.or_eq_true, Bool.and_eq_false_iff, Bool.or_eq_false_iff, Bool.not_true, Bool.not_false] at h6)
                obtain ⟨x, hx1⟩ := at_ex (xs := sc) (k := i) (by omega)
                obtain ⟨y1, hy1⟩ := at_ex (xs := ea) (k := i) (by omega)
                obtain ⟨z1, hz1⟩ := at_ex (xs := la) (k := i) (by omega)
                have ha1 := R1.1 (by omega)
                have ha2 := R2.1 (by omega)
                have ha3 := R3.1 (by omega)
                have hyb := y1.toNat_lt
                have hzb := z1.toNat_lt
                refine W.skip ?_
                refine Then.nx ?_
                refine W.seq ?_
                refine W.block ?_
                refine W.seq ?_
                refine W.region rfl ?_
                refine WO.q (Y.move (v := .int .i64 _) rfl) ?_
                refine WO.q (Y.move (v := .slice _ _ _) rfl) ?_
                refine WO.q (Y.move (v := .int .i64 _) rfl) ?_
                first | refine WO.q (Y.ixN sl_22 rfl rfl (by assumption) (by (first | assumption | omega))) ?_ | refine WO.q (Y.ix sl_22 rfl rfl (by assumption) (by (first | assumption | omega)) (by (first | assumption | omega))) ?_
                first | refine WO.q (Y.load rfl (loadRdN sz_58 (R1.ext S.ext) (by assumption))) ?_ | refine WO.q (Y.load rfl (loadRdN sz_58 (R2.ext S.ext) (by assumption))) ?_ | refine WO.q (Y.load rfl (loadRdN sz_58 (R3.ext S.ext) (by assumption))) ?_ | refine WO.q (Y.load rfl (loadRdN sz_58 (S.rd 2 rfl) (by assumption))) ?_ | refine WO.q (Y.load rfl (loadRdN sz_58 (S.rd 3 rfl) (by assumption))) ?_
                refine WO.e (O.call cf_20 rfl (tidy_spec _ k x hk4) ?_)
                rintro _ w ⟨rfl, E⟩
                replace S := S.keep E
                refine ⟨_, rfl, ?_⟩
                refine WO.e (O.alloc z_58 S (fun b12 w S => ?_))
                first | refine WO.e0 (O.store (v := .agg _) 0 S rfl rfl rfl sz_58 rfl rfl rfl rfl (fun w S => ?_)) | refine WO.e0 (O.store (v := .agg _) 1 S rfl rfl rfl sz_58 rfl rfl rfl rfl (fun w S => ?_)) | refine WO.e0 (O.store (v := .agg _) 2 S rfl rfl rfl sz_58 rfl rfl rfl rfl (fun w S => ?_)) | refine WO.e0 (O.store (v := .agg _) 3 S rfl rfl rfl sz_58 rfl rfl rfl rfl (fun w S => ?_))
                refine WO.nil ?_
                refine Then.nx ?_
                refine W.seq ?_
                refine W.region rfl ?_
                refine WO.q (Y.move (v := .int .i64 _) rfl) ?_
                refine WO.q (Y.move (v := .slice _ _ _) rfl) ?_
                first | refine WO.q (Y.load rfl (loadSN sz_58 S 0 rfl rfl rfl)) ?_ | refine WO.q (Y.load rfl (loadSN sz_58 S 1 rfl rfl rfl)) ?_ | refine WO.q (Y.load rfl (loadSN sz_58 S 2 rfl rfl rfl)) ?_ | refine WO.q (Y.load rfl (loadSN sz_58 S 3 rfl rfl rfl)) ?_
                refine WO.e (O.call cf_21 rfl (plain_spec w0 _ k an cn (hsAt k sc i) (tidyM k x) _ (S.pk (.cons 1 rfl (.refl _))) hk4 (hsAt_len i).2 (by (have := (hsAt_len (k := k) (sc := sc) i).1; omega))) ?_)
                rintro _ w ⟨a6, c6, rfl, S⟩
                refine ⟨_, rfl, ?_⟩
                refine WO.q (Y.move (v := .tuple _) rfl) ?_
                refine WO.q (Y.extract (v := .slice _ _ _) rfl rfl) ?_
                refine WO.q (Y.extract (v := .agg _) rfl rfl) ?_
                refine WO.q (Y.assign (v := .slice _ _ _) rfl) ?_
                first | refine WO.e0 (O.store (v := .agg _) 0 S rfl rfl rfl sz_58 rfl rfl rfl rfl (fun w S => ?_)) | refine WO.e0 (O.store (v := .agg _) 1 S rfl rfl rfl sz_58 rfl rfl rfl rfl (fun w S => ?_)) | refine WO.e0 (O.store (v := .agg _) 2 S rfl rfl rfl sz_58 rfl rfl rfl rfl (fun w S => ?_)) | refine WO.e0 (O.store (v := .agg _) 3 S rfl rfl rfl sz_58 rfl rfl rfl rfl (fun w S => ?_))
                refine WO.nil ?_
                refine Then.nx ?_
                refine W.seq ?_
                refine W.region rfl ?_
                refine WO.q (Y.move (v := .int .i64 _) rfl) ?_
                first | refine WO.q (Y.mulI rfl rfl (by omega)) ?_ | refine WO.q (Y.mul rfl rfl) ?_
                first | refine WO.q (Y.addI rfl rfl (by omega)) ?_ | refine WO.q (Y.add rfl rfl) ?_
                refine WO.q (Y.move (v := .slice _ _ _) rfl) ?_
                refine WO.q (Y.move (v := .int .i64 _) rfl) ?_
                first | refine WO.q (Y.ixN sl_53 rfl rfl (by assumption) (by (first | assumption | omega))) ?_ | refine WO.q (Y.ix sl_53 rfl rfl (by assumption) (by (first | assumption | omega)) (by (first | assumption | omega))) ?_
                first | refine WO.q (Y.load rfl (loadRd1 sz_5 (R1.ext S.ext) (by assumption) rfl)) ?_ | refine WO.q (Y.load rfl (loadRd1 sz_5 (R2.ext S.ext) (by assumption) rfl)) ?_ | refine WO.q (Y.load rfl (loadRd1 sz_5 (R3.ext S.ext) (by assumption) rfl)) ?_ | refine WO.q (Y.load rfl (loadRd1 sz_5 (S.rd 2 rfl) (by assumption) rfl)) ?_ | refine WO.q (Y.load rfl (loadRd1 sz_5 (S.rd 3 rfl) (by assumption) rfl)) ?_
                refine WO.q (Y.conv64 ⟨_, Tryd.underlying5⟩ Tryd.underlying3 rfl (by omega)) ?_
                refine WO.q (Y.move (v := .int .i64 _) rfl) ?_
                first | refine WO.q (Y.mulI rfl rfl (by omega)) ?_ | refine WO.q (Y.mul rfl rfl) ?_
                first | refine WO.q (Y.addI rfl rfl (by omega)) ?_ | refine WO.q (Y.add rfl rfl) ?_
                refine WO.q (Y.min2 rfl rfl) ?_
                first | refine WO.q (Y.subI rfl rfl (by omega)) ?_ | refine WO.q (Y.sub rfl rfl) ?_
                refine WO.q (Y.fieldB fo_58_5 rfl) ?_
                first | refine WO.e0 (O.store (v := .int .i64 _) 0 S rfl rfl rfl sz_3 rfl rfl rfl rfl (fun w S => ?_)) | refine WO.e0 (O.store (v := .int .i64 _) 1 S rfl rfl rfl sz_3 rfl rfl rfl rfl (fun w S => ?_)) | refine WO.e0 (O.store (v := .int .i64 _) 2 S rfl rfl rfl sz_3 rfl rfl rfl rfl (fun w S => ?_)) | refine WO.e0 (O.store (v := .int .i64 _) 3 S rfl rfl rfl sz_3 rfl rfl rfl rfl (fun w S => ?_))
                refine WO.nil ?_
                refine Then.nx ?_
                refine W.seq ?_
                refine W.region rfl ?_
                refine WO.q (Y.move (v := .int .i64 _) rfl) ?_
                first | refine WO.q (Y.mulI rfl rfl (by omega)) ?_ | refine WO.q (Y.mul rfl rfl) ?_
                first | refine WO.q (Y.addI rfl rfl (by omega)) ?_ | refine WO.q (Y.add rfl rfl) ?_
                refine WO.q (Y.move (v := .slice _ _ _) rfl) ?_
                refine WO.q (Y.move (v := .int .i64 _) rfl) ?_
                first | refine WO.q (Y.ixN sl_53 rfl rfl (by assumption) (by (first | assumption | omega))) ?_ | refine WO.q (Y.ix sl_53 rfl rfl (by assumption) (by (first | assumption | omega)) (by (first | assumption | omega))) ?_
                first | refine WO.q (Y.load rfl (loadRd1 sz_5 (R1.ext S.ext) (by assumption) rfl)) ?_ | refine WO.q (Y.load rfl (loadRd1 sz_5 (R2.ext S.ext) (by assumption) rfl)) ?_ | refine WO.q (Y.load rfl (loadRd1 sz_5 (R3.ext S.ext) (by assumption) rfl)) ?_ | refine WO.q (Y.load rfl (loadRd1 sz_5 (S.rd 2 rfl) (by assumption) rfl)) ?_ | refine WO.q (Y.load rfl (loadRd1 sz_5 (S.rd 3 rfl) (by assumption) rfl)) ?_
                refine WO.q (Y.conv64 ⟨_, Tryd.underlying5⟩ Tryd.underlying3 rfl (by omega)) ?_
                first | refine WO.q (Y.addI rfl rfl (by omega)) ?_ | refine WO.q (Y.add rfl rfl) ?_
                refine WO.q (Y.fieldB fo_58_6 rfl) ?_
                first | refine WO.e0 (O.store (v := .int .i64 _) 0 S rfl rfl rfl sz_3 rfl rfl rfl rfl (fun w S => ?_)) | refine WO.e0 (O.store (v := .int .i64 _) 1 S rfl rfl rfl sz_3 rfl rfl rfl rfl (fun w S => ?_)) | refine WO.e0 (O.store (v := .int .i64 _) 2 S rfl rfl rfl sz_3 rfl rfl rfl rfl (fun w S => ?_)) | refine WO.e0 (O.store (v := .int .i64 _) 3 S rfl rfl rfl sz_3 rfl rfl rfl rfl (fun w S => ?_))
                refine WO.nil ?_
                refine Then.nx ?_
                replace S : Sat w0 w [Sub 2 a6 c6 (doesM k (hsAt k sc i) (tidyM k x)).1, Cel b12 (tCall.enc (hAt k sc ea la i)) 58, Own tCall 58 ah ch (hist k sc ea la i)] := (by (rw [hAt_eq hx1 hy1 hz1]; exact S))
                refine W.region rfl ?_
                refine WO.q (Y.move (v := .slice _ _ _) rfl) ?_
                first | refine WO.q (Y.load rfl (loadSN sz_58 S 0 rfl rfl rfl)) ?_ | refine WO.q (Y.load rfl (loadSN sz_58 S 1 rfl rfl rfl)) ?_ | refine WO.q (Y.load rfl (loadSN sz_58 S 2 rfl rfl rfl)) ?_ | refine WO.q (Y.load rfl (loadSN sz_58 S 3 rfl rfl rfl)) ?_
                first | refine WO.e (O.buildSlice rfl (buildOne sl_22 (by decide) rfl rfl) S (fun b94 w S => ?_)) | refine WO.e (O.buildSlice rfl (buildOne sl_22 (by decide) rfl (by simp)) S (fun b94 w S => ?_)) | refine WO.e (O.buildSlice rfl (bs_22_1_0) S (fun b94 w S => ?_))
                refine WO.e (O.append (T := tCall) (ys := [hAt k sc ea la i]) 3 sl_22 S rfl rfl rfl rfl (S.rd1 (T := tCall) (x := hAt k sc ea la i) 0 rfl) rfl (by (simp only [hist_len, List.length_singleton]; omega)) (by (simp only [hist_len, List.length_singleton, maxLen]; omega)) (fun a95 c95 w S hn95 => ?_))
                refine WO.q (Y.assign (v := .slice _ _ _) rfl) ?_
                refine WO.nil ?_
                refine InB.nx ?_
                refine Then.nx ?_
                refine W.region rfl ?_
                refine WO.q (Y.move (v := .int .i64 _) rfl) ?_
                first | refine WO.q (Y.addI rfl rfl (by omega)) ?_ | refine WO.q (Y.add rfl rfl) ?_
                refine WO.q (Y.assign (v := .int .i64 _) rfl) ?_
                refine WO.nil ?_
                refine Then.nx ⟨?_, ?_, ?_⟩
                · (repeat (first | exact Out.hav _ _ _ | exact Out.refl _ _ | refine Out.up rfl ?_ | refine Out.sub rfl ?_))
                · exact ⟨i + 1, a95, c95, a6, c6, rfl, by omega, by (show Value.slice _ _ _ = _; rw [hist_succ]), by (show Value.slice _ _ _ = _; rw [hsAt_succ hx1]), by (rw [hist_succ, hsAt_succ hx1]; exact S.pk (by repeat (first | exact Pk.nil _ | exact Pk.refl _ | refine Pk.cons 0 rfl ?_ | refine Pk.cons 1 rfl ?_ | refine Pk.cons 2 rfl ?_ | refine Pk.cons 3 rfl ?_ | refine Pk.cons 4 rfl ?_ | refine Pk.cons 5 rfl ?_ | refine Pk.cons 6 rfl ?_ | refine Pk.cons 7 rfl ?_ | refine Pk.cons 8 rfl ?_ | refine Pk.cons 9 rfl ?_ | refine Pk.cons 10 rfl ?_ | refine Pk.cons 11 rfl ?_ | refine Pk.cons 12 rfl ?_ | refine Pk.cons 13 rfl ?_ | refine Pk.drop ?_)))⟩
                · (show sc.length - (i + 1) < sc.length - i; omega)
              · have rh6 := h6
                (try simp only [decide_eq_true_eq, decide_eq_false_iff_not, Bool.not_eq_true', Bool.not_eq_false', Bool.and_eq_true, Bool.or_eq_true, Bool.and_eq_false_iff, Bool.or_eq_false_iff, Bool.not_true, Bool.not_false] at h6)
                refine W.exit ?_
                refine Then.x ?_
                refine Then.x ?_
                refine InB.e ?_
                refine Then.nx ?_
                refine W.seq ?_
                have hi12 : i ≤ 12 := by omega
                obtain ⟨hE, hB, hLn, hrun⟩ := hist_lin (k := k) (sc := sc) (ea := ea) (la := la) hk4 (n := i) hi12
                obtain ⟨ord, hord⟩ : ∃ ord, ord = linR k (hist k sc ea la i) := ⟨_, rfl⟩
                rw [← hord] at hLn hrun
                have hHl := hist_len (k := k) (sc := sc) (ea := ea) (la := la) i
                have hend : ∀ c ∈ (hist k sc ea la i), ¬ c.end_ = -1 := fun c hc => (by (obtain ⟨j, _, rfl⟩ := hist_mem hc; exact hAt_end j))
                refine W.region rfl ?_
                refine WO.q (Y.move (v := .int .i64 _) rfl) ?_
                refine WO.q (Y.move (v := .slice _ _ _) rfl) ?_
                refine WO.e (O.call cf_22 rfl (CopyCalls_spec _ _ _ (hist k sc ea la i) (S.rd 1 rfl) (by rw [hist_len]; omega)) ?_)
                rintro _ w ⟨a31, c31, e31, rfl, S2⟩
                replace S := S.trans S2
                refine ⟨_, rfl, ?_⟩
                refine WO.e (O.call cf_12 rfl (Linear_spec _ (Lib.tabBelow_of_tabIs htab _ S.ext) k (hist k sc ea la i) _ _ (S.rd 0 rfl) (by rw [hist_len]; omega) (hist_I64 hI)) ?_)
                rintro e w ⟨a5, c5, he, S2⟩
                rw [hE, hB, ← hord] at he
                subst he
                rw [← hord] at S2
                replace S := S.trans S2
                refine ⟨_, rfl, ?_⟩
                refine WO.q (Y.move (v := .tuple _) rfl) ?_
                refine WO.q (Y.extract (v := .slice _ _ _) rfl rfl) ?_
                refine WO.q (Y.extract (v := .bool _) rfl rfl) ?_
                refine WO.q (Y.extract (v := .int .i64 _) rfl rfl) ?_
                refine WO.q (Y.assign (v := .slice _ _ _) rfl) ?_
                refine WO.q (Y.assign (v := .bool _) rfl) ?_
                refine WO.q (Y.assign (v := .int .i64 _) rfl) ?_
                refine WO.nil ?_
                refine Then.nx ?_
                refine W.seq ?_
                refine W.seq ?_
                refine W.region rfl ?_
                refine WO.q (Y.move (v := .int .i64 _) rfl) ?_
                refine WO.q (Y.neq rfl rfl) ?_
                refine WO.q (Y.move (v := .bool _) rfl) ?_
                refine WO.splitB (fun h7 => ?_) (fun h7 => ?_)
                · (try simp only [decide_eq_true_eq, decide_eq_false_iff_not, Bool.not_eq_true', Bool.not_eq_false', Bool.and_eq_true, Bool.or_eq_true, Bool.and_eq_false_iff, Bool.or_eq_false_iff, Bool.not_true, Bool.not_false] at h7)
                  refine WO.qF rfl ?_
                  refine WO.qF rfl ?_
                  refine WO.q (Y.pickT (u := .bool _) rfl rfl) ?_
                  refine WO.q (Y.move (v := .bool _) rfl) ?_
                  refine WO.qF rfl ?_
                  refine WO.qF rfl ?_
                  refine WO.qF rfl ?_
                  refine WO.qF rfl ?_
                  refine WO.qF rfl ?_
                  refine WO.q (Y.pickT (u := .bool _) rfl rfl) ?_
                  refine WO.nil ?_
                  refine Then.nx ?_
                  first | refine W.condT rfl ?_ | refine W.condT (congrArg Value.bool (by assumption)) ?_
                  refine W.seq ?_
                  refine W.region rfl ?_
                  refine WO.q (Y.assign (v := .bool _) rfl) ?_
                  refine WO.nil ?_
                  refine Then.nx ?_
                  refine W.ret ?_
                  refine Then.r ?_
                  refine BodyQ.ret1 Tryd.results4 (ResV.tmp _ rfl) ?_
                  first | exact ⟨rfl, S.ext⟩ | (exfalso; omega) | contradiction | (exfalso; exact hlt m z hz1 (fun h => absurd ((bitN_or d n m).2 (.inl h)) (by assumption)) (by assumption)) | (exfalso; simp_all; done)
                · (try simp only [decide_eq_true_eq, decide_eq_false_iff_not, Bool.not_eq_true', Bool.not_eq_false', Bool.and_eq_true, Bool.or_eq_true, Bool.and_eq_false_iff, Bool.or_eq_false_iff, Bool.not_true, Bool.not_false] at h7)
                  refine WO.qT rfl (Y.move (v := .bool _) rfl) ?_
                  refine WO.qT rfl (Y.not rfl) ?_
                  refine WO.q (Y.pickF (u := .bool _) rfl rfl) ?_
                  refine WO.q (Y.move (v := .bool _) rfl) ?_
                  refine WO.splitB (fun h8 => ?_) (fun h8 => ?_)
                  · (try simp only [decide_eq_true_eq, decide_eq_false_iff_not, Bool.not_eq_true', Bool.not_eq_false', Bool.and_eq_true, Bool.or_eq_true, Bool.and_eq_false_iff, Bool.or_eq_false_iff, Bool.not_true, Bool.not_false] at h8)
                    refine WO.qF rfl ?_
                    refine WO.qF rfl ?_
                    refine WO.qF rfl ?_
                    refine WO.qF rfl ?_
                    refine WO.qF rfl ?_
                    refine WO.q (Y.pickT (u := .bool _) rfl rfl) ?_
                    refine WO.nil ?_
                    refine Then.nx ?_
                    first | refine W.condT rfl ?_ | refine W.condT (congrArg Value.bool (by assumption)) ?_
                    refine W.seq ?_
                    refine W.region rfl ?_
                    refine WO.q (Y.assign (v := .bool _) rfl) ?_
                    refine WO.nil ?_
                    refine Then.nx ?_
                    refine W.ret ?_
                    refine Then.r ?_
                    refine BodyQ.ret1 Tryd.results4 (ResV.tmp _ rfl) ?_
                    first | exact ⟨rfl, S.ext⟩ | (exfalso; omega) | contradiction | (exfalso; exact hlt m z hz1 (fun h => absurd ((bitN_or d n m).2 (.inl h)) (by assumption)) (by assumption)) | (exfalso; simp_all; done)
                  · (try simp only [decide_eq_true_eq, decide_eq_false_iff_not, Bool.not_eq_true', Bool.not_eq_false', Bool.and_eq_true, Bool.or_eq_true, Bool.and_eq_false_iff, Bool.or_eq_false_iff, Bool.not_true, Bool.not_false] at h8)
                    refine WO.qT rfl (Y.move (v := .slice _ _ _) rfl) ?_
                    refine WO.qT rfl (Y.len (t' := 0) Tryd.underlying27 rfl) ?_
                    refine WO.qT rfl (Y.move (v := .slice _ _ _) rfl) ?_
                    refine WO.qT rfl (Y.len (t' := 0) Tryd.underlying22 rfl) ?_
                    refine WO.qT rfl (Y.neq rfl rfl) ?_
                    refine WO.q (Y.pickF (u := .bool _) rfl rfl) ?_
                    refine WO.nil ?_
                    refine Then.nx ?_
                    refine W.cond rfl (fun h9 => ?_) (fun h9 => ?_) -- cond 2
                    · have rh9 := h9
                      (try simp only [decide_eq_true_eq, decide_eq_false_iff_not, Bool.not_eq_true', Bool.not_eq_false', Bool.and_eq_true, Bool.or_eq_true, Bool.and_eq_false_iff, Bool.or_eq_false_iff, Bool.not_true, Bool.not_false] at h9)
                      refine W.seq ?_
                      refine W.region rfl ?_
                      refine WO.q (Y.assign (v := .bool _) rfl) ?_
                      refine WO.nil ?_
                      refine Then.nx ?_
                      refine W.ret ?_
                      refine Then.r ?_
                      refine BodyQ.ret1 Tryd.results4 (ResV.tmp _ rfl) ?_
                      first | exact ⟨rfl, S.ext⟩ | (exfalso; omega) | contradiction | (exfalso; exact hlt m z hz1 (fun h => absurd ((bitN_or d n m).2 (.inl h)) (by assumption)) (by assumption)) | (exfalso; simp_all; done)
                    · have rh9 := h9
                      (try simp only [decide_eq_true_eq, decide_eq_false_iff_not, Bool.not_eq_true', Bool.not_eq_false', Bool.and_eq_true, Bool.or_eq_true, Bool.and_eq_false_iff, Bool.or_eq_false_iff, Bool.not_true, Bool.not_false] at h9)
                      refine W.skip ?_
                      refine Then.nx ?_
                      refine W.seq ?_
                      refine W.region rfl ?_
                      refine WO.q (Y.move (v := .int .i64 _) rfl) ?_
                      refine WO.e (O.call cf_19 rfl (begin_spec _ k hk4) ?_)
                      rintro _ w ⟨a6, c6, rfl, S2⟩
                      replace S := S.trans S2
                      refine ⟨_, rfl, ?_⟩
                      refine WO.q (Y.assign (v := .slice _ _ _) rfl) ?_
                      refine WO.nil ?_
                      refine Then.nx ?_
                      refine W.seq ?_
                      refine W.region rfl ?_
                      refine WO.e (O.alloc z_62 S (fun b16 w S => ?_))
                      refine WO.nil ?_
                      refine Then.nx ?_
                      refine W.seq ?_
                      refine W.seq ?_
                      rw [seenL_zero12] at S
                      refine W.region rfl ?_
                      refine WO.q (Y.assign (v := .int .i64 _) rfl) ?_
                      refine WO.nil ?_
                      refine Then.nx ?_
                      refine W.block ?_
                      -- loop 1 carries 9:now, 17:k
                      refine W.loop2 [8, 9, 17, 18, 19, 20, 119, 120, 121, 122, 123, 124, 125, 126, 127, 128, 129, 130, 131, 132, 133, 134, 135, 136, 137, 138, 139, 140, 141, 142, 143, 144, 145, 146, 147, 148, 149, 150, 151, 152, 153, 154, 155, 156, 157, 158, 159, 160, 161, 162, 163, 164, 165, 166, 167, 168, 169, 170, 171, 172, 173, 174, 175, 176, 177, 178, 179, 180, 181, 182, 183] 9 17 (fun v9 v17 w => ∃ (j d : Nat) (hs : List Int) (an : Option Addr) (cn : Nat), v17 = .int .i64 (j : Int) ∧ j ≤ ord.length ∧ v9 = .slice an hs.length cn ∧ okRun k (hist k sc ea la i) (2 ^ i - 1) d hs (ord.drop j) ∧ (2 < k → hs.length = 1) ∧ hs.length ≤ j + 1 ∧ Sat w0 w [Sub 2 an cn hs, Cel b16 (seenL d) 62, Own tCall 58 ah ch (hist k sc ea la i), Own tN 3 a5 c5 ord]) (fun v9 v17 w => ord.length - (intOf v17).toNat) ?_ ?_
                      · exact ⟨0, 0, linBegin k, _, _, rfl, by omega, rfl, hrun, (linBegin_ok k).2.1, (linBegin_ok k).1, S.pk (.cons 1 rfl (.cons 0 rfl (.cons 3 rfl (.cons 0 rfl (.nil _)))))⟩
                      · rintro g1 v9 v17 w ⟨j, d, hs, an, cn, rfl, hj, rfl, hrunj, hne, hhl, S⟩
                        refine W.seq ?_
                        refine W.seq ?_
                        refine W.region rfl ?_
                        refine WO.q (Y.move (v := .int .i64 _) rfl) ?_
                        refine WO.q (Y.move (v := .slice _ _ _) rfl) ?_
                        refine WO.q (Y.len (t' := 0) Tryd.underlying27 rfl) ?_
                        refine WO.q (Y.lss rfl rfl) ?_
                        refine WO.nil ?_
                        refine Then.nx ?_
                        refine W.cond rfl (fun h10 => ?_) (fun h10 => ?_) -- cond 3
                        · have rh10 := h10
                          (try simp only [decide_eq_true_eq, decide_eq_false_iff_not, Bool.not_eq_true', Bool.not_eq_false', Bool.and_eq_true, Bool.or_eq_true, Bool.and_eq_false_iff, Bool.or_eq_false_iff, Bool.not_true, Bool.not_false] at h10)
                          obtain ⟨n, hn1⟩ := at_ex (xs := ord) (k := j) (by omega)
                          obtain ⟨y, hy1, hbit, hlt, hsame, hrun2⟩ := okRun_cons (k := k) (i := n) (by (rw [List.head?_drop]; exact hn1)) hrunj hend
                          have hnH := at_lt hy1
                          have hn12 : n < 12 := by omega
                          have ha5 := (S.rd 3 rfl).1 (by omega)
                          have ha6 := (S.rd 2 rfl).1 (by omega)
                          refine W.skip ?_
                          refine Then.nx ?_
                          refine W.seq ?_
                          refine W.block ?_
                          refine W.seq ?_
                          refine W.region rfl ?_
                          refine WO.q (Y.move (v := .slice _ _ _) rfl) ?_
                          refine WO.q (Y.move (v := .int .i64 _) rfl) ?_
                          first | refine WO.q (Y.ixN sl_27 rfl rfl (by assumption) (by (first | assumption | omega))) ?_ | refine WO.q (Y.ix sl_27 rfl rfl (by assumption) (by (first | assumption | omega)) (by (first | assumption | omega))) ?_
                          first | refine WO.q (Y.load rfl (loadRd1 sz_3 (R1.ext S.ext) (by assumption) rfl)) ?_ | refine WO.q (Y.load rfl (loadRd1 sz_3 (R2.ext S.ext) (by assumption) rfl)) ?_ | refine WO.q (Y.load rfl (loadRd1 sz_3 (R3.ext S.ext) (by assumption) rfl)) ?_ | refine WO.q (Y.load rfl (loadRd1 sz_3 (S.rd 2 rfl) (by assumption) rfl)) ?_ | refine WO.q (Y.load rfl (loadRd1 sz_3 (S.rd 3 rfl) (by assumption) rfl)) ?_
                          refine WO.q (Y.assign (v := .int .i64 _) rfl) ?_
                          refine WO.nil ?_
                          refine Then.nx ?_
                          refine W.seq ?_
                          refine W.seq ?_
                          refine W.region rfl ?_
                          refine WO.q (Y.move (v := .int .i64 _) rfl) ?_
                          refine WO.q (Y.lss rfl rfl) ?_
                          refine WO.q (Y.move (v := .bool _) rfl) ?_
                          refine WO.splitB (fun h11 => ?_) (fun h11 => ?_)
                          · (try simp only [decide_eq_true_eq, decide_eq_false_iff_not, Bool.not_eq_true', Bool.not_eq_false', Bool.and_eq_true, Bool.or_eq_true, Bool.and_eq_false_iff, Bool.or_eq_false_iff, Bool.not_true, Bool.not_false] at h11)
                            refine WO.qF rfl ?_
                            refine WO.qF rfl ?_
                            refine WO.qF rfl ?_
                            refine WO.qF rfl ?_
                            refine WO.q (Y.pickT (u := .bool _) rfl rfl) ?_
                            refine WO.q (Y.move (v := .bool _) rfl) ?_
                            refine WO.qF rfl ?_
                            refine WO.qF rfl ?_
                            refine WO.qF rfl ?_
                            refine WO.q (Y.pickT (u := .bool _) rfl rfl) ?_
                            refine WO.nil ?_
                            refine Then.nx ?_
                            first | refine W.condT rfl ?_ | refine W.condT (congrArg Value.bool (by assumption)) ?_
                            refine W.seq ?_
                            refine W.region rfl ?_
                            refine WO.q (Y.assign (v := .bool _) rfl) ?_
                            refine WO.nil ?_
                            refine Then.nx ?_
                            refine W.ret ?_
                            refine Then.r ?_
                            refine InB.r ?_
                            refine Then.r ?_
                            refine Then.r ?_
                            refine InB.r ?_
                            refine Then.r ?_
                            refine BodyQ.ret1 Tryd.results4 (ResV.tmp _ rfl) ?_
                            first | exact ⟨rfl, S.ext⟩ | (exfalso; omega) | contradiction | (exfalso; exact hlt m z hz1 (fun h => absurd ((bitN_or d n m).2 (.inl h)) (by assumption)) (by assumption)) | (exfalso; simp_all; done)
                          · (try simp only [decide_eq_true_eq, decide_eq_false_iff_not, Bool.not_eq_true', Bool.not_eq_false', Bool.and_eq_true, Bool.or_eq_true, Bool.and_eq_false_iff, Bool.or_eq_false_iff, Bool.not_true, Bool.not_false] at h11)
                            refine WO.qT rfl (Y.move (v := .int .i64 _) rfl) ?_
                            refine WO.qT rfl (Y.move (v := .slice _ _ _) rfl) ?_
                            refine WO.qT rfl (Y.len (t' := 0) Tryd.underlying22 rfl) ?_
                            refine WO.qT rfl (Y.geq rfl rfl) ?_
                            refine WO.q (Y.pickF (u := .bool _) rfl rfl) ?_
                            refine WO.q (Y.move (v := .bool _) rfl) ?_
                            refine WO.splitB (fun h12 => ?_) (fun h12 => ?_)
                            · (try simp only [decide_eq_true_eq, decide_eq_false_iff_not, Bool.not_eq_true', Bool.not_eq_false', Bool.and_eq_true, Bool.or_eq_true, Bool.and_eq_false_iff, Bool.or_eq_false_iff, Bool.not_true, Bool.not_false] at h12)
                              refine WO.qF rfl ?_
                              refine WO.qF rfl ?_
                              refine WO.qF rfl ?_
                              refine WO.q (Y.pickT (u := .bool _) rfl rfl) ?_
                              refine WO.nil ?_
                              refine Then.nx ?_
                              first | refine W.condT rfl ?_ | refine W.condT (congrArg Value.bool (by assumption)) ?_
                              refine W.seq ?_
                              refine W.region rfl ?_
                              refine WO.q (Y.assign (v := .bool _) rfl) ?_
                              refine WO.nil ?_
                              refine Then.nx ?_
                              refine W.ret ?_
                              refine Then.r ?_
                              refine InB.r ?_
                              refine Then.r ?_
                              refine Then.r ?_
                              refine InB.r ?_
                              refine Then.r ?_
                              refine BodyQ.ret1 Tryd.results4 (ResV.tmp _ rfl) ?_
                              first | exact ⟨rfl, S.ext⟩ | (exfalso; omega) | contradiction | (exfalso; exact hlt m z hz1 (fun h => absurd ((bitN_or d n m).2 (.inl h)) (by assumption)) (by assumption)) | (exfalso; simp_all; done)
                            · (try simp only [decide_eq_true_eq, decide_eq_false_iff_not, Bool.not_eq_true', Bool.not_eq_false', Bool.and_eq_true, Bool.or_eq_true, Bool.and_eq_false_iff, Bool.or_eq_false_iff, Bool.not_true, Bool.not_false] at h12)
                              refine WO.qT rfl (Y.move (v := .int .i64 _) rfl) ?_
                              refine WO.qT rfl (Y.ixA ar_62 rfl rfl (by (first | assumption | omega)) (by (first | assumption | omega))) ?_
                              refine WO.qT rfl (Y.load rfl (loadS1 sz_4 S 1 rfl (seenL_at d hn12))) ?_
                              refine WO.q (Y.pickF (u := .bool _) rfl rfl) ?_
                              refine WO.nil ?_
                              refine Then.nx ?_
                              refine W.cond rfl (fun h13 => ?_) (fun h13 => ?_) -- cond 4
                              · have rh13 := h13
                                (try simp only [decide_eq_true_eq, decide_eq_false_iff_not, Bool.not_eq_true', Bool.not_eq_false', Bool.and_eq_true, Bool.or_eq_true, Bool.and_eq_false_iff, Bool.or_eq_false_iff, Bool.not_true, Bool.not_false] at h13)
                                refine W.seq ?_
                                refine W.region rfl ?_
                                refine WO.q (Y.assign (v := .bool _) rfl) ?_
                                refine WO.nil ?_
                                refine Then.nx ?_
                                refine W.ret ?_
                                refine Then.r ?_
                                refine InB.r ?_
                                refine Then.r ?_
                                refine Then.r ?_
                                refine InB.r ?_
                                refine Then.r ?_
                                refine BodyQ.ret1 Tryd.results4 (ResV.tmp _ rfl) ?_
                                first | exact ⟨rfl, S.ext⟩ | (exfalso; omega) | contradiction | (exfalso; exact hlt m z hz1 (fun h => absurd ((bitN_or d n m).2 (.inl h)) (by assumption)) (by assumption)) | (exfalso; simp_all; done)
                              · have rh13 := h13
                                (try simp only [decide_eq_true_eq, decide_eq_false_iff_not, Bool.not_eq_true', Bool.not_eq_false', Bool.and_eq_true, Bool.or_eq_true, Bool.and_eq_false_iff, Bool.or_eq_false_iff, Bool.not_true, Bool.not_false] at h13)
                                refine W.skip ?_
                                refine Then.nx ?_
                                refine W.seq ?_
                                refine W.region rfl ?_
                                refine WO.q (Y.move (v := .int .i64 _) rfl) ?_
                                refine WO.q (Y.ixA ar_62 rfl rfl (by (first | assumption | omega)) (by (first | assumption | omega))) ?_
                                refine WO.e0 (O.store (v := .bool _) 1 S rfl rfl rfl sz_4 rfl rfl rfl (by (rw [seenL_len, Nat.ble_eq]; omega)) (fun w S => ?_))
                                refine WO.nil ?_
                                refine Then.nx ?_
                                refine W.seq ?_
                                replace S : Sat w0 w [Sub 2 an cn hs, Cel b16 (lset (seenL d) (0 + n * 1) [.bool true]) 62, Own tCall 58 ah ch (hist k sc ea la i), Own tN 3 a5 c5 ord] := S
                                rw [seenL_set d hn12] at S
                                refine W.region rfl ?_
                                refine WO.q (Y.move (v := .slice _ _ _) rfl) ?_
                                refine WO.q (Y.move (v := .int .i64 _) rfl) ?_
                                first | refine WO.q (Y.ixN sl_22 rfl rfl (by assumption) (by (first | assumption | omega))) ?_ | refine WO.q (Y.ix sl_22 rfl rfl (by assumption) (by (first | assumption | omega)) (by (first | assumption | omega))) ?_
                                first | refine WO.q (Y.load rfl (loadRdN sz_58 (R1.ext S.ext) (by assumption))) ?_ | refine WO.q (Y.load rfl (loadRdN sz_58 (R2.ext S.ext) (by assumption))) ?_ | refine WO.q (Y.load rfl (loadRdN sz_58 (R3.ext S.ext) (by assumption))) ?_ | refine WO.q (Y.load rfl (loadRdN sz_58 (S.rd 2 rfl) (by assumption))) ?_ | refine WO.q (Y.load rfl (loadRdN sz_58 (S.rd 3 rfl) (by assumption))) ?_
                                refine WO.e (O.alloc z_58 S (fun b19 w S => ?_))
                                first | refine WO.e0 (O.store (v := .agg _) 0 S rfl rfl rfl sz_58 rfl rfl rfl rfl (fun w S => ?_)) | refine WO.e0 (O.store (v := .agg _) 1 S rfl rfl rfl sz_58 rfl rfl rfl rfl (fun w S => ?_)) | refine WO.e0 (O.store (v := .agg _) 2 S rfl rfl rfl sz_58 rfl rfl rfl rfl (fun w S => ?_)) | refine WO.e0 (O.store (v := .agg _) 3 S rfl rfl rfl sz_58 rfl rfl rfl rfl (fun w S => ?_))
                                refine WO.nil ?_
                                refine Then.nx ?_
                                refine W.seq ?_
                                refine W.region rfl ?_
                                refine WO.q (Y.move (v := .int .i64 _) rfl) ?_
                                refine WO.q (Y.move (v := .slice _ _ _) rfl) ?_
                                first | refine WO.q (Y.load rfl (loadSN sz_58 S 0 rfl rfl rfl)) ?_ | refine WO.q (Y.load rfl (loadSN sz_58 S 1 rfl rfl rfl)) ?_ | refine WO.q (Y.load rfl (loadSN sz_58 S 2 rfl rfl rfl)) ?_ | refine WO.q (Y.load rfl (loadSN sz_58 S 3 rfl rfl rfl)) ?_
                                refine WO.e (O.call cf_21 rfl (plain_spec w0 _ k an cn hs y _ (S.pk (.cons 1 rfl (.refl _))) hk4 hne (by omega)) ?_)
                                rintro e w ⟨a7, c7, he, S⟩
                                rw [hsame] at he
                                subst he
                                refine ⟨_, rfl, ?_⟩
                                refine WO.q (Y.move (v := .tuple _) rfl) ?_
                                refine WO.q (Y.extract (v := .slice _ _ _) rfl rfl) ?_
                                refine WO.q (Y.extract (v := .agg _) rfl rfl) ?_
                                refine WO.q (Y.assign (v := .slice _ _ _) rfl) ?_
                                first | refine WO.e0 (O.store (v := .agg _) 0 S rfl rfl rfl sz_58 rfl rfl rfl rfl (fun w S => ?_)) | refine WO.e0 (O.store (v := .agg _) 1 S rfl rfl rfl sz_58 rfl rfl rfl rfl (fun w S => ?_)) | refine WO.e0 (O.store (v := .agg _) 2 S rfl rfl rfl sz_58 rfl rfl rfl rfl (fun w S => ?_)) | refine WO.e0 (O.store (v := .agg _) 3 S rfl rfl rfl sz_58 rfl rfl rfl rfl (fun w S => ?_))
                                refine WO.nil ?_
                                refine Then.nx ?_
                                refine W.seq ?_
                                refine W.seq ?_
                                refine W.draw (.q 0 (.q 1 (.q 2 (.q 3 (.q 4 (.q 5 .nil)))))) (fun w => Sat _ w _) rfl rfl (by kernel_rfl) rfl (by kernel_rfl) (by repeat (first | exact BodyQ.noFrame | refine Then.noFrame ?_ | refine InB.noFrame ?_)) S.drew ?_
                                clear S
                                first | refine Plan.q rfl (fun w S => Y.load rfl (loadSN sz_58 S 0 rfl rfl rfl)) ?_ | refine Plan.q rfl (fun w S => Y.load rfl (loadSN sz_58 S 1 rfl rfl rfl)) ?_ | refine Plan.q rfl (fun w S => Y.load rfl (loadSN sz_58 S 2 rfl rfl rfl)) ?_ | refine Plan.q rfl (fun w S => Y.load rfl (loadSN sz_58 S 3 rfl rfl rfl)) ?_
                                refine Plan.q rfl (fun w S => Y.move (v := .slice _ _ _) rfl) ?_
                                refine Plan.q rfl (fun w S => Y.move (v := .int .i64 _) rfl) ?_
                                first | refine Plan.q rfl (fun w S => Y.ixN sl_22 rfl rfl (by assumption) (by (first | assumption | omega))) ?_ | refine Plan.q rfl (fun w S => Y.ix sl_22 rfl rfl (by assumption) (by (first | assumption | omega)) (by (first | assumption | omega))) ?_
                                first | refine Plan.q rfl (fun w S => Y.load rfl (loadRdN sz_58 (R1.ext S.ext) (by assumption))) ?_ | refine Plan.q rfl (fun w S => Y.load rfl (loadRdN sz_58 (R2.ext S.ext) (by assumption))) ?_ | refine Plan.q rfl (fun w S => Y.load rfl (loadRdN sz_58 (R3.ext S.ext) (by assumption))) ?_ | refine Plan.q rfl (fun w S => Y.load rfl (loadRdN sz_58 (S.rd 2 rfl) (by assumption))) ?_ | refine Plan.q rfl (fun w S => Y.load rfl (loadRdN sz_58 (S.rd 3 rfl) (by assumption))) ?_
                                first | refine Plan.q rfl (fun w S => Y.neqA eqt_58 rfl rfl) ?_ | refine Plan.q rfl (fun w S => Y.neqA (x := y) (y := y) eqt_58 rfl rfl) ?_
                                refine Plan.nil (fun w S => ?_)
                                replace S : Sat _ _ _ := S
                                refine Then.nx ?_
                                refine W.cond rfl (fun h14 => ?_) (fun h14 => ?_) -- cond 5
                                · have rh14 := h14
                                  (try simp only [decide_eq_true_eq, decide_eq_false_iff_not, Bool.not_eq_true', Bool.not_eq_false', Bool.and_eq_true, Bool.or_eq_true, Bool.and_eq_false_iff, Bool.or_eq_false_iff, Bool.not_true, Bool.not_false] at h14)
                                  refine W.seq ?_
                                  refine W.region rfl ?_
                                  refine WO.q (Y.assign (v := .bool _) rfl) ?_
                                  refine WO.nil ?_
                                  refine Then.nx ?_
                                  refine W.ret ?_
                                  refine Then.r ?_
                                  refine InB.r ?_
                                  refine Then.r ?_
                                  refine Then.r ?_
                                  refine InB.r ?_
                                  refine Then.r ?_
                                  refine BodyQ.ret1 Tryd.results4 (ResV.tmp _ rfl) ?_
                                  first | exact ⟨rfl, S.ext⟩ | (exfalso; omega) | contradiction | (exfalso; exact hlt m z hz1 (fun h => absurd ((bitN_or d n m).2 (.inl h)) (by assumption)) (by assumption)) | (exfalso; simp_all; done)
                                · have rh14 := h14
                                  (try simp only [decide_eq_true_eq, decide_eq_false_iff_not, Bool.not_eq_true', Bool.not_eq_false', Bool.and_eq_true, Bool.or_eq_true, Bool.and_eq_false_iff, Bool.or_eq_false_iff, Bool.not_true, Bool.not_false] at h14)
                                  refine W.skip ?_
                                  refine Then.nx ?_
                                  refine W.seq ?_
                                  refine W.region rfl ?_
                                  refine WO.q (Y.assign (v := .int .i64 _) rfl) ?_
                                  refine WO.nil ?_
                                  refine Then.nx ?_
                                  refine W.block ?_
                                  -- loop 2 carries 20:j
                                  refine W.loop1 [8, 20, 161, 162, 163, 164, 165, 166, 167, 168, 169, 170, 171, 172, 173, 174, 175, 176, 177, 178, 179, 180, 181, 182, 183] 20 (fun v20 w => ∃ m : Nat, v20 = .int .i64 (m : Int) ∧ m ≤ (hist k sc ea la i).length ∧ Sat w0 w [Sub 2 a7 c7 (doesM k hs y).1, Cel b19 (tCall.enc y) 58, Cel b16 (seenL (d ||| 1 <<< n)) 62, Own tCall 58 ah ch (hist k sc ea la i), Own tN 3 a5 c5 ord]) (fun v20 w => (hist k sc ea la i).length - (intOf v20).toNat) ?_ ?_
                                  · exact ⟨0, rfl, by omega, S⟩
                                  · rintro g2 v20 w ⟨m, rfl, hm, S⟩
                                    refine W.seq ?_
                                    refine W.seq ?_
                                    refine W.region rfl ?_
                                    refine WO.q (Y.move (v := .int .i64 _) rfl) ?_
                                    refine WO.q (Y.move (v := .slice _ _ _) rfl) ?_
                                    refine WO.q (Y.len (t' := 0) Tryd.underlying22 rfl) ?_
                                    refine WO.q (Y.lss rfl rfl) ?_
                                    refine WO.nil ?_
                                    refine Then.nx ?_
                                    refine W.cond rfl (fun h15 => ?_) (fun h15 => ?_) -- cond 6
                                    · have rh15 := h15
                                      (try simp only [decide_eq_true_eq, decide_eq_false_iff_not, Bool.not_eq_true', Bool.not_eq_false', Bool.and_eq_true, Bool.or_eq_true, Bool.and_eq_false_iff, Bool.or_eq_false_iff, Bool.not_true, Bool.not_false] at h15)
                                      obtain ⟨z, hz1⟩ := at_ex (xs := (hist k sc ea la i)) (k := m) (by omega)
                                      have hm12 : m < 12 := by omega
                                      have ha6 := (S.rd 3 rfl).1 (by omega)
                                      refine W.skip ?_
                                      refine Then.nx ?_
                                      refine W.seq ?_
                                      refine W.block ?_
                                      refine W.seq ?_
                                      refine W.draw (.q 0 (.q 1 (.q 2 (.q 3 (.q 4 (.q 5 (.q 6 (.q 7 (.q 8 (.q 9 (.q 10 (.q 11 (.q 12 (.q 13 (.q 14 (.q 15 (.q 16 .nil))))))))))))))))) (fun w => Sat _ w _) rfl rfl (by kernel_rfl) rfl (by kernel_rfl) (by repeat (first | exact BodyQ.noFrame | refine Then.noFrame ?_ | refine InB.noFrame ?_)) S.drew ?_
                                      clear S
                                      refine Plan.q rfl (fun w S => Y.move (v := .int .i64 _) rfl) ?_
                                      refine Plan.q rfl (fun w S => Y.ixA ar_62 rfl rfl (by (first | assumption | omega)) (by (first | assumption | omega))) ?_
                                      refine Plan.q rfl (fun w S => Y.load rfl (loadS1 sz_4 S 2 rfl (seenL_at _ hm12))) ?_
                                      refine Plan.q rfl (fun w S => Y.not rfl) ?_
                                      refine Plan.q rfl (fun w S => Y.move (v := .bool _) rfl) ?_
                                      refine Plan.splitB (fun h16 => ?_) (fun h16 => ?_)
                                      · (try simp only [decide_eq_true_eq, decide_eq_false_iff_not, Bool.not_eq_true', Bool.not_eq_false', Bool.and_eq_true, Bool.or_eq_true, Bool.and_eq_false_iff, Bool.or_eq_false_iff, Bool.not_true, Bool.not_false] at h16)
                                        refine Plan.qT rfl rfl (fun w S => Y.move (v := .slice _ _ _) rfl) ?_
                                        refine Plan.qT rfl rfl (fun w S => Y.move (v := .int .i64 _) rfl) ?_
                                        first | refine Plan.qT rfl rfl (fun w S => Y.ixN sl_22 rfl rfl (by assumption) (by (first | assumption | omega))) ?_ | refine Plan.qT rfl rfl (fun w S => Y.ix sl_22 rfl rfl (by assumption) (by (first | assumption | omega)) (by (first | assumption | omega))) ?_
                                        refine Plan.qT rfl rfl (fun w S => Y.fieldE fo_58_6 rfl) ?_
                                        first | refine Plan.qT rfl rfl (fun w S => Y.load rfl (loadRdF sz_3 (R1.ext S.ext) (by assumption) rfl)) ?_ | refine Plan.qT rfl rfl (fun w S => Y.load rfl (loadRdF sz_3 (R2.ext S.ext) (by assumption) rfl)) ?_ | refine Plan.qT rfl rfl (fun w S => Y.load rfl (loadRdF sz_3 (R3.ext S.ext) (by assumption) rfl)) ?_ | refine Plan.qT rfl rfl (fun w S => Y.load rfl (loadRdF sz_3 (S.rd 2 rfl) (by assumption) rfl)) ?_ | refine Plan.qT rfl rfl (fun w S => Y.load rfl (loadRdF sz_3 (S.rd 3 rfl) (by assumption) rfl)) ?_
                                        refine Plan.qT rfl rfl (fun w S => Y.move (v := .slice _ _ _) rfl) ?_
                                        refine Plan.qT rfl rfl (fun w S => Y.move (v := .int .i64 _) rfl) ?_
                                        first | refine Plan.qT rfl rfl (fun w S => Y.ixN sl_22 rfl rfl (by assumption) (by (first | assumption | omega))) ?_ | refine Plan.qT rfl rfl (fun w S => Y.ix sl_22 rfl rfl (by assumption) (by (first | assumption | omega)) (by (first | assumption | omega))) ?_
                                        refine Plan.qT rfl rfl (fun w S => Y.fieldE fo_58_5 rfl) ?_
                                        first | refine Plan.qT rfl rfl (fun w S => Y.load rfl (loadRdF sz_3 (R1.ext S.ext) (by assumption) rfl)) ?_ | refine Plan.qT rfl rfl (fun w S => Y.load rfl (loadRdF sz_3 (R2.ext S.ext) (by assumption) rfl)) ?_ | refine Plan.qT rfl rfl (fun w S => Y.load rfl (loadRdF sz_3 (R3.ext S.ext) (by assumption) rfl)) ?_ | refine Plan.qT rfl rfl (fun w S => Y.load rfl (loadRdF sz_3 (S.rd 2 rfl) (by assumption) rfl)) ?_ | refine Plan.qT rfl rfl (fun w S => Y.load rfl (loadRdF sz_3 (S.rd 3 rfl) (by assumption) rfl)) ?_
                                        refine Plan.qT rfl rfl (fun w S => Y.lss rfl rfl) ?_
                                        refine Plan.q rfl (fun w S => Y.pickT (u := .bool _) rfl rfl) ?_
                                        refine Plan.nil (fun w S => ?_)
                                        replace S : Sat _ _ _ := S
                                        refine Then.nx ?_
                                        refine W.cond rfl (fun h17 => ?_) (fun h17 => ?_) -- cond 7
                                        · have rh17 := h17
                                          (try simp only [decide_eq_true_eq, decide_eq_false_iff_not, Bool.not_eq_true', Bool.not_eq_false', Bool.and_eq_true, Bool.or_eq_true, Bool.and_eq_false_iff, Bool.or_eq_false_iff, Bool.not_true, Bool.not_false] at h17)
                                          refine W.seq ?_
                                          refine W.region rfl ?_
                                          refine WO.q (Y.assign (v := .bool _) rfl) ?_
                                          refine WO.nil ?_
                                          refine Then.nx ?_
                                          refine W.ret ?_
                                          refine InB.r ?_
                                          refine Then.r ?_
                                          refine Then.r ?_
                                          refine InB.r ?_
                                          refine InB.r ?_
                                          refine Then.r ?_
                                          refine Then.r ?_
                                          refine InB.r ?_
                                          refine Then.r ?_
                                          refine BodyQ.ret1 Tryd.results4 (ResV.tmp _ rfl) ?_
                                          first | exact ⟨rfl, S.ext⟩ | (exfalso; omega) | contradiction | (exfalso; exact hlt m z hz1 (fun h => absurd ((bitN_or d n m).2 (.inl h)) (by assumption)) (by assumption)) | (exfalso; simp_all; done)
                                        · have rh17 := h17
                                          (try simp only [decide_eq_true_eq, decide_eq_false_iff_not, Bool.not_eq_true', Bool.not_eq_false', Bool.and_eq_true, Bool.or_eq_true, Bool.and_eq_false_iff, Bool.or_eq_false_iff, Bool.not_true, Bool.not_false] at h17)
                                          refine W.skip ?_
                                          refine InB.nx ?_
                                          refine Then.nx ?_
                                          refine W.region rfl ?_
                                          refine WO.q (Y.move (v := .int .i64 _) rfl) ?_
                                          first | refine WO.q (Y.addI rfl rfl (by omega)) ?_ | refine WO.q (Y.add rfl rfl) ?_
                                          refine WO.q (Y.assign (v := .int .i64 _) rfl) ?_
                                          refine WO.nil ?_
                                          refine Then.nx ⟨?_, ?_, ?_⟩
                                          · (repeat (first | exact Out.hav _ _ _ | exact Out.refl _ _ | refine Out.up rfl ?_ | refine Out.sub rfl ?_))
                                          · exact ⟨m + 1, rfl, by omega, S⟩
                                          · (show (hist k sc ea la i).length - (m + 1) < (hist k sc ea la i).length - m; omega)
                                      · (try simp only [decide_eq_true_eq, decide_eq_false_iff_not, Bool.not_eq_true', Bool.not_eq_false', Bool.and_eq_true, Bool.or_eq_true, Bool.and_eq_false_iff, Bool.or_eq_false_iff, Bool.not_true, Bool.not_false] at h16)
                                        refine Plan.qF rfl rfl ?_
                                        refine Plan.qF rfl rfl ?_
                                        refine Plan.qF rfl rfl ?_
                                        refine Plan.qF rfl rfl ?_
                                        refine Plan.qF rfl rfl ?_
                                        refine Plan.qF rfl rfl ?_
                                        refine Plan.qF rfl rfl ?_
                                        refine Plan.qF rfl rfl ?_
                                        refine Plan.qF rfl rfl ?_
                                        refine Plan.qF rfl rfl ?_
                                        refine Plan.qF rfl rfl ?_
                                        refine Plan.q rfl (fun w S => Y.pickF (u := .bool _) rfl rfl) ?_
                                        refine Plan.nil (fun w S => ?_)
                                        replace S : Sat _ _ _ := S
                                        refine Then.nx ?_
                                        first | refine W.condF rfl ?_ | refine W.condF (congrArg Value.bool (by assumption)) ?_
                                        refine W.skip ?_
                                        refine InB.nx ?_
                                        refine Then.nx ?_
                                        refine W.region rfl ?_
                                        refine WO.q (Y.move (v := .int .i64 _) rfl) ?_
                                        first | refine WO.q (Y.addI rfl rfl (by omega)) ?_ | refine WO.q (Y.add rfl rfl) ?_
                                        refine WO.q (Y.assign (v := .int .i64 _) rfl) ?_
                                        refine WO.nil ?_
                                        refine Then.nx ⟨?_, ?_, ?_⟩
                                        · (repeat (first | exact Out.hav _ _ _ | exact Out.refl _ _ | refine Out.up rfl ?_ | refine Out.sub rfl ?_))
                                        · exact ⟨m + 1, rfl, by omega, S⟩
                                        · (show (hist k sc ea la i).length - (m + 1) < (hist k sc ea la i).length - m; omega)
                                    · have rh15 := h15
                                      (try simp only [decide_eq_true_eq, decide_eq_false_iff_not, Bool.not_eq_true', Bool.not_eq_false', Bool.and_eq_true, Bool.or_eq_true, Bool.and_eq_false_iff, Bool.or_eq_false_iff, Bool.not_true, Bool.not_false] at h15)
                                      refine W.exit ?_
                                      refine Then.x ?_
                                      refine Then.x ?_
                                      refine InB.e ?_
                                      refine InB.nx ?_
                                      refine Then.nx ?_
                                      refine W.region rfl ?_
                                      refine WO.q (Y.move (v := .int .i64 _) rfl) ?_
                                      first | refine WO.q (Y.addI rfl rfl (by omega)) ?_ | refine WO.q (Y.add rfl rfl) ?_
                                      refine WO.q (Y.assign (v := .int .i64 _) rfl) ?_
                                      refine WO.nil ?_
                                      refine Then.nx ⟨?_, ?_, ?_⟩
                                      · (repeat (first | exact Out.hav _ _ _ | exact Out.refl _ _ | refine Out.up rfl ?_ | refine Out.sub rfl ?_))
                                      · exact ⟨j + 1, d ||| 1 <<< n, _, a7, c7, rfl, by omega, rfl, by (rw [List.drop_drop] at hrun2; exact hrun2), fun h2 => doesM_one_len hs y h2, by (have := doesM_len k hs y; omega), S.pk (by repeat (first | exact Pk.nil _ | exact Pk.refl _ | refine Pk.cons 0 rfl ?_ | refine Pk.cons 1 rfl ?_ | refine Pk.cons 2 rfl ?_ | refine Pk.cons 3 rfl ?_ | refine Pk.cons 4 rfl ?_ | refine Pk.cons 5 rfl ?_ | refine Pk.cons 6 rfl ?_ | refine Pk.cons 7 rfl ?_ | refine Pk.cons 8 rfl ?_ | refine Pk.cons 9 rfl ?_ | refine Pk.cons 10 rfl ?_ | refine Pk.cons 11 rfl ?_ | refine Pk.cons 12 rfl ?_ | refine Pk.cons 13 rfl ?_ | refine Pk.drop ?_))⟩
                                      · (show ord.length - (j + 1) < ord.length - j; omega)
                        · have rh10 := h10
                          (try simp only [decide_eq_true_eq, decide_eq_false_iff_not, Bool.not_eq_true', Bool.not_eq_false', Bool.and_eq_true, Bool.or_eq_true, Bool.and_eq_false_iff, Bool.or_eq_false_iff, Bool.not_true, Bool.not_false] at h10)
                          refine W.exit ?_
                          refine Then.x ?_
                          refine Then.x ?_
                          refine InB.e ?_
                          refine Then.nx ?_
                          refine W.seq ?_
                          refine W.region rfl ?_
                          refine WO.e (O.call cf_10 rfl (lives_spec _ (Lib.tabBelow_of_tabIs htab _ S.ext)) ?_)
                          rintro _ w ⟨rfl, E⟩
                          replace S := S.keep E
                          refine ⟨_, rfl, ?_⟩
                          refine WO.q (Y.assign (v := .bool _) rfl) ?_
                          refine WO.nil ?_
                          refine Then.nx ?_
                          refine W.ret ?_
                          refine BodyQ.ret1 Tryd.results4 (ResV.tmp _ rfl) ?_
                          first | exact ⟨rfl, S.ext⟩ | (exfalso; omega) | contradiction | (exfalso; exact hlt m z hz1 (fun h => absurd ((bitN_or d n m).2 (.inl h)) (by assumption)) (by assumption)) | (exfalso; simp_all; done)
end Go.Proofs
