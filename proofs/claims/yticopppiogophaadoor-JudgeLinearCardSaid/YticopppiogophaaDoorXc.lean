/-
  Walks of rLinear, crowd, EqIntsN.
-/
import Derived.Test.YticopppiogophaaDoorTr
import Derived.Test.YticopppiogophaaDoorSx
import Derived.Test.YticopppiogophaaDoorFa
import Derived.Test.YticopppiogophaaDoorFb
import Derived.Test.YticopppiogophaaDoorFc
import Derived.Test.YticopppiogophaaDoorXb
set_option linter.unusedVariables false
set_option linter.unusedSimpArgs false
set_option maxRecDepth 100000
set_option maxHeartbeats 1000000
namespace Go.Proofs
open Go Go.TL Go.RowKit
theorem rLinear_spec (w0 : World) (k : Int) (h : List GCall) (a : Option Addr) (cap : Nat) (R1 : Rd tCall w0 a h) (hlm : h.length ≤ 9223372036854775807) :
    Calls Tryd.prog 13 [.int .i64 k, .slice a h.length cap].toArray w0 (fun e w => ∃ a' c', e = .returned (.tuple #[.slice a' (linR k h).length c', .bool (linB k h), .int .i64 (linE k h)]) ∧ Sat w0 w [Own tN 3 a' c' (linR k h)]) := by
  have S := Sat.refl w0
  refine calls_of_W (args := [.int .i64 k, .slice a h.length cap]) 44 Tryd.func13 rfl Tryd.ntmps13 rfl ?_
  refine W.seq ?_
  refine W.region rfl ?_
  refine WO.q (Y.assign (v := .slice _ _ _) rfl) ?_
  refine WO.q (Y.assign (v := .bool _) rfl) ?_
  refine WO.q (Y.assign (v := .int .i64 _) rfl) ?_
  refine WO.nil ?_
  refine Then.nx ?_
  refine W.seq ?_
  refine W.seq ?_
  refine W.region rfl ?_
  refine WO.q (Y.move (v := .int .i64 _) rfl) ?_
  refine WO.q (Y.lss rfl rfl) ?_
  refine WO.q (Y.move (v := .bool _) rfl) ?_
  refine WO.splitB (fun h1 => ?_) (fun h1 => ?_)
  · (try simp only [decide_eq_true_eq, decide_eq_false_iff_not, Bool.not_eq_true', Bool.not_eq_false', Bool.and_eq_true, Bool.or_eq_true, Bool.and_eq_false_iff, Bool.or_eq_false_iff, Bool.not_true, Bool.not_false] at h1)
    refine WO.qF rfl ?_
    refine WO.qF rfl ?_
    refine WO.q (Y.pickT (u := .bool _) rfl rfl) ?_
    refine WO.nil ?_
    refine Then.nx ?_
    first | refine W.condT rfl ?_ | refine W.condT (congrArg Value.bool (by assumption)) ?_
    refine W.seq ?_
    refine W.region rfl ?_
    refine WO.q (Y.assign (v := .slice _ _ _) rfl) ?_
    refine WO.q (Y.assign (v := .bool _) rfl) ?_
    refine WO.q (Y.assign (v := .int .i64 _) rfl) ?_
    refine WO.nil ?_
    refine Then.nx ?_
    refine W.ret ?_
    refine Then.r ?_
    refine BodyQ.ret3 Tryd.results13 (ResV.tmp _ rfl) (ResV.tmp _ rfl) (ResV.tmp _ rfl) ?_
    obtain ⟨e1, e2, e3⟩ := lin_arg (k := k) (h := h) (by omega); rw [e1, e2, e3]; exact ⟨none, 0, rfl, S.nilOwn tN 3⟩
  · (try simp only [decide_eq_true_eq, decide_eq_false_iff_not, Bool.not_eq_true', Bool.not_eq_false', Bool.and_eq_true, Bool.or_eq_true, Bool.and_eq_false_iff, Bool.or_eq_false_iff, Bool.not_true, Bool.not_false] at h1)
    refine WO.qT rfl (Y.move (v := .int .i64 _) rfl) ?_
    refine WO.qT rfl (Y.gtr rfl rfl) ?_
    refine WO.q (Y.pickF (u := .bool _) rfl rfl) ?_
    refine WO.nil ?_
    refine Then.nx ?_
    refine W.cond rfl (fun h2 => ?_) (fun h2 => ?_) -- cond 0
    · have rh2 := h2
      (try simp only [decide_eq_true_eq, decide_eq_false_iff_not, Bool.not_eq_true', Bool.not_eq_false', Bool.and_eq_true, Bool.or_eq_true, Bool.and_eq_false_iff, Bool.or_eq_false_iff, Bool.not_true, Bool.not_false] at h2)
      refine W.seq ?_
      refine W.region rfl ?_
      refine WO.q (Y.assign (v := .slice _ _ _) rfl) ?_
      refine WO.q (Y.assign (v := .bool _) rfl) ?_
      refine WO.q (Y.assign (v := .int .i64 _) rfl) ?_
      refine WO.nil ?_
      refine Then.nx ?_
      refine W.ret ?_
      refine Then.r ?_
      refine BodyQ.ret3 Tryd.results13 (ResV.tmp _ rfl) (ResV.tmp _ rfl) (ResV.tmp _ rfl) ?_
      obtain ⟨e1, e2, e3⟩ := lin_arg (k := k) (h := h) (by omega); rw [e1, e2, e3]; exact ⟨none, 0, rfl, S.nilOwn tN 3⟩
    · have rh2 := h2
      (try simp only [decide_eq_true_eq, decide_eq_false_iff_not, Bool.not_eq_true', Bool.not_eq_false', Bool.and_eq_true, Bool.or_eq_true, Bool.and_eq_false_iff, Bool.or_eq_false_iff, Bool.not_true, Bool.not_false] at h2)
      refine W.skip ?_
      refine Then.nx ?_
      refine W.seq ?_
      refine W.seq ?_
      refine W.region rfl ?_
      refine WO.q (Y.move (v := .slice _ _ _) rfl) ?_
      refine WO.q (Y.len (t' := 0) Tryd.underlying22 rfl) ?_
      refine WO.q (Y.gtr rfl rfl) ?_
      refine WO.nil ?_
      refine Then.nx ?_
      refine W.cond rfl (fun h3 => ?_) (fun h3 => ?_) -- cond 1
      · have rh3 := h3
        (try simp only [decide_eq_true_eq, decide_eq_false_iff_not, Bool.not_eq_true', Bool.not_eq_false', Bool.and_eq_true, Bool.or_eq_true, Bool.and_eq_false_iff, Bool.or_eq_false_iff, Bool.not_true, Bool.not_false] at h3)
        refine W.seq ?_
        refine W.region rfl ?_
        refine WO.q (Y.assign (v := .slice _ _ _) rfl) ?_
        refine WO.q (Y.assign (v := .bool _) rfl) ?_
        refine WO.q (Y.assign (v := .int .i64 _) rfl) ?_
        refine WO.nil ?_
        refine Then.nx ?_
        refine W.ret ?_
        refine Then.r ?_
        refine BodyQ.ret3 Tryd.results13 (ResV.tmp _ rfl) (ResV.tmp _ rfl) (ResV.tmp _ rfl) ?_
        obtain ⟨e1, e2, e3⟩ := lin_long (k := k) (h := h) (by omega) (by omega); rw [e1, e2, e3]; exact ⟨none, 0, rfl, S.nilOwn tN 3⟩
      · have rh3 := h3
        (try simp only [decide_eq_true_eq, decide_eq_false_iff_not, Bool.not_eq_true', Bool.not_eq_false', Bool.and_eq_true, Bool.or_eq_true, Bool.and_eq_false_iff, Bool.or_eq_false_iff, Bool.not_true, Bool.not_false] at h3)
        refine W.skip ?_
        refine Then.nx ?_
        refine W.seq ?_
        refine W.seq ?_
        have hk4 : 1 ≤ k ∧ k ≤ 4 := by omega
        refine W.region rfl ?_
        refine WO.q (Y.assign (v := .int .i64 _) rfl) ?_
        refine WO.nil ?_
        refine Then.nx ?_
        refine W.block ?_
        -- loop 0 carries 7:i
        refine W.loop1 [4, 5, 6, 7, 20, 21, 22, 23, 24, 25, 26, 27, 28, 29, 30, 31, 32] 7 (fun v7 w => ∃ i : Nat, v7 = .int .i64 (i : Int) ∧ i ≤ h.length ∧ (h.take i).all (rightB k) = true ∧ Sat w0 w []) (fun v7 w => h.length - (intOf v7).toNat) ?_ ?_
        · exact ⟨0, rfl, by omega, by simp, S⟩
        · rintro g0 v7 w ⟨i, rfl, hi, hall, S⟩
          refine W.seq ?_
          refine W.seq ?_
          refine W.region rfl ?_
          refine WO.q (Y.move (v := .int .i64 _) rfl) ?_
          refine WO.q (Y.move (v := .slice _ _ _) rfl) ?_
          refine WO.q (Y.len (t' := 0) Tryd.underlying22 rfl) ?_
          refine WO.q (Y.lss rfl rfl) ?_
          refine WO.nil ?_
          refine Then.nx ?_
          refine W.cond rfl (fun h4 => ?_) (fun h4 => ?_) -- cond 2
          · have rh4 := h4
            (try simp only [decide_eq_true_eq, decide_eq_false_iff_not, Bool.not_eq_true', Bool.not_eq_false', Bool.and_eq_true, Bool.or_eq_true, Bool.and_eq_false_iff, Bool.or_eq_false_iff, Bool.not_true, Bool.not_false] at h4)
            have ha := R1.1 (by omega)
            obtain ⟨x, hx1⟩ := at_ex (xs := h) (k := i) (by omega)
            refine W.skip ?_
            refine Then.nx ?_
            refine W.seq ?_
            refine W.block ?_
            refine W.seq ?_
            refine W.region rfl ?_
            refine WO.q (Y.move (v := .int .i64 _) rfl) ?_
            refine WO.q (Y.move (v := .slice _ _ _) rfl) ?_
            refine WO.q (Y.move (v := .int .i64 _) rfl) ?_
            first | refine WO.q (Y.ixN sl_22 rfl rfl (by (first | assumption | rfl)) (by (first | assumption | omega))) ?_ | refine WO.q (Y.ix sl_22 rfl rfl (by (first | assumption | rfl)) (by (first | assumption | omega)) (by (first | assumption | omega))) ?_
            refine WO.q (Y.load rfl (loadRdN sz_58 (R1.ext S.ext) (by assumption))) ?_
            refine WO.e (O.call cf_47 rfl (rright_spec _ k x hk4) ?_)
            rintro e w ⟨he, E⟩
            rw [rightR_eq hk4] at he
            subst he
            replace S := S.keep E
            refine ⟨_, rfl, ?_⟩
            refine WO.q (Y.not rfl) ?_
            refine WO.nil ?_
            refine Then.nx ?_
            refine W.cond rfl (fun h5 => ?_) (fun h5 => ?_) -- cond 3
            · have rh5 := h5
              (try simp only [decide_eq_true_eq, decide_eq_false_iff_not, Bool.not_eq_true', Bool.not_eq_false', Bool.and_eq_true, Bool.or_eq_true, Bool.and_eq_false_iff, Bool.or_eq_false_iff, Bool.not_true, Bool.not_false] at h5)
              refine W.seq ?_
              refine W.region rfl ?_
              refine WO.q (Y.assign (v := .slice _ _ _) rfl) ?_
              refine WO.q (Y.assign (v := .bool _) rfl) ?_
              refine WO.q (Y.assign (v := .int .i64 _) rfl) ?_
              refine WO.nil ?_
              refine Then.nx ?_
              refine W.ret ?_
              refine InB.r ?_
              refine Then.r ?_
              refine Then.r ?_
              refine InB.r ?_
              refine Then.r ?_
              refine BodyQ.ret3 Tryd.results13 (ResV.tmp _ rfl) (ResV.tmp _ rfl) (ResV.tmp _ rfl) ?_
              obtain ⟨e1, e2, e3⟩ := lin_bad (k := k) (h := h) (by omega) (by omega) (List.mem_of_getElem? hx1) (by assumption); rw [e1, e2, e3]; exact ⟨none, 0, rfl, S.nilOwn tN 3⟩
            · have rh5 := h5
              (try simp only [decide_eq_true_eq, decide_eq_false_iff_not, Bool.not_eq_true', Bool.not_eq_false', Bool.and_eq_true, Bool.or_eq_true, Bool.and_eq_false_iff, Bool.or_eq_false_iff, Bool.not_true, Bool.not_false] at h5)
              refine W.skip ?_
              refine InB.nx ?_
              refine Then.nx ?_
              refine W.region rfl ?_
              refine WO.q (Y.move (v := .int .i64 _) rfl) ?_
              first | refine WO.q (Y.addI rfl rfl (by omega)) ?_ | refine WO.q (Y.add rfl rfl) ?_
              refine WO.q (Y.assign (v := .int .i64 _) rfl) ?_
              refine WO.nil ?_
              refine Then.nx ⟨?_, ?_, ?_⟩
              · (repeat (first | exact Out.hav _ _ _ | exact Out.refl _ _ | refine Out.up rfl ?_ | refine Out.sub rfl ?_))
              · (have hal2 : (h.take (i + 1)).all (rightB k) = true := (by (rw [take_succ_at hx1, List.all_append, hall]; simp only [List.all_cons, List.all_nil, Bool.and_true, Bool.true_and]; assumption))); exact ⟨i + 1, rfl, by omega, hal2, S⟩
              · (show h.length - (i + 1) < h.length - i; omega)
          · have rh4 := h4
            (try simp only [decide_eq_true_eq, decide_eq_false_iff_not, Bool.not_eq_true', Bool.not_eq_false', Bool.and_eq_true, Bool.or_eq_true, Bool.and_eq_false_iff, Bool.or_eq_false_iff, Bool.not_true, Bool.not_false] at h4)
            refine W.exit ?_
            refine Then.x ?_
            refine Then.x ?_
            refine InB.e ?_
            refine Then.nx ?_
            refine W.seq ?_
            have e2 : i = h.length := by omega
            subst e2
            have hga : h.all (rightB k) = true := (by rw [← List.take_of_length_le (Nat.le_refl h.length)]; exact hall)
            have hgood := lin_good (k := k) (h := h) (by omega) (by omega) hga
            have hro := ref_linO hk4 hga
            have hud := undone_le h.length 0
            have hcw := callsW_mono (show undone h.length 0 ≤ 12 by omega)
            have hc12 := callsW_12
            refine W.region rfl ?_
            refine WO.q (Y.move (v := .int .i64 _) rfl) ?_
            refine WO.q (Y.move (v := .slice _ _ _) rfl) ?_
            refine WO.q (Y.build rfl (bld_100_0_1)) ?_
            refine WO.e (O.box rfl rfl S (fun b36 w S => ?_))
            first | refine WO.q (Y.assign (v := .pointer (some _)) rfl) ?_ | refine WO.q (Y.assign (v := .pointer _) rfl) ?_
            refine WO.nil ?_
            refine Then.nx ?_
            refine W.seq ?_
            refine W.region rfl ?_
            first | refine WO.q (Y.move (v := .pointer (some _)) rfl) ?_ | refine WO.q (Y.move (v := .pointer _) rfl) ?_
            refine WO.e (O.call cf_48 rfl (rfrom_spec w0 b36 k hk4 h a cap R1 (by omega) (h.length + 1) 0 [] [] [] none 0 none 0 (Bun []) (Bun []) none 0 [] _ (by omega) (by decide) (Reads.nil _ _ _) (by (simp only [List.length_nil]; omega)) (fun _ => Nat.zero_le _) (Memo.nil _) (by (simp only [List.length_nil]; omega)) (((((S.nilOwn tSl 54).nilOwn tN 3).pk (.cons 2 rfl (.cons 0 rfl (.cons 0 rfl (.refl _))))).bun (M := [])).bun (M := []))) ?_)
            rintro e w ⟨ao, co, bn3, ps3, ab3, cb3, ac3, cc3, MX3, he, _, _, _, _, S⟩
            rw [hro] at he S
            subst he
            refine ⟨_, rfl, ?_⟩
            refine WO.q (Y.move (v := .tuple _) rfl) ?_
            refine WO.q (Y.extract (v := .slice _ _ _) rfl rfl) ?_
            refine WO.q (Y.extract (v := .bool _) rfl rfl) ?_
            refine WO.q (Y.assign (v := .slice _ _ _) rfl) ?_
            refine WO.q (Y.assign (v := .bool _) rfl) ?_
            refine WO.nil ?_
            refine Then.nx ?_
            refine W.seq ?_
            refine W.region rfl ?_
            refine WO.q (Y.move (v := .slice _ _ _) rfl) ?_
            refine WO.q (Y.move (v := .bool _) rfl) ?_
            refine WO.q (Y.assign (v := .slice _ _ _) rfl) ?_
            refine WO.q (Y.assign (v := .bool _) rfl) ?_
            refine WO.q (Y.assign (v := .int .i64 _) rfl) ?_
            refine WO.nil ?_
            refine Then.nx ?_
            refine W.ret ?_
            refine BodyQ.ret3 Tryd.results13 (ResV.tmp _ rfl) (ResV.tmp _ rfl) (ResV.tmp _ rfl) ?_
            obtain ⟨e1, e2, e3⟩ := hgood; rw [e1, e2, e3]; exact ⟨ao, co, rfl, S.pk (.cons 0 rfl (.nil _))⟩
theorem crowd_spec (w0 : World) (h : List GCall) (a : Option Addr) (cap : Nat) (R1 : Rd tCall w0 a h) (hlm : h.length ≤ 9223372036854775807) :
    Calls Tryd.prog 9 [.slice a h.length cap].toArray w0 (fun e w => ∃ n : Int, e = .returned (.int .i64 n) ∧ Ext w0 w) := by
  have S := Sat.refl w0
  refine calls_of_W (args := [.slice a h.length cap]) 57 Tryd.func9 rfl Tryd.ntmps9 rfl ?_
  refine W.seq ?_
  refine W.region rfl ?_
  refine WO.q (Y.assign (v := .int .i64 _) rfl) ?_
  refine WO.nil ?_
  refine Then.nx ?_
  refine W.seq ?_
  refine W.region rfl ?_
  refine WO.q (Y.assign (v := .int .i64 _) rfl) ?_
  refine WO.nil ?_
  refine Then.nx ?_
  refine W.seq ?_
  refine W.seq ?_
  refine W.region rfl ?_
  refine WO.q (Y.assign (v := .int .i64 _) rfl) ?_
  refine WO.nil ?_
  refine Then.nx ?_
  refine W.block ?_
  -- loop 0 carries 3:most, 4:i
  refine W.loop2 [3, 4, 5, 6, 7, 8, 9, 10, 11, 12, 13, 14, 15, 16, 17, 18, 19, 20, 21, 22, 23, 24, 25, 26, 27, 28, 29, 30, 31, 32, 33, 34, 35, 36, 37, 38, 39, 40, 41, 42, 43, 44, 45, 46, 47, 48, 49, 50, 51, 52, 53, 54, 55] 3 4 (fun v3 v4 w => ∃ (i : Nat) (m : Int), v4 = .int .i64 (i : Int) ∧ v3 = .int .i64 m ∧ i ≤ h.length ∧ Sat w0 w []) (fun v3 v4 w => h.length - (intOf v4).toNat) ?_ ?_
  · exact ⟨0, 0, rfl, rfl, by omega, S⟩
  · rintro g0 v3 v4 w ⟨i, m, rfl, rfl, hi, S⟩
    refine W.seq ?_
    refine W.seq ?_
    refine W.region rfl ?_
    refine WO.q (Y.move (v := .int .i64 _) rfl) ?_
    refine WO.q (Y.move (v := .slice _ _ _) rfl) ?_
    refine WO.q (Y.len (t' := 0) Tryd.underlying22 rfl) ?_
    refine WO.q (Y.lss rfl rfl) ?_
    refine WO.nil ?_
    refine Then.nx ?_
    refine W.cond rfl (fun h1 => ?_) (fun h1 => ?_) -- cond 0
    · have rh1 := h1
      (try simp only [decide_eq_true_eq, decide_eq_false_iff_not, Bool.not_eq_true', Bool.not_eq_false', Bool.and_eq_true, Bool.or_eq_true, Bool.and_eq_false_iff, Bool.or_eq_false_iff, Bool.not_true, Bool.not_false] at h1)
      have ha := R1.1 (by omega)
      obtain ⟨y, hy1⟩ := at_ex (xs := h) (k := i) (by omega)
      refine W.skip ?_
      refine Then.nx ?_
      refine W.seq ?_
      refine W.block ?_
      refine W.seq ?_
      refine W.region rfl ?_
      refine WO.q (Y.assign (v := .int .i64 _) rfl) ?_
      refine WO.nil ?_
      refine Then.nx ?_
      refine W.seq ?_
      refine W.seq ?_
      refine W.region rfl ?_
      refine WO.q (Y.assign (v := .int .i64 _) rfl) ?_
      refine WO.nil ?_
      refine Then.nx ?_
      refine W.block ?_
      -- loop 1 carries 5:n, 6:k
      refine W.loop2 [5, 6, 13, 14, 15, 16, 17, 18, 19, 20, 21, 22, 23, 24, 25, 26, 27, 28, 29, 30, 31, 32, 33, 34, 35, 36, 37, 38, 39, 40, 41, 42, 43, 44, 45, 46, 47, 48, 49, 50, 51, 52] 5 6 (fun v5 v6 w => ∃ (j : Nat) (n : Int), v6 = .int .i64 (j : Int) ∧ v5 = .int .i64 n ∧ j ≤ h.length ∧ Sat w0 w []) (fun v5 v6 w => h.length - (intOf v6).toNat) ?_ ?_
      · exact ⟨0, 0, rfl, rfl, by omega, S⟩
      · rintro g1 v5 v6 w ⟨j, n, rfl, rfl, hj, S⟩
        refine W.seq ?_
        refine W.seq ?_
        refine W.region rfl ?_
        refine WO.q (Y.move (v := .int .i64 _) rfl) ?_
        refine WO.q (Y.move (v := .slice _ _ _) rfl) ?_
        refine WO.q (Y.len (t' := 0) Tryd.underlying22 rfl) ?_
        refine WO.q (Y.lss rfl rfl) ?_
        refine WO.nil ?_
        refine Then.nx ?_
        refine W.cond rfl (fun h2 => ?_) (fun h2 => ?_) -- cond 1
        · have rh2 := h2
          (try simp only [decide_eq_true_eq, decide_eq_false_iff_not, Bool.not_eq_true', Bool.not_eq_false', Bool.and_eq_true, Bool.or_eq_true, Bool.and_eq_false_iff, Bool.or_eq_false_iff, Bool.not_true, Bool.not_false] at h2)
          obtain ⟨x, hx1⟩ := at_ex (xs := h) (k := j) (by omega)
          refine W.skip ?_
          refine Then.nx ?_
          refine W.seq ?_
          refine W.block ?_
          refine W.seq ?_
          refine W.draw (.q 0 (.q 1 (.q 2 (.q 3 (.q 4 (.q 5 (.q 6 (.q 7 (.q 8 (.q 9 (.q 10 (.q 11 (.q 12 (.q 13 (.q 14 (.q 15 (.q 16 (.q 17 (.q 18 (.q 19 (.q 20 (.q 21 (.q 22 (.q 23 (.q 24 (.q 25 (.q 26 (.q 27 (.q 28 (.q 29 (.q 30 (.q 31 .nil)))))))))))))))))))))))))))))))) (fun w => Sat _ w _) rfl rfl (by kernel_rfl) rfl (by kernel_rfl) (by repeat (first | exact BodyQ.noFrame | refine Then.noFrame ?_ | refine InB.noFrame ?_)) S.drew ?_
          clear S
          refine Plan.q rfl (fun w S => Y.move (v := .slice _ _ _) rfl) ?_
          refine Plan.q rfl (fun w S => Y.move (v := .int .i64 _) rfl) ?_
          first | refine Plan.q rfl (fun w S => Y.ixN sl_22 rfl rfl (by (first | assumption | rfl)) (by (first | assumption | omega))) ?_ | refine Plan.q rfl (fun w S => Y.ix sl_22 rfl rfl (by (first | assumption | rfl)) (by (first | assumption | omega)) (by (first | assumption | omega))) ?_
          refine Plan.q rfl (fun w S => Y.fieldE fo_58_5 rfl) ?_
          refine Plan.q rfl (fun w S => Y.load rfl (loadRdF sz_3 (R1.ext S.ext) (by assumption) rfl)) ?_
          refine Plan.q rfl (fun w S => Y.move (v := .slice _ _ _) rfl) ?_
          refine Plan.q rfl (fun w S => Y.move (v := .int .i64 _) rfl) ?_
          first | refine Plan.q rfl (fun w S => Y.ixN sl_22 rfl rfl (by (first | assumption | rfl)) (by (first | assumption | omega))) ?_ | refine Plan.q rfl (fun w S => Y.ix sl_22 rfl rfl (by (first | assumption | rfl)) (by (first | assumption | omega)) (by (first | assumption | omega))) ?_
          refine Plan.q rfl (fun w S => Y.fieldE fo_58_5 rfl) ?_
          refine Plan.q rfl (fun w S => Y.load rfl (loadRdF sz_3 (R1.ext S.ext) (by assumption) rfl)) ?_
          refine Plan.q rfl (fun w S => Y.leq rfl rfl) ?_
          refine Plan.q rfl (fun w S => Y.move (v := .bool _) rfl) ?_
          refine Plan.splitB (fun h3 => ?_) (fun h3 => ?_)
          · (try simp only [decide_eq_true_eq, decide_eq_false_iff_not, Bool.not_eq_true', Bool.not_eq_false', Bool.and_eq_true, Bool.or_eq_true, Bool.and_eq_false_iff, Bool.or_eq_false_iff, Bool.not_true, Bool.not_false] at h3)
            refine Plan.qT rfl rfl (fun w S => Y.move (v := .slice _ _ _) rfl) ?_
            refine Plan.qT rfl rfl (fun w S => Y.move (v := .int .i64 _) rfl) ?_
            first | refine Plan.qT rfl rfl (fun w S => Y.ixN sl_22 rfl rfl (by (first | assumption | rfl)) (by (first | assumption | omega))) ?_ | refine Plan.qT rfl rfl (fun w S => Y.ix sl_22 rfl rfl (by (first | assumption | rfl)) (by (first | assumption | omega)) (by (first | assumption | omega))) ?_
            refine Plan.qT rfl rfl (fun w S => Y.fieldE fo_58_6 rfl) ?_
            refine Plan.qT rfl rfl (fun w S => Y.load rfl (loadRdF sz_3 (R1.ext S.ext) (by assumption) rfl)) ?_
            refine Plan.qT rfl rfl (fun w S => Y.lss rfl rfl) ?_
            refine Plan.qT rfl rfl (fun w S => Y.move (v := .bool _) rfl) ?_
            refine Plan.splitB (fun h4 => ?_) (fun h4 => ?_)
            · (try simp only [decide_eq_true_eq, decide_eq_false_iff_not, Bool.not_eq_true', Bool.not_eq_false', Bool.and_eq_true, Bool.or_eq_true, Bool.and_eq_false_iff, Bool.or_eq_false_iff, Bool.not_true, Bool.not_false] at h4)
              refine Plan.qF rfl rfl ?_
              refine Plan.qF rfl rfl ?_
              refine Plan.qF rfl rfl ?_
              refine Plan.qF rfl rfl ?_
              refine Plan.qF rfl rfl ?_
              refine Plan.qF rfl rfl ?_
              refine Plan.qF rfl rfl ?_
              refine Plan.qF rfl rfl ?_
              refine Plan.qF rfl rfl ?_
              refine Plan.qF rfl rfl ?_
              refine Plan.qF rfl rfl ?_
              refine Plan.qT rfl rfl (fun w S => Y.pickT (u := .bool _) rfl rfl) ?_
              refine Plan.q rfl (fun w S => Y.pickT (u := .bool _) rfl rfl) ?_
              refine Plan.nil (fun w S => ?_)
              replace S : Sat _ _ _ := S
              refine Then.nx ?_
              first | refine W.condT rfl ?_ | refine W.condT (congrArg Value.bool (by assumption)) ?_
              refine W.region rfl ?_
              refine WO.q (Y.move (v := .int .i64 _) rfl) ?_
              first | refine WO.q (Y.addI rfl rfl (by omega)) ?_ | refine WO.q (Y.add rfl rfl) ?_
              refine WO.q (Y.assign (v := .int .i64 _) rfl) ?_
              refine WO.nil ?_
              refine InB.nx ?_
              refine Then.nx ?_
              refine W.region rfl ?_
              refine WO.q (Y.move (v := .int .i64 _) rfl) ?_
              first | refine WO.q (Y.addI rfl rfl (by omega)) ?_ | refine WO.q (Y.add rfl rfl) ?_
              refine WO.q (Y.assign (v := .int .i64 _) rfl) ?_
              refine WO.nil ?_
              refine Then.nx ⟨?_, ?_, ?_⟩
              · (repeat (first | exact Out.hav _ _ _ | exact Out.refl _ _ | refine Out.up rfl ?_ | refine Out.sub rfl ?_))
              · exact ⟨j + 1, _, rfl, rfl, by omega, S⟩
              · (show h.length - (j + 1) < h.length - j; omega)
            · (try simp only [decide_eq_true_eq, decide_eq_false_iff_not, Bool.not_eq_true', Bool.not_eq_false', Bool.and_eq_true, Bool.or_eq_true, Bool.and_eq_false_iff, Bool.or_eq_false_iff, Bool.not_true, Bool.not_false] at h4)
              refine Plan.qT rfl rfl (fun w S => Y.move (v := .slice _ _ _) rfl) ?_
              refine Plan.qT rfl rfl (fun w S => Y.move (v := .int .i64 _) rfl) ?_
              first | refine Plan.qT rfl rfl (fun w S => Y.ixN sl_22 rfl rfl (by (first | assumption | rfl)) (by (first | assumption | omega))) ?_ | refine Plan.qT rfl rfl (fun w S => Y.ix sl_22 rfl rfl (by (first | assumption | rfl)) (by (first | assumption | omega)) (by (first | assumption | omega))) ?_
              refine Plan.qT rfl rfl (fun w S => Y.fieldE fo_58_6 rfl) ?_
              refine Plan.qT rfl rfl (fun w S => Y.load rfl (loadRdF sz_3 (R1.ext S.ext) (by assumption) rfl)) ?_
              refine Plan.qT rfl rfl (fun w S => Y.move (v := .slice _ _ _) rfl) ?_
              refine Plan.qT rfl rfl (fun w S => Y.move (v := .int .i64 _) rfl) ?_
              first | refine Plan.qT rfl rfl (fun w S => Y.ixN sl_22 rfl rfl (by (first | assumption | rfl)) (by (first | assumption | omega))) ?_ | refine Plan.qT rfl rfl (fun w S => Y.ix sl_22 rfl rfl (by (first | assumption | rfl)) (by (first | assumption | omega)) (by (first | assumption | omega))) ?_
              refine Plan.qT rfl rfl (fun w S => Y.fieldE fo_58_5 rfl) ?_
              refine Plan.qT rfl rfl (fun w S => Y.load rfl (loadRdF sz_3 (R1.ext S.ext) (by assumption) rfl)) ?_
              refine Plan.qT rfl rfl (fun w S => Y.geq rfl rfl) ?_
              refine Plan.qT rfl rfl (fun w S => Y.pickF (u := .bool _) rfl rfl) ?_
              refine Plan.q rfl (fun w S => Y.pickT (u := .bool _) rfl rfl) ?_
              refine Plan.nil (fun w S => ?_)
              replace S : Sat _ _ _ := S
              refine Then.nx ?_
              refine W.cond rfl (fun h5 => ?_) (fun h5 => ?_) -- cond 2
              · have rh5 := h5
                (try simp only [decide_eq_true_eq, decide_eq_false_iff_not, Bool.not_eq_true', Bool.not_eq_false', Bool.and_eq_true, Bool.or_eq_true, Bool.and_eq_false_iff, Bool.or_eq_false_iff, Bool.not_true, Bool.not_false] at h5)
                refine W.region rfl ?_
                refine WO.q (Y.move (v := .int .i64 _) rfl) ?_
                first | refine WO.q (Y.addI rfl rfl (by omega)) ?_ | refine WO.q (Y.add rfl rfl) ?_
                refine WO.q (Y.assign (v := .int .i64 _) rfl) ?_
                refine WO.nil ?_
                refine InB.nx ?_
                refine Then.nx ?_
                refine W.region rfl ?_
                refine WO.q (Y.move (v := .int .i64 _) rfl) ?_
                first | refine WO.q (Y.addI rfl rfl (by omega)) ?_ | refine WO.q (Y.add rfl rfl) ?_
                refine WO.q (Y.assign (v := .int .i64 _) rfl) ?_
                refine WO.nil ?_
                refine Then.nx ⟨?_, ?_, ?_⟩
                · (repeat (first | exact Out.hav _ _ _ | exact Out.refl _ _ | refine Out.up rfl ?_ | refine Out.sub rfl ?_))
                · exact ⟨j + 1, _, rfl, rfl, by omega, S⟩
                · (show h.length - (j + 1) < h.length - j; omega)
              · have rh5 := h5
                (try simp only [decide_eq_true_eq, decide_eq_false_iff_not, Bool.not_eq_true', Bool.not_eq_false', Bool.and_eq_true, Bool.or_eq_true, Bool.and_eq_false_iff, Bool.or_eq_false_iff, Bool.not_true, Bool.not_false] at h5)
                refine W.skip ?_
                refine InB.nx ?_
                refine Then.nx ?_
                refine W.region rfl ?_
                refine WO.q (Y.move (v := .int .i64 _) rfl) ?_
                first | refine WO.q (Y.addI rfl rfl (by omega)) ?_ | refine WO.q (Y.add rfl rfl) ?_
                refine WO.q (Y.assign (v := .int .i64 _) rfl) ?_
                refine WO.nil ?_
                refine Then.nx ⟨?_, ?_, ?_⟩
                · (repeat (first | exact Out.hav _ _ _ | exact Out.refl _ _ | refine Out.up rfl ?_ | refine Out.sub rfl ?_))
                · exact ⟨j + 1, _, rfl, rfl, by omega, S⟩
                · (show h.length - (j + 1) < h.length - j; omega)
          · (try simp only [decide_eq_true_eq, decide_eq_false_iff_not, Bool.not_eq_true', Bool.not_eq_false', Bool.and_eq_true, Bool.or_eq_true, Bool.and_eq_false_iff, Bool.or_eq_false_iff, Bool.not_true, Bool.not_false] at h3)
            refine Plan.qF rfl rfl ?_
            refine Plan.qF rfl rfl ?_
            refine Plan.qF rfl rfl ?_
            refine Plan.qF rfl rfl ?_
            refine Plan.qF rfl rfl ?_
            refine Plan.qF rfl rfl ?_
            refine Plan.qF rfl rfl ?_
            refine Plan.qF rfl rfl ?_
            refine Plan.qF rfl rfl ?_
            refine Plan.qF rfl rfl ?_
            refine Plan.qF rfl rfl ?_
            refine Plan.qF rfl rfl ?_
            refine Plan.qF rfl rfl ?_
            refine Plan.qF rfl rfl ?_
            refine Plan.qF rfl rfl ?_
            refine Plan.qF rfl rfl ?_
            refine Plan.qF rfl rfl ?_
            refine Plan.qF rfl rfl ?_
            refine Plan.qF rfl rfl ?_
            refine Plan.q rfl (fun w S => Y.pickF (u := .bool _) rfl rfl) ?_
            refine Plan.nil (fun w S => ?_)
            replace S : Sat _ _ _ := S
            refine Then.nx ?_
            first | refine W.condF rfl ?_ | refine W.condF (congrArg Value.bool (by assumption)) ?_
            refine W.skip ?_
            refine InB.nx ?_
            refine Then.nx ?_
            refine W.region rfl ?_
            refine WO.q (Y.move (v := .int .i64 _) rfl) ?_
            first | refine WO.q (Y.addI rfl rfl (by omega)) ?_ | refine WO.q (Y.add rfl rfl) ?_
            refine WO.q (Y.assign (v := .int .i64 _) rfl) ?_
            refine WO.nil ?_
            refine Then.nx ⟨?_, ?_, ?_⟩
            · (repeat (first | exact Out.hav _ _ _ | exact Out.refl _ _ | refine Out.up rfl ?_ | refine Out.sub rfl ?_))
            · exact ⟨j + 1, _, rfl, rfl, by omega, S⟩
            · (show h.length - (j + 1) < h.length - j; omega)
        · have rh2 := h2
          (try simp only [decide_eq_true_eq, decide_eq_false_iff_not, Bool.not_eq_true', Bool.not_eq_false', Bool.and_eq_true, Bool.or_eq_true, Bool.and_eq_false_iff, Bool.or_eq_false_iff, Bool.not_true, Bool.not_false] at h2)
          refine W.exit ?_
          refine Then.x ?_
          refine Then.x ?_
          refine InB.e ?_
          refine Then.nx ?_
          refine W.region rfl ?_
          refine WO.q (Y.move (v := .int .i64 _) rfl) ?_
          refine WO.q (Y.move (v := .int .i64 _) rfl) ?_
          refine WO.q (Y.max2 rfl rfl) ?_
          refine WO.q (Y.assign (v := .int .i64 _) rfl) ?_
          refine WO.nil ?_
          refine InB.nx ?_
          refine Then.nx ?_
          refine W.region rfl ?_
          refine WO.q (Y.move (v := .int .i64 _) rfl) ?_
          first | refine WO.q (Y.addI rfl rfl (by omega)) ?_ | refine WO.q (Y.add rfl rfl) ?_
          refine WO.q (Y.assign (v := .int .i64 _) rfl) ?_
          refine WO.nil ?_
          refine Then.nx ⟨?_, ?_, ?_⟩
          · (repeat (first | exact Out.hav _ _ _ | exact Out.refl _ _ | refine Out.up rfl ?_ | refine Out.sub rfl ?_))
          · exact ⟨i + 1, _, rfl, rfl, by omega, S⟩
          · (show h.length - (i + 1) < h.length - i; omega)
    · have rh1 := h1
      (try simp only [decide_eq_true_eq, decide_eq_false_iff_not, Bool.not_eq_true', Bool.not_eq_false', Bool.and_eq_true, Bool.or_eq_true, Bool.and_eq_false_iff, Bool.or_eq_false_iff, Bool.not_true, Bool.not_false] at h1)
      refine W.exit ?_
      refine Then.x ?_
      refine Then.x ?_
      refine InB.e ?_
      refine Then.nx ?_
      refine W.seq ?_
      refine W.region rfl ?_
      refine WO.q (Y.move (v := .int .i64 _) rfl) ?_
      refine WO.q (Y.assign (v := .int .i64 _) rfl) ?_
      refine WO.nil ?_
      refine Then.nx ?_
      refine W.ret ?_
      refine BodyQ.ret1 Tryd.results9 (ResV.tmp _ rfl) ?_
      exact ⟨_, rfl, S.ext⟩
theorem EqIntsN_spec (w0 : World) (a b : Option Addr) (ca cb : Nat) (xs ys : List Nat) (R1 : Rd tN w0 a xs) (R2 : Rd tN w0 b ys) (hx : xs.length ≤ 9223372036854775807) : Calls Tryd.prog 14 [.slice a xs.length ca, .slice b ys.length cb].toArray w0 (fun e w => e = .returned (.bool (decide (xs = ys))) ∧ Ext w0 w) := by
  have h := EqInts_spec w0 a b ca cb _ _ R1.toI R2.toI (by rw [List.length_map]; exact hx)
  rw [List.length_map, List.length_map] at h
  simp only [map_nat_inj] at h
  exact h
end Go.Proofs
