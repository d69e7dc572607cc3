/-
  Walks of sound.
-/
import Derived.Test.YtlnimgpfopaicaaGb
import Derived.Test.YtlnimgpfopaicaaFa
import Derived.Test.YtlnimgpfopaicaaFb
import Derived.Test.YtlnimgpfopaicaaUa
import Derived.Test.YtlnimgpfopaicaaUb
import Derived.Test.YtlnimgpfopaicaaUc
set_option linter.unusedVariables false
set_option linter.unusedSimpArgs false
set_option maxRecDepth 100000
set_option maxHeartbeats 1000000
namespace Go.Proofs
open Go Go.TL Go.RowKit
theorem sound_spec (w0 w : World) (x : GLet) (a : Option Addr) (c n mb : Nat) (nm : ByteArray → Option Bool) (names : ByteArray → Bool) (L : List HA) (hnm : ∀ s, (nm s).getD false = names s) (hc : x.tree.length ≤ c) (hx : x.tree.length ≤ 1048576) (R1 : Rd tNode w0 a x.tree) (S : Sat w0 w (MapF mb (fun s : ByteArray => Value.string s) (fun b : Bool => Value.bool b) nm :: L)) :
    Calls Try.prog 31 [.agg (tRLet.enc ⟨x.name, (a, x.tree.length, c), x.at_⟩).toArray, .int .i64 (n : Int), .map (some mb)].toArray w (fun e w' => e = .returned (.int .i64 (soundM x n names)) ∧ Sat w0 w' (MapF mb (fun s : ByteArray => Value.string s) (fun b : Bool => Value.bool b) nm :: L)) := by
 refine calls_of_W (args := [.agg (tRLet.enc ⟨x.name, (a, x.tree.length, c), x.at_⟩).toArray, .int .i64 (n : Int), .map (some mb)]) 87 Try.func31 rfl Try.ntmps31 rfl ?_
 refine W.seq ?_
 refine W.region rfl ?_
 refine WO.e (O.box rfl rfl S (fun b3 w S => ?_))
 refine WO.q (Y.assign (v := .int .i64 _) rfl) ?_
 refine WO.nil ?_
 refine Then.nx ?_
 refine W.seq ?_
 refine W.block ?_
 refine W.seq ?_
 refine W.region rfl ?_
 refine WO.q (Y.move (v := .int .i64 _) rfl) ?_
 refine WO.q (Y.geq rfl rfl) ?_
 refine WO.q (Y.assign (v := .bool _) rfl) ?_
 refine WO.nil ?_
 refine Then.nx ?_
 refine W.cond rfl (fun h1 => ?_) (fun h1 => ?_) -- cond 0
 ·
  have rh1 := h1
  (try simp only [Q1, Q2, Q3, Q4, Q5, Q6, Q7, Q8, Q9, Qa] at h1)
  refine W.seq ?_
  refine W.region rfl ?_
  refine WO.q (Y.assign (v := .int .i64 _) rfl) ?_
  refine WO.nil ?_
  refine Then.nx ?_
  refine W.ret ?_
  refine InB.r ?_
  refine Then.r ?_
  refine BodyQ.ret1 Try.results31 (ResV.tmp _ rfl) ?_
  refine ⟨?_, S.pk (by repeat (first | exact Pk.nil _ | exact Pk.refl _ | refine Pk.cons 0 rfl ?_ | refine Pk.cons 1 rfl ?_ | refine Pk.cons 2 rfl ?_ | refine Pk.cons 3 rfl ?_ | refine Pk.cons 4 rfl ?_ | refine Pk.cons 5 rfl ?_ | refine Pk.cons 6 rfl ?_ | refine Pk.cons 7 rfl ?_ | refine Pk.cons 8 rfl ?_ | refine Pk.cons 9 rfl ?_ | refine Pk.cons 10 rfl ?_ | refine Pk.cons 11 rfl ?_ | refine Pk.cons 12 rfl ?_ | refine Pk.cons 13 rfl ?_ | refine Pk.drop ?_))⟩; show Ending.returned (.int .i64 _) = _; first | rw [soundM_many (by omega)] | rw [soundM_name (by omega) (.inl (by assumption))] | rw [soundM_name (by omega) (.inr (by (rw [← hnm]; assumption)))] | rw [soundM_none (by omega) (by assumption) (by (rw [← hnm]; assumption)) (hG.none (by assumption))] | (obtain ⟨t, r, b, hg, rfl, rfl, hM, hR2, hrc⟩ := hG.some (by assumption); rw [soundM_rest (by omega) (by assumption) (by (rw [← hnm]; assumption)) hg (by omega)]) | rw [soundM_args (by omega) (by assumption) (by (rw [← hnm]; assumption)) hg (by omega) (any_at hk (decide_eq_true (by omega)))] | rw [soundM_ref (by omega) (by assumption) (by (rw [← hnm]; assumption)) hg (by omega) hmk (any_at hk (decide_eq_true (by omega)))] | rw [soundM_end (by omega) (by assumption) (by (rw [← hnm]; assumption)) hg (by omega) hmk hrf, if_pos (by omega)] | rw [soundM_end (by omega) (by assumption) (by (rw [← hnm]; assumption)) hg (by omega) hmk hrf, if_neg (by omega)]
 ·
  have rh1 := h1
  (try simp only [Q1, Q2, Q3, Q4, Q5, Q6, Q7, Q8, Q9, Qa] at h1)
  refine W.seq ?_
  refine W.region rfl ?_
  refine WO.q (Y.fieldB fo_51_0 rfl) ?_
  first | refine WO.q (Y.load rfl (loadS1 sz_9 S 0 rfl rfl)) ?_ | refine WO.q (Y.load rfl (loadS1 sz_9 S 1 rfl rfl)) ?_ | refine WO.q (Y.load rfl (loadS1 sz_9 S 2 rfl rfl)) ?_
  refine WO.e (O.call cf_44 rfl (isName_spec _ x.name) ?_)
  rintro _ w ⟨rfl, E⟩
  replace S := S.keep E
  refine ⟨_, rfl, ?_⟩
  refine WO.q (Y.not rfl) ?_
  refine WO.q (Y.move (v := .bool _) rfl) ?_
  refine WO.splitB (fun h2 => ?_) (fun h2 => ?_)
  ·
   (try simp only [Q1, Q2, Q3, Q4, Q5, Q6, Q7, Q8, Q9, Qa] at h2)
   refine WO.qF rfl ?_
   refine WO.qF rfl ?_
   refine WO.qF rfl ?_
   refine WO.qF rfl ?_
   refine WO.q (Y.pickT (u := .bool _) rfl rfl) ?_
   refine WO.q (Y.assign (v := .bool _) rfl) ?_
   refine WO.nil ?_
   refine Then.nx ?_
   first | refine W.condT rfl ?_ | refine W.condT (congrArg Value.bool (by assumption)) ?_
   refine W.seq ?_
   refine W.region rfl ?_
   refine WO.q (Y.assign (v := .int .i64 _) rfl) ?_
   refine WO.nil ?_
   refine Then.nx ?_
   refine W.ret ?_
   refine InB.r ?_
   refine Then.r ?_
   refine BodyQ.ret1 Try.results31 (ResV.tmp _ rfl) ?_
   refine ⟨?_, S.pk (by repeat (first | exact Pk.nil _ | exact Pk.refl _ | refine Pk.cons 0 rfl ?_ | refine Pk.cons 1 rfl ?_ | refine Pk.cons 2 rfl ?_ | refine Pk.cons 3 rfl ?_ | refine Pk.cons 4 rfl ?_ | refine Pk.cons 5 rfl ?_ | refine Pk.cons 6 rfl ?_ | refine Pk.cons 7 rfl ?_ | refine Pk.cons 8 rfl ?_ | refine Pk.cons 9 rfl ?_ | refine Pk.cons 10 rfl ?_ | refine Pk.cons 11 rfl ?_ | refine Pk.cons 12 rfl ?_ | refine Pk.cons 13 rfl ?_ | refine Pk.drop ?_))⟩; show Ending.returned (.int .i64 _) = _; first | rw [soundM_many (by omega)] | rw [soundM_name (by omega) (.inl (by assumption))] | rw [soundM_name (by omega) (.inr (by (rw [← hnm]; assumption)))] | rw [soundM_none (by omega) (by assumption) (by (rw [← hnm]; assumption)) (hG.none (by assumption))] | (obtain ⟨t, r, b, hg, rfl, rfl, hM, hR2, hrc⟩ := hG.some (by assumption); rw [soundM_rest (by omega) (by assumption) (by (rw [← hnm]; assumption)) hg (by omega)]) | rw [soundM_args (by omega) (by assumption) (by (rw [← hnm]; assumption)) hg (by omega) (any_at hk (decide_eq_true (by omega)))] | rw [soundM_ref (by omega) (by assumption) (by (rw [← hnm]; assumption)) hg (by omega) hmk (any_at hk (decide_eq_true (by omega)))] | rw [soundM_end (by omega) (by assumption) (by (rw [← hnm]; assumption)) hg (by omega) hmk hrf, if_pos (by omega)] | rw [soundM_end (by omega) (by assumption) (by (rw [← hnm]; assumption)) hg (by omega) hmk hrf, if_neg (by omega)]
  ·
   (try simp only [Q1, Q2, Q3, Q4, Q5, Q6, Q7, Q8, Q9, Qa] at h2)
   refine WO.qT rfl (Y.move (v := .map _) rfl) ?_
   refine WO.qT rfl (Y.fieldB fo_51_0 rfl) ?_
   first | refine WO.qT rfl (Y.load rfl (loadS1 sz_9 S 0 rfl rfl)) ?_ | refine WO.qT rfl (Y.load rfl (loadS1 sz_9 S 1 rfl rfl)) ?_ | refine WO.qT rfl (Y.load rfl (loadS1 sz_9 S 2 rfl rfl)) ?_
   refine WO.qT rfl (Y.lookup (kv := (fun s : ByteArray => Value.string s)) (vv := (fun b : Bool => Value.bool b)) (z := false) x.name Try.underlying76 (keyStr Try.underlying9) (fun w => by kernel_rfl) 1 S rfl rfl rfl) ?_
   refine WO.q (Y.pickF (u := .bool _) rfl rfl) ?_
   refine WO.q (Y.assign (v := .bool _) rfl) ?_
   refine WO.nil ?_
   refine Then.nx ?_
   refine W.cond rfl (fun h3 => ?_) (fun h3 => ?_) -- cond 1
   ·
    have rh3 := h3
    (try simp only [Q1, Q2, Q3, Q4, Q5, Q6, Q7, Q8, Q9, Qa] at h3)
    refine W.seq ?_
    refine W.region rfl ?_
    refine WO.q (Y.assign (v := .int .i64 _) rfl) ?_
    refine WO.nil ?_
    refine Then.nx ?_
    refine W.ret ?_
    refine InB.r ?_
    refine Then.r ?_
    refine BodyQ.ret1 Try.results31 (ResV.tmp _ rfl) ?_
    refine ⟨?_, S.pk (by repeat (first | exact Pk.nil _ | exact Pk.refl _ | refine Pk.cons 0 rfl ?_ | refine Pk.cons 1 rfl ?_ | refine Pk.cons 2 rfl ?_ | refine Pk.cons 3 rfl ?_ | refine Pk.cons 4 rfl ?_ | refine Pk.cons 5 rfl ?_ | refine Pk.cons 6 rfl ?_ | refine Pk.cons 7 rfl ?_ | refine Pk.cons 8 rfl ?_ | refine Pk.cons 9 rfl ?_ | refine Pk.cons 10 rfl ?_ | refine Pk.cons 11 rfl ?_ | refine Pk.cons 12 rfl ?_ | refine Pk.cons 13 rfl ?_ | refine Pk.drop ?_))⟩; show Ending.returned (.int .i64 _) = _; first | rw [soundM_many (by omega)] | rw [soundM_name (by omega) (.inl (by assumption))] | rw [soundM_name (by omega) (.inr (by (rw [← hnm]; assumption)))] | rw [soundM_none (by omega) (by assumption) (by (rw [← hnm]; assumption)) (hG.none (by assumption))] | (obtain ⟨t, r, b, hg, rfl, rfl, hM, hR2, hrc⟩ := hG.some (by assumption); rw [soundM_rest (by omega) (by assumption) (by (rw [← hnm]; assumption)) hg (by omega)]) | rw [soundM_args (by omega) (by assumption) (by (rw [← hnm]; assumption)) hg (by omega) (any_at hk (decide_eq_true (by omega)))] | rw [soundM_ref (by omega) (by assumption) (by (rw [← hnm]; assumption)) hg (by omega) hmk (any_at hk (decide_eq_true (by omega)))] | rw [soundM_end (by omega) (by assumption) (by (rw [← hnm]; assumption)) hg (by omega) hmk hrf, if_pos (by omega)] | rw [soundM_end (by omega) (by assumption) (by (rw [← hnm]; assumption)) hg (by omega) hmk hrf, if_neg (by omega)]
   ·
    have rh3 := h3
    (try simp only [Q1, Q2, Q3, Q4, Q5, Q6, Q7, Q8, Q9, Qa] at h3)
    refine W.skip ?_
    refine InB.nx ?_
    refine Then.nx ?_
    refine W.seq ?_
    refine W.region rfl ?_
    refine WO.q (Y.fieldB fo_51_1 rfl) ?_
    first | refine WO.q (Y.load rfl (loadS1 sz_49 S 0 rfl rfl)) ?_ | refine WO.q (Y.load rfl (loadS1 sz_49 S 1 rfl rfl)) ?_ | refine WO.q (Y.load rfl (loadS1 sz_49 S 2 rfl rfl)) ?_
    refine WO.e (O.call cf_45 rfl (grown_spec w0 (x.tree.length + 1) _ _ x.tree a c true (by omega) hc hx R1 S) ?_)
    rintro _ w ⟨p, ra, rn, rc, M, rfl, S, hG⟩
    refine ⟨_, rfl, ?_⟩
    refine WO.q (Y.move (v := .tuple _) rfl) ?_
    first | refine WO.q (Y.extract (v := .pointer (some _)) rfl rfl) ?_ | refine WO.q (Y.extract (v := .pointer _) rfl rfl) ?_
    refine WO.q (Y.extract (v := .slice _ _ _) rfl rfl) ?_
    first | refine WO.q (Y.assign (v := .pointer (some _)) rfl) ?_ | refine WO.q (Y.assign (v := .pointer _) rfl) ?_
    refine WO.q (Y.assign (v := .slice _ _ _) rfl) ?_
    refine WO.nil ?_
    refine Then.nx ?_
    refine W.seq ?_
    refine W.seq ?_
    refine W.region rfl ?_
    first | refine WO.q (Y.move (v := .pointer (some _)) rfl) ?_ | refine WO.q (Y.move (v := .pointer _) rfl) ?_
    refine WO.q (Y.eqNilP Try.underlying91 rfl rfl) ?_
    refine WO.q (Y.move (v := .bool _) rfl) ?_
    refine WO.splitB (fun h4 => ?_) (fun h4 => ?_)
    ·
     (try simp only [Q1, Q2, Q3, Q4, Q5, Q6, Q7, Q8, Q9, Qa] at h4)
     refine WO.qF rfl ?_
     refine WO.qF rfl ?_
     refine WO.qF rfl ?_
     refine WO.q (Y.pickT (u := .bool _) rfl rfl) ?_
     refine WO.q (Y.move (v := .bool _) rfl) ?_
     refine WO.qF rfl ?_
     refine WO.qF rfl ?_
     refine WO.qF rfl ?_
     refine WO.q (Y.pickT (u := .bool _) rfl rfl) ?_
     refine WO.nil ?_
     refine Then.nx ?_
     first | refine W.condT rfl ?_ | refine W.condT (congrArg Value.bool (by assumption)) ?_
     refine W.seq ?_
     refine W.region rfl ?_
     refine WO.q (Y.assign (v := .int .i64 _) rfl) ?_
     refine WO.nil ?_
     refine Then.nx ?_
     refine W.ret ?_
     refine Then.r ?_
     refine BodyQ.ret1 Try.results31 (ResV.tmp _ rfl) ?_
     refine ⟨?_, S.pk (by repeat (first | exact Pk.nil _ | exact Pk.refl _ | refine Pk.cons 0 rfl ?_ | refine Pk.cons 1 rfl ?_ | refine Pk.cons 2 rfl ?_ | refine Pk.cons 3 rfl ?_ | refine Pk.cons 4 rfl ?_ | refine Pk.cons 5 rfl ?_ | refine Pk.cons 6 rfl ?_ | refine Pk.cons 7 rfl ?_ | refine Pk.cons 8 rfl ?_ | refine Pk.cons 9 rfl ?_ | refine Pk.cons 10 rfl ?_ | refine Pk.cons 11 rfl ?_ | refine Pk.cons 12 rfl ?_ | refine Pk.cons 13 rfl ?_ | refine Pk.drop ?_))⟩; show Ending.returned (.int .i64 _) = _; first | rw [soundM_many (by omega)] | rw [soundM_name (by omega) (.inl (by assumption))] | rw [soundM_name (by omega) (.inr (by (rw [← hnm]; assumption)))] | rw [soundM_none (by omega) (by assumption) (by (rw [← hnm]; assumption)) (hG.none (by assumption))] | (obtain ⟨t, r, b, hg, rfl, rfl, hM, hR2, hrc⟩ := hG.some (by assumption); rw [soundM_rest (by omega) (by assumption) (by (rw [← hnm]; assumption)) hg (by omega)]) | rw [soundM_args (by omega) (by assumption) (by (rw [← hnm]; assumption)) hg (by omega) (any_at hk (decide_eq_true (by omega)))] | rw [soundM_ref (by omega) (by assumption) (by (rw [← hnm]; assumption)) hg (by omega) hmk (any_at hk (decide_eq_true (by omega)))] | rw [soundM_end (by omega) (by assumption) (by (rw [← hnm]; assumption)) hg (by omega) hmk hrf, if_pos (by omega)] | rw [soundM_end (by omega) (by assumption) (by (rw [← hnm]; assumption)) hg (by omega) hmk hrf, if_neg (by omega)]
    ·
     (try simp only [Q1, Q2, Q3, Q4, Q5, Q6, Q7, Q8, Q9, Qa] at h4)
     refine WO.qT rfl (Y.move (v := .slice _ _ _) rfl) ?_
     refine WO.qT rfl (Y.len (t' := 0) Try.underlying49 rfl) ?_
     refine WO.qT rfl (Y.gtr rfl rfl) ?_
     refine WO.q (Y.pickF (u := .bool _) rfl rfl) ?_
     refine WO.q (Y.move (v := .bool _) rfl) ?_
     refine WO.splitB (fun h5 => ?_) (fun h5 => ?_)
     ·
      (try simp only [Q1, Q2, Q3, Q4, Q5, Q6, Q7, Q8, Q9, Qa] at h5)
      refine WO.qF rfl ?_
      refine WO.qF rfl ?_
      refine WO.qF rfl ?_
      refine WO.q (Y.pickT (u := .bool _) rfl rfl) ?_
      refine WO.nil ?_
      refine Then.nx ?_
      first | refine W.condT rfl ?_ | refine W.condT (congrArg Value.bool (by assumption)) ?_
      refine W.seq ?_
      refine W.region rfl ?_
      refine WO.q (Y.assign (v := .int .i64 _) rfl) ?_
      refine WO.nil ?_
      refine Then.nx ?_
      refine W.ret ?_
      refine Then.r ?_
      refine BodyQ.ret1 Try.results31 (ResV.tmp _ rfl) ?_
      refine ⟨?_, S.pk (by repeat (first | exact Pk.nil _ | exact Pk.refl _ | refine Pk.cons 0 rfl ?_ | refine Pk.cons 1 rfl ?_ | refine Pk.cons 2 rfl ?_ | refine Pk.cons 3 rfl ?_ | refine Pk.cons 4 rfl ?_ | refine Pk.cons 5 rfl ?_ | refine Pk.cons 6 rfl ?_ | refine Pk.cons 7 rfl ?_ | refine Pk.cons 8 rfl ?_ | refine Pk.cons 9 rfl ?_ | refine Pk.cons 10 rfl ?_ | refine Pk.cons 11 rfl ?_ | refine Pk.cons 12 rfl ?_ | refine Pk.cons 13 rfl ?_ | refine Pk.drop ?_))⟩; show Ending.returned (.int .i64 _) = _; first | rw [soundM_many (by omega)] | rw [soundM_name (by omega) (.inl (by assumption))] | rw [soundM_name (by omega) (.inr (by (rw [← hnm]; assumption)))] | rw [soundM_none (by omega) (by assumption) (by (rw [← hnm]; assumption)) (hG.none (by assumption))] | (obtain ⟨t, r, b, hg, rfl, rfl, hM, hR2, hrc⟩ := hG.some (by assumption); rw [soundM_rest (by omega) (by assumption) (by (rw [← hnm]; assumption)) hg (by omega)]) | rw [soundM_args (by omega) (by assumption) (by (rw [← hnm]; assumption)) hg (by omega) (any_at hk (decide_eq_true (by omega)))] | rw [soundM_ref (by omega) (by assumption) (by (rw [← hnm]; assumption)) hg (by omega) hmk (any_at hk (decide_eq_true (by omega)))] | rw [soundM_end (by omega) (by assumption) (by (rw [← hnm]; assumption)) hg (by omega) hmk hrf, if_pos (by omega)] | rw [soundM_end (by omega) (by assumption) (by (rw [← hnm]; assumption)) hg (by omega) hmk hrf, if_neg (by omega)]
     ·
      (try simp only [Q1, Q2, Q3, Q4, Q5, Q6, Q7, Q8, Q9, Qa] at h5)
      refine WO.qT rfl (Y.fieldB fo_51_2 rfl) ?_
      first | refine WO.qT rfl (Y.load rfl (loadS1 sz_3 S 0 rfl rfl)) ?_ | refine WO.qT rfl (Y.load rfl (loadS1 sz_3 S 1 rfl rfl)) ?_ | refine WO.qT rfl (Y.load rfl (loadS1 sz_3 S 2 rfl rfl)) ?_
      refine WO.qT rfl (Y.lss rfl rfl) ?_
      refine WO.q (Y.pickF (u := .bool _) rfl rfl) ?_
      refine WO.nil ?_
      refine Then.nx ?_
      refine W.cond rfl (fun h6 => ?_) (fun h6 => ?_) -- cond 2
      ·
       have rh6 := h6
       (try simp only [Q1, Q2, Q3, Q4, Q5, Q6, Q7, Q8, Q9, Qa] at h6)
       refine W.seq ?_
       refine W.region rfl ?_
       refine WO.q (Y.assign (v := .int .i64 _) rfl) ?_
       refine WO.nil ?_
       refine Then.nx ?_
       refine W.ret ?_
       refine Then.r ?_
       refine BodyQ.ret1 Try.results31 (ResV.tmp _ rfl) ?_
       refine ⟨?_, S.pk (by repeat (first | exact Pk.nil _ | exact Pk.refl _ | refine Pk.cons 0 rfl ?_ | refine Pk.cons 1 rfl ?_ | refine Pk.cons 2 rfl ?_ | refine Pk.cons 3 rfl ?_ | refine Pk.cons 4 rfl ?_ | refine Pk.cons 5 rfl ?_ | refine Pk.cons 6 rfl ?_ | refine Pk.cons 7 rfl ?_ | refine Pk.cons 8 rfl ?_ | refine Pk.cons 9 rfl ?_ | refine Pk.cons 10 rfl ?_ | refine Pk.cons 11 rfl ?_ | refine Pk.cons 12 rfl ?_ | refine Pk.cons 13 rfl ?_ | refine Pk.drop ?_))⟩; show Ending.returned (.int .i64 _) = _; first | rw [soundM_many (by omega)] | rw [soundM_name (by omega) (.inl (by assumption))] | rw [soundM_name (by omega) (.inr (by (rw [← hnm]; assumption)))] | rw [soundM_none (by omega) (by assumption) (by (rw [← hnm]; assumption)) (hG.none (by assumption))] | (obtain ⟨t, r, b, hg, rfl, rfl, hM, hR2, hrc⟩ := hG.some (by assumption); rw [soundM_rest (by omega) (by assumption) (by (rw [← hnm]; assumption)) hg (by omega)]) | rw [soundM_args (by omega) (by assumption) (by (rw [← hnm]; assumption)) hg (by omega) (any_at hk (decide_eq_true (by omega)))] | rw [soundM_ref (by omega) (by assumption) (by (rw [← hnm]; assumption)) hg (by omega) hmk (any_at hk (decide_eq_true (by omega)))] | rw [soundM_end (by omega) (by assumption) (by (rw [← hnm]; assumption)) hg (by omega) hmk hrf, if_pos (by omega)] | rw [soundM_end (by omega) (by assumption) (by (rw [← hnm]; assumption)) hg (by omega) hmk hrf, if_neg (by omega)]
      ·
       have rh6 := h6
       (try simp only [Q1, Q2, Q3, Q4, Q5, Q6, Q7, Q8, Q9, Qa] at h6)
       refine W.skip ?_
       refine Then.nx ?_
       refine W.seq ?_
       refine W.seq ?_
       obtain ⟨t, r, b, hg, rfl, rfl, hM, hR2, hrc⟩ := hG.some (by assumption)
       have hfl := growF_flat _ _ _ _ _ hg
       have hfl2 : (flat t).length ≤ x.tree.length := by (have := congrArg List.length hfl; rw [List.length_append] at this; omega)
       refine W.region rfl ?_
       refine WO.q (Y.fieldB fo_51_1 rfl) ?_
       first | refine WO.q (Y.load rfl (loadS1 sz_49 S 0 rfl rfl)) ?_ | refine WO.q (Y.load rfl (loadS1 sz_49 S 1 rfl rfl)) ?_ | refine WO.q (Y.load rfl (loadS1 sz_49 S 2 rfl rfl)) ?_
       refine WO.q (Y.len (t' := 0) Try.underlying49 rfl) ?_
       refine WO.q (Y.move (v := .int .i64 _) rfl) ?_
       refine WO.nil ?_
       refine Then.nx ?_
       refine W.block ?_
       -- loop 0 carries 50
       refine W.loop1 [6, 10, 50, 51, 52, 53, 54, 55, 56, 57] 50 (fun v50 w => ∃ i : Nat, v50 = .int .i64 (i : Int) ∧ i ≤ x.tree.length ∧ (∀ (j : Nat) k, j < i → x.tree[j]? = some k → decide (16 < k.kids) = false) ∧ Sat w0 w (M :: Cel b3 (tRLet.enc ⟨x.name, (a, x.tree.length, c), x.at_⟩) 51 :: MapF mb (fun s : ByteArray => Value.string s) (fun b : Bool => Value.bool b) nm :: L)) (fun v50 w => x.tree.length - (intOf v50).toNat) ?_ ?_
       ·
        exact ⟨0, rfl, Nat.zero_le _, fun j k hj _ => absurd hj (by omega), S⟩
       ·
        rintro g0 v50 w ⟨i, rfl, hi, hall, S⟩
        refine W.seq ?_
        refine W.region rfl ?_
        refine WO.q (Y.lss rfl rfl) ?_
        refine WO.nil ?_
        refine Then.nx ?_
        refine W.seq ?_
        refine W.cond rfl (fun h7 => ?_) (fun h7 => ?_) -- cond 3
        ·
         have rh7 := h7
         (try simp only [Q1, Q2, Q3, Q4, Q5, Q6, Q7, Q8, Q9, Qa] at h7)
         refine W.skip ?_
         refine Then.nx ?_
         refine W.seq ?_
         refine W.block ?_
         refine W.seq ?_
         have ha := R1.1 (by omega)
         obtain ⟨k, hk⟩ := at_ex (xs := x.tree) (k := i) (by omega)
         refine W.region rfl ?_
         first | refine WO.q (Y.ixN sl_49 rfl rfl (by (first | assumption | rfl)) (by (first | assumption | omega))) ?_ | refine WO.q (Y.ix sl_49 rfl rfl (by (first | assumption | rfl)) (by (first | assumption | omega)) (by (first | assumption | omega))) ?_
         refine WO.q (Y.load rfl (loadRdN sz_75 (R1.ext S.ext) (by assumption))) ?_
         refine WO.e (O.alloc z_75 S (fun b10 w S => ?_))
         first | refine WO.e0 (O.store (v := .agg _) 0 S rfl rfl rfl sz_75 rfl rfl rfl rfl (fun w S => ?_)) | refine WO.e0 (O.store (v := .agg _) 1 S rfl rfl rfl sz_75 rfl rfl rfl rfl (fun w S => ?_)) | refine WO.e0 (O.store (v := .agg _) 2 S rfl rfl rfl sz_75 rfl rfl rfl rfl (fun w S => ?_))
         refine WO.nil ?_
         refine Then.nx ?_
         refine W.seq ?_
         refine W.region rfl ?_
         refine WO.q (Y.fieldB fo_75_2 rfl) ?_
         first | refine WO.q (Y.load rfl (loadS1 sz_3 S 0 rfl rfl)) ?_ | refine WO.q (Y.load rfl (loadS1 sz_3 S 1 rfl rfl)) ?_ | refine WO.q (Y.load rfl (loadS1 sz_3 S 2 rfl rfl)) ?_
         refine WO.q (Y.gtr rfl rfl) ?_
         refine WO.nil ?_
         refine Then.nx ?_
         refine W.cond rfl (fun h8 => ?_) (fun h8 => ?_) -- cond 4
         ·
          have rh8 := h8
          (try simp only [Q1, Q2, Q3, Q4, Q5, Q6, Q7, Q8, Q9, Qa] at h8)
          refine W.seq ?_
          refine W.region rfl ?_
          refine WO.q (Y.assign (v := .int .i64 _) rfl) ?_
          refine WO.nil ?_
          refine Then.nx ?_
          refine W.ret ?_
          refine InB.r ?_
          refine Then.r ?_
          refine Then.r ?_
          refine InB.r ?_
          refine Then.r ?_
          refine BodyQ.ret1 Try.results31 (ResV.tmp _ rfl) ?_
          refine ⟨?_, S.pk (by repeat (first | exact Pk.nil _ | exact Pk.refl _ | refine Pk.cons 0 rfl ?_ | refine Pk.cons 1 rfl ?_ | refine Pk.cons 2 rfl ?_ | refine Pk.cons 3 rfl ?_ | refine Pk.cons 4 rfl ?_ | refine Pk.cons 5 rfl ?_ | refine Pk.cons 6 rfl ?_ | refine Pk.cons 7 rfl ?_ | refine Pk.cons 8 rfl ?_ | refine Pk.cons 9 rfl ?_ | refine Pk.cons 10 rfl ?_ | refine Pk.cons 11 rfl ?_ | refine Pk.cons 12 rfl ?_ | refine Pk.cons 13 rfl ?_ | refine Pk.drop ?_))⟩; show Ending.returned (.int .i64 _) = _; first | rw [soundM_many (by omega)] | rw [soundM_name (by omega) (.inl (by assumption))] | rw [soundM_name (by omega) (.inr (by (rw [← hnm]; assumption)))] | rw [soundM_none (by omega) (by assumption) (by (rw [← hnm]; assumption)) (hG.none (by assumption))] | (obtain ⟨t, r, b, hg, rfl, rfl, hM, hR2, hrc⟩ := hG.some (by assumption); rw [soundM_rest (by omega) (by assumption) (by (rw [← hnm]; assumption)) hg (by omega)]) | rw [soundM_args (by omega) (by assumption) (by (rw [← hnm]; assumption)) hg (by omega) (any_at hk (decide_eq_true (by omega)))] | rw [soundM_ref (by omega) (by assumption) (by (rw [← hnm]; assumption)) hg (by omega) hmk (any_at hk (decide_eq_true (by omega)))] | rw [soundM_end (by omega) (by assumption) (by (rw [← hnm]; assumption)) hg (by omega) hmk hrf, if_pos (by omega)] | rw [soundM_end (by omega) (by assumption) (by (rw [← hnm]; assumption)) hg (by omega) hmk hrf, if_neg (by omega)]
         ·
          have rh8 := h8
          (try simp only [Q1, Q2, Q3, Q4, Q5, Q6, Q7, Q8, Q9, Qa] at h8)
          refine W.skip ?_
          refine InB.nx ?_
          refine Then.nx ?_
          refine W.region rfl ?_
          first | refine WO.q (Y.addI rfl rfl (by omega)) ?_ | refine WO.q (Y.add rfl rfl) ?_
          refine WO.q (Y.move (v := .int .i64 _) rfl) ?_
          refine WO.nil ?_
          refine Then.nx ⟨?_, ?_, ?_⟩
          ·
           (repeat (first | exact Out.hav _ _ _ | exact Out.refl _ _ | refine Out.up rfl ?_ | refine Out.sub rfl ?_))
          ·
           exact ⟨i + 1, rfl, by omega, fun j k2 hj hk2 => by (by_cases hji : j < i; exact hall j k2 hji hk2; (have e : j = i := by omega); subst e; rw [hk] at hk2; obtain rfl := Option.some.inj hk2; exact decide_eq_false (by omega)), S.tl⟩
          ·
           (show x.tree.length - (i + 1) < x.tree.length - i; omega)
        ·
         have rh7 := h7
         (try simp only [Q1, Q2, Q3, Q4, Q5, Q6, Q7, Q8, Q9, Qa] at h7)
         refine W.exit ?_
         refine Then.x ?_
         refine Then.x ?_
         refine InB.e ?_
         refine Then.nx ?_
         refine W.seq ?_
         refine W.seq ?_
         have hmk : manyK x = false := any_none (fun j k hk => hall j k (by (have := at_lt hk; omega)) hk)
         refine W.region rfl ?_
         refine WO.q (Y.fieldB fo_51_1 rfl) ?_
         first | refine WO.q (Y.load rfl (loadS1 sz_49 S 0 rfl rfl)) ?_ | refine WO.q (Y.load rfl (loadS1 sz_49 S 1 rfl rfl)) ?_ | refine WO.q (Y.load rfl (loadS1 sz_49 S 2 rfl rfl)) ?_
         refine WO.q (Y.len (t' := 0) Try.underlying49 rfl) ?_
         refine WO.q (Y.move (v := .int .i64 _) rfl) ?_
         refine WO.nil ?_
         refine Then.nx ?_
         refine W.block ?_
         -- loop 1 carries 61
         refine W.loop1 [6, 12, 61, 62, 63, 64, 65, 66, 67, 68, 69, 70, 71, 72, 73, 74, 75, 76, 77, 78, 79] 61 (fun v61 w => ∃ i : Nat, v61 = .int .i64 (i : Int) ∧ i ≤ x.tree.length ∧ (∀ (j : Nat) k, j < i → x.tree[j]? = some k → decide (k.op = 2 ∧ (k.n < 0 ∨ (n : Int) ≤ k.n)) = false) ∧ Sat w0 w (M :: Cel b3 (tRLet.enc ⟨x.name, (a, x.tree.length, c), x.at_⟩) 51 :: MapF mb (fun s : ByteArray => Value.string s) (fun b : Bool => Value.bool b) nm :: L)) (fun v61 w => x.tree.length - (intOf v61).toNat) ?_ ?_
         ·
          exact ⟨0, rfl, Nat.zero_le _, fun j k hj _ => absurd hj (by omega), S⟩
         ·
          rintro g1 v61 w ⟨i, rfl, hi, hall2, S⟩
          refine W.seq ?_
          refine W.region rfl ?_
          refine WO.q (Y.lss rfl rfl) ?_
          refine WO.nil ?_
          refine Then.nx ?_
          refine W.seq ?_
          refine W.cond rfl (fun h9 => ?_) (fun h9 => ?_) -- cond 5
          ·
           have rh9 := h9
           (try simp only [Q1, Q2, Q3, Q4, Q5, Q6, Q7, Q8, Q9, Qa] at h9)
           refine W.skip ?_
           refine Then.nx ?_
           refine W.seq ?_
           refine W.block ?_
           refine W.seq ?_
           have ha := R1.1 (by omega)
           obtain ⟨k, hk⟩ := at_ex (xs := x.tree) (k := i) (by omega)
           refine W.region rfl ?_
           first | refine WO.q (Y.ixN sl_49 rfl rfl (by (first | assumption | rfl)) (by (first | assumption | omega))) ?_ | refine WO.q (Y.ix sl_49 rfl rfl (by (first | assumption | rfl)) (by (first | assumption | omega)) (by (first | assumption | omega))) ?_
           refine WO.q (Y.load rfl (loadRdN sz_75 (R1.ext S.ext) (by assumption))) ?_
           refine WO.e (O.alloc z_75 S (fun b12 w S => ?_))
           first | refine WO.e0 (O.store (v := .agg _) 0 S rfl rfl rfl sz_75 rfl rfl rfl rfl (fun w S => ?_)) | refine WO.e0 (O.store (v := .agg _) 1 S rfl rfl rfl sz_75 rfl rfl rfl rfl (fun w S => ?_)) | refine WO.e0 (O.store (v := .agg _) 2 S rfl rfl rfl sz_75 rfl rfl rfl rfl (fun w S => ?_))
           refine WO.nil ?_
           refine Then.nx ?_
           refine W.seq ?_
           refine W.region rfl ?_
           refine WO.q (Y.fieldB fo_75_0 rfl) ?_
           first | refine WO.q (Y.load rfl (loadS1 sz_28 S 0 rfl rfl)) ?_ | refine WO.q (Y.load rfl (loadS1 sz_28 S 1 rfl rfl)) ?_ | refine WO.q (Y.load rfl (loadS1 sz_28 S 2 rfl rfl)) ?_
           refine WO.q (Y.eql rfl rfl) ?_
           refine WO.q (Y.move (v := .bool _) rfl) ?_
           refine WO.splitB (fun h10 => ?_) (fun h10 => ?_)
           ·
            (try simp only [Q1, Q2, Q3, Q4, Q5, Q6, Q7, Q8, Q9, Qa] at h10)
            refine WO.qT rfl (Y.fieldB fo_75_1 rfl) ?_
            first | refine WO.qT rfl (Y.load rfl (loadS1 sz_2 S 0 rfl rfl)) ?_ | refine WO.qT rfl (Y.load rfl (loadS1 sz_2 S 1 rfl rfl)) ?_ | refine WO.qT rfl (Y.load rfl (loadS1 sz_2 S 2 rfl rfl)) ?_
            refine WO.qT rfl (Y.lss rfl rfl) ?_
            refine WO.qT rfl (Y.move (v := .bool _) rfl) ?_
            refine WO.splitB (fun h11 => ?_) (fun h11 => ?_)
            ·
             (try simp only [Q1, Q2, Q3, Q4, Q5, Q6, Q7, Q8, Q9, Qa] at h11)
             refine WO.qF rfl ?_
             refine WO.qF rfl ?_
             refine WO.qF rfl ?_
             refine WO.qF rfl ?_
             refine WO.qT rfl (Y.pickT (u := .bool _) rfl rfl) ?_
             refine WO.q (Y.pickT (u := .bool _) rfl rfl) ?_
             refine WO.nil ?_
             refine Then.nx ?_
             first | refine W.condT rfl ?_ | refine W.condT (congrArg Value.bool (by assumption)) ?_
             refine W.seq ?_
             refine W.region rfl ?_
             refine WO.q (Y.assign (v := .int .i64 _) rfl) ?_
             refine WO.nil ?_
             refine Then.nx ?_
             refine W.ret ?_
             refine InB.r ?_
             refine Then.r ?_
             refine Then.r ?_
             refine InB.r ?_
             refine Then.r ?_
             refine BodyQ.ret1 Try.results31 (ResV.tmp _ rfl) ?_
             refine ⟨?_, S.pk (by repeat (first | exact Pk.nil _ | exact Pk.refl _ | refine Pk.cons 0 rfl ?_ | refine Pk.cons 1 rfl ?_ | refine Pk.cons 2 rfl ?_ | refine Pk.cons 3 rfl ?_ | refine Pk.cons 4 rfl ?_ | refine Pk.cons 5 rfl ?_ | refine Pk.cons 6 rfl ?_ | refine Pk.cons 7 rfl ?_ | refine Pk.cons 8 rfl ?_ | refine Pk.cons 9 rfl ?_ | refine Pk.cons 10 rfl ?_ | refine Pk.cons 11 rfl ?_ | refine Pk.cons 12 rfl ?_ | refine Pk.cons 13 rfl ?_ | refine Pk.drop ?_))⟩; show Ending.returned (.int .i64 _) = _; first | rw [soundM_many (by omega)] | rw [soundM_name (by omega) (.inl (by assumption))] | rw [soundM_name (by omega) (.inr (by (rw [← hnm]; assumption)))] | rw [soundM_none (by omega) (by assumption) (by (rw [← hnm]; assumption)) (hG.none (by assumption))] | (obtain ⟨t, r, b, hg, rfl, rfl, hM, hR2, hrc⟩ := hG.some (by assumption); rw [soundM_rest (by omega) (by assumption) (by (rw [← hnm]; assumption)) hg (by omega)]) | rw [soundM_args (by omega) (by assumption) (by (rw [← hnm]; assumption)) hg (by omega) (any_at hk (decide_eq_true (by omega)))] | rw [soundM_ref (by omega) (by assumption) (by (rw [← hnm]; assumption)) hg (by omega) hmk (any_at hk (decide_eq_true (by omega)))] | rw [soundM_end (by omega) (by assumption) (by (rw [← hnm]; assumption)) hg (by omega) hmk hrf, if_pos (by omega)] | rw [soundM_end (by omega) (by assumption) (by (rw [← hnm]; assumption)) hg (by omega) hmk hrf, if_neg (by omega)]
            ·
             (try simp only [Q1, Q2, Q3, Q4, Q5, Q6, Q7, Q8, Q9, Qa] at h11)
             refine WO.qT rfl (Y.fieldB fo_75_1 rfl) ?_
             first | refine WO.qT rfl (Y.load rfl (loadS1 sz_2 S 0 rfl rfl)) ?_ | refine WO.qT rfl (Y.load rfl (loadS1 sz_2 S 1 rfl rfl)) ?_ | refine WO.qT rfl (Y.load rfl (loadS1 sz_2 S 2 rfl rfl)) ?_
             refine WO.qT rfl (Y.move (v := .int .i64 _) rfl) ?_
             refine WO.qT rfl (Y.geq rfl rfl) ?_
             refine WO.qT rfl (Y.pickF (u := .bool _) rfl rfl) ?_
             refine WO.q (Y.pickT (u := .bool _) rfl rfl) ?_
             refine WO.nil ?_
             refine Then.nx ?_
             refine W.cond rfl (fun h12 => ?_) (fun h12 => ?_) -- cond 6
             ·
              have rh12 := h12
              (try simp only [Q1, Q2, Q3, Q4, Q5, Q6, Q7, Q8, Q9, Qa] at h12)
              refine W.seq ?_
              refine W.region rfl ?_
              refine WO.q (Y.assign (v := .int .i64 _) rfl) ?_
              refine WO.nil ?_
              refine Then.nx ?_
              refine W.ret ?_
              refine InB.r ?_
              refine Then.r ?_
              refine Then.r ?_
              refine InB.r ?_
              refine Then.r ?_
              refine BodyQ.ret1 Try.results31 (ResV.tmp _ rfl) ?_
              refine ⟨?_, S.pk (by repeat (first | exact Pk.nil _ | exact Pk.refl _ | refine Pk.cons 0 rfl ?_ | refine Pk.cons 1 rfl ?_ | refine Pk.cons 2 rfl ?_ | refine Pk.cons 3 rfl ?_ | refine Pk.cons 4 rfl ?_ | refine Pk.cons 5 rfl ?_ | refine Pk.cons 6 rfl ?_ | refine Pk.cons 7 rfl ?_ | refine Pk.cons 8 rfl ?_ | refine Pk.cons 9 rfl ?_ | refine Pk.cons 10 rfl ?_ | refine Pk.cons 11 rfl ?_ | refine Pk.cons 12 rfl ?_ | refine Pk.cons 13 rfl ?_ | refine Pk.drop ?_))⟩; show Ending.returned (.int .i64 _) = _; first | rw [soundM_many (by omega)] | rw [soundM_name (by omega) (.inl (by assumption))] | rw [soundM_name (by omega) (.inr (by (rw [← hnm]; assumption)))] | rw [soundM_none (by omega) (by assumption) (by (rw [← hnm]; assumption)) (hG.none (by assumption))] | (obtain ⟨t, r, b, hg, rfl, rfl, hM, hR2, hrc⟩ := hG.some (by assumption); rw [soundM_rest (by omega) (by assumption) (by (rw [← hnm]; assumption)) hg (by omega)]) | rw [soundM_args (by omega) (by assumption) (by (rw [← hnm]; assumption)) hg (by omega) (any_at hk (decide_eq_true (by omega)))] | rw [soundM_ref (by omega) (by assumption) (by (rw [← hnm]; assumption)) hg (by omega) hmk (any_at hk (decide_eq_true (by omega)))] | rw [soundM_end (by omega) (by assumption) (by (rw [← hnm]; assumption)) hg (by omega) hmk hrf, if_pos (by omega)] | rw [soundM_end (by omega) (by assumption) (by (rw [← hnm]; assumption)) hg (by omega) hmk hrf, if_neg (by omega)]
             ·
              have rh12 := h12
              (try simp only [Q1, Q2, Q3, Q4, Q5, Q6, Q7, Q8, Q9, Qa] at h12)
              refine W.skip ?_
              refine InB.nx ?_
              refine Then.nx ?_
              refine W.region rfl ?_
              first | refine WO.q (Y.addI rfl rfl (by omega)) ?_ | refine WO.q (Y.add rfl rfl) ?_
              refine WO.q (Y.move (v := .int .i64 _) rfl) ?_
              refine WO.nil ?_
              refine Then.nx ⟨?_, ?_, ?_⟩
              ·
               (repeat (first | exact Out.hav _ _ _ | exact Out.refl _ _ | refine Out.up rfl ?_ | refine Out.sub rfl ?_))
              ·
               exact ⟨i + 1, rfl, by omega, fun j k2 hj hk2 => by (by_cases hji : j < i; exact hall2 j k2 hji hk2; (have e : j = i := by omega); subst e; rw [hk] at hk2; obtain rfl := Option.some.inj hk2; exact decide_eq_false (by omega)), S.tl⟩
              ·
               (show x.tree.length - (i + 1) < x.tree.length - i; omega)
           ·
            (try simp only [Q1, Q2, Q3, Q4, Q5, Q6, Q7, Q8, Q9, Qa] at h10)
            refine WO.qF rfl ?_
            refine WO.qF rfl ?_
            refine WO.qF rfl ?_
            refine WO.qF rfl ?_
            refine WO.qF rfl ?_
            refine WO.qF rfl ?_
            refine WO.qF rfl ?_
            refine WO.qF rfl ?_
            refine WO.qF rfl ?_
            refine WO.q (Y.pickF (u := .bool _) rfl rfl) ?_
            refine WO.nil ?_
            refine Then.nx ?_
            first | refine W.condF rfl ?_ | refine W.condF (congrArg Value.bool (by assumption)) ?_
            refine W.skip ?_
            refine InB.nx ?_
            refine Then.nx ?_
            refine W.region rfl ?_
            first | refine WO.q (Y.addI rfl rfl (by omega)) ?_ | refine WO.q (Y.add rfl rfl) ?_
            refine WO.q (Y.move (v := .int .i64 _) rfl) ?_
            refine WO.nil ?_
            refine Then.nx ⟨?_, ?_, ?_⟩
            ·
             (repeat (first | exact Out.hav _ _ _ | exact Out.refl _ _ | refine Out.up rfl ?_ | refine Out.sub rfl ?_))
            ·
             exact ⟨i + 1, rfl, by omega, fun j k2 hj hk2 => by (by_cases hji : j < i; exact hall2 j k2 hji hk2; (have e : j = i := by omega); subst e; rw [hk] at hk2; obtain rfl := Option.some.inj hk2; exact decide_eq_false (by omega)), S.tl⟩
            ·
             (show x.tree.length - (i + 1) < x.tree.length - i; omega)
          ·
           have rh9 := h9
           (try simp only [Q1, Q2, Q3, Q4, Q5, Q6, Q7, Q8, Q9, Qa] at h9)
           refine W.exit ?_
           refine Then.x ?_
           refine Then.x ?_
           refine InB.e ?_
           refine Then.nx ?_
           refine W.seq ?_
           refine W.seq ?_
           have hrf : refK x n = false := any_none (fun j k hk => hall2 j k (by (have := at_lt hk; omega)) hk)
           refine W.region rfl ?_
           first | refine WO.q (Y.move (v := .pointer (some _)) rfl) ?_ | refine WO.q (Y.move (v := .pointer _) rfl) ?_
           refine WO.e (O.call cf_46 rfl (deep_spec ((flat t).length + 1) _ b t 0 (by omega) (Sat.rdTree S 0 rfl hM) (by omega) (by omega)) ?_)
           rintro _ w ⟨rfl, E⟩
           replace S := S.keep E
           refine ⟨_, rfl, ?_⟩
           refine WO.q (Y.move (v := .tuple _) rfl) ?_
           refine WO.q (Y.extract (v := .int .i64 _) rfl rfl) ?_
           refine WO.q (Y.extract (v := .int .i64 _) rfl rfl) ?_
           refine WO.q (Y.assign (v := .int .i64 _) rfl) ?_
           refine WO.q (Y.assign (v := .int .i64 _) rfl) ?_
           refine WO.nil ?_
           refine Then.nx ?_
           refine W.seq ?_
           refine W.region rfl ?_
           refine WO.q (Y.move (v := .int .i64 _) rfl) ?_
           refine WO.q (Y.gtr rfl rfl) ?_
           refine WO.nil ?_
           refine Then.nx ?_
           refine W.cond rfl (fun h13 => ?_) (fun h13 => ?_) -- cond 7
           ·
            have rh13 := h13
            (try simp only [Q1, Q2, Q3, Q4, Q5, Q6, Q7, Q8, Q9, Qa] at h13)
            refine W.seq ?_
            refine W.region rfl ?_
            refine WO.q (Y.assign (v := .int .i64 _) rfl) ?_
            refine WO.nil ?_
            refine Then.nx ?_
            refine W.ret ?_
            refine Then.r ?_
            refine BodyQ.ret1 Try.results31 (ResV.tmp _ rfl) ?_
            refine ⟨?_, S.pk (by repeat (first | exact Pk.nil _ | exact Pk.refl _ | refine Pk.cons 0 rfl ?_ | refine Pk.cons 1 rfl ?_ | refine Pk.cons 2 rfl ?_ | refine Pk.cons 3 rfl ?_ | refine Pk.cons 4 rfl ?_ | refine Pk.cons 5 rfl ?_ | refine Pk.cons 6 rfl ?_ | refine Pk.cons 7 rfl ?_ | refine Pk.cons 8 rfl ?_ | refine Pk.cons 9 rfl ?_ | refine Pk.cons 10 rfl ?_ | refine Pk.cons 11 rfl ?_ | refine Pk.cons 12 rfl ?_ | refine Pk.cons 13 rfl ?_ | refine Pk.drop ?_))⟩; show Ending.returned (.int .i64 _) = _; first | rw [soundM_many (by omega)] | rw [soundM_name (by omega) (.inl (by assumption))] | rw [soundM_name (by omega) (.inr (by (rw [← hnm]; assumption)))] | rw [soundM_none (by omega) (by assumption) (by (rw [← hnm]; assumption)) (hG.none (by assumption))] | (obtain ⟨t, r, b, hg, rfl, rfl, hM, hR2, hrc⟩ := hG.some (by assumption); rw [soundM_rest (by omega) (by assumption) (by (rw [← hnm]; assumption)) hg (by omega)]) | rw [soundM_args (by omega) (by assumption) (by (rw [← hnm]; assumption)) hg (by omega) (any_at hk (decide_eq_true (by omega)))] | rw [soundM_ref (by omega) (by assumption) (by (rw [← hnm]; assumption)) hg (by omega) hmk (any_at hk (decide_eq_true (by omega)))] | rw [soundM_end (by omega) (by assumption) (by (rw [← hnm]; assumption)) hg (by omega) hmk hrf, if_pos (by omega)] | rw [soundM_end (by omega) (by assumption) (by (rw [← hnm]; assumption)) hg (by omega) hmk hrf, if_neg (by omega)]
           ·
            have rh13 := h13
            (try simp only [Q1, Q2, Q3, Q4, Q5, Q6, Q7, Q8, Q9, Qa] at h13)
            refine W.skip ?_
            refine Then.nx ?_
            refine W.seq ?_
            refine W.region rfl ?_
            refine WO.q (Y.assign (v := .int .i64 _) rfl) ?_
            refine WO.nil ?_
            refine Then.nx ?_
            refine W.ret ?_
            refine BodyQ.ret1 Try.results31 (ResV.tmp _ rfl) ?_
            refine ⟨?_, S.pk (by repeat (first | exact Pk.nil _ | exact Pk.refl _ | refine Pk.cons 0 rfl ?_ | refine Pk.cons 1 rfl ?_ | refine Pk.cons 2 rfl ?_ | refine Pk.cons 3 rfl ?_ | refine Pk.cons 4 rfl ?_ | refine Pk.cons 5 rfl ?_ | refine Pk.cons 6 rfl ?_ | refine Pk.cons 7 rfl ?_ | refine Pk.cons 8 rfl ?_ | refine Pk.cons 9 rfl ?_ | refine Pk.cons 10 rfl ?_ | refine Pk.cons 11 rfl ?_ | refine Pk.cons 12 rfl ?_ | refine Pk.cons 13 rfl ?_ | refine Pk.drop ?_))⟩; show Ending.returned (.int .i64 _) = _; first | rw [soundM_many (by omega)] | rw [soundM_name (by omega) (.inl (by assumption))] | rw [soundM_name (by omega) (.inr (by (rw [← hnm]; assumption)))] | rw [soundM_none (by omega) (by assumption) (by (rw [← hnm]; assumption)) (hG.none (by assumption))] | (obtain ⟨t, r, b, hg, rfl, rfl, hM, hR2, hrc⟩ := hG.some (by assumption); rw [soundM_rest (by omega) (by assumption) (by (rw [← hnm]; assumption)) hg (by omega)]) | rw [soundM_args (by omega) (by assumption) (by (rw [← hnm]; assumption)) hg (by omega) (any_at hk (decide_eq_true (by omega)))] | rw [soundM_ref (by omega) (by assumption) (by (rw [← hnm]; assumption)) hg (by omega) hmk (any_at hk (decide_eq_true (by omega)))] | rw [soundM_end (by omega) (by assumption) (by (rw [← hnm]; assumption)) hg (by omega) hmk hrf, if_pos (by omega)] | rw [soundM_end (by omega) (by assumption) (by (rw [← hnm]; assumption)) hg (by omega) hmk hrf, if_neg (by omega)]
end Go.Proofs
