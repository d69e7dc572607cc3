/-
  Walks of wrapped, deep.
-/
import Derived.Test.YtlnimgpfopaicaaGb
import Derived.Test.YtlnimgpfopaicaaFa
import Derived.Test.YtlnimgpfopaicaaFb
import Derived.Test.YtlnimgpfopaicaaUa
set_option linter.unusedVariables false
set_option linter.unusedSimpArgs false
set_option maxRecDepth 100000
set_option maxHeartbeats 1000000
namespace Go.Proofs
open Go Go.TL Go.RowKit
theorem wrapped_spec (w0 : World) (b : Nat) (t : Tr) (i : Nat) (k : Tr) (R : RdTree 107 w0 b t) (hk : t.ks[i]? = some k) :
    Calls Try.prog 56 [.pointer (some ⟨b, 0, none⟩), .int .i64 (i : Int)].toArray w0 (fun e w => e = .returned (.bool (wrapM t.root.op i k.root.op)) ∧ Ext w0 w) := by
 obtain ⟨n, ks⟩ := t
 replace hk : ks[i]? = some k := hk
 obtain ⟨ka, kc, bs, hb, hR, hl, hkid⟩ := R.kids
 obtain ⟨c, hc, hRc⟩ := hkid i k hk
 obtain ⟨kka, kkc, hcb⟩ := hRc.blk
 have hik := at_lt hk
 have ha := hR.1 (by omega)
 have hr := rankM_bd n.op
 have S := Sat.refl w0
 refine calls_of_W (args := [.pointer (some ⟨b, 0, none⟩), .int .i64 (i : Int)]) 34 Try.func56 rfl Try.ntmps56 rfl ?_
 refine W.seq ?_
 refine W.region rfl ?_
 refine WO.q (Y.assign (v := .bool _) rfl) ?_
 refine WO.nil ?_
 refine Then.nx ?_
 refine W.seq ?_
 refine W.region rfl ?_
 refine WO.q (Y.assign (v := .int .i64 _) rfl) ?_
 refine WO.nil ?_
 refine Then.nx ?_
 refine W.seq ?_
 refine W.seq ?_
 refine W.region rfl ?_
 first | refine WO.q (Y.move (v := .pointer (some _)) rfl) ?_ | refine WO.q (Y.move (v := .pointer _) rfl) ?_
 refine WO.q (Y.nilP rfl) ?_
 first | refine WO.q (Y.fieldB fo_107_0 rfl) ?_ | refine WO.q (Y.fieldE fo_107_0 rfl) ?_
 first | refine WO.q (Y.fieldB fo_75_0 rfl) ?_ | refine WO.q (Y.fieldE fo_75_0 rfl) ?_
 first | refine WO.q (Y.load rfl (loadB1 sz_28 (S.ext.heap hb) rfl)) ?_ | refine WO.q (Y.load rfl (loadB1 sz_28 (S.ext.heap hcb) rfl)) ?_ | refine WO.q (Y.load rfl (loadS1 sz_28 S 0 rfl rfl)) ?_ | refine WO.q (Y.load rfl (loadRdF sz_28 (hR.ext S.ext) (by assumption) rfl)) ?_ | refine WO.q (Y.load rfl (loadRd1 sz_28 (hR.ext S.ext) (by assumption) rfl)) ?_
 refine WO.e (O.call cf_55 rfl (rank_spec _ n.op) ?_)
 rintro _ w ⟨rfl, E⟩
 replace S := S.keep E
 refine ⟨_, rfl, ?_⟩
 refine WO.q (Y.assign (v := .int .i64 _) rfl) ?_
 refine WO.nil ?_
 refine Then.nx ?_
 refine W.seq ?_
 refine W.region rfl ?_
 refine WO.q (Y.move (v := .int .i64 _) rfl) ?_
 refine WO.q (Y.lss rfl rfl) ?_
 refine WO.nil ?_
 refine Then.nx ?_
 refine W.cond rfl (fun h1 => ?_) (fun h1 => ?_) -- cond 0
 ·
  have rh1 := h1
  (try simp only [Q1, Q2, Q3, Q4, Q5, Q6, Q7, Q8, Q9, Qa] at h1)
  refine W.seq ?_
  refine W.region rfl ?_
  refine WO.q (Y.move (v := .int .i64 _) rfl) ?_
  refine WO.q (Y.assign (v := .int .i64 _) rfl) ?_
  refine WO.nil ?_
  refine Then.nx ?_
  refine W.seq ?_
  refine W.region rfl ?_
  refine WO.q (Y.move (v := .int .i64 _) rfl) ?_
  refine WO.q (Y.gtr rfl rfl) ?_
  refine WO.nil ?_
  refine Then.nx ?_
  refine W.cond rfl (fun h2 => ?_) (fun h2 => ?_) -- cond 1
  ·
   have rh2 := h2
   (try simp only [Q1, Q2, Q3, Q4, Q5, Q6, Q7, Q8, Q9, Qa] at h2)
   refine W.region rfl ?_
   refine WO.q (Y.move (v := .int .i64 _) rfl) ?_
   first | refine WO.q (Y.addI rfl rfl (by omega)) ?_ | refine WO.q (Y.add rfl rfl) ?_
   refine WO.q (Y.assign (v := .int .i64 _) rfl) ?_
   refine WO.nil ?_
   refine Then.nx ?_
   refine W.seq ?_
   refine W.region rfl ?_
   first | refine WO.q (Y.move (v := .pointer (some _)) rfl) ?_ | refine WO.q (Y.move (v := .pointer _) rfl) ?_
   refine WO.q (Y.nilP rfl) ?_
   first | refine WO.q (Y.fieldB fo_107_2 rfl) ?_ | refine WO.q (Y.fieldE fo_107_2 rfl) ?_
   first | refine WO.q (Y.load rfl (loadB1 sz_105 (S.ext.heap hb) rfl)) ?_ | refine WO.q (Y.load rfl (loadS1 sz_105 S 0 rfl rfl)) ?_ | refine WO.q (Y.load rfl (loadRdF sz_105 (hR.ext S.ext) (by assumption) rfl)) ?_ | refine WO.q (Y.load rfl (loadRd1 sz_105 (hR.ext S.ext) (by assumption) rfl)) ?_
   refine WO.q (Y.move (v := .int .i64 _) rfl) ?_
   first | refine WO.q (Y.ixN sl_105 rfl rfl (by (first | assumption | rfl)) (by (first | assumption | omega))) ?_ | refine WO.q (Y.ix sl_105 rfl rfl (by (first | assumption | rfl)) (by (first | assumption | omega)) (by (first | assumption | omega))) ?_
   refine WO.q (Y.load rfl (loadRd1 sz_91 (hR.ext S.ext) (by assumption) rfl)) ?_
   refine WO.q (Y.nilP rfl) ?_
   first | refine WO.q (Y.fieldB fo_107_0 rfl) ?_ | refine WO.q (Y.fieldE fo_107_0 rfl) ?_
   first | refine WO.q (Y.fieldB fo_75_0 rfl) ?_ | refine WO.q (Y.fieldE fo_75_0 rfl) ?_
   first | refine WO.q (Y.load rfl (loadB1 sz_28 (S.ext.heap hb) rfl)) ?_ | refine WO.q (Y.load rfl (loadB1 sz_28 (S.ext.heap hcb) rfl)) ?_ | refine WO.q (Y.load rfl (loadS1 sz_28 S 0 rfl rfl)) ?_ | refine WO.q (Y.load rfl (loadRdF sz_28 (hR.ext S.ext) (by assumption) rfl)) ?_ | refine WO.q (Y.load rfl (loadRd1 sz_28 (hR.ext S.ext) (by assumption) rfl)) ?_
   refine WO.e (O.call cf_55 rfl (rank_spec _ k.root.op) ?_)
   rintro _ w ⟨rfl, E⟩
   replace S := S.keep E
   refine ⟨_, rfl, ?_⟩
   refine WO.q (Y.move (v := .int .i64 _) rfl) ?_
   refine WO.q (Y.lss rfl rfl) ?_
   refine WO.q (Y.assign (v := .bool _) rfl) ?_
   refine WO.nil ?_
   refine Then.nx ?_
   refine W.ret ?_
   refine BodyQ.ret1 Try.results56 (ResV.tmp _ rfl) ?_
   refine ⟨?_, S.ext⟩; show Ending.returned (.bool _) = .returned (.bool (wrapM n.op i k.root.op)); congr 2; unfold wrapM; first | rw [if_pos (by omega), if_pos (by omega)] | rw [if_pos (by omega), if_neg (by omega)] | rw [if_neg (by omega)]
  ·
   have rh2 := h2
   (try simp only [Q1, Q2, Q3, Q4, Q5, Q6, Q7, Q8, Q9, Qa] at h2)
   refine W.skip ?_
   refine Then.nx ?_
   refine W.seq ?_
   refine W.region rfl ?_
   first | refine WO.q (Y.move (v := .pointer (some _)) rfl) ?_ | refine WO.q (Y.move (v := .pointer _) rfl) ?_
   refine WO.q (Y.nilP rfl) ?_
   first | refine WO.q (Y.fieldB fo_107_2 rfl) ?_ | refine WO.q (Y.fieldE fo_107_2 rfl) ?_
   first | refine WO.q (Y.load rfl (loadB1 sz_105 (S.ext.heap hb) rfl)) ?_ | refine WO.q (Y.load rfl (loadS1 sz_105 S 0 rfl rfl)) ?_ | refine WO.q (Y.load rfl (loadRdF sz_105 (hR.ext S.ext) (by assumption) rfl)) ?_ | refine WO.q (Y.load rfl (loadRd1 sz_105 (hR.ext S.ext) (by assumption) rfl)) ?_
   refine WO.q (Y.move (v := .int .i64 _) rfl) ?_
   first | refine WO.q (Y.ixN sl_105 rfl rfl (by (first | assumption | rfl)) (by (first | assumption | omega))) ?_ | refine WO.q (Y.ix sl_105 rfl rfl (by (first | assumption | rfl)) (by (first | assumption | omega)) (by (first | assumption | omega))) ?_
   refine WO.q (Y.load rfl (loadRd1 sz_91 (hR.ext S.ext) (by assumption) rfl)) ?_
   refine WO.q (Y.nilP rfl) ?_
   first | refine WO.q (Y.fieldB fo_107_0 rfl) ?_ | refine WO.q (Y.fieldE fo_107_0 rfl) ?_
   first | refine WO.q (Y.fieldB fo_75_0 rfl) ?_ | refine WO.q (Y.fieldE fo_75_0 rfl) ?_
   first | refine WO.q (Y.load rfl (loadB1 sz_28 (S.ext.heap hb) rfl)) ?_ | refine WO.q (Y.load rfl (loadB1 sz_28 (S.ext.heap hcb) rfl)) ?_ | refine WO.q (Y.load rfl (loadS1 sz_28 S 0 rfl rfl)) ?_ | refine WO.q (Y.load rfl (loadRdF sz_28 (hR.ext S.ext) (by assumption) rfl)) ?_ | refine WO.q (Y.load rfl (loadRd1 sz_28 (hR.ext S.ext) (by assumption) rfl)) ?_
   refine WO.e (O.call cf_55 rfl (rank_spec _ k.root.op) ?_)
   rintro _ w ⟨rfl, E⟩
   replace S := S.keep E
   refine ⟨_, rfl, ?_⟩
   refine WO.q (Y.move (v := .int .i64 _) rfl) ?_
   refine WO.q (Y.lss rfl rfl) ?_
   refine WO.q (Y.assign (v := .bool _) rfl) ?_
   refine WO.nil ?_
   refine Then.nx ?_
   refine W.ret ?_
   refine BodyQ.ret1 Try.results56 (ResV.tmp _ rfl) ?_
   refine ⟨?_, S.ext⟩; show Ending.returned (.bool _) = .returned (.bool (wrapM n.op i k.root.op)); congr 2; unfold wrapM; first | rw [if_pos (by omega), if_pos (by omega)] | rw [if_pos (by omega), if_neg (by omega)] | rw [if_neg (by omega)]
 ·
  have rh1 := h1
  (try simp only [Q1, Q2, Q3, Q4, Q5, Q6, Q7, Q8, Q9, Qa] at h1)
  refine W.skip ?_
  refine Then.nx ?_
  refine W.seq ?_
  refine W.region rfl ?_
  first | refine WO.q (Y.move (v := .pointer (some _)) rfl) ?_ | refine WO.q (Y.move (v := .pointer _) rfl) ?_
  refine WO.q (Y.nilP rfl) ?_
  first | refine WO.q (Y.fieldB fo_107_2 rfl) ?_ | refine WO.q (Y.fieldE fo_107_2 rfl) ?_
  first | refine WO.q (Y.load rfl (loadB1 sz_105 (S.ext.heap hb) rfl)) ?_ | refine WO.q (Y.load rfl (loadS1 sz_105 S 0 rfl rfl)) ?_ | refine WO.q (Y.load rfl (loadRdF sz_105 (hR.ext S.ext) (by assumption) rfl)) ?_ | refine WO.q (Y.load rfl (loadRd1 sz_105 (hR.ext S.ext) (by assumption) rfl)) ?_
  refine WO.q (Y.move (v := .int .i64 _) rfl) ?_
  first | refine WO.q (Y.ixN sl_105 rfl rfl (by (first | assumption | rfl)) (by (first | assumption | omega))) ?_ | refine WO.q (Y.ix sl_105 rfl rfl (by (first | assumption | rfl)) (by (first | assumption | omega)) (by (first | assumption | omega))) ?_
  refine WO.q (Y.load rfl (loadRd1 sz_91 (hR.ext S.ext) (by assumption) rfl)) ?_
  refine WO.q (Y.nilP rfl) ?_
  first | refine WO.q (Y.fieldB fo_107_0 rfl) ?_ | refine WO.q (Y.fieldE fo_107_0 rfl) ?_
  first | refine WO.q (Y.fieldB fo_75_0 rfl) ?_ | refine WO.q (Y.fieldE fo_75_0 rfl) ?_
  first | refine WO.q (Y.load rfl (loadB1 sz_28 (S.ext.heap hb) rfl)) ?_ | refine WO.q (Y.load rfl (loadB1 sz_28 (S.ext.heap hcb) rfl)) ?_ | refine WO.q (Y.load rfl (loadS1 sz_28 S 0 rfl rfl)) ?_ | refine WO.q (Y.load rfl (loadRdF sz_28 (hR.ext S.ext) (by assumption) rfl)) ?_ | refine WO.q (Y.load rfl (loadRd1 sz_28 (hR.ext S.ext) (by assumption) rfl)) ?_
  refine WO.e (O.call cf_55 rfl (rank_spec _ k.root.op) ?_)
  rintro _ w ⟨rfl, E⟩
  replace S := S.keep E
  refine ⟨_, rfl, ?_⟩
  refine WO.q (Y.move (v := .int .i64 _) rfl) ?_
  refine WO.q (Y.lss rfl rfl) ?_
  refine WO.q (Y.assign (v := .bool _) rfl) ?_
  refine WO.nil ?_
  refine Then.nx ?_
  refine W.ret ?_
  refine BodyQ.ret1 Try.results56 (ResV.tmp _ rfl) ?_
  refine ⟨?_, S.ext⟩; show Ending.returned (.bool _) = .returned (.bool (wrapM n.op i k.root.op)); congr 2; unfold wrapM; first | rw [if_pos (by omega), if_pos (by omega)] | rw [if_pos (by omega), if_neg (by omega)] | rw [if_neg (by omega)]
theorem deep_spec : ∀ (m : Nat) (w0 : World) (b : Nat) (t : Tr) (d : Int), (flat t).length < m → RdTree 107 w0 b t → 0 ≤ d → d + 3 * (flat t).length ≤ 9223372036854775807 →
    Calls Try.prog 46 [.pointer (some ⟨b, 0, none⟩), .int .i64 d].toArray w0 (fun e w => e = .returned (.tuple #[.int .i64 (deepM t d).1, .int .i64 (deepM t d).2]) ∧ Ext w0 w) := by
 intro m
 induction m
 case zero => (intro w0 b t d hm; omega)
 rename_i m ih
 intro w0 b t d hm R hd0 hdm
 obtain ⟨n, ks⟩ := t
 obtain ⟨ka, kc, bs, hb, hR, hl, hkid⟩ := R.kids
 have hr := rankM_bd n.op
 simp only [flat, List.length_cons] at hm hdm
 have hkl := flats_ge ks
 have S := Sat.refl w0
 refine calls_of_W (args := [.pointer (some ⟨b, 0, none⟩), .int .i64 d]) 87 Try.func46 rfl Try.ntmps46 rfl ?_
 refine W.seq ?_
 refine W.region rfl ?_
 refine WO.q (Y.assign (v := .int .i64 _) rfl) ?_
 refine WO.q (Y.assign (v := .int .i64 _) rfl) ?_
 refine WO.nil ?_
 refine Then.nx ?_
 refine W.seq ?_
 refine W.region rfl ?_
 first | refine WO.q (Y.move (v := .pointer (some _)) rfl) ?_ | refine WO.q (Y.move (v := .pointer _) rfl) ?_
 refine WO.q (Y.nilP rfl) ?_
 first | refine WO.q (Y.fieldB fo_107_0 rfl) ?_ | refine WO.q (Y.fieldE fo_107_0 rfl) ?_
 first | refine WO.q (Y.fieldB fo_75_0 rfl) ?_ | refine WO.q (Y.fieldE fo_75_0 rfl) ?_
 first | refine WO.q (Y.load rfl (loadB1 sz_28 (S.ext.heap hb) rfl)) ?_ | refine WO.q (Y.load rfl (loadB1 sz_28 (S.ext.heap hcb) rfl)) ?_ | refine WO.q (Y.load rfl (loadS1 sz_28 S 0 rfl rfl)) ?_ | refine WO.q (Y.load rfl (loadRdF sz_28 (hR.ext S.ext) (by assumption) rfl)) ?_ | refine WO.q (Y.load rfl (loadRd1 sz_28 (hR.ext S.ext) (by assumption) rfl)) ?_
 refine WO.e (O.call cf_55 rfl (rank_spec _ n.op) ?_)
 rintro _ w ⟨rfl, E⟩
 replace S := S.keep E
 refine ⟨_, rfl, ?_⟩
 refine WO.q (Y.assign (v := .int .i64 _) rfl) ?_
 refine WO.nil ?_
 refine Then.nx ?_
 refine W.cut1 [1, 18, 19, 20, 21, 22, 23, 24, 25, 26, 27, 28, 29] 1 (fun v1 w => ∃ d1, v1 = .int .i64 d1 ∧ d1 = (if 2 < rankM n.op ∧ 0 < ks.length then d + 1 else d) ∧ Sat w0 w []) ?_ ?_
 ·
  refine W.seq ?_
  refine W.region rfl ?_
  refine WO.q (Y.move (v := .int .i64 _) rfl) ?_
  refine WO.q (Y.gtr rfl rfl) ?_
  refine WO.q (Y.move (v := .bool _) rfl) ?_
  refine WO.splitB (fun h1 => ?_) (fun h1 => ?_)
  ·
   (try simp only [Q1, Q2, Q3, Q4, Q5, Q6, Q7, Q8, Q9, Qa] at h1)
   first | refine WO.qT rfl (Y.move (v := .pointer (some _)) rfl) ?_ | refine WO.qT rfl (Y.move (v := .pointer _) rfl) ?_
   refine WO.qT rfl (Y.nilP rfl) ?_
   first | refine WO.qT rfl (Y.fieldB fo_107_2 rfl) ?_ | refine WO.qT rfl (Y.fieldE fo_107_2 rfl) ?_
   first | refine WO.qT rfl (Y.load rfl (loadB1 sz_105 (S.ext.heap hb) rfl)) ?_ | refine WO.qT rfl (Y.load rfl (loadS1 sz_105 S 0 rfl rfl)) ?_ | refine WO.qT rfl (Y.load rfl (loadRdF sz_105 (hR.ext S.ext) (by assumption) rfl)) ?_ | refine WO.qT rfl (Y.load rfl (loadRd1 sz_105 (hR.ext S.ext) (by assumption) rfl)) ?_
   refine WO.qT rfl (Y.len (t' := 0) Try.underlying105 rfl) ?_
   refine WO.qT rfl (Y.gtr rfl rfl) ?_
   refine WO.q (Y.pickT (u := .bool _) rfl rfl) ?_
   refine WO.nil ?_
   refine Then.nx ?_
   refine W.cond rfl (fun h2 => ?_) (fun h2 => ?_) -- cond 0
   ·
    have rh2 := h2
    (try simp only [Q1, Q2, Q3, Q4, Q5, Q6, Q7, Q8, Q9, Qa] at h2)
    refine W.region rfl ?_
    refine WO.q (Y.move (v := .int .i64 _) rfl) ?_
    first | refine WO.q (Y.addI rfl rfl (by omega)) ?_ | refine WO.q (Y.add rfl rfl) ?_
    refine WO.q (Y.assign (v := .int .i64 _) rfl) ?_
    refine WO.nil ?_
    refine Then.nx ⟨?_, ?_⟩
    ·
     (repeat (first | exact Out.hav _ _ _ | exact Out.refl _ _ | refine Out.up rfl ?_ | refine Out.sub rfl ?_))
    ·
     first | exact ⟨_, rfl, by rw [if_pos (by omega)], S⟩ | exact ⟨_, rfl, by rw [if_neg (by omega)], S⟩
   ·
    have rh2 := h2
    (try simp only [Q1, Q2, Q3, Q4, Q5, Q6, Q7, Q8, Q9, Qa] at h2)
    refine W.skip ?_
    refine Then.nx ⟨?_, ?_⟩
    ·
     (repeat (first | exact Out.hav _ _ _ | exact Out.refl _ _ | refine Out.up rfl ?_ | refine Out.sub rfl ?_))
    ·
     first | exact ⟨_, rfl, by rw [if_pos (by omega)], S⟩ | exact ⟨_, rfl, by rw [if_neg (by omega)], S⟩
  ·
   (try simp only [Q1, Q2, Q3, Q4, Q5, Q6, Q7, Q8, Q9, Qa] at h1)
   refine WO.qF rfl ?_
   refine WO.qF rfl ?_
   refine WO.qF rfl ?_
   refine WO.qF rfl ?_
   refine WO.qF rfl ?_
   refine WO.qF rfl ?_
   refine WO.q (Y.pickF (u := .bool _) rfl rfl) ?_
   refine WO.nil ?_
   refine Then.nx ?_
   first | refine W.condF rfl ?_ | refine W.condF (congrArg Value.bool (by assumption)) ?_
   refine W.skip ?_
   refine Then.nx ⟨?_, ?_⟩
   ·
    (repeat (first | exact Out.hav _ _ _ | exact Out.refl _ _ | refine Out.up rfl ?_ | refine Out.sub rfl ?_))
   ·
    first | exact ⟨_, rfl, by rw [if_pos (by omega)], S⟩ | exact ⟨_, rfl, by rw [if_neg (by omega)], S⟩
 ·
  rintro gj93 v1 w ⟨d1, rfl, hd1, S⟩
  have hd2 : d ≤ d1 ∧ d1 ≤ d + 1 := by (rw [hd1]; split <;> omega)
  refine W.seq ?_
  refine W.region rfl ?_
  refine WO.q (Y.move (v := .int .i64 _) rfl) ?_
  refine WO.q (Y.assign (v := .int .i64 _) rfl) ?_
  refine WO.nil ?_
  refine Then.nx ?_
  refine W.seq ?_
  refine W.seq ?_
  refine W.region rfl ?_
  first | refine WO.q (Y.move (v := .pointer (some _)) rfl) ?_ | refine WO.q (Y.move (v := .pointer _) rfl) ?_
  refine WO.q (Y.nilP rfl) ?_
  first | refine WO.q (Y.fieldB fo_107_2 rfl) ?_ | refine WO.q (Y.fieldE fo_107_2 rfl) ?_
  first | refine WO.q (Y.load rfl (loadB1 sz_105 (S.ext.heap hb) rfl)) ?_ | refine WO.q (Y.load rfl (loadS1 sz_105 S 0 rfl rfl)) ?_ | refine WO.q (Y.load rfl (loadRdF sz_105 (hR.ext S.ext) (by assumption) rfl)) ?_ | refine WO.q (Y.load rfl (loadRd1 sz_105 (hR.ext S.ext) (by assumption) rfl)) ?_
  refine WO.q (Y.len (t' := 0) Try.underlying105 rfl) ?_
  refine WO.q (Y.move (v := .int .i64 _) rfl) ?_
  refine WO.nil ?_
  refine Then.nx ?_
  refine W.block ?_
  -- loop 0 carries 4:most, 5:marks, 36
  refine W.loop3 [4, 5, 7, 8, 9, 10, 11, 36, 37, 38, 39, 40, 41, 42, 43, 44, 45, 46, 47, 48, 49, 50, 51, 52, 53, 54, 55, 56, 57, 58, 59, 60, 61, 62, 63, 64, 65, 66, 67, 68, 69, 70, 71, 72, 73, 74, 75, 76, 77, 78, 79, 80, 81, 82, 83] 4 5 36 (fun v4 v5 v36 w => ∃ (i : Nat) (x y : Int), v36 = .int .i64 (i : Int) ∧ v4 = .int .i64 x ∧ v5 = .int .i64 y ∧ i ≤ ks.length ∧ deepK n.op d1 i (ks.drop i) (x, y) = deepK n.op d1 0 ks (d1, 0) ∧ 0 ≤ y ∧ y ≤ (flats (ks.take i)).length ∧ Sat w0 w []) (fun v4 v5 v36 w => ks.length - (intOf v36).toNat) ?_ ?_
  ·
   exact ⟨0, d1, 0, rfl, rfl, rfl, Nat.zero_le _, by simp, by omega, by omega, S⟩
  ·
   rintro g0 v4 v5 v36 w ⟨i, x, y, rfl, rfl, rfl, hi, hdk, hy0, hy1, S⟩
   refine W.seq ?_
   refine W.region rfl ?_
   refine WO.q (Y.lss rfl rfl) ?_
   refine WO.nil ?_
   refine Then.nx ?_
   refine W.seq ?_
   refine W.cond rfl (fun h3 => ?_) (fun h3 => ?_) -- cond 1
   ·
    have rh3 := h3
    (try simp only [Q1, Q2, Q3, Q4, Q5, Q6, Q7, Q8, Q9, Qa] at h3)
    have ha := hR.1 (by omega)
    obtain ⟨k, hk⟩ := at_ex (xs := ks) (k := i) (by omega)
    obtain ⟨c, hc, hRk⟩ := hkid i k hk
    obtain ⟨kka, kkc, hcb⟩ := hRk.blk
    have hfl := flats_kid hk
    have hfk := flats_take_le ks (i + 1)
    refine W.skip ?_
    refine Then.nx ?_
    refine W.seq ?_
    refine W.block ?_
    refine W.seq ?_
    refine W.region rfl ?_
    refine WO.q (Y.move (v := .int .i64 _) rfl) ?_
    first | refine WO.q (Y.ixN sl_105 rfl rfl (by (first | assumption | rfl)) (by (first | assumption | omega))) ?_ | refine WO.q (Y.ix sl_105 rfl rfl (by (first | assumption | rfl)) (by (first | assumption | omega)) (by (first | assumption | omega))) ?_
    refine WO.q (Y.load rfl (loadRd1 sz_91 (hR.ext S.ext) (by assumption) rfl)) ?_
    refine WO.q (Y.assign (v := .int .i64 _) rfl) ?_
    first | refine WO.q (Y.assign (v := .pointer (some _)) rfl) ?_ | refine WO.q (Y.assign (v := .pointer _) rfl) ?_
    refine WO.nil ?_
    refine Then.nx ?_
    refine W.seq ?_
    refine W.region rfl ?_
    refine WO.q (Y.move (v := .int .i64 _) rfl) ?_
    refine WO.q (Y.assign (v := .int .i64 _) rfl) ?_
    refine WO.nil ?_
    refine Then.nx ?_
    refine W.cut1 [9, 42, 43, 44, 45, 46, 47, 48, 49, 50] 9 (fun v9 w => ∃ a1, v9 = .int .i64 a1 ∧ a1 = (if rankM n.op < 3 ∧ i = 1 then d1 + y else d1) ∧ Sat w0 w []) ?_ ?_
    ·
     refine W.seq ?_
     refine W.region rfl ?_
     refine WO.q (Y.move (v := .int .i64 _) rfl) ?_
     refine WO.q (Y.lss rfl rfl) ?_
     refine WO.q (Y.move (v := .bool _) rfl) ?_
     refine WO.splitB (fun h4 => ?_) (fun h4 => ?_)
     ·
      (try simp only [Q1, Q2, Q3, Q4, Q5, Q6, Q7, Q8, Q9, Qa] at h4)
      refine WO.qT rfl (Y.move (v := .int .i64 _) rfl) ?_
      refine WO.qT rfl (Y.eql rfl rfl) ?_
      refine WO.q (Y.pickT (u := .bool _) rfl rfl) ?_
      refine WO.nil ?_
      refine Then.nx ?_
      refine W.cond rfl (fun h5 => ?_) (fun h5 => ?_) -- cond 2
      ·
       have rh5 := h5
       (try simp only [Q1, Q2, Q3, Q4, Q5, Q6, Q7, Q8, Q9, Qa] at h5)
       refine W.region rfl ?_
       refine WO.q (Y.move (v := .int .i64 _) rfl) ?_
       refine WO.q (Y.move (v := .int .i64 _) rfl) ?_
       first | refine WO.q (Y.addI rfl rfl (by omega)) ?_ | refine WO.q (Y.add rfl rfl) ?_
       refine WO.q (Y.assign (v := .int .i64 _) rfl) ?_
       refine WO.nil ?_
       refine Then.nx ⟨?_, ?_⟩
       ·
        (repeat (first | exact Out.hav _ _ _ | exact Out.refl _ _ | refine Out.up rfl ?_ | refine Out.sub rfl ?_))
       ·
        first | exact ⟨_, rfl, by rw [if_pos (by omega)], S⟩ | exact ⟨_, rfl, by rw [if_neg (by omega)], S⟩
      ·
       have rh5 := h5
       (try simp only [Q1, Q2, Q3, Q4, Q5, Q6, Q7, Q8, Q9, Qa] at h5)
       refine W.skip ?_
       refine Then.nx ⟨?_, ?_⟩
       ·
        (repeat (first | exact Out.hav _ _ _ | exact Out.refl _ _ | refine Out.up rfl ?_ | refine Out.sub rfl ?_))
       ·
        first | exact ⟨_, rfl, by rw [if_pos (by omega)], S⟩ | exact ⟨_, rfl, by rw [if_neg (by omega)], S⟩
     ·
      (try simp only [Q1, Q2, Q3, Q4, Q5, Q6, Q7, Q8, Q9, Qa] at h4)
      refine WO.qF rfl ?_
      refine WO.qF rfl ?_
      refine WO.q (Y.pickF (u := .bool _) rfl rfl) ?_
      refine WO.nil ?_
      refine Then.nx ?_
      first | refine W.condF rfl ?_ | refine W.condF (congrArg Value.bool (by assumption)) ?_
      refine W.skip ?_
      refine Then.nx ⟨?_, ?_⟩
      ·
       (repeat (first | exact Out.hav _ _ _ | exact Out.refl _ _ | refine Out.up rfl ?_ | refine Out.sub rfl ?_))
      ·
       first | exact ⟨_, rfl, by rw [if_pos (by omega)], S⟩ | exact ⟨_, rfl, by rw [if_neg (by omega)], S⟩
    ·
     rintro gj208 v9 w ⟨a1, rfl, ha1, S⟩
     have ha1b : d1 ≤ a1 ∧ a1 ≤ d1 + y := by (rw [ha1]; split <;> omega)
     refine W.cut1 [9, 51, 52, 53, 54, 55] 9 (fun v9 w => ∃ a2, v9 = .int .i64 a2 ∧ a2 = (if wrapM n.op i k.root.op = true then a1 + 1 else a1) ∧ Sat w0 w []) ?_ ?_
     ·
      refine W.seq ?_
      refine W.region rfl ?_
      first | refine WO.q (Y.move (v := .pointer (some _)) rfl) ?_ | refine WO.q (Y.move (v := .pointer _) rfl) ?_
      refine WO.q (Y.move (v := .int .i64 _) rfl) ?_
      refine WO.e (O.call cf_56 rfl (wrapped_spec _ b (.node n ks) i k (RdTree.ext S.ext R) hk) ?_)
      rintro _ w ⟨rfl, E⟩
      replace S := S.keep E
      refine ⟨_, rfl, ?_⟩
      refine WO.nil ?_
      refine Then.nx ?_
      refine W.cond rfl (fun h6 => ?_) (fun h6 => ?_) -- cond 3
      ·
       have rh6 := h6
       (try simp only [Q1, Q2, Q3, Q4, Q5, Q6, Q7, Q8, Q9, Qa] at h6)
       refine W.region rfl ?_
       refine WO.q (Y.move (v := .int .i64 _) rfl) ?_
       first | refine WO.q (Y.addI rfl rfl (by omega)) ?_ | refine WO.q (Y.add rfl rfl) ?_
       refine WO.q (Y.assign (v := .int .i64 _) rfl) ?_
       refine WO.nil ?_
       refine Then.nx ⟨?_, ?_⟩
       ·
        (repeat (first | exact Out.hav _ _ _ | exact Out.refl _ _ | refine Out.up rfl ?_ | refine Out.sub rfl ?_))
       ·
        first | exact ⟨_, rfl, by rw [if_pos (by assumption)], S⟩ | exact ⟨_, rfl, by rw [if_neg (by (rw [Bool.not_eq_true]; assumption))], S⟩
      ·
       have rh6 := h6
       (try simp only [Q1, Q2, Q3, Q4, Q5, Q6, Q7, Q8, Q9, Qa] at h6)
       refine W.skip ?_
       refine Then.nx ⟨?_, ?_⟩
       ·
        (repeat (first | exact Out.hav _ _ _ | exact Out.refl _ _ | refine Out.up rfl ?_ | refine Out.sub rfl ?_))
       ·
        first | exact ⟨_, rfl, by rw [if_pos (by assumption)], S⟩ | exact ⟨_, rfl, by rw [if_neg (by (rw [Bool.not_eq_true]; assumption))], S⟩
     ·
      rintro gj246 v9 w ⟨a2, rfl, ha2, S⟩
      have ha2b : d1 ≤ a2 ∧ a2 ≤ a1 + 1 := by (rw [ha2]; split <;> omega)
      have hkb := deepM_bd k a2
      rw [ha1] at ha2
      refine W.seq ?_
      refine W.region rfl ?_
      first | refine WO.q (Y.move (v := .pointer (some _)) rfl) ?_ | refine WO.q (Y.move (v := .pointer _) rfl) ?_
      refine WO.q (Y.move (v := .int .i64 _) rfl) ?_
      refine WO.e (O.call cf_46 rfl (ih _ c k a2 (by omega) (RdTree.ext S.ext hRk) (by omega) (by omega)) ?_)
      rintro _ w ⟨rfl, E⟩
      replace S := S.keep E
      refine ⟨_, rfl, ?_⟩
      refine WO.q (Y.move (v := .tuple _) rfl) ?_
      refine WO.q (Y.extract (v := .int .i64 _) rfl rfl) ?_
      refine WO.q (Y.extract (v := .int .i64 _) rfl rfl) ?_
      refine WO.q (Y.assign (v := .int .i64 _) rfl) ?_
      refine WO.q (Y.assign (v := .int .i64 _) rfl) ?_
      refine WO.nil ?_
      refine Then.nx ?_
      refine W.seq ?_
      refine W.seq ?_
      refine W.region rfl ?_
      refine WO.q (Y.move (v := .int .i64 _) rfl) ?_
      refine WO.q (Y.eql rfl rfl) ?_
      refine WO.q (Y.move (v := .bool _) rfl) ?_
      refine WO.splitB (fun h7 => ?_) (fun h7 => ?_)
      ·
       (try simp only [Q1, Q2, Q3, Q4, Q5, Q6, Q7, Q8, Q9, Qa] at h7)
       refine WO.qT rfl (Y.move (v := .int .i64 _) rfl) ?_
       refine WO.qT rfl (Y.lss rfl rfl) ?_
       refine WO.q (Y.pickT (u := .bool _) rfl rfl) ?_
       refine WO.q (Y.move (v := .bool _) rfl) ?_
       refine WO.splitB (fun h8 => ?_) (fun h8 => ?_)
       ·
        (try simp only [Q1, Q2, Q3, Q4, Q5, Q6, Q7, Q8, Q9, Qa] at h8)
        first | refine WO.qT rfl (Y.move (v := .pointer (some _)) rfl) ?_ | refine WO.qT rfl (Y.move (v := .pointer _) rfl) ?_
        refine WO.qT rfl (Y.nilP rfl) ?_
        first | refine WO.qT rfl (Y.fieldB fo_107_0 rfl) ?_ | refine WO.qT rfl (Y.fieldE fo_107_0 rfl) ?_
        first | refine WO.qT rfl (Y.fieldB fo_75_0 rfl) ?_ | refine WO.qT rfl (Y.fieldE fo_75_0 rfl) ?_
        first | refine WO.qT rfl (Y.load rfl (loadB1 sz_28 (S.ext.heap hb) rfl)) ?_ | refine WO.qT rfl (Y.load rfl (loadB1 sz_28 (S.ext.heap hcb) rfl)) ?_ | refine WO.qT rfl (Y.load rfl (loadS1 sz_28 S 0 rfl rfl)) ?_ | refine WO.qT rfl (Y.load rfl (loadRdF sz_28 (hR.ext S.ext) (by assumption) rfl)) ?_ | refine WO.qT rfl (Y.load rfl (loadRd1 sz_28 (hR.ext S.ext) (by assumption) rfl)) ?_
        refine WO.eT rfl (O.call cf_55 rfl (rank_spec _ k.root.op) ?_)
        rintro _ w ⟨rfl, E⟩
        replace S := S.keep E
        refine ⟨_, rfl, ?_⟩
        refine WO.qT rfl (Y.move (v := .int .i64 _) rfl) ?_
        refine WO.qT rfl (Y.eql rfl rfl) ?_
        refine WO.q (Y.pickT (u := .bool _) rfl rfl) ?_
        refine WO.nil ?_
        refine Then.nx ?_
        refine W.cond rfl (fun h9 => ?_) (fun h9 => ?_) -- cond 4
        ·
         have rh9 := h9
         (try simp only [Q1, Q2, Q3, Q4, Q5, Q6, Q7, Q8, Q9, Qa] at h9)
         refine W.region rfl ?_
         refine WO.q (Y.move (v := .int .i64 _) rfl) ?_
         refine WO.q (Y.assign (v := .int .i64 _) rfl) ?_
         refine WO.nil ?_
         refine Then.nx ?_
         refine W.region rfl ?_
         refine WO.q (Y.move (v := .int .i64 _) rfl) ?_
         refine WO.q (Y.move (v := .int .i64 _) rfl) ?_
         refine WO.q (Y.move (v := .int .i64 _) rfl) ?_
         refine WO.q (Y.max3 rfl rfl rfl) ?_
         refine WO.q (Y.assign (v := .int .i64 _) rfl) ?_
         refine WO.nil ?_
         refine InB.nx ?_
         refine Then.nx ?_
         refine W.region rfl ?_
         first | refine WO.q (Y.addI rfl rfl (by omega)) ?_ | refine WO.q (Y.add rfl rfl) ?_
         refine WO.q (Y.move (v := .int .i64 _) rfl) ?_
         refine WO.nil ?_
         refine Then.nx ⟨?_, ?_, ?_⟩
         ·
          (repeat (first | exact Out.hav _ _ _ | exact Out.refl _ _ | refine Out.up rfl ?_ | refine Out.sub rfl ?_))
         ·
          first | exact ⟨i + 1, _, (deepM k a2).2, rfl, rfl, rfl, by omega, by (rw [← hdk]; exact (deepK_step hk ha2 (by (rw [if_pos (by omega)]))).symm), by omega, by omega, S⟩ | exact ⟨i + 1, _, y, rfl, rfl, rfl, by omega, by (rw [← hdk]; exact (deepK_step hk ha2 (by (rw [if_neg (by omega)]))).symm), by omega, by omega, S⟩
         ·
          (show ks.length - (i + 1) < ks.length - i; omega)
        ·
         have rh9 := h9
         (try simp only [Q1, Q2, Q3, Q4, Q5, Q6, Q7, Q8, Q9, Qa] at h9)
         refine W.skip ?_
         refine Then.nx ?_
         refine W.region rfl ?_
         refine WO.q (Y.move (v := .int .i64 _) rfl) ?_
         refine WO.q (Y.move (v := .int .i64 _) rfl) ?_
         refine WO.q (Y.move (v := .int .i64 _) rfl) ?_
         refine WO.q (Y.max3 rfl rfl rfl) ?_
         refine WO.q (Y.assign (v := .int .i64 _) rfl) ?_
         refine WO.nil ?_
         refine InB.nx ?_
         refine Then.nx ?_
         refine W.region rfl ?_
         first | refine WO.q (Y.addI rfl rfl (by omega)) ?_ | refine WO.q (Y.add rfl rfl) ?_
         refine WO.q (Y.move (v := .int .i64 _) rfl) ?_
         refine WO.nil ?_
         refine Then.nx ⟨?_, ?_, ?_⟩
         ·
          (repeat (first | exact Out.hav _ _ _ | exact Out.refl _ _ | refine Out.up rfl ?_ | refine Out.sub rfl ?_))
         ·
          first | exact ⟨i + 1, _, (deepM k a2).2, rfl, rfl, rfl, by omega, by (rw [← hdk]; exact (deepK_step hk ha2 (by (rw [if_pos (by omega)]))).symm), by omega, by omega, S⟩ | exact ⟨i + 1, _, y, rfl, rfl, rfl, by omega, by (rw [← hdk]; exact (deepK_step hk ha2 (by (rw [if_neg (by omega)]))).symm), by omega, by omega, S⟩
         ·
          (show ks.length - (i + 1) < ks.length - i; omega)
       ·
        (try simp only [Q1, Q2, Q3, Q4, Q5, Q6, Q7, Q8, Q9, Qa] at h8)
        refine WO.qF rfl ?_
        refine WO.qF rfl ?_
        refine WO.qF rfl ?_
        refine WO.qF rfl ?_
        refine WO.qF rfl ?_
        refine WO.qF rfl ?_
        refine WO.qF rfl ?_
        refine WO.qF rfl ?_
        refine WO.q (Y.pickF (u := .bool _) rfl rfl) ?_
        refine WO.nil ?_
        refine Then.nx ?_
        first | refine W.condF rfl ?_ | refine W.condF (congrArg Value.bool (by assumption)) ?_
        refine W.skip ?_
        refine Then.nx ?_
        refine W.region rfl ?_
        refine WO.q (Y.move (v := .int .i64 _) rfl) ?_
        refine WO.q (Y.move (v := .int .i64 _) rfl) ?_
        refine WO.q (Y.move (v := .int .i64 _) rfl) ?_
        refine WO.q (Y.max3 rfl rfl rfl) ?_
        refine WO.q (Y.assign (v := .int .i64 _) rfl) ?_
        refine WO.nil ?_
        refine InB.nx ?_
        refine Then.nx ?_
        refine W.region rfl ?_
        first | refine WO.q (Y.addI rfl rfl (by omega)) ?_ | refine WO.q (Y.add rfl rfl) ?_
        refine WO.q (Y.move (v := .int .i64 _) rfl) ?_
        refine WO.nil ?_
        refine Then.nx ⟨?_, ?_, ?_⟩
        ·
         (repeat (first | exact Out.hav _ _ _ | exact Out.refl _ _ | refine Out.up rfl ?_ | refine Out.sub rfl ?_))
        ·
         first | exact ⟨i + 1, _, (deepM k a2).2, rfl, rfl, rfl, by omega, by (rw [← hdk]; exact (deepK_step hk ha2 (by (rw [if_pos (by omega)]))).symm), by omega, by omega, S⟩ | exact ⟨i + 1, _, y, rfl, rfl, rfl, by omega, by (rw [← hdk]; exact (deepK_step hk ha2 (by (rw [if_neg (by omega)]))).symm), by omega, by omega, S⟩
        ·
         (show ks.length - (i + 1) < ks.length - i; omega)
      ·
       (try simp only [Q1, Q2, Q3, Q4, Q5, Q6, Q7, Q8, Q9, Qa] at h7)
       refine WO.qF rfl ?_
       refine WO.qF rfl ?_
       refine WO.q (Y.pickF (u := .bool _) rfl rfl) ?_
       refine WO.q (Y.move (v := .bool _) rfl) ?_
       refine WO.qF rfl ?_
       refine WO.qF rfl ?_
       refine WO.qF rfl ?_
       refine WO.qF rfl ?_
       refine WO.qF rfl ?_
       refine WO.qF rfl ?_
       refine WO.qF rfl ?_
       refine WO.qF rfl ?_
       refine WO.q (Y.pickF (u := .bool _) rfl rfl) ?_
       refine WO.nil ?_
       refine Then.nx ?_
       first | refine W.condF rfl ?_ | refine W.condF (congrArg Value.bool (by assumption)) ?_
       refine W.skip ?_
       refine Then.nx ?_
       refine W.region rfl ?_
       refine WO.q (Y.move (v := .int .i64 _) rfl) ?_
       refine WO.q (Y.move (v := .int .i64 _) rfl) ?_
       refine WO.q (Y.move (v := .int .i64 _) rfl) ?_
       refine WO.q (Y.max3 rfl rfl rfl) ?_
       refine WO.q (Y.assign (v := .int .i64 _) rfl) ?_
       refine WO.nil ?_
       refine InB.nx ?_
       refine Then.nx ?_
       refine W.region rfl ?_
       first | refine WO.q (Y.addI rfl rfl (by omega)) ?_ | refine WO.q (Y.add rfl rfl) ?_
       refine WO.q (Y.move (v := .int .i64 _) rfl) ?_
       refine WO.nil ?_
       refine Then.nx ⟨?_, ?_, ?_⟩
       ·
        (repeat (first | exact Out.hav _ _ _ | exact Out.refl _ _ | refine Out.up rfl ?_ | refine Out.sub rfl ?_))
       ·
        first | exact ⟨i + 1, _, (deepM k a2).2, rfl, rfl, rfl, by omega, by (rw [← hdk]; exact (deepK_step hk ha2 (by (rw [if_pos (by omega)]))).symm), by omega, by omega, S⟩ | exact ⟨i + 1, _, y, rfl, rfl, rfl, by omega, by (rw [← hdk]; exact (deepK_step hk ha2 (by (rw [if_neg (by omega)]))).symm), by omega, by omega, S⟩
       ·
        (show ks.length - (i + 1) < ks.length - i; omega)
   ·
    have rh3 := h3
    (try simp only [Q1, Q2, Q3, Q4, Q5, Q6, Q7, Q8, Q9, Qa] at h3)
    have hfe := flats_take_le ks i
    refine W.exit ?_
    refine Then.x ?_
    refine Then.x ?_
    refine InB.e ?_
    refine Then.nx ?_
    refine W.seq ?_
    refine W.region rfl ?_
    refine WO.q (Y.move (v := .int .i64 _) rfl) ?_
    refine WO.q (Y.move (v := .int .i64 _) rfl) ?_
    first | refine WO.q (Y.addI rfl rfl (by omega)) ?_ | refine WO.q (Y.add rfl rfl) ?_
    refine WO.q (Y.assign (v := .int .i64 _) rfl) ?_
    refine WO.q (Y.assign (v := .int .i64 _) rfl) ?_
    refine WO.nil ?_
    refine Then.nx ?_
    refine W.ret ?_
    refine BodyQ.ret2 Try.results46 (ResV.tmp _ rfl) (ResV.tmp _ rfl) ?_
    (have ei : i = ks.length := by omega); subst ei; rw [List.drop_length, deepK] at hdk; refine ⟨?_, S.ext⟩; show Ending.returned (.tuple #[.int .i64 _, .int .i64 _]) = _; rw [deepM]; simp only [← hd1, ← hdk]
end Go.Proofs
