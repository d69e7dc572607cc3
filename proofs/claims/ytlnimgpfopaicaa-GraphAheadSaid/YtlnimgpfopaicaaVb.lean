/-
  Walks of with.
-/
import Derived.Test.YtlnimgpfopaicaaGc
import Derived.Test.YtlnimgpfopaicaaFa
import Derived.Test.YtlnimgpfopaicaaFb
import Derived.Test.YtlnimgpfopaicaaVa
set_option linter.unusedVariables false
set_option linter.unusedSimpArgs false
set_option maxRecDepth 100000
set_option maxHeartbeats 1000000
namespace Go.Proofs
open Go Go.TL Go.RowKit
theorem with_spec (B : Nat) (w0 : World) (b : Nat) (v : WIn) (l : List GNode) (es : List GEnd) (m : GMaker) (p : Nat) (n : GNode) (ks : List Tr) (post : List GNode) (ka : Option Addr) (kc : Nat) (x : Int) (Wk : RdWalk 61 w0 b v l es m) (hp : l.drop p = flat (.node n ks) ++ post) (hfk : fitTs ks) (hok : okTs es.length ks) (h12 : n.op = 12 → ks.length = 3) (h1k : 1 ≤ ks.length) (hB : (flat (.node n ks)).length ≤ B)
    (ih : ∀ (w : World) (q : Nat) (k : Tr) (post' : List GNode), (flat k).length < B → RdWalk 61 w b v l es m → l.drop q = flat k ++ post' → okT es.length k → fitT k →
      Calls Try.prog 23 [.pointer (some ⟨b, 0, none⟩), .int .i64 (q : Int)].toArray w (fun r w' => r = .returned (outV 79 82 (evalT es m k)) ∧ Ext w w')) (R6 : Rd (tI .i64) w0 ka (kidPl (p + 1) ks)) (hc : (kidPl (p + 1) ks).length ≤ kc) :
    Calls Try.prog 34 [.pointer (some ⟨b, 0, none⟩), .agg (tNode.enc n).toArray, .slice ka (kidPl (p + 1) ks).length kc, .int .i64 x].toArray w0 (fun r w => r = .returned (outV 79 82 (withM m n.op x (evalTs es m ks))) ∧ Ext w0 w) := by
 have hsm := Wk.small
 have hkl := kidPl_len (p + 1) ks
 have ha := R6.1 (by omega)
 have hfg := flats_ge ks
 have hpl : p + (flats ks).length ≤ l.length := by (have h1 := congrArg List.length hp; rw [List.length_drop, List.length_append] at h1; simp only [flat, List.length_cons] at h1; omega)
 have S := Sat.refl w0
 refine calls_of_W (args := [.pointer (some ⟨b, 0, none⟩), .agg (tNode.enc n).toArray, .slice ka (kidPl (p + 1) ks).length kc, .int .i64 x]) 98 Try.func34 rfl Try.ntmps34 rfl ?_
 refine W.seq ?_
 refine W.region rfl ?_
 refine WO.e (O.box rfl rfl S (fun b5 w S => ?_))
 first | refine WO.q (Y.assign (v := .iface _ _) rfl) ?_ | refine WO.q (Y.assign (v := .nilIface) rfl) ?_ | refine WO.q (Y.assign (v := outV _ _ _) rfl) ?_
 refine WO.nil ?_
 refine Then.nx ?_
 refine W.seq ?_
 refine W.seq ?_
 refine W.region rfl ?_
 refine WO.q (Y.fieldB fo_75_0 rfl) ?_
 first | refine WO.q (Y.load rfl (loadS1 sz_28 S 0 rfl rfl)) ?_ | refine WO.q (Y.load rfl (loadS1 sz_28 S 1 rfl rfl)) ?_
 refine WO.nil ?_
 refine Then.nx ?_
 refine W.block ?_
 refine W.seq ?_
 refine W.region rfl ?_
 refine WO.q (Y.eql rfl rfl) ?_
 refine WO.q (Y.assign (v := .bool _) rfl) ?_
 refine WO.nil ?_
 refine Then.nx ?_
 refine W.cond rfl (fun h1 => ?_) (fun h1 => ?_) -- cond 0
 ·
  have rh1 := h1
  (try simp only [Q1, Q2, Q3, Q4, Q5, Q6, Q7, Q8, Q9, Qa] at h1)
  refine W.seq ?_
  refine W.seq ?_
  refine W.region rfl ?_
  refine WO.q (Y.move (v := .int .i64 _) rfl) ?_
  refine WO.q (Y.neq rfl rfl) ?_
  refine WO.nil ?_
  refine Then.nx ?_
  refine W.cond rfl (fun h2 => ?_) (fun h2 => ?_) -- cond 1
  ·
   have rh2 := h2
   (try simp only [Q1, Q2, Q3, Q4, Q5, Q6, Q7, Q8, Q9, Qa] at h2)
   refine W.seq ?_
   have h3 := h12 (by assumption)
   obtain ⟨k1, hk1⟩ := at_ex (xs := ks) (k := 1) (by omega)
   obtain ⟨postk1, hpk1⟩ := kid_place hp hk1
   have hqk1 := kidPl_at (p + 1) hk1
   refine W.region rfl ?_
   first | refine WO.q (Y.move (v := .pointer (some _)) rfl) ?_ | refine WO.q (Y.move (v := .pointer _) rfl) ?_
   refine WO.q (Y.move (v := .slice _ _ _) rfl) ?_
   first | refine WO.q (Y.ixN sl_23 rfl rfl (by (first | assumption | rfl)) (by (first | assumption | omega))) ?_ | refine WO.q (Y.ix sl_23 rfl rfl (by (first | assumption | rfl)) (by (first | assumption | omega)) (by (first | assumption | omega))) ?_
   first | refine WO.q (Y.load rfl (loadRd1 sz_3 (R6.ext S.ext) (by assumption) rfl)) ?_ | refine WO.q (Y.load rfl (loadRd1 sz_3 ((R6.drop 1 kc hc).ext S.ext) (by assumption) rfl)) ?_
   refine WO.e (O.call cf_23 rfl (ih _ (p + 1 + (flats (ks.take 1)).length) k1 postk1 (by (have := kid_lt (n := n) hk1; omega)) (Wk.ext S.ext) hpk1 (okTs_at hok hk1) (fitTs_at hfk hk1)) ?_)
   rintro _ w ⟨rfl, E⟩
   replace S := S.keep E
   refine ⟨_, rfl, ?_⟩
   first | refine WO.q (Y.assign (v := .iface _ _) rfl) ?_ | refine WO.q (Y.assign (v := .nilIface) rfl) ?_ | refine WO.q (Y.assign (v := outV _ _ _) rfl) ?_
   refine WO.nil ?_
   refine Then.nx ?_
   refine W.ret ?_
   refine Then.r ?_
   refine InB.r ?_
   refine Then.r ?_
   refine BodyQ.ret1 Try.results34 (ResV.tmp _ rfl) ?_
   first | exact ⟨by (unfold withM; rw [if_pos (by omega), if_neg (by omega), evalTs_getD hk1]; rfl), S.ext⟩ | exact ⟨by (unfold withM; rw [if_pos (by omega), if_pos (by omega), evalTs_getD hk2]; rfl), S.ext⟩ | exact ⟨by (unfold withM; rw [if_neg (by omega), if_pos (by omega)]; rfl), S.ext⟩ | exact ⟨by (unfold withM; rw [if_neg (by omega), if_neg (by omega), if_pos (by omega)]; rfl), S.ext⟩ | exact ⟨by (unfold withM; rw [if_neg (by omega), if_neg (by omega), if_neg (by omega), if_pos (by omega)]; rfl), S.ext⟩ | exact ⟨by (unfold withM; rw [if_neg (by omega), if_neg (by omega), if_neg (by omega), if_neg (by omega), if_pos (by omega)]; rfl), S.ext⟩ | exact ⟨by (unfold withM; rw [if_neg (by omega), if_neg (by omega), if_neg (by omega), if_neg (by omega), if_neg (by omega), if_pos (by omega)]; rfl), S.ext⟩ | exact ⟨by (unfold withM; rw [if_neg (by omega), if_neg (by omega), if_neg (by omega), if_neg (by omega), if_neg (by omega), if_neg (by omega), ← hrow, rowM_bad hk (by assumption)]; rfl), S.ext⟩ | exact ⟨by (unfold withM; rw [if_neg (by omega), if_neg (by omega), if_neg (by omega), if_neg (by omega), if_neg (by omega), if_neg (by omega), ← hrow, List.drop_of_length_le (by (rw [evalTs_len]; omega))]; rfl), S.ext⟩
  ·
   have rh2 := h2
   (try simp only [Q1, Q2, Q3, Q4, Q5, Q6, Q7, Q8, Q9, Qa] at h2)
   refine W.skip ?_
   refine Then.nx ?_
   refine W.seq ?_
   have h3 := h12 (by assumption)
   obtain ⟨k2, hk2⟩ := at_ex (xs := ks) (k := 2) (by omega)
   obtain ⟨postk2, hpk2⟩ := kid_place hp hk2
   have hqk2 := kidPl_at (p + 1) hk2
   refine W.region rfl ?_
   first | refine WO.q (Y.move (v := .pointer (some _)) rfl) ?_ | refine WO.q (Y.move (v := .pointer _) rfl) ?_
   refine WO.q (Y.move (v := .slice _ _ _) rfl) ?_
   first | refine WO.q (Y.ixN sl_23 rfl rfl (by (first | assumption | rfl)) (by (first | assumption | omega))) ?_ | refine WO.q (Y.ix sl_23 rfl rfl (by (first | assumption | rfl)) (by (first | assumption | omega)) (by (first | assumption | omega))) ?_
   first | refine WO.q (Y.load rfl (loadRd1 sz_3 (R6.ext S.ext) (by assumption) rfl)) ?_ | refine WO.q (Y.load rfl (loadRd1 sz_3 ((R6.drop 1 kc hc).ext S.ext) (by assumption) rfl)) ?_
   refine WO.e (O.call cf_23 rfl (ih _ (p + 1 + (flats (ks.take 2)).length) k2 postk2 (by (have := kid_lt (n := n) hk2; omega)) (Wk.ext S.ext) hpk2 (okTs_at hok hk2) (fitTs_at hfk hk2)) ?_)
   rintro _ w ⟨rfl, E⟩
   replace S := S.keep E
   refine ⟨_, rfl, ?_⟩
   first | refine WO.q (Y.assign (v := .iface _ _) rfl) ?_ | refine WO.q (Y.assign (v := .nilIface) rfl) ?_ | refine WO.q (Y.assign (v := outV _ _ _) rfl) ?_
   refine WO.nil ?_
   refine Then.nx ?_
   refine W.ret ?_
   refine InB.r ?_
   refine Then.r ?_
   refine BodyQ.ret1 Try.results34 (ResV.tmp _ rfl) ?_
   first | exact ⟨by (unfold withM; rw [if_pos (by omega), if_neg (by omega), evalTs_getD hk1]; rfl), S.ext⟩ | exact ⟨by (unfold withM; rw [if_pos (by omega), if_pos (by omega), evalTs_getD hk2]; rfl), S.ext⟩ | exact ⟨by (unfold withM; rw [if_neg (by omega), if_pos (by omega)]; rfl), S.ext⟩ | exact ⟨by (unfold withM; rw [if_neg (by omega), if_neg (by omega), if_pos (by omega)]; rfl), S.ext⟩ | exact ⟨by (unfold withM; rw [if_neg (by omega), if_neg (by omega), if_neg (by omega), if_pos (by omega)]; rfl), S.ext⟩ | exact ⟨by (unfold withM; rw [if_neg (by omega), if_neg (by omega), if_neg (by omega), if_neg (by omega), if_pos (by omega)]; rfl), S.ext⟩ | exact ⟨by (unfold withM; rw [if_neg (by omega), if_neg (by omega), if_neg (by omega), if_neg (by omega), if_neg (by omega), if_pos (by omega)]; rfl), S.ext⟩ | exact ⟨by (unfold withM; rw [if_neg (by omega), if_neg (by omega), if_neg (by omega), if_neg (by omega), if_neg (by omega), if_neg (by omega), ← hrow, rowM_bad hk (by assumption)]; rfl), S.ext⟩ | exact ⟨by (unfold withM; rw [if_neg (by omega), if_neg (by omega), if_neg (by omega), if_neg (by omega), if_neg (by omega), if_neg (by omega), ← hrow, List.drop_of_length_le (by (rw [evalTs_len]; omega))]; rfl), S.ext⟩
 ·
  have rh1 := h1
  (try simp only [Q1, Q2, Q3, Q4, Q5, Q6, Q7, Q8, Q9, Qa] at h1)
  refine W.seq ?_
  refine W.region rfl ?_
  refine WO.q (Y.eql rfl rfl) ?_
  refine WO.q (Y.assign (v := .bool _) rfl) ?_
  refine WO.nil ?_
  refine Then.nx ?_
  refine W.cond rfl (fun h3 => ?_) (fun h3 => ?_) -- cond 2
  ·
   have rh3 := h3
   (try simp only [Q1, Q2, Q3, Q4, Q5, Q6, Q7, Q8, Q9, Qa] at h3)
   refine W.seq ?_
   refine W.region rfl ?_
   refine WO.q (Y.move (v := .int .i64 _) rfl) ?_
   refine WO.q (Y.neg rfl) ?_
   refine WO.q (Y.mkI (v := .int .i64 _) Try.underlying79 (fun _ hh => by cases hh) rfl) ?_
   first | refine WO.q (Y.assign (v := .iface _ _) rfl) ?_ | refine WO.q (Y.assign (v := .nilIface) rfl) ?_ | refine WO.q (Y.assign (v := outV _ _ _) rfl) ?_
   refine WO.nil ?_
   refine Then.nx ?_
   refine W.ret ?_
   refine InB.r ?_
   refine Then.r ?_
   refine BodyQ.ret1 Try.results34 (ResV.tmp _ rfl) ?_
   first | exact ⟨by (unfold withM; rw [if_pos (by omega), if_neg (by omega), evalTs_getD hk1]; rfl), S.ext⟩ | exact ⟨by (unfold withM; rw [if_pos (by omega), if_pos (by omega), evalTs_getD hk2]; rfl), S.ext⟩ | exact ⟨by (unfold withM; rw [if_neg (by omega), if_pos (by omega)]; rfl), S.ext⟩ | exact ⟨by (unfold withM; rw [if_neg (by omega), if_neg (by omega), if_pos (by omega)]; rfl), S.ext⟩ | exact ⟨by (unfold withM; rw [if_neg (by omega), if_neg (by omega), if_neg (by omega), if_pos (by omega)]; rfl), S.ext⟩ | exact ⟨by (unfold withM; rw [if_neg (by omega), if_neg (by omega), if_neg (by omega), if_neg (by omega), if_pos (by omega)]; rfl), S.ext⟩ | exact ⟨by (unfold withM; rw [if_neg (by omega), if_neg (by omega), if_neg (by omega), if_neg (by omega), if_neg (by omega), if_pos (by omega)]; rfl), S.ext⟩ | exact ⟨by (unfold withM; rw [if_neg (by omega), if_neg (by omega), if_neg (by omega), if_neg (by omega), if_neg (by omega), if_neg (by omega), ← hrow, rowM_bad hk (by assumption)]; rfl), S.ext⟩ | exact ⟨by (unfold withM; rw [if_neg (by omega), if_neg (by omega), if_neg (by omega), if_neg (by omega), if_neg (by omega), if_neg (by omega), ← hrow, List.drop_of_length_le (by (rw [evalTs_len]; omega))]; rfl), S.ext⟩
  ·
   have rh3 := h3
   (try simp only [Q1, Q2, Q3, Q4, Q5, Q6, Q7, Q8, Q9, Qa] at h3)
   refine W.seq ?_
   refine W.region rfl ?_
   refine WO.q (Y.eql rfl rfl) ?_
   refine WO.q (Y.assign (v := .bool _) rfl) ?_
   refine WO.nil ?_
   refine Then.nx ?_
   refine W.cond rfl (fun h4 => ?_) (fun h4 => ?_) -- cond 3
   ·
    have rh4 := h4
    (try simp only [Q1, Q2, Q3, Q4, Q5, Q6, Q7, Q8, Q9, Qa] at h4)
    refine W.seq ?_
    refine W.region rfl ?_
    refine WO.q (Y.move (v := .int .i64 _) rfl) ?_
    refine WO.q (Y.build rfl (bld_82_0_1)) ?_
    refine WO.q (Y.mkI (v := .agg _) Try.underlying82 (fun _ hh => by cases hh) rfl) ?_
    first | refine WO.q (Y.assign (v := .iface _ _) rfl) ?_ | refine WO.q (Y.assign (v := .nilIface) rfl) ?_ | refine WO.q (Y.assign (v := outV _ _ _) rfl) ?_
    refine WO.nil ?_
    refine Then.nx ?_
    refine W.ret ?_
    refine InB.r ?_
    refine Then.r ?_
    refine BodyQ.ret1 Try.results34 (ResV.tmp _ rfl) ?_
    first | exact ⟨by (unfold withM; rw [if_pos (by omega), if_neg (by omega), evalTs_getD hk1]; rfl), S.ext⟩ | exact ⟨by (unfold withM; rw [if_pos (by omega), if_pos (by omega), evalTs_getD hk2]; rfl), S.ext⟩ | exact ⟨by (unfold withM; rw [if_neg (by omega), if_pos (by omega)]; rfl), S.ext⟩ | exact ⟨by (unfold withM; rw [if_neg (by omega), if_neg (by omega), if_pos (by omega)]; rfl), S.ext⟩ | exact ⟨by (unfold withM; rw [if_neg (by omega), if_neg (by omega), if_neg (by omega), if_pos (by omega)]; rfl), S.ext⟩ | exact ⟨by (unfold withM; rw [if_neg (by omega), if_neg (by omega), if_neg (by omega), if_neg (by omega), if_pos (by omega)]; rfl), S.ext⟩ | exact ⟨by (unfold withM; rw [if_neg (by omega), if_neg (by omega), if_neg (by omega), if_neg (by omega), if_neg (by omega), if_pos (by omega)]; rfl), S.ext⟩ | exact ⟨by (unfold withM; rw [if_neg (by omega), if_neg (by omega), if_neg (by omega), if_neg (by omega), if_neg (by omega), if_neg (by omega), ← hrow, rowM_bad hk (by assumption)]; rfl), S.ext⟩ | exact ⟨by (unfold withM; rw [if_neg (by omega), if_neg (by omega), if_neg (by omega), if_neg (by omega), if_neg (by omega), if_neg (by omega), ← hrow, List.drop_of_length_le (by (rw [evalTs_len]; omega))]; rfl), S.ext⟩
   ·
    have rh4 := h4
    (try simp only [Q1, Q2, Q3, Q4, Q5, Q6, Q7, Q8, Q9, Qa] at h4)
    refine W.seq ?_
    refine W.region rfl ?_
    refine WO.q (Y.eql rfl rfl) ?_
    refine WO.q (Y.assign (v := .bool _) rfl) ?_
    refine WO.nil ?_
    refine Then.nx ?_
    refine W.cond rfl (fun h5 => ?_) (fun h5 => ?_) -- cond 4
    ·
     have rh5 := h5
     (try simp only [Q1, Q2, Q3, Q4, Q5, Q6, Q7, Q8, Q9, Qa] at h5)
     refine W.seq ?_
     refine W.region rfl ?_
     refine WO.q (Y.move (v := .int .i64 _) rfl) ?_
     refine WO.q (Y.build rfl (bld_82_0_1)) ?_
     refine WO.q (Y.mkI (v := .agg _) Try.underlying82 (fun _ hh => by cases hh) rfl) ?_
     first | refine WO.q (Y.assign (v := .iface _ _) rfl) ?_ | refine WO.q (Y.assign (v := .nilIface) rfl) ?_ | refine WO.q (Y.assign (v := outV _ _ _) rfl) ?_
     refine WO.nil ?_
     refine Then.nx ?_
     refine W.ret ?_
     refine InB.r ?_
     refine Then.r ?_
     refine BodyQ.ret1 Try.results34 (ResV.tmp _ rfl) ?_
     first | exact ⟨by (unfold withM; rw [if_pos (by omega), if_neg (by omega), evalTs_getD hk1]; rfl), S.ext⟩ | exact ⟨by (unfold withM; rw [if_pos (by omega), if_pos (by omega), evalTs_getD hk2]; rfl), S.ext⟩ | exact ⟨by (unfold withM; rw [if_neg (by omega), if_pos (by omega)]; rfl), S.ext⟩ | exact ⟨by (unfold withM; rw [if_neg (by omega), if_neg (by omega), if_pos (by omega)]; rfl), S.ext⟩ | exact ⟨by (unfold withM; rw [if_neg (by omega), if_neg (by omega), if_neg (by omega), if_pos (by omega)]; rfl), S.ext⟩ | exact ⟨by (unfold withM; rw [if_neg (by omega), if_neg (by omega), if_neg (by omega), if_neg (by omega), if_pos (by omega)]; rfl), S.ext⟩ | exact ⟨by (unfold withM; rw [if_neg (by omega), if_neg (by omega), if_neg (by omega), if_neg (by omega), if_neg (by omega), if_pos (by omega)]; rfl), S.ext⟩ | exact ⟨by (unfold withM; rw [if_neg (by omega), if_neg (by omega), if_neg (by omega), if_neg (by omega), if_neg (by omega), if_neg (by omega), ← hrow, rowM_bad hk (by assumption)]; rfl), S.ext⟩ | exact ⟨by (unfold withM; rw [if_neg (by omega), if_neg (by omega), if_neg (by omega), if_neg (by omega), if_neg (by omega), if_neg (by omega), ← hrow, List.drop_of_length_le (by (rw [evalTs_len]; omega))]; rfl), S.ext⟩
    ·
     have rh5 := h5
     (try simp only [Q1, Q2, Q3, Q4, Q5, Q6, Q7, Q8, Q9, Qa] at h5)
     refine W.seq ?_
     refine W.region rfl ?_
     refine WO.q (Y.eql rfl rfl) ?_
     refine WO.q (Y.assign (v := .bool _) rfl) ?_
     refine WO.nil ?_
     refine Then.nx ?_
     refine W.cond rfl (fun h6 => ?_) (fun h6 => ?_) -- cond 5
     ·
      have rh6 := h6
      (try simp only [Q1, Q2, Q3, Q4, Q5, Q6, Q7, Q8, Q9, Qa] at h6)
      refine W.seq ?_
      refine W.region rfl ?_
      first | refine WO.q (Y.move (v := .pointer (some _)) rfl) ?_ | refine WO.q (Y.move (v := .pointer _) rfl) ?_
      refine WO.q (Y.nilP rfl) ?_
      first | refine WO.q (Y.fieldB fo_61_2 rfl) ?_ | refine WO.q (Y.fieldE fo_61_2 rfl) ?_
      first | refine WO.q (Y.load rfl (loadBN sz_27 (S.ext.heap Wk.blk) rfl rfl)) ?_ | refine WO.q (Y.load rfl (loadSN sz_27 S 0 rfl rfl rfl)) ?_ | refine WO.q (Y.load rfl (loadSN sz_27 S 1 rfl rfl rfl)) ?_ | refine WO.q (Y.load rfl (loadRdN sz_27 (R6.ext S.ext) (by assumption))) ?_ | refine WO.q (Y.load rfl (loadRdN sz_27 ((R6.drop 1 kc hc).ext S.ext) (by assumption))) ?_
      refine WO.q (Y.move (v := .int .i64 _) rfl) ?_
      refine WO.e (O.call cf_48 rfl (build_spec _ m x) ?_)
      rintro _ w ⟨rfl, E⟩
      replace S := S.keep E
      refine ⟨_, rfl, ?_⟩
      first | refine WO.q (Y.assign (v := .iface _ _) rfl) ?_ | refine WO.q (Y.assign (v := .nilIface) rfl) ?_ | refine WO.q (Y.assign (v := outV _ _ _) rfl) ?_
      refine WO.nil ?_
      refine Then.nx ?_
      refine W.ret ?_
      refine InB.r ?_
      refine Then.r ?_
      refine BodyQ.ret1 Try.results34 (ResV.tmp _ rfl) ?_
      first | exact ⟨by (unfold withM; rw [if_pos (by omega), if_neg (by omega), evalTs_getD hk1]; rfl), S.ext⟩ | exact ⟨by (unfold withM; rw [if_pos (by omega), if_pos (by omega), evalTs_getD hk2]; rfl), S.ext⟩ | exact ⟨by (unfold withM; rw [if_neg (by omega), if_pos (by omega)]; rfl), S.ext⟩ | exact ⟨by (unfold withM; rw [if_neg (by omega), if_neg (by omega), if_pos (by omega)]; rfl), S.ext⟩ | exact ⟨by (unfold withM; rw [if_neg (by omega), if_neg (by omega), if_neg (by omega), if_pos (by omega)]; rfl), S.ext⟩ | exact ⟨by (unfold withM; rw [if_neg (by omega), if_neg (by omega), if_neg (by omega), if_neg (by omega), if_pos (by omega)]; rfl), S.ext⟩ | exact ⟨by (unfold withM; rw [if_neg (by omega), if_neg (by omega), if_neg (by omega), if_neg (by omega), if_neg (by omega), if_pos (by omega)]; rfl), S.ext⟩ | exact ⟨by (unfold withM; rw [if_neg (by omega), if_neg (by omega), if_neg (by omega), if_neg (by omega), if_neg (by omega), if_neg (by omega), ← hrow, rowM_bad hk (by assumption)]; rfl), S.ext⟩ | exact ⟨by (unfold withM; rw [if_neg (by omega), if_neg (by omega), if_neg (by omega), if_neg (by omega), if_neg (by omega), if_neg (by omega), ← hrow, List.drop_of_length_le (by (rw [evalTs_len]; omega))]; rfl), S.ext⟩
     ·
      have rh6 := h6
      (try simp only [Q1, Q2, Q3, Q4, Q5, Q6, Q7, Q8, Q9, Qa] at h6)
      refine W.seq ?_
      refine W.region rfl ?_
      refine WO.q (Y.eql rfl rfl) ?_
      refine WO.q (Y.assign (v := .bool _) rfl) ?_
      refine WO.nil ?_
      refine Then.nx ?_
      refine W.cond rfl (fun h7 => ?_) (fun h7 => ?_) -- cond 6
      ·
       have rh7 := h7
       (try simp only [Q1, Q2, Q3, Q4, Q5, Q6, Q7, Q8, Q9, Qa] at h7)
       refine W.seq ?_
       refine W.region rfl ?_
       refine WO.q (Y.move (v := .int .i64 _) rfl) ?_
       refine WO.q (Y.mkI (v := .int .i64 _) Try.underlying79 (fun _ hh => by cases hh) rfl) ?_
       first | refine WO.q (Y.assign (v := .iface _ _) rfl) ?_ | refine WO.q (Y.assign (v := .nilIface) rfl) ?_ | refine WO.q (Y.assign (v := outV _ _ _) rfl) ?_
       refine WO.nil ?_
       refine Then.nx ?_
       refine W.ret ?_
       refine InB.r ?_
       refine Then.r ?_
       refine BodyQ.ret1 Try.results34 (ResV.tmp _ rfl) ?_
       first | exact ⟨by (unfold withM; rw [if_pos (by omega), if_neg (by omega), evalTs_getD hk1]; rfl), S.ext⟩ | exact ⟨by (unfold withM; rw [if_pos (by omega), if_pos (by omega), evalTs_getD hk2]; rfl), S.ext⟩ | exact ⟨by (unfold withM; rw [if_neg (by omega), if_pos (by omega)]; rfl), S.ext⟩ | exact ⟨by (unfold withM; rw [if_neg (by omega), if_neg (by omega), if_pos (by omega)]; rfl), S.ext⟩ | exact ⟨by (unfold withM; rw [if_neg (by omega), if_neg (by omega), if_neg (by omega), if_pos (by omega)]; rfl), S.ext⟩ | exact ⟨by (unfold withM; rw [if_neg (by omega), if_neg (by omega), if_neg (by omega), if_neg (by omega), if_pos (by omega)]; rfl), S.ext⟩ | exact ⟨by (unfold withM; rw [if_neg (by omega), if_neg (by omega), if_neg (by omega), if_neg (by omega), if_neg (by omega), if_pos (by omega)]; rfl), S.ext⟩ | exact ⟨by (unfold withM; rw [if_neg (by omega), if_neg (by omega), if_neg (by omega), if_neg (by omega), if_neg (by omega), if_neg (by omega), ← hrow, rowM_bad hk (by assumption)]; rfl), S.ext⟩ | exact ⟨by (unfold withM; rw [if_neg (by omega), if_neg (by omega), if_neg (by omega), if_neg (by omega), if_neg (by omega), if_neg (by omega), ← hrow, List.drop_of_length_le (by (rw [evalTs_len]; omega))]; rfl), S.ext⟩
      ·
       have rh7 := h7
       (try simp only [Q1, Q2, Q3, Q4, Q5, Q6, Q7, Q8, Q9, Qa] at h7)
       refine W.skip ?_
       refine InB.nx ?_
       refine Then.nx ?_
       refine W.seq ?_
       refine W.region rfl ?_
       refine WO.q (Y.move (v := .int .i64 _) rfl) ?_
       refine WO.q (Y.assign (v := .int .i64 _) rfl) ?_
       refine WO.nil ?_
       refine Then.nx ?_
       refine W.seq ?_
       refine W.seq ?_
       refine W.region rfl ?_
       refine WO.q (Y.move (v := .slice _ _ _) rfl) ?_
       refine WO.q (Y.sliceL (l := 1) sl_23 rfl rfl (by omega)) ?_
       refine WO.q (Y.len (t' := 0) Try.underlying23 rfl) ?_
       refine WO.q (Y.move (v := .int .i64 _) rfl) ?_
       refine WO.nil ?_
       refine Then.nx ?_
       refine W.block ?_
       -- loop 0 carries 9:last, 61
       refine W.loop2 [8, 9, 11, 12, 13, 61, 62, 63, 64, 65, 66, 67, 68, 69, 70, 71, 72, 73, 74, 75, 76, 77, 78, 79, 80, 81, 82, 83, 84, 85, 86, 87, 88, 89, 90, 91, 92, 93, 94, 95] 9 61 (fun v9 v61 w => ∃ (j : Nat) (last : Int), v61 = .int .i64 (j : Int) ∧ v9 = .int .i64 last ∧ 1 + j ≤ ks.length ∧ rowM n.op x last ((evalTs es m ks).drop (1 + j)) = rowM n.op x x ((evalTs es m ks).drop 1) ∧ Sat w0 w [Cel b5 (tNode.enc n) 75]) (fun v9 v61 w => ks.length - (intOf v61).toNat) ?_ ?_
       ·
        exact ⟨0, x, rfl, rfl, by omega, rfl, S⟩
       ·
        rintro g0 v9 v61 w ⟨j, last, rfl, rfl, hj, hrow, S⟩
        refine W.seq ?_
        refine W.region rfl ?_
        refine WO.q (Y.lss rfl rfl) ?_
        refine WO.nil ?_
        refine Then.nx ?_
        refine W.seq ?_
        refine W.cond rfl (fun h8 => ?_) (fun h8 => ?_) -- cond 7
        ·
         have rh8 := h8
         (try simp only [Q1, Q2, Q3, Q4, Q5, Q6, Q7, Q8, Q9, Qa] at h8)
         refine W.skip ?_
         refine Then.nx ?_
         refine W.seq ?_
         refine W.block ?_
         refine W.seq ?_
         obtain ⟨k, hk⟩ := at_ex (xs := ks) (k := (1 + j)) (by omega)
         obtain ⟨postk, hpk⟩ := kid_place hp hk
         have hqk := kidPl_at (p + 1) hk
         have hqd : ((kidPl (p + 1) ks).drop 1)[j]? = some ((p + 1 + (flats (ks.take (1 + j))).length : Nat) : Int) := by (rw [List.getElem?_drop]; exact hqk)
         have had := (R6.drop 1 kc hc).1 (by (rw [List.length_drop]; omega))
         have hdl : ((kidPl (p + 1) ks).drop 1).length = (kidPl (p + 1) ks).length - 1 := by rw [List.length_drop]
         refine W.region rfl ?_
         first | refine WO.q (Y.ixN sl_23 rfl rfl (by (first | assumption | rfl)) (by (first | assumption | omega))) ?_ | refine WO.q (Y.ix sl_23 rfl rfl (by (first | assumption | rfl)) (by (first | assumption | omega)) (by (first | assumption | omega))) ?_
         first | refine WO.q (Y.load rfl (loadRd1 sz_3 (R6.ext S.ext) (by assumption) rfl)) ?_ | refine WO.q (Y.load rfl (loadRd1 sz_3 ((R6.drop 1 kc hc).ext S.ext) (by assumption) rfl)) ?_
         refine WO.q (Y.assign (v := .int .i64 _) rfl) ?_
         refine WO.nil ?_
         refine Then.nx ?_
         refine W.seq ?_
         refine W.region rfl ?_
         first | refine WO.q (Y.move (v := .pointer (some _)) rfl) ?_ | refine WO.q (Y.move (v := .pointer _) rfl) ?_
         refine WO.q (Y.move (v := .int .i64 _) rfl) ?_
         refine WO.e (O.call cf_23 rfl (ih _ (p + 1 + (flats (ks.take (1 + j))).length) k postk (by (have := kid_lt (n := n) hk; omega)) (Wk.ext S.ext) hpk (okTs_at hok hk) (fitTs_at hfk hk)) ?_)
         rintro _ w ⟨rfl, E⟩
         replace S := S.keep E
         refine ⟨_, rfl, ?_⟩
         refine WO.q (Y.asrtV (o := (evalT es m k)) Try.underlying79 (fun w => by kernel_rfl) (by decide) rfl) ?_
         refine WO.q (Y.move (v := .tuple _) rfl) ?_
         refine WO.q (Y.extract (v := .int .i64 _) rfl rfl) ?_
         refine WO.q (Y.extract (v := .bool _) rfl rfl) ?_
         refine WO.q (Y.assign (v := .int .i64 _) rfl) ?_
         refine WO.q (Y.assign (v := .bool _) rfl) ?_
         refine WO.nil ?_
         refine Then.nx ?_
         refine W.seq ?_
         refine W.seq ?_
         refine W.region rfl ?_
         refine WO.q (Y.move (v := .bool _) rfl) ?_
         refine WO.q (Y.not rfl) ?_
         refine WO.nil ?_
         refine Then.nx ?_
         refine W.cond rfl (fun h9 => ?_) (fun h9 => ?_) -- cond 8
         ·
          have rh9 := h9
          (try simp only [Q1, Q2, Q3, Q4, Q5, Q6, Q7, Q8, Q9, Qa] at h9)
          refine W.seq ?_
          refine W.region rfl ?_
          first | refine WO.q (Y.move (v := .pointer (some _)) rfl) ?_ | refine WO.q (Y.move (v := .pointer _) rfl) ?_
          refine WO.q (Y.move (v := .int .i64 _) rfl) ?_
          refine WO.e (O.call cf_23 rfl (ih _ (p + 1 + (flats (ks.take (1 + j))).length) k postk (by (have := kid_lt (n := n) hk; omega)) (Wk.ext S.ext) hpk (okTs_at hok hk) (fitTs_at hfk hk)) ?_)
          rintro _ w ⟨rfl, E⟩
          replace S := S.keep E
          refine ⟨_, rfl, ?_⟩
          first | refine WO.q (Y.assign (v := .iface _ _) rfl) ?_ | refine WO.q (Y.assign (v := .nilIface) rfl) ?_ | refine WO.q (Y.assign (v := outV _ _ _) rfl) ?_
          refine WO.nil ?_
          refine Then.nx ?_
          refine W.ret ?_
          refine Then.r ?_
          refine InB.r ?_
          refine Then.r ?_
          refine Then.r ?_
          refine InB.r ?_
          refine Then.r ?_
          refine BodyQ.ret1 Try.results34 (ResV.tmp _ rfl) ?_
          first | exact ⟨by (unfold withM; rw [if_pos (by omega), if_neg (by omega), evalTs_getD hk1]; rfl), S.ext⟩ | exact ⟨by (unfold withM; rw [if_pos (by omega), if_pos (by omega), evalTs_getD hk2]; rfl), S.ext⟩ | exact ⟨by (unfold withM; rw [if_neg (by omega), if_pos (by omega)]; rfl), S.ext⟩ | exact ⟨by (unfold withM; rw [if_neg (by omega), if_neg (by omega), if_pos (by omega)]; rfl), S.ext⟩ | exact ⟨by (unfold withM; rw [if_neg (by omega), if_neg (by omega), if_neg (by omega), if_pos (by omega)]; rfl), S.ext⟩ | exact ⟨by (unfold withM; rw [if_neg (by omega), if_neg (by omega), if_neg (by omega), if_neg (by omega), if_pos (by omega)]; rfl), S.ext⟩ | exact ⟨by (unfold withM; rw [if_neg (by omega), if_neg (by omega), if_neg (by omega), if_neg (by omega), if_neg (by omega), if_pos (by omega)]; rfl), S.ext⟩ | exact ⟨by (unfold withM; rw [if_neg (by omega), if_neg (by omega), if_neg (by omega), if_neg (by omega), if_neg (by omega), if_neg (by omega), ← hrow, rowM_bad hk (by assumption)]; rfl), S.ext⟩ | exact ⟨by (unfold withM; rw [if_neg (by omega), if_neg (by omega), if_neg (by omega), if_neg (by omega), if_neg (by omega), if_neg (by omega), ← hrow, List.drop_of_length_le (by (rw [evalTs_len]; omega))]; rfl), S.ext⟩
         ·
          have rh9 := h9
          (try simp only [Q1, Q2, Q3, Q4, Q5, Q6, Q7, Q8, Q9, Qa] at h9)
          refine W.skip ?_
          refine Then.nx ?_
          refine W.cut1 [12, 77, 78, 79, 80, 81, 82, 83, 84, 85, 86, 87, 88, 89, 90, 91, 92, 93] 12 (fun v12 w => v12 = .int .i64 (calcM n.op x (evalT es m k).num) ∧ Sat w0 w [Cel b5 (tNode.enc n) 75]) ?_ ?_
          ·
           refine W.seq ?_
           refine W.region rfl ?_
           refine WO.q (Y.fieldB fo_75_0 rfl) ?_
           first | refine WO.q (Y.load rfl (loadS1 sz_28 S 0 rfl rfl)) ?_ | refine WO.q (Y.load rfl (loadS1 sz_28 S 1 rfl rfl)) ?_
           refine WO.nil ?_
           refine Then.nx ?_
           refine W.block ?_
           refine W.seq ?_
           refine W.region rfl ?_
           refine WO.q (Y.eql rfl rfl) ?_
           refine WO.q (Y.assign (v := .bool _) rfl) ?_
           refine WO.nil ?_
           refine Then.nx ?_
           refine W.cond rfl (fun h10 => ?_) (fun h10 => ?_) -- cond 9
           ·
            have rh10 := h10
            (try simp only [Q1, Q2, Q3, Q4, Q5, Q6, Q7, Q8, Q9, Qa] at h10)
            refine W.region rfl ?_
            refine WO.q (Y.move (v := .int .i64 _) rfl) ?_
            refine WO.q (Y.move (v := .int .i64 _) rfl) ?_
            refine WO.q (Y.add rfl rfl) ?_
            refine WO.q (Y.assign (v := .int .i64 _) rfl) ?_
            refine WO.nil ?_
            refine InB.nx ?_
            refine Then.nx ⟨?_, ?_⟩
            ·
             (repeat (first | exact Out.hav _ _ _ | exact Out.refl _ _ | refine Out.up rfl ?_ | refine Out.sub rfl ?_))
            ·
             exact ⟨by (show Value.int .i64 _ = Value.int .i64 _; unfold calcM; first | rw [if_pos (by omega)]; rfl | rw [if_neg (by omega), if_pos (by omega)]; rfl | rw [if_neg (by omega), if_neg (by omega), if_pos (by omega)]; rfl | rw [if_neg (by omega), if_neg (by omega), if_neg (by omega)]), S⟩
           ·
            have rh10 := h10
            (try simp only [Q1, Q2, Q3, Q4, Q5, Q6, Q7, Q8, Q9, Qa] at h10)
            refine W.seq ?_
            refine W.region rfl ?_
            refine WO.q (Y.eql rfl rfl) ?_
            refine WO.q (Y.assign (v := .bool _) rfl) ?_
            refine WO.nil ?_
            refine Then.nx ?_
            refine W.cond rfl (fun h11 => ?_) (fun h11 => ?_) -- cond 10
            ·
             have rh11 := h11
             (try simp only [Q1, Q2, Q3, Q4, Q5, Q6, Q7, Q8, Q9, Qa] at h11)
             refine W.region rfl ?_
             refine WO.q (Y.move (v := .int .i64 _) rfl) ?_
             refine WO.q (Y.move (v := .int .i64 _) rfl) ?_
             refine WO.q (Y.sub rfl rfl) ?_
             refine WO.q (Y.assign (v := .int .i64 _) rfl) ?_
             refine WO.nil ?_
             refine InB.nx ?_
             refine Then.nx ⟨?_, ?_⟩
             ·
              (repeat (first | exact Out.hav _ _ _ | exact Out.refl _ _ | refine Out.up rfl ?_ | refine Out.sub rfl ?_))
             ·
              exact ⟨by (show Value.int .i64 _ = Value.int .i64 _; unfold calcM; first | rw [if_pos (by omega)]; rfl | rw [if_neg (by omega), if_pos (by omega)]; rfl | rw [if_neg (by omega), if_neg (by omega), if_pos (by omega)]; rfl | rw [if_neg (by omega), if_neg (by omega), if_neg (by omega)]), S⟩
            ·
             have rh11 := h11
             (try simp only [Q1, Q2, Q3, Q4, Q5, Q6, Q7, Q8, Q9, Qa] at h11)
             refine W.seq ?_
             refine W.region rfl ?_
             refine WO.q (Y.eql rfl rfl) ?_
             refine WO.q (Y.assign (v := .bool _) rfl) ?_
             refine WO.nil ?_
             refine Then.nx ?_
             refine W.cond rfl (fun h12 => ?_) (fun h12 => ?_) -- cond 11
             ·
              have rh12 := h12
              (try simp only [Q1, Q2, Q3, Q4, Q5, Q6, Q7, Q8, Q9, Qa] at h12)
              refine W.region rfl ?_
              refine WO.q (Y.move (v := .int .i64 _) rfl) ?_
              refine WO.q (Y.move (v := .int .i64 _) rfl) ?_
              refine WO.q (Y.mul rfl rfl) ?_
              refine WO.q (Y.assign (v := .int .i64 _) rfl) ?_
              refine WO.nil ?_
              refine InB.nx ?_
              refine Then.nx ⟨?_, ?_⟩
              ·
               (repeat (first | exact Out.hav _ _ _ | exact Out.refl _ _ | refine Out.up rfl ?_ | refine Out.sub rfl ?_))
              ·
               exact ⟨by (show Value.int .i64 _ = Value.int .i64 _; unfold calcM; first | rw [if_pos (by omega)]; rfl | rw [if_neg (by omega), if_pos (by omega)]; rfl | rw [if_neg (by omega), if_neg (by omega), if_pos (by omega)]; rfl | rw [if_neg (by omega), if_neg (by omega), if_neg (by omega)]), S⟩
             ·
              have rh12 := h12
              (try simp only [Q1, Q2, Q3, Q4, Q5, Q6, Q7, Q8, Q9, Qa] at h12)
              refine W.skip ?_
              refine InB.nx ?_
              refine Then.nx ⟨?_, ?_⟩
              ·
               (repeat (first | exact Out.hav _ _ _ | exact Out.refl _ _ | refine Out.up rfl ?_ | refine Out.sub rfl ?_))
              ·
               exact ⟨by (show Value.int .i64 _ = Value.int .i64 _; unfold calcM; first | rw [if_pos (by omega)]; rfl | rw [if_neg (by omega), if_pos (by omega)]; rfl | rw [if_neg (by omega), if_neg (by omega), if_pos (by omega)]; rfl | rw [if_neg (by omega), if_neg (by omega), if_neg (by omega)]), S⟩
          ·
           rintro gj426 v12 w ⟨rfl, S⟩
           refine W.region rfl ?_
           refine WO.q (Y.move (v := .int .i64 _) rfl) ?_
           refine WO.q (Y.assign (v := .int .i64 _) rfl) ?_
           refine WO.nil ?_
           refine InB.nx ?_
           refine Then.nx ?_
           refine W.region rfl ?_
           first | refine WO.q (Y.addI rfl rfl (by omega)) ?_ | refine WO.q (Y.add rfl rfl) ?_
           refine WO.q (Y.move (v := .int .i64 _) rfl) ?_
           refine WO.nil ?_
           refine Then.nx ⟨?_, ?_, ?_⟩
           ·
            (repeat (first | exact Out.hav _ _ _ | exact Out.refl _ _ | refine Out.up rfl ?_ | refine Out.sub rfl ?_))
           ·
            exact ⟨j + 1, _, rfl, rfl, by omega, by (rw [← hrow, rowM_val hk (by assumption)]; rfl), S⟩
           ·
            (show ks.length - (j + 1) < ks.length - j; omega)
        ·
         have rh8 := h8
         (try simp only [Q1, Q2, Q3, Q4, Q5, Q6, Q7, Q8, Q9, Qa] at h8)
         refine W.exit ?_
         refine Then.x ?_
         refine Then.x ?_
         refine InB.e ?_
         refine Then.nx ?_
         refine W.seq ?_
         refine W.region rfl ?_
         refine WO.q (Y.move (v := .int .i64 _) rfl) ?_
         refine WO.q (Y.mkI (v := .int .i64 _) Try.underlying79 (fun _ hh => by cases hh) rfl) ?_
         first | refine WO.q (Y.assign (v := .iface _ _) rfl) ?_ | refine WO.q (Y.assign (v := .nilIface) rfl) ?_ | refine WO.q (Y.assign (v := outV _ _ _) rfl) ?_
         refine WO.nil ?_
         refine Then.nx ?_
         refine W.ret ?_
         refine BodyQ.ret1 Try.results34 (ResV.tmp _ rfl) ?_
         first | exact ⟨by (unfold withM; rw [if_pos (by omega), if_neg (by omega), evalTs_getD hk1]; rfl), S.ext⟩ | exact ⟨by (unfold withM; rw [if_pos (by omega), if_pos (by omega), evalTs_getD hk2]; rfl), S.ext⟩ | exact ⟨by (unfold withM; rw [if_neg (by omega), if_pos (by omega)]; rfl), S.ext⟩ | exact ⟨by (unfold withM; rw [if_neg (by omega), if_neg (by omega), if_pos (by omega)]; rfl), S.ext⟩ | exact ⟨by (unfold withM; rw [if_neg (by omega), if_neg (by omega), if_neg (by omega), if_pos (by omega)]; rfl), S.ext⟩ | exact ⟨by (unfold withM; rw [if_neg (by omega), if_neg (by omega), if_neg (by omega), if_neg (by omega), if_pos (by omega)]; rfl), S.ext⟩ | exact ⟨by (unfold withM; rw [if_neg (by omega), if_neg (by omega), if_neg (by omega), if_neg (by omega), if_neg (by omega), if_pos (by omega)]; rfl), S.ext⟩ | exact ⟨by (unfold withM; rw [if_neg (by omega), if_neg (by omega), if_neg (by omega), if_neg (by omega), if_neg (by omega), if_neg (by omega), ← hrow, rowM_bad hk (by assumption)]; rfl), S.ext⟩ | exact ⟨by (unfold withM; rw [if_neg (by omega), if_neg (by omega), if_neg (by omega), if_neg (by omega), if_neg (by omega), if_neg (by omega), ← hrow, List.drop_of_length_le (by (rw [evalTs_len]; omega))]; rfl), S.ext⟩
end Go.Proofs
