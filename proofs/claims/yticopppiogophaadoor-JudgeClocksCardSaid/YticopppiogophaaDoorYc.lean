/-
  Walks of rClocks, rAhead.
-/
import Derived.Test.YticopppiogophaaDoorTw
import Derived.Test.YticopppiogophaaDoorTp
import Derived.Test.YticopppiogophaaDoorSx
import Derived.Test.YticopppiogophaaDoorFa
import Derived.Test.YticopppiogophaaDoorFb
import Derived.Test.YticopppiogophaaDoorFc
import Derived.Test.YticopppiogophaaDoorUb
import Derived.Test.YticopppiogophaaDoorUc
set_option linter.unusedVariables false
set_option linter.unusedSimpArgs false
set_option maxRecDepth 100000
set_option maxHeartbeats 1000000
namespace Go.Proofs
open Go Go.TL Go.RowKit
theorem rClocks_spec (w0 : World) (a : Option Addr) (c : Nat) (l : List Access) (R1 : Rd tAccess w0 a l) (hx : l.length ≤ 4096) :
    Calls Tryd.prog 28 [.slice a l.length c].toArray w0 (fun e w => ∃ (a' : Option Addr) (c' : Nat) (outs : List SlV) (P : HA), e = .returned (.tuple #[.slice a' outs.length c', .int .i64 (mayE l)]) ∧ outs.length = clksP l ∧ (∀ j q, outs[j]? = some q → HasRow P q (clksR l j)) ∧ Sat w0 w [Own tSl 27 a' c' outs, P]) := by
 have S := Sat.refl w0
 refine calls_of_W (args := [.slice a l.length c]) 9 Tryd.func28 rfl Tryd.ntmps28 rfl ?_
 refine W.seq ?_
 refine W.region rfl ?_
 refine WO.q (Y.assign (v := .slice _ _ _) rfl) ?_
 refine WO.q (Y.assign (v := .int .i64 _) rfl) ?_
 refine WO.nil ?_
 refine Then.nx ?_
 refine W.seq ?_
 refine W.seq ?_
 refine W.region rfl ?_
 refine WO.q (Y.move (v := .slice _ _ _) rfl) ?_
 refine WO.e (O.call cf_66 rfl (rMay_spec _ a c l (R1.ext S.ext) (by omega)) ?_)
 rintro _ w ⟨rfl, E⟩
 replace S := S.keep E
 refine ⟨_, rfl, ?_⟩
 refine WO.q (Y.not rfl) ?_
 refine WO.nil ?_
 refine Then.nx ?_
 refine W.cond rfl (fun h1 => ?_) (fun h1 => ?_) -- cond 0
 ·
  have rh1 := h1
  (try simp only [Q1, Q2, Q3, Q4, Q5, Q6, Q7, Q8, Q9, Qa] at h1)
  refine W.seq ?_
  refine W.region rfl ?_
  refine WO.q (Y.assign (v := .slice _ _ _) rfl) ?_
  refine WO.q (Y.assign (v := .int .i64 _) rfl) ?_
  refine WO.nil ?_
  refine Then.nx ?_
  refine W.ret ?_
  refine Then.r ?_
  refine BodyQ.ret2 Tryd.results28 (ResV.tmp _ rfl) (ResV.tmp _ rfl) ?_
  first | (obtain ⟨e1, e2⟩ := races_no (l := l) (by assumption); rw [e2]; exact ⟨none, 0, [], Bun [], rfl, by (unfold clksP; rw [show mayOk l = false by assumption]; rfl), fun j q h => (by simp at h), ((S.nilOwn tSl 27).bun (M := [])).pk (.cons 1 rfl (.cons 0 rfl (.nil _)))⟩) | (obtain ⟨e1, e2⟩ := races_yes (l := l) (by assumption); rw [e2]; exact ⟨a12, c12, outs, P, rfl, by (unfold clksP; rw [show mayOk l = true by assumption, if_pos rfl]; exact hol), hrw, S.pk (.cons 0 rfl (.cons 0 rfl (.nil _)))⟩)
 ·
  have rh1 := h1
  (try simp only [Q1, Q2, Q3, Q4, Q5, Q6, Q7, Q8, Q9, Qa] at h1)
  refine W.skip ?_
  refine Then.nx ?_
  refine W.seq ?_
  refine W.region rfl ?_
  refine WO.q (Y.move (v := .slice _ _ _) rfl) ?_
  refine WO.e (O.call cf_67 rfl (All_spec _ a c l (R1.ext S.ext) hx (by assumption)) ?_)
  rintro _ w ⟨a12, c12, outs, P, rfl, hol, hrw, S2⟩
  replace S := S.trans S2
  refine ⟨_, rfl, ?_⟩
  refine WO.q (Y.assign (v := .slice _ _ _) rfl) ?_
  refine WO.q (Y.assign (v := .int .i64 _) rfl) ?_
  refine WO.nil ?_
  refine Then.nx ?_
  refine W.ret ?_
  refine BodyQ.ret2 Tryd.results28 (ResV.tmp _ rfl) (ResV.tmp _ rfl) ?_
  first | (obtain ⟨e1, e2⟩ := races_no (l := l) (by assumption); rw [e2]; exact ⟨none, 0, [], Bun [], rfl, by (unfold clksP; rw [show mayOk l = false by assumption]; rfl), fun j q h => (by simp at h), ((S.nilOwn tSl 27).bun (M := [])).pk (.cons 1 rfl (.cons 0 rfl (.nil _)))⟩) | (obtain ⟨e1, e2⟩ := races_yes (l := l) (by assumption); rw [e2]; exact ⟨a12, c12, outs, P, rfl, by (unfold clksP; rw [show mayOk l = true by assumption, if_pos rfl]; exact hol), hrw, S.pk (.cons 0 rfl (.cons 0 rfl (.nil _)))⟩)
theorem rAhead_spec (w0 : World) (a : Option Addr) (c : Nat) (l : List Access) (i j : Int) (R1 : Rd tAccess w0 a l) (hx : l.length ≤ 4096) :
    Calls Tryd.prog 29 [.slice a l.length c, .int .i64 i, .int .i64 j].toArray w0 (fun e w => e = .returned (.tuple #[.bool (aheadB l i j), .int .i64 (aheadE l i j)]) ∧ Ext w0 w) := by
 have S := Sat.refl w0
 refine calls_of_W (args := [.slice a l.length c, .int .i64 i, .int .i64 j]) 35 Tryd.func29 rfl Tryd.ntmps29 rfl ?_
 refine W.seq ?_
 refine W.region rfl ?_
 refine WO.q (Y.assign (v := .bool _) rfl) ?_
 refine WO.q (Y.assign (v := .int .i64 _) rfl) ?_
 refine WO.nil ?_
 refine Then.nx ?_
 refine W.seq ?_
 refine W.seq ?_
 refine W.region rfl ?_
 refine WO.q (Y.move (v := .slice _ _ _) rfl) ?_
 refine WO.e (O.call cf_66 rfl (rMay_spec _ a c l (R1.ext S.ext) (by omega)) ?_)
 rintro _ w ⟨rfl, E⟩
 replace S := S.keep E
 refine ⟨_, rfl, ?_⟩
 refine WO.q (Y.not rfl) ?_
 refine WO.nil ?_
 refine Then.nx ?_
 refine W.cond rfl (fun h1 => ?_) (fun h1 => ?_) -- cond 0
 ·
  have rh1 := h1
  (try simp only [Q1, Q2, Q3, Q4, Q5, Q6, Q7, Q8, Q9, Qa] at h1)
  refine W.seq ?_
  refine W.region rfl ?_
  refine WO.q (Y.assign (v := .bool _) rfl) ?_
  refine WO.q (Y.assign (v := .int .i64 _) rfl) ?_
  refine WO.nil ?_
  refine Then.nx ?_
  refine W.ret ?_
  refine Then.r ?_
  refine BodyQ.ret2 Tryd.results29 (ResV.tmp _ rfl) (ResV.tmp _ rfl) ?_
  first | exact ⟨ahead_no (by assumption), S.ext⟩ | exact ⟨ahead_out (by assumption) (by omega), S.ext⟩ | exact ⟨ahead_in (by assumption) (by omega) (by (unfold oB; congr 1; rw [decide_eq_decide]; omega)), S.ext⟩
 ·
  have rh1 := h1
  (try simp only [Q1, Q2, Q3, Q4, Q5, Q6, Q7, Q8, Q9, Qa] at h1)
  refine W.skip ?_
  refine Then.nx ?_
  refine W.seq ?_
  refine W.seq ?_
  refine W.region rfl ?_
  refine WO.q (Y.move (v := .int .i64 _) rfl) ?_
  refine WO.q (Y.lss rfl rfl) ?_
  refine WO.q (Y.move (v := .bool _) rfl) ?_
  refine WO.splitB (fun h2 => ?_) (fun h2 => ?_)
  ·
   (try simp only [Q1, Q2, Q3, Q4, Q5, Q6, Q7, Q8, Q9, Qa] at h2)
   refine WO.qF rfl ?_
   refine WO.qF rfl ?_
   refine WO.qF rfl ?_
   refine WO.qF rfl ?_
   refine WO.q (Y.pickT (u := .bool _) rfl rfl) ?_
   refine WO.q (Y.move (v := .bool _) rfl) ?_
   refine WO.qF rfl ?_
   refine WO.qF rfl ?_
   refine WO.q (Y.pickT (u := .bool _) rfl rfl) ?_
   refine WO.q (Y.move (v := .bool _) rfl) ?_
   refine WO.qF rfl ?_
   refine WO.qF rfl ?_
   refine WO.qF rfl ?_
   refine WO.qF rfl ?_
   refine WO.q (Y.pickT (u := .bool _) rfl rfl) ?_
   refine WO.nil ?_
   refine Then.nx ?_
   first | refine W.condT rfl ?_ | refine W.condT (congrArg Value.bool (by assumption)) ?_
   refine W.seq ?_
   refine W.region rfl ?_
   refine WO.q (Y.assign (v := .bool _) rfl) ?_
   refine WO.q (Y.assign (v := .int .i64 _) rfl) ?_
   refine WO.nil ?_
   refine Then.nx ?_
   refine W.ret ?_
   refine Then.r ?_
   refine BodyQ.ret2 Tryd.results29 (ResV.tmp _ rfl) (ResV.tmp _ rfl) ?_
   first | exact ⟨ahead_no (by assumption), S.ext⟩ | exact ⟨ahead_out (by assumption) (by omega), S.ext⟩ | exact ⟨ahead_in (by assumption) (by omega) (by (unfold oB; congr 1; rw [decide_eq_decide]; omega)), S.ext⟩
  ·
   (try simp only [Q1, Q2, Q3, Q4, Q5, Q6, Q7, Q8, Q9, Qa] at h2)
   refine WO.qT rfl (Y.move (v := .int .i64 _) rfl) ?_
   refine WO.qT rfl (Y.move (v := .slice _ _ _) rfl) ?_
   refine WO.qT rfl (Y.len (t' := 0) Tryd.underlying64 rfl) ?_
   refine WO.qT rfl (Y.geq rfl rfl) ?_
   refine WO.q (Y.pickF (u := .bool _) rfl rfl) ?_
   refine WO.q (Y.move (v := .bool _) rfl) ?_
   refine WO.splitB (fun h3 => ?_) (fun h3 => ?_)
   ·
    (try simp only [Q1, Q2, Q3, Q4, Q5, Q6, Q7, Q8, Q9, Qa] at h3)
    refine WO.qF rfl ?_
    refine WO.qF rfl ?_
    refine WO.q (Y.pickT (u := .bool _) rfl rfl) ?_
    refine WO.q (Y.move (v := .bool _) rfl) ?_
    refine WO.qF rfl ?_
    refine WO.qF rfl ?_
    refine WO.qF rfl ?_
    refine WO.qF rfl ?_
    refine WO.q (Y.pickT (u := .bool _) rfl rfl) ?_
    refine WO.nil ?_
    refine Then.nx ?_
    first | refine W.condT rfl ?_ | refine W.condT (congrArg Value.bool (by assumption)) ?_
    refine W.seq ?_
    refine W.region rfl ?_
    refine WO.q (Y.assign (v := .bool _) rfl) ?_
    refine WO.q (Y.assign (v := .int .i64 _) rfl) ?_
    refine WO.nil ?_
    refine Then.nx ?_
    refine W.ret ?_
    refine Then.r ?_
    refine BodyQ.ret2 Tryd.results29 (ResV.tmp _ rfl) (ResV.tmp _ rfl) ?_
    first | exact ⟨ahead_no (by assumption), S.ext⟩ | exact ⟨ahead_out (by assumption) (by omega), S.ext⟩ | exact ⟨ahead_in (by assumption) (by omega) (by (unfold oB; congr 1; rw [decide_eq_decide]; omega)), S.ext⟩
   ·
    (try simp only [Q1, Q2, Q3, Q4, Q5, Q6, Q7, Q8, Q9, Qa] at h3)
    refine WO.qT rfl (Y.move (v := .int .i64 _) rfl) ?_
    refine WO.qT rfl (Y.lss rfl rfl) ?_
    refine WO.q (Y.pickF (u := .bool _) rfl rfl) ?_
    refine WO.q (Y.move (v := .bool _) rfl) ?_
    refine WO.splitB (fun h4 => ?_) (fun h4 => ?_)
    ·
     (try simp only [Q1, Q2, Q3, Q4, Q5, Q6, Q7, Q8, Q9, Qa] at h4)
     refine WO.qF rfl ?_
     refine WO.qF rfl ?_
     refine WO.qF rfl ?_
     refine WO.qF rfl ?_
     refine WO.q (Y.pickT (u := .bool _) rfl rfl) ?_
     refine WO.nil ?_
     refine Then.nx ?_
     first | refine W.condT rfl ?_ | refine W.condT (congrArg Value.bool (by assumption)) ?_
     refine W.seq ?_
     refine W.region rfl ?_
     refine WO.q (Y.assign (v := .bool _) rfl) ?_
     refine WO.q (Y.assign (v := .int .i64 _) rfl) ?_
     refine WO.nil ?_
     refine Then.nx ?_
     refine W.ret ?_
     refine Then.r ?_
     refine BodyQ.ret2 Tryd.results29 (ResV.tmp _ rfl) (ResV.tmp _ rfl) ?_
     first | exact ⟨ahead_no (by assumption), S.ext⟩ | exact ⟨ahead_out (by assumption) (by omega), S.ext⟩ | exact ⟨ahead_in (by assumption) (by omega) (by (unfold oB; congr 1; rw [decide_eq_decide]; omega)), S.ext⟩
    ·
     (try simp only [Q1, Q2, Q3, Q4, Q5, Q6, Q7, Q8, Q9, Qa] at h4)
     refine WO.qT rfl (Y.move (v := .int .i64 _) rfl) ?_
     refine WO.qT rfl (Y.move (v := .slice _ _ _) rfl) ?_
     refine WO.qT rfl (Y.len (t' := 0) Tryd.underlying64 rfl) ?_
     refine WO.qT rfl (Y.geq rfl rfl) ?_
     refine WO.q (Y.pickF (u := .bool _) rfl rfl) ?_
     refine WO.nil ?_
     refine Then.nx ?_
     refine W.cond rfl (fun h5 => ?_) (fun h5 => ?_) -- cond 1
     ·
      have rh5 := h5
      (try simp only [Q1, Q2, Q3, Q4, Q5, Q6, Q7, Q8, Q9, Qa] at h5)
      refine W.seq ?_
      refine W.region rfl ?_
      refine WO.q (Y.assign (v := .bool _) rfl) ?_
      refine WO.q (Y.assign (v := .int .i64 _) rfl) ?_
      refine WO.nil ?_
      refine Then.nx ?_
      refine W.ret ?_
      refine Then.r ?_
      refine BodyQ.ret2 Tryd.results29 (ResV.tmp _ rfl) (ResV.tmp _ rfl) ?_
      first | exact ⟨ahead_no (by assumption), S.ext⟩ | exact ⟨ahead_out (by assumption) (by omega), S.ext⟩ | exact ⟨ahead_in (by assumption) (by omega) (by (unfold oB; congr 1; rw [decide_eq_decide]; omega)), S.ext⟩
     ·
      have rh5 := h5
      (try simp only [Q1, Q2, Q3, Q4, Q5, Q6, Q7, Q8, Q9, Qa] at h5)
      refine W.skip ?_
      refine Then.nx ?_
      refine W.seq ?_
      have hmo : mayOk l = true := by assumption
      have hnt : ∀ x ∈ l, 0 ≤ x.thread ∧ x.thread < ((mayN l).toNat : Int) := fun x hx2 => (by (have h1 := (mayN_bd hmo).2.2 x hx2; have h2 := (okA_iff x).1 (List.all_eq_true.1 hmo x hx2); omega))
      refine W.region rfl ?_
      refine WO.q (Y.move (v := .slice _ _ _) rfl) ?_
      refine WO.q (Y.move (v := .slice _ _ _) rfl) ?_
      refine WO.e (O.call cf_67 rfl (All_spec _ a c l (R1.ext S.ext) hx (by assumption)) ?_)
      rintro _ w ⟨a12, c12, outs, P, rfl, hol, hrw, S2⟩
      replace S := S.trans S2
      refine ⟨_, rfl, ?_⟩
      refine WO.q (Y.move (v := .int .i64 _) rfl) ?_
      refine WO.q (Y.move (v := .int .i64 _) rfl) ?_
      refine WO.e (O.call cf_68 rfl (Calls_args (by (rw [Int.toNat_of_nonneg (show 0 ≤ i by omega), Int.toNat_of_nonneg (show 0 ≤ j by omega)]; rfl)) (rahead_spec _ a a12 c c12 l outs (mayN l).toNat (R1.ext S.ext) (S.rd 0 rfl) (fun j q hq => ⟨(hrw j q hq).1.trans (rowN_len _ _), S.reads 1 rfl (hrw j q hq).2⟩) hol hnt hx i.toNat j.toNat (by omega) (by omega))) ?_)
      rintro _ w ⟨rfl, E⟩
      replace S := S.keep E
      refine ⟨_, rfl, ?_⟩
      refine WO.q (Y.assign (v := .bool _) rfl) ?_
      refine WO.q (Y.assign (v := .int .i64 _) rfl) ?_
      refine WO.nil ?_
      refine Then.nx ?_
      refine W.ret ?_
      refine BodyQ.ret2 Tryd.results29 (ResV.tmp _ rfl) (ResV.tmp _ rfl) ?_
      first | exact ⟨ahead_no (by assumption), S.ext⟩ | exact ⟨ahead_out (by assumption) (by omega), S.ext⟩ | exact ⟨ahead_in (by assumption) (by omega) (by (unfold oB; congr 1; rw [decide_eq_decide]; omega)), S.ext⟩
end Go.Proofs
