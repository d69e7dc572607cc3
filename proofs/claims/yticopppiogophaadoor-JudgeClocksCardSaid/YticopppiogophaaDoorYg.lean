/-
  Walks of JudgeClocks.
-/
import Derived.Test.YticopppiogophaaDoorTw
import Derived.Test.YticopppiogophaaDoorTp
import Derived.Test.YticopppiogophaaDoorSx
import Derived.Test.YticopppiogophaaDoorFa
import Derived.Test.YticopppiogophaaDoorFb
import Derived.Test.YticopppiogophaaDoorFc
import Derived.Test.YticopppiogophaaDoorYb
import Derived.Test.YticopppiogophaaDoorYc
import Derived.Test.YticopppiogophaaDoorYd
import Derived.Test.YticopppiogophaaDoorYe
import Derived.Test.YticopppiogophaaDoorYf
import Derived.Test.YticopppiogophaaDoorUg
import Derived.Test.YticopppiogophaaDoorWd
import Derived.Test.YticopppiogophaaDoorWj
import Derived.Test.YticopppiogophaaDoorVe
set_option linter.unusedVariables false
set_option linter.unusedSimpArgs false
set_option maxRecDepth 100000
set_option maxHeartbeats 1000000
namespace Go.Proofs
open Go Go.TL Go.RowKit
theorem JudgeClocks_spec (w0 : World) (htab : Lib.TabIs Tryd.prog w0 "internal/strconv.uint64pow10" .u64 Lib.pow10Tab) (a : Option Addr) (c : Nat) (l : List Access) (i j : Int) (R1 : Rd tAccess w0 a l) :
    Calls Tryd.prog 6 [.slice a l.length c, .int .i64 i, .int .i64 j].toArray w0 (fun e w => e = .returned (.bool true) ∧ Ext w0 w) := by
 have S := Sat.refl w0
 have hn64 := mayN_64 l
 have hcp : clksP l ≤ l.length := by (unfold clksP; split <;> omega)
 refine calls_of_W (args := [.slice a l.length c, .int .i64 i, .int .i64 j]) 112 Tryd.func6 rfl Tryd.ntmps6 rfl ?_
 refine W.seq ?_
 refine W.region rfl ?_
 refine WO.q (Y.assign (v := .bool _) rfl) ?_
 refine WO.nil ?_
 refine Then.nx ?_
 refine W.seq ?_
 refine W.seq ?_
 refine W.region rfl ?_
 refine WO.q (Y.move (v := .slice _ _ _) rfl) ?_
 refine WO.e (O.call cf_25 rfl (long_spec _ a l.length c) ?_)
 rintro _ w ⟨rfl, E⟩
 replace S := S.keep E
 refine ⟨_, rfl, ?_⟩
 refine WO.nil ?_
 refine Then.nx ?_
 refine W.cond rfl (fun h1 => ?_) (fun h1 => ?_) -- cond 0
 ·
  have rh1 := h1
  (try simp only [Q1, Q2, Q3, Q4, Q5, Q6, Q7, Q8, Q9, Qa] at h1)
  refine W.seq ?_
  refine W.region rfl ?_
  refine WO.e (O.call cf_10 rfl (lives_spec _ (Lib.tabBelow_of_tabIs htab _ S.ext)) ?_)
  rintro _ w ⟨rfl, E⟩
  replace S := S.keep E
  refine ⟨_, rfl, ?_⟩
  refine WO.q (Y.assign (v := .bool _) rfl) ?_
  refine WO.nil ?_
  refine Then.nx ?_
  refine W.ret ?_
  refine Then.r ?_
  refine BodyQ.ret1 Tryd.results6 (ResV.tmp _ rfl) ?_
  first | exact ⟨rfl, S.ext⟩ | contradiction | (exfalso; omega) | (exfalso; simp_all; done)
 ·
  have rh1 := h1
  (try simp only [Q1, Q2, Q3, Q4, Q5, Q6, Q7, Q8, Q9, Qa] at h1)
  refine W.skip ?_
  refine Then.nx ?_
  refine W.seq ?_
  refine W.region rfl ?_
  refine WO.q (Y.move (v := .slice _ _ _) rfl) ?_
  refine WO.e (O.call cf_26 rfl (WideAccesses_spec _ a c l (R1.ext S.ext) (by omega)) ?_)
  rintro _ w ⟨a4, rfl, S2⟩
  replace S := S.trans S2
  refine ⟨_, rfl, ?_⟩
  refine WO.q (Y.assign (v := .slice _ _ _) rfl) ?_
  refine WO.nil ?_
  refine Then.nx ?_
  refine W.seq ?_
  refine W.region rfl ?_
  refine WO.q (Y.move (v := .slice _ _ _) rfl) ?_
  refine WO.e (O.call cf_27 rfl (Clocks_spec _ _ _ l (S.rd 0 rfl).pre (by omega)) ?_)
  rintro _ w ⟨a5, c5, xs5, rfl, hl5, hm5, S2⟩
  replace S := S.trans S2
  refine ⟨_, rfl, ?_⟩
  refine WO.q (Y.move (v := .tuple _) rfl) ?_
  refine WO.q (Y.extract (v := .slice _ _ _) rfl rfl) ?_
  refine WO.q (Y.extract (v := .int .i64 _) rfl rfl) ?_
  refine WO.q (Y.assign (v := .slice _ _ _) rfl) ?_
  refine WO.q (Y.assign (v := .int .i64 _) rfl) ?_
  refine WO.nil ?_
  refine Then.nx ?_
  refine W.seq ?_
  refine W.region rfl ?_
  refine WO.q (Y.move (v := .slice _ _ _) rfl) ?_
  refine WO.e (O.call cf_27 rfl (Clocks_spec _ _ _ l (S.rd 2 rfl).pre (by omega)) ?_)
  rintro _ w ⟨a6, c6, xs6, rfl, hl6, hm6, S2⟩
  replace S := S.trans S2
  refine ⟨_, rfl, ?_⟩
  refine WO.q (Y.move (v := .tuple _) rfl) ?_
  refine WO.q (Y.extract (v := .slice _ _ _) rfl rfl) ?_
  refine WO.q (Y.extract (v := .int .i64 _) rfl rfl) ?_
  refine WO.q (Y.assign (v := .slice _ _ _) rfl) ?_
  refine WO.q (Y.assign (v := .int .i64 _) rfl) ?_
  refine WO.nil ?_
  refine Then.nx ?_
  refine W.seq ?_
  refine W.region rfl ?_
  refine WO.q (Y.move (v := .slice _ _ _) rfl) ?_
  refine WO.e (O.call cf_28 rfl (rClocks_spec _ a c l (R1.ext S.ext) (by omega)) ?_)
  rintro _ w ⟨a7, c7, outs, P, rfl, hol, hrw, S2⟩
  replace S := S.trans S2
  refine ⟨_, rfl, ?_⟩
  refine WO.q (Y.move (v := .tuple _) rfl) ?_
  refine WO.q (Y.extract (v := .slice _ _ _) rfl rfl) ?_
  refine WO.q (Y.extract (v := .int .i64 _) rfl rfl) ?_
  refine WO.q (Y.assign (v := .slice _ _ _) rfl) ?_
  refine WO.q (Y.assign (v := .int .i64 _) rfl) ?_
  refine WO.nil ?_
  refine Then.nx ?_
  refine W.seq ?_
  refine W.region rfl ?_
  refine WO.q (Y.move (v := .slice _ _ _) rfl) ?_
  refine WO.q (Y.move (v := .int .i64 _) rfl) ?_
  refine WO.q (Y.move (v := .int .i64 _) rfl) ?_
  refine WO.e (O.call cf_23 rfl (Ahead_spec _ _ _ l i j (S.rd 6 rfl).pre (by omega)) ?_)
  rintro _ w ⟨rfl, E⟩
  replace S := S.keep E
  refine ⟨_, rfl, ?_⟩
  refine WO.q (Y.move (v := .tuple _) rfl) ?_
  refine WO.q (Y.extract (v := .bool _) rfl rfl) ?_
  refine WO.q (Y.extract (v := .int .i64 _) rfl rfl) ?_
  refine WO.q (Y.assign (v := .bool _) rfl) ?_
  refine WO.q (Y.assign (v := .int .i64 _) rfl) ?_
  refine WO.nil ?_
  refine Then.nx ?_
  refine W.seq ?_
  refine W.region rfl ?_
  refine WO.q (Y.move (v := .slice _ _ _) rfl) ?_
  refine WO.q (Y.move (v := .int .i64 _) rfl) ?_
  refine WO.q (Y.move (v := .int .i64 _) rfl) ?_
  refine WO.e (O.call cf_29 rfl (rAhead_spec _ a c l i j (R1.ext S.ext) (by omega)) ?_)
  rintro _ w ⟨rfl, E⟩
  replace S := S.keep E
  refine ⟨_, rfl, ?_⟩
  refine WO.q (Y.move (v := .tuple _) rfl) ?_
  refine WO.q (Y.extract (v := .bool _) rfl rfl) ?_
  refine WO.q (Y.extract (v := .int .i64 _) rfl rfl) ?_
  refine WO.q (Y.assign (v := .bool _) rfl) ?_
  refine WO.q (Y.assign (v := .int .i64 _) rfl) ?_
  refine WO.nil ?_
  refine Then.nx ?_
  refine W.seq ?_
  refine W.seq ?_
  refine W.region rfl ?_
  refine WO.q (Y.move (v := .int .i64 _) rfl) ?_
  refine WO.q (Y.move (v := .int .i64 _) rfl) ?_
  refine WO.q (Y.neq rfl rfl) ?_
  refine WO.q (Y.move (v := .bool _) rfl) ?_
  refine WO.splitB (fun h2 => ?_) (fun h2 => ?_)
  ·
   (try simp only [Q1, Q2, Q3, Q4, Q5, Q6, Q7, Q8, Q9, Qa] at h2)
   refine WO.qF rfl ?_
   refine WO.qF rfl ?_
   refine WO.qF rfl ?_
   refine WO.q (Y.pickT (u := .bool _) rfl rfl) ?_
   refine WO.q (Y.move (v := .bool _) rfl) ?_
   refine WO.qF rfl ?_
   refine WO.qF rfl ?_
   refine WO.qF rfl ?_
   refine WO.q (Y.pickT (u := .bool _) rfl rfl) ?_
   refine WO.q (Y.move (v := .bool _) rfl) ?_
   refine WO.qF rfl ?_
   refine WO.qF rfl ?_
   refine WO.qF rfl ?_
   refine WO.q (Y.pickT (u := .bool _) rfl rfl) ?_
   refine WO.q (Y.move (v := .bool _) rfl) ?_
   refine WO.qF rfl ?_
   refine WO.qF rfl ?_
   refine WO.qF rfl ?_
   refine WO.qF rfl ?_
   refine WO.q (Y.pickT (u := .bool _) rfl rfl) ?_
   refine WO.q (Y.move (v := .bool _) rfl) ?_
   refine WO.qF rfl ?_
   refine WO.qF rfl ?_
   refine WO.qF rfl ?_
   refine WO.qF rfl ?_
   refine WO.q (Y.pickT (u := .bool _) rfl rfl) ?_
   refine WO.q (Y.move (v := .bool _) rfl) ?_
   refine WO.qF rfl ?_
   refine WO.qF rfl ?_
   refine WO.qF rfl ?_
   refine WO.qF rfl ?_
   refine WO.q (Y.pickT (u := .bool _) rfl rfl) ?_
   refine WO.q (Y.move (v := .bool _) rfl) ?_
   refine WO.qF rfl ?_
   refine WO.qF rfl ?_
   refine WO.qF rfl ?_
   refine WO.q (Y.pickT (u := .bool _) rfl rfl) ?_
   refine WO.nil ?_
   refine Then.nx ?_
   first | refine W.condT rfl ?_ | refine W.condT (congrArg Value.bool (by assumption)) ?_
   refine W.seq ?_
   refine W.region rfl ?_
   refine WO.q (Y.assign (v := .bool _) rfl) ?_
   refine WO.nil ?_
   refine Then.nx ?_
   refine W.ret ?_
   refine Then.r ?_
   refine BodyQ.ret1 Tryd.results6 (ResV.tmp _ rfl) ?_
   first | exact ⟨rfl, S.ext⟩ | contradiction | (exfalso; omega) | (exfalso; simp_all; done)
  ·
   (try simp only [Q1, Q2, Q3, Q4, Q5, Q6, Q7, Q8, Q9, Qa] at h2)
   refine WO.qT rfl (Y.move (v := .int .i64 _) rfl) ?_
   refine WO.qT rfl (Y.move (v := .int .i64 _) rfl) ?_
   refine WO.qT rfl (Y.neq rfl rfl) ?_
   refine WO.q (Y.pickF (u := .bool _) rfl rfl) ?_
   refine WO.q (Y.move (v := .bool _) rfl) ?_
   refine WO.splitB (fun h3 => ?_) (fun h3 => ?_)
   ·
    (try simp only [Q1, Q2, Q3, Q4, Q5, Q6, Q7, Q8, Q9, Qa] at h3)
    refine WO.qF rfl ?_
    refine WO.qF rfl ?_
    refine WO.qF rfl ?_
    refine WO.q (Y.pickT (u := .bool _) rfl rfl) ?_
    refine WO.q (Y.move (v := .bool _) rfl) ?_
    refine WO.qF rfl ?_
    refine WO.qF rfl ?_
    refine WO.qF rfl ?_
    refine WO.q (Y.pickT (u := .bool _) rfl rfl) ?_
    refine WO.q (Y.move (v := .bool _) rfl) ?_
    refine WO.qF rfl ?_
    refine WO.qF rfl ?_
    refine WO.qF rfl ?_
    refine WO.qF rfl ?_
    refine WO.q (Y.pickT (u := .bool _) rfl rfl) ?_
    refine WO.q (Y.move (v := .bool _) rfl) ?_
    refine WO.qF rfl ?_
    refine WO.qF rfl ?_
    refine WO.qF rfl ?_
    refine WO.qF rfl ?_
    refine WO.q (Y.pickT (u := .bool _) rfl rfl) ?_
    refine WO.q (Y.move (v := .bool _) rfl) ?_
    refine WO.qF rfl ?_
    refine WO.qF rfl ?_
    refine WO.qF rfl ?_
    refine WO.qF rfl ?_
    refine WO.q (Y.pickT (u := .bool _) rfl rfl) ?_
    refine WO.q (Y.move (v := .bool _) rfl) ?_
    refine WO.qF rfl ?_
    refine WO.qF rfl ?_
    refine WO.qF rfl ?_
    refine WO.q (Y.pickT (u := .bool _) rfl rfl) ?_
    refine WO.nil ?_
    refine Then.nx ?_
    first | refine W.condT rfl ?_ | refine W.condT (congrArg Value.bool (by assumption)) ?_
    refine W.seq ?_
    refine W.region rfl ?_
    refine WO.q (Y.assign (v := .bool _) rfl) ?_
    refine WO.nil ?_
    refine Then.nx ?_
    refine W.ret ?_
    refine Then.r ?_
    refine BodyQ.ret1 Tryd.results6 (ResV.tmp _ rfl) ?_
    first | exact ⟨rfl, S.ext⟩ | contradiction | (exfalso; omega) | (exfalso; simp_all; done)
   ·
    (try simp only [Q1, Q2, Q3, Q4, Q5, Q6, Q7, Q8, Q9, Qa] at h3)
    refine WO.qT rfl (Y.move (v := .int .i64 _) rfl) ?_
    refine WO.qT rfl (Y.move (v := .int .i64 _) rfl) ?_
    refine WO.qT rfl (Y.neq rfl rfl) ?_
    refine WO.q (Y.pickF (u := .bool _) rfl rfl) ?_
    refine WO.q (Y.move (v := .bool _) rfl) ?_
    refine WO.splitB (fun h4 => ?_) (fun h4 => ?_)
    ·
     (try simp only [Q1, Q2, Q3, Q4, Q5, Q6, Q7, Q8, Q9, Qa] at h4)
     refine WO.qF rfl ?_
     refine WO.qF rfl ?_
     refine WO.qF rfl ?_
     refine WO.q (Y.pickT (u := .bool _) rfl rfl) ?_
     refine WO.q (Y.move (v := .bool _) rfl) ?_
     refine WO.qF rfl ?_
     refine WO.qF rfl ?_
     refine WO.qF rfl ?_
     refine WO.qF rfl ?_
     refine WO.q (Y.pickT (u := .bool _) rfl rfl) ?_
     refine WO.q (Y.move (v := .bool _) rfl) ?_
     refine WO.qF rfl ?_
     refine WO.qF rfl ?_
     refine WO.qF rfl ?_
     refine WO.qF rfl ?_
     refine WO.q (Y.pickT (u := .bool _) rfl rfl) ?_
     refine WO.q (Y.move (v := .bool _) rfl) ?_
     refine WO.qF rfl ?_
     refine WO.qF rfl ?_
     refine WO.qF rfl ?_
     refine WO.qF rfl ?_
     refine WO.q (Y.pickT (u := .bool _) rfl rfl) ?_
     refine WO.q (Y.move (v := .bool _) rfl) ?_
     refine WO.qF rfl ?_
     refine WO.qF rfl ?_
     refine WO.qF rfl ?_
     refine WO.q (Y.pickT (u := .bool _) rfl rfl) ?_
     refine WO.nil ?_
     refine Then.nx ?_
     first | refine W.condT rfl ?_ | refine W.condT (congrArg Value.bool (by assumption)) ?_
     refine W.seq ?_
     refine W.region rfl ?_
     refine WO.q (Y.assign (v := .bool _) rfl) ?_
     refine WO.nil ?_
     refine Then.nx ?_
     refine W.ret ?_
     refine Then.r ?_
     refine BodyQ.ret1 Tryd.results6 (ResV.tmp _ rfl) ?_
     first | exact ⟨rfl, S.ext⟩ | contradiction | (exfalso; omega) | (exfalso; simp_all; done)
    ·
     (try simp only [Q1, Q2, Q3, Q4, Q5, Q6, Q7, Q8, Q9, Qa] at h4)
     refine WO.qT rfl (Y.move (v := .bool _) rfl) ?_
     refine WO.qT rfl (Y.move (v := .bool _) rfl) ?_
     refine WO.qT rfl (Y.neqB Tryd.underlying4 rfl rfl) ?_
     refine WO.q (Y.pickF (u := .bool _) rfl rfl) ?_
     refine WO.q (Y.move (v := .bool _) rfl) ?_
     refine WO.splitB (fun h5 => ?_) (fun h5 => ?_)
     ·
      (try simp only [Q1, Q2, Q3, Q4, Q5, Q6, Q7, Q8, Q9, Qa] at h5)
      refine WO.qF rfl ?_
      refine WO.qF rfl ?_
      refine WO.qF rfl ?_
      refine WO.qF rfl ?_
      refine WO.q (Y.pickT (u := .bool _) rfl rfl) ?_
      refine WO.q (Y.move (v := .bool _) rfl) ?_
      refine WO.qF rfl ?_
      refine WO.qF rfl ?_
      refine WO.qF rfl ?_
      refine WO.qF rfl ?_
      refine WO.q (Y.pickT (u := .bool _) rfl rfl) ?_
      refine WO.q (Y.move (v := .bool _) rfl) ?_
      refine WO.qF rfl ?_
      refine WO.qF rfl ?_
      refine WO.qF rfl ?_
      refine WO.qF rfl ?_
      refine WO.q (Y.pickT (u := .bool _) rfl rfl) ?_
      refine WO.q (Y.move (v := .bool _) rfl) ?_
      refine WO.qF rfl ?_
      refine WO.qF rfl ?_
      refine WO.qF rfl ?_
      refine WO.q (Y.pickT (u := .bool _) rfl rfl) ?_
      refine WO.nil ?_
      refine Then.nx ?_
      first | refine W.condT rfl ?_ | refine W.condT (congrArg Value.bool (by assumption)) ?_
      refine W.seq ?_
      refine W.region rfl ?_
      refine WO.q (Y.assign (v := .bool _) rfl) ?_
      refine WO.nil ?_
      refine Then.nx ?_
      refine W.ret ?_
      refine Then.r ?_
      refine BodyQ.ret1 Tryd.results6 (ResV.tmp _ rfl) ?_
      first | exact ⟨rfl, S.ext⟩ | contradiction | (exfalso; omega) | (exfalso; simp_all; done)
     ·
      (try simp only [Q1, Q2, Q3, Q4, Q5, Q6, Q7, Q8, Q9, Qa] at h5)
      refine WO.qT rfl (Y.move (v := .slice _ _ _) rfl) ?_
      refine WO.qT rfl (Y.move (v := .slice _ _ _) rfl) ?_
      refine WO.eT rfl (O.call cf_30 rfl (EqRows_spec _ _ _ _ _ xs5 outs (clksR l) (S.rd 4 rfl) (S.rd 0 rfl) (by omega) (by omega) (fun j => by (rw [clksR_len]; omega)) (fun j p hj => ⟨(hm5 p (List.mem_of_getElem? hj)).trans (clksR_len l j).symm, S.reads 5 rfl (ar_reads hj)⟩) (fun j q hj => ⟨(hrw j q hj).1, S.reads 1 rfl (hrw j q hj).2⟩)) ?_)
      rintro _ w ⟨rfl, E⟩
      replace S := S.keep E
      refine ⟨_, rfl, ?_⟩
      refine WO.qT rfl (Y.not rfl) ?_
      refine WO.q (Y.pickF (u := .bool _) rfl rfl) ?_
      refine WO.q (Y.move (v := .bool _) rfl) ?_
      refine WO.splitB (fun h6 => ?_) (fun h6 => ?_)
      ·
       (try simp only [Q1, Q2, Q3, Q4, Q5, Q6, Q7, Q8, Q9, Qa] at h6)
       refine WO.qF rfl ?_
       refine WO.qF rfl ?_
       refine WO.qF rfl ?_
       refine WO.qF rfl ?_
       refine WO.q (Y.pickT (u := .bool _) rfl rfl) ?_
       refine WO.q (Y.move (v := .bool _) rfl) ?_
       refine WO.qF rfl ?_
       refine WO.qF rfl ?_
       refine WO.qF rfl ?_
       refine WO.qF rfl ?_
       refine WO.q (Y.pickT (u := .bool _) rfl rfl) ?_
       refine WO.q (Y.move (v := .bool _) rfl) ?_
       refine WO.qF rfl ?_
       refine WO.qF rfl ?_
       refine WO.qF rfl ?_
       refine WO.q (Y.pickT (u := .bool _) rfl rfl) ?_
       refine WO.nil ?_
       refine Then.nx ?_
       first | refine W.condT rfl ?_ | refine W.condT (congrArg Value.bool (by assumption)) ?_
       refine W.seq ?_
       refine W.region rfl ?_
       refine WO.q (Y.assign (v := .bool _) rfl) ?_
       refine WO.nil ?_
       refine Then.nx ?_
       refine W.ret ?_
       refine Then.r ?_
       refine BodyQ.ret1 Tryd.results6 (ResV.tmp _ rfl) ?_
       first | exact ⟨rfl, S.ext⟩ | contradiction | (exfalso; omega) | (exfalso; simp_all; done)
      ·
       (try simp only [Q1, Q2, Q3, Q4, Q5, Q6, Q7, Q8, Q9, Qa] at h6)
       refine WO.qT rfl (Y.move (v := .slice _ _ _) rfl) ?_
       refine WO.qT rfl (Y.move (v := .slice _ _ _) rfl) ?_
       refine WO.eT rfl (O.call cf_30 rfl (EqRows_spec _ _ _ _ _ xs6 outs (clksR l) (S.rd 2 rfl) (S.rd 0 rfl) (by omega) (by omega) (fun j => by (rw [clksR_len]; omega)) (fun j p hj => ⟨(hm6 p (List.mem_of_getElem? hj)).trans (clksR_len l j).symm, S.reads 3 rfl (ar_reads hj)⟩) (fun j q hj => ⟨(hrw j q hj).1, S.reads 1 rfl (hrw j q hj).2⟩)) ?_)
       rintro _ w ⟨rfl, E⟩
       replace S := S.keep E
       refine ⟨_, rfl, ?_⟩
       refine WO.qT rfl (Y.not rfl) ?_
       refine WO.q (Y.pickF (u := .bool _) rfl rfl) ?_
       refine WO.q (Y.move (v := .bool _) rfl) ?_
       refine WO.splitB (fun h7 => ?_) (fun h7 => ?_)
       ·
        (try simp only [Q1, Q2, Q3, Q4, Q5, Q6, Q7, Q8, Q9, Qa] at h7)
        refine WO.qF rfl ?_
        refine WO.qF rfl ?_
        refine WO.qF rfl ?_
        refine WO.qF rfl ?_
        refine WO.q (Y.pickT (u := .bool _) rfl rfl) ?_
        refine WO.q (Y.move (v := .bool _) rfl) ?_
        refine WO.qF rfl ?_
        refine WO.qF rfl ?_
        refine WO.qF rfl ?_
        refine WO.q (Y.pickT (u := .bool _) rfl rfl) ?_
        refine WO.nil ?_
        refine Then.nx ?_
        first | refine W.condT rfl ?_ | refine W.condT (congrArg Value.bool (by assumption)) ?_
        refine W.seq ?_
        refine W.region rfl ?_
        refine WO.q (Y.assign (v := .bool _) rfl) ?_
        refine WO.nil ?_
        refine Then.nx ?_
        refine W.ret ?_
        refine Then.r ?_
        refine BodyQ.ret1 Tryd.results6 (ResV.tmp _ rfl) ?_
        first | exact ⟨rfl, S.ext⟩ | contradiction | (exfalso; omega) | (exfalso; simp_all; done)
       ·
        (try simp only [Q1, Q2, Q3, Q4, Q5, Q6, Q7, Q8, Q9, Qa] at h7)
        refine WO.qT rfl (Y.move (v := .slice _ _ _) rfl) ?_
        refine WO.qT rfl (Y.move (v := .slice _ _ _) rfl) ?_
        refine WO.eT rfl (O.call cf_31 rfl (EqAccesses_spec _ _ _ _ _ l l (S.rd 6 rfl).pre (R1.ext S.ext) (by omega)) ?_)
        rintro _ w ⟨rfl, E⟩
        replace S := S.keep E
        refine ⟨_, rfl, ?_⟩
        refine WO.qT rfl (Y.not rfl) ?_
        refine WO.q (Y.pickF (u := .bool _) rfl rfl) ?_
        refine WO.q (Y.move (v := .bool _) rfl) ?_
        refine WO.splitB (fun h8 => ?_) (fun h8 => ?_)
        ·
         (try simp only [Q1, Q2, Q3, Q4, Q5, Q6, Q7, Q8, Q9, Qa] at h8)
         refine WO.qF rfl ?_
         refine WO.qF rfl ?_
         refine WO.qF rfl ?_
         refine WO.q (Y.pickT (u := .bool _) rfl rfl) ?_
         refine WO.nil ?_
         refine Then.nx ?_
         first | refine W.condT rfl ?_ | refine W.condT (congrArg Value.bool (by assumption)) ?_
         refine W.seq ?_
         refine W.region rfl ?_
         refine WO.q (Y.assign (v := .bool _) rfl) ?_
         refine WO.nil ?_
         refine Then.nx ?_
         refine W.ret ?_
         refine Then.r ?_
         refine BodyQ.ret1 Tryd.results6 (ResV.tmp _ rfl) ?_
         first | exact ⟨rfl, S.ext⟩ | contradiction | (exfalso; omega) | (exfalso; simp_all; done)
        ·
         (try simp only [Q1, Q2, Q3, Q4, Q5, Q6, Q7, Q8, Q9, Qa] at h8)
         refine WO.qT rfl (Y.move (v := .slice _ _ _) rfl) ?_
         refine WO.eT rfl (O.call cf_32 rfl (SpareAccesses_spec _ _ l (S.rd 6 rfl) (by omega)) ?_)
         rintro _ w ⟨rfl, E⟩
         replace S := S.keep E
         refine ⟨_, rfl, ?_⟩
         refine WO.qT rfl (Y.not rfl) ?_
         refine WO.q (Y.pickF (u := .bool _) rfl rfl) ?_
         refine WO.nil ?_
         refine Then.nx ?_
         refine W.cond rfl (fun h9 => ?_) (fun h9 => ?_) -- cond 1
         ·
          have rh9 := h9
          (try simp only [Q1, Q2, Q3, Q4, Q5, Q6, Q7, Q8, Q9, Qa] at h9)
          refine W.seq ?_
          refine W.region rfl ?_
          refine WO.q (Y.assign (v := .bool _) rfl) ?_
          refine WO.nil ?_
          refine Then.nx ?_
          refine W.ret ?_
          refine Then.r ?_
          refine BodyQ.ret1 Tryd.results6 (ResV.tmp _ rfl) ?_
          first | exact ⟨rfl, S.ext⟩ | contradiction | (exfalso; omega) | (exfalso; simp_all; done)
         ·
          have rh9 := h9
          (try simp only [Q1, Q2, Q3, Q4, Q5, Q6, Q7, Q8, Q9, Qa] at h9)
          refine W.skip ?_
          refine Then.nx ?_
          refine W.seq ?_
          refine W.region rfl ?_
          refine WO.q (Y.build rfl (bld_50_)) ?_
          refine WO.e (O.box rfl rfl S (fun b95 w S => ?_))
          first | refine WO.q (Y.assign (v := .pointer (some _)) rfl) ?_ | refine WO.q (Y.assign (v := .pointer _) rfl) ?_
          refine WO.nil ?_
          refine Then.nx ?_
          refine W.seq ?_
          replace S := ((S.nilOwn tSl 36).nilOwn tSl 27).pk (.cons 2 rfl (.cons 0 rfl (.cons 0 rfl (.cons 4 rfl (.refl _)))))
          refine W.region rfl ?_
          first | refine WO.q (Y.move (v := .pointer (some _)) rfl) ?_ | refine WO.q (Y.move (v := .pointer _) rfl) ?_
          refine WO.q (Y.move (v := .slice _ _ _) rfl) ?_
          refine WO.e (O.call cf_33 rfl (AddRows_spec w0 _ b95 [.slice none 0 0, .slice none 0 0, .slice none 0 0, .slice none 0 0, .slice none 0 0, .slice none 0 0, .slice none 0 0, .slice none 0 0, .slice none 0 0, .slice none 0 0, .slice none 0 0, .slice none 0 0, .slice none 0 0, .slice none 0 0] none none 0 0 [] [] a5 c5 xs5 _ rfl rfl (by decide) (by decide) (by omega) S) ?_)
          rintro _ w ⟨gr1, gcr1, gi1, gci1, rfl, S⟩
          refine ⟨_, rfl, ?_⟩
          refine WO.nil ?_
          refine Then.nx ?_
          refine W.seq ?_
          replace S := S.pk (.cons 0 rfl (.cons 0 rfl (.cons 0 rfl (.cons 3 rfl (.refl _)))))
          refine W.region rfl ?_
          first | refine WO.q (Y.move (v := .pointer (some _)) rfl) ?_ | refine WO.q (Y.move (v := .pointer _) rfl) ?_
          refine WO.q (Y.move (v := .slice _ _ _) rfl) ?_
          refine WO.e (O.call cf_33 rfl (AddRows_spec w0 _ b95 _ gr1 gi1 gcr1 gci1 (([] : List SlV) ++ [((a5, xs5.length, c5) : SlV)]) ((([] : List SlV) ++ xs5).take 400) a6 c6 xs6 _ rfl rfl (by simp) (by (rw [List.length_take]; omega)) (by omega) S) ?_)
          rintro _ w ⟨gr2, gcr2, gi2, gci2, rfl, S⟩
          refine ⟨_, rfl, ?_⟩
          refine WO.nil ?_
          refine Then.nx ?_
          refine W.seq ?_
          rw [ints_take] at S
          replace S := (S.pk (.cons 8 rfl (.cons 7 rfl (.refl _)))).rowsBoth (min 400 (xs5.length + xs6.length)) (Nat.min_le_right _ _)
          replace S := ((S.pk (.cons 5 rfl (.cons 4 rfl (.refl _)))).rows2 (n1 := xs5.length) (n2 := xs6.length)).pk (.cons 2 rfl (.cons 2 rfl (.cons 1 rfl (.cons 1 rfl (.cons 0 rfl (.refl _))))))
          have hN : ∀ j, j < 2 → (([((a5, xs5.length, c5) : SlV), ((a6, xs6.length, c6) : SlV)]).getD j sl0).2.1 = clksP l ∧ ((fun j => if j = 0 then xs5 else xs6) j).length = clksP l ∧ clksP l ≤ 1048576 := fun j hj => (by (rcases (show j = 0 ∨ j = 1 by omega) with rfl | rfl; exact ⟨hl5, hl5, by omega⟩; exact ⟨hl6, hl6, by omega⟩))
          refine W.region rfl ?_
          first | refine WO.q (Y.move (v := .pointer (some _)) rfl) ?_ | refine WO.q (Y.move (v := .pointer _) rfl) ?_
          refine WO.e (O.call cf_18 rfl (Apart_Ints_Rows_spec w0 _ b95 _ _ gi2 gci2 ((xs5 ++ xs6).take (min 400 (xs5.length + xs6.length))) (fun _ => (mayN l).toNat) _ rfl (by (rw [List.length_take]; omega)) (ints_ok hm5 hm6 (clksR_len l) (by omega)) gr2 gcr2 [((a5, xs5.length, c5) : SlV), ((a6, xs6.length, c6) : SlV)] (fun _ => clksP l) _ rfl (by simp) hN rfl rfl rfl rfl rfl rfl rfl rfl rfl rfl rfl rfl S) ?_)
          rintro _ w ⟨rfl, S⟩
          refine ⟨_, rfl, ?_⟩
          refine WO.q (Y.move (v := .bool _) rfl) ?_
          refine WO.splitB (fun h10 => ?_) (fun h10 => ?_)
          ·
           (try simp only [Q1, Q2, Q3, Q4, Q5, Q6, Q7, Q8, Q9, Qa] at h10)
           refine WO.qT rfl (Y.move (v := .slice _ _ _) rfl) ?_
           refine WO.qT rfl (Y.move (v := .slice _ _ _) rfl) ?_
           refine WO.eT rfl (O.call cf_31 rfl (EqAccesses_spec _ _ _ _ _ l l (S.rd 3 rfl).pre (R1.ext S.ext) (by omega)) ?_)
           rintro _ w ⟨rfl, E⟩
           replace S := S.keep E
           refine ⟨_, rfl, ?_⟩
           refine WO.q (Y.pickT (u := .bool _) rfl rfl) ?_
           refine WO.q (Y.move (v := .bool _) rfl) ?_
           refine WO.splitB (fun h11 => ?_) (fun h11 => ?_)
           ·
            (try simp only [Q1, Q2, Q3, Q4, Q5, Q6, Q7, Q8, Q9, Qa] at h11)
            refine WO.eT rfl (O.call cf_10 rfl (lives_spec _ (Lib.tabBelow_of_tabIs htab _ S.ext)) ?_)
            rintro _ w ⟨rfl, E⟩
            replace S := S.keep E
            refine ⟨_, rfl, ?_⟩
            refine WO.q (Y.pickT (u := .bool _) rfl rfl) ?_
            refine WO.q (Y.assign (v := .bool _) rfl) ?_
            refine WO.nil ?_
            refine Then.nx ?_
            refine W.ret ?_
            refine BodyQ.ret1 Tryd.results6 (ResV.tmp _ rfl) ?_
            first | exact ⟨rfl, S.ext⟩ | contradiction | (exfalso; omega) | (exfalso; simp_all; done)
           ·
            (try simp only [Q1, Q2, Q3, Q4, Q5, Q6, Q7, Q8, Q9, Qa] at h11)
            refine WO.qF rfl ?_
            refine WO.q (Y.pickF (u := .bool _) rfl rfl) ?_
            refine WO.q (Y.assign (v := .bool _) rfl) ?_
            refine WO.nil ?_
            refine Then.nx ?_
            refine W.ret ?_
            refine BodyQ.ret1 Tryd.results6 (ResV.tmp _ rfl) ?_
            first | exact ⟨rfl, S.ext⟩ | contradiction | (exfalso; omega) | (exfalso; simp_all; done)
          ·
           (try simp only [Q1, Q2, Q3, Q4, Q5, Q6, Q7, Q8, Q9, Qa] at h10)
           refine WO.qF rfl ?_
           refine WO.qF rfl ?_
           refine WO.qF rfl ?_
           refine WO.q (Y.pickF (u := .bool _) rfl rfl) ?_
           refine WO.q (Y.move (v := .bool _) rfl) ?_
           refine WO.qF rfl ?_
           refine WO.q (Y.pickF (u := .bool _) rfl rfl) ?_
           refine WO.q (Y.assign (v := .bool _) rfl) ?_
           refine WO.nil ?_
           refine Then.nx ?_
           refine W.ret ?_
           refine BodyQ.ret1 Tryd.results6 (ResV.tmp _ rfl) ?_
           first | exact ⟨rfl, S.ext⟩ | contradiction | (exfalso; omega) | (exfalso; simp_all; done)
end Go.Proofs
