/-
  Walks of long, JudgeRaces.
-/
import Derived.Test.YticopppiogophaaDoorTv
import Derived.Test.YticopppiogophaaDoorTp
import Derived.Test.YticopppiogophaaDoorSx
import Derived.Test.YticopppiogophaaDoorFa
import Derived.Test.YticopppiogophaaDoorFb
import Derived.Test.YticopppiogophaaDoorFc
import Derived.Test.YticopppiogophaaDoorUd
import Derived.Test.YticopppiogophaaDoorUe
import Derived.Test.YticopppiogophaaDoorWe
import Derived.Test.YticopppiogophaaDoorWj
import Derived.Test.YticopppiogophaaDoorVg
import Derived.Test.YticopppiogophaaDoorVe
set_option linter.unusedVariables false
set_option linter.unusedSimpArgs false
set_option maxRecDepth 100000
set_option maxHeartbeats 1000000
namespace Go.Proofs
open Go Go.TL Go.RowKit
theorem long_spec (w0 : World) (a : Option Addr) (n c : Nat) :
    Calls Tryd.prog 25 [.slice a n c].toArray w0 (fun e w => e = .returned (.bool (decide (2048 < (n : Int)))) ∧ Ext w0 w) := by
 have S := Sat.refl w0
 refine calls_of_W (args := [.slice a n c]) 6 Tryd.func25 rfl Tryd.ntmps25 rfl ?_
 refine W.seq ?_
 refine W.region rfl ?_
 refine WO.q (Y.assign (v := .bool _) rfl) ?_
 refine WO.nil ?_
 refine Then.nx ?_
 refine W.seq ?_
 refine W.region rfl ?_
 refine WO.q (Y.move (v := .slice _ _ _) rfl) ?_
 refine WO.q (Y.len (t' := 0) Tryd.underlying64 rfl) ?_
 refine WO.q (Y.gtr rfl rfl) ?_
 refine WO.q (Y.assign (v := .bool _) rfl) ?_
 refine WO.nil ?_
 refine Then.nx ?_
 refine W.ret ?_
 refine BodyQ.ret1 Tryd.results25 (ResV.tmp _ rfl) ?_
 exact ⟨rfl, S.ext⟩
theorem JudgeRaces_spec (w0 : World) (htab : Lib.TabIs Tryd.prog w0 "internal/strconv.uint64pow10" .u64 Lib.pow10Tab) (a : Option Addr) (c : Nat) (l : List Access) (R1 : Rd tAccess w0 a l) :
    Calls Tryd.prog 7 [.slice a l.length c].toArray w0 (fun e w => e = .returned (.bool true) ∧ Ext w0 w) := by
 have S := Sat.refl w0
 have hll := racesR_len l
 refine calls_of_W (args := [.slice a l.length c]) 104 Tryd.func7 rfl Tryd.ntmps7 rfl ?_
 refine W.seq ?_
 refine W.region rfl ?_
 refine WO.q (Y.assign (v := .bool _) rfl) ?_
 refine WO.nil ?_
 refine Then.nx ?_
 refine W.seq ?_
 refine W.seq ?_
 refine W.region rfl ?_
 refine WO.q (Y.move (v := .slice _ _ _) rfl) ?_
 refine WO.e (O.call cf_25 rfl (long_spec _ a l.length c) ?_)
 rintro _ w ⟨rfl, E⟩
 replace S := S.keep E
 refine ⟨_, rfl, ?_⟩
 refine WO.nil ?_
 refine Then.nx ?_
 refine W.cond rfl (fun h1 => ?_) (fun h1 => ?_) -- cond 0
 ·
  have rh1 := h1
  (try simp only [Q1, Q2, Q3, Q4, Q5, Q6, Q7, Q8, Q9, Qa] at h1)
  refine W.seq ?_
  refine W.region rfl ?_
  refine WO.e (O.call cf_10 rfl (lives_spec _ (Lib.tabBelow_of_tabIs htab _ S.ext)) ?_)
  rintro _ w ⟨rfl, E⟩
  replace S := S.keep E
  refine ⟨_, rfl, ?_⟩
  refine WO.q (Y.assign (v := .bool _) rfl) ?_
  refine WO.nil ?_
  refine Then.nx ?_
  refine W.ret ?_
  refine Then.r ?_
  refine BodyQ.ret1 Tryd.results7 (ResV.tmp _ rfl) ?_
  first | exact ⟨rfl, S.ext⟩ | contradiction | (exfalso; omega) | (exfalso; simp_all; done)
 ·
  have rh1 := h1
  (try simp only [Q1, Q2, Q3, Q4, Q5, Q6, Q7, Q8, Q9, Qa] at h1)
  refine W.skip ?_
  refine Then.nx ?_
  refine W.seq ?_
  refine W.region rfl ?_
  refine WO.q (Y.move (v := .slice _ _ _) rfl) ?_
  refine WO.e (O.call cf_26 rfl (WideAccesses_spec _ a c l (R1.ext S.ext) (by omega)) ?_)
  rintro _ w ⟨a4, rfl, S2⟩
  replace S := S.trans S2
  refine ⟨_, rfl, ?_⟩
  refine WO.q (Y.assign (v := .slice _ _ _) rfl) ?_
  refine WO.nil ?_
  refine Then.nx ?_
  refine W.seq ?_
  refine W.region rfl ?_
  refine WO.q (Y.move (v := .slice _ _ _) rfl) ?_
  refine WO.e (O.call cf_34 rfl (Races_spec _ _ _ l (S.rd 0 rfl).pre (by omega)) ?_)
  rintro _ w ⟨a5, c5, rfl, S2⟩
  replace S := S.trans S2
  refine ⟨_, rfl, ?_⟩
  refine WO.q (Y.move (v := .tuple _) rfl) ?_
  refine WO.q (Y.extract (v := .slice _ _ _) rfl rfl) ?_
  refine WO.q (Y.extract (v := .int .i64 _) rfl rfl) ?_
  refine WO.q (Y.assign (v := .slice _ _ _) rfl) ?_
  refine WO.q (Y.assign (v := .int .i64 _) rfl) ?_
  refine WO.nil ?_
  refine Then.nx ?_
  refine W.seq ?_
  refine W.region rfl ?_
  refine WO.q (Y.move (v := .slice _ _ _) rfl) ?_
  refine WO.e (O.call cf_34 rfl (Races_spec _ _ _ l (S.rd 1 rfl).pre (by omega)) ?_)
  rintro _ w ⟨a6, c6, rfl, S2⟩
  replace S := S.trans S2
  refine ⟨_, rfl, ?_⟩
  refine WO.q (Y.move (v := .tuple _) rfl) ?_
  refine WO.q (Y.extract (v := .slice _ _ _) rfl rfl) ?_
  refine WO.q (Y.extract (v := .int .i64 _) rfl rfl) ?_
  refine WO.q (Y.assign (v := .slice _ _ _) rfl) ?_
  refine WO.q (Y.assign (v := .int .i64 _) rfl) ?_
  refine WO.nil ?_
  refine Then.nx ?_
  refine W.seq ?_
  refine W.region rfl ?_
  refine WO.q (Y.move (v := .slice _ _ _) rfl) ?_
  refine WO.e (O.call cf_35 rfl (rRaces_spec _ a c l (R1.ext S.ext) (by omega)) ?_)
  rintro _ w ⟨a7, c7, rfl, S2⟩
  replace S := S.trans S2
  refine ⟨_, rfl, ?_⟩
  refine WO.q (Y.move (v := .tuple _) rfl) ?_
  refine WO.q (Y.extract (v := .slice _ _ _) rfl rfl) ?_
  refine WO.q (Y.extract (v := .int .i64 _) rfl rfl) ?_
  refine WO.q (Y.assign (v := .slice _ _ _) rfl) ?_
  refine WO.q (Y.assign (v := .int .i64 _) rfl) ?_
  refine WO.nil ?_
  refine Then.nx ?_
  refine W.seq ?_
  refine W.region rfl ?_
  refine WO.q (Y.move (v := .slice _ _ _) rfl) ?_
  refine WO.e (O.call cf_36 rfl (Once_spec _ _ _ l (S.rd 3 rfl).pre (by omega)) ?_)
  rintro _ w ⟨rfl, E⟩
  replace S := S.keep E
  refine ⟨_, rfl, ?_⟩
  refine WO.q (Y.move (v := .tuple _) rfl) ?_
  refine WO.q (Y.extract (v := .int .i64 _) rfl rfl) ?_
  refine WO.q (Y.extract (v := .int .i64 _) rfl rfl) ?_
  refine WO.q (Y.assign (v := .int .i64 _) rfl) ?_
  refine WO.q (Y.assign (v := .int .i64 _) rfl) ?_
  refine WO.nil ?_
  refine Then.nx ?_
  refine W.seq ?_
  refine W.region rfl ?_
  refine WO.q (Y.move (v := .slice _ _ _) rfl) ?_
  refine WO.e (O.call cf_37 rfl (rOnce_spec _ a c l (R1.ext S.ext) (by omega)) ?_)
  rintro _ w ⟨rfl, E⟩
  replace S := S.keep E
  refine ⟨_, rfl, ?_⟩
  refine WO.q (Y.move (v := .tuple _) rfl) ?_
  refine WO.q (Y.extract (v := .int .i64 _) rfl rfl) ?_
  refine WO.q (Y.extract (v := .int .i64 _) rfl rfl) ?_
  refine WO.q (Y.assign (v := .int .i64 _) rfl) ?_
  refine WO.q (Y.assign (v := .int .i64 _) rfl) ?_
  refine WO.nil ?_
  refine Then.nx ?_
  refine W.seq ?_
  refine W.seq ?_
  refine W.region rfl ?_
  refine WO.q (Y.move (v := .int .i64 _) rfl) ?_
  refine WO.q (Y.move (v := .int .i64 _) rfl) ?_
  refine WO.q (Y.neq rfl rfl) ?_
  refine WO.q (Y.move (v := .bool _) rfl) ?_
  refine WO.splitB (fun h2 => ?_) (fun h2 => ?_)
  ·
   (try simp only [Q1, Q2, Q3, Q4, Q5, Q6, Q7, Q8, Q9, Qa] at h2)
   refine WO.qF rfl ?_
   refine WO.qF rfl ?_
   refine WO.qF rfl ?_
   refine WO.q (Y.pickT (u := .bool _) rfl rfl) ?_
   refine WO.q (Y.move (v := .bool _) rfl) ?_
   refine WO.qF rfl ?_
   refine WO.qF rfl ?_
   refine WO.qF rfl ?_
   refine WO.q (Y.pickT (u := .bool _) rfl rfl) ?_
   refine WO.q (Y.move (v := .bool _) rfl) ?_
   refine WO.qF rfl ?_
   refine WO.qF rfl ?_
   refine WO.qF rfl ?_
   refine WO.q (Y.pickT (u := .bool _) rfl rfl) ?_
   refine WO.q (Y.move (v := .bool _) rfl) ?_
   refine WO.qF rfl ?_
   refine WO.qF rfl ?_
   refine WO.qF rfl ?_
   refine WO.qF rfl ?_
   refine WO.q (Y.pickT (u := .bool _) rfl rfl) ?_
   refine WO.q (Y.move (v := .bool _) rfl) ?_
   refine WO.qF rfl ?_
   refine WO.qF rfl ?_
   refine WO.qF rfl ?_
   refine WO.qF rfl ?_
   refine WO.q (Y.pickT (u := .bool _) rfl rfl) ?_
   refine WO.q (Y.move (v := .bool _) rfl) ?_
   refine WO.qF rfl ?_
   refine WO.qF rfl ?_
   refine WO.qF rfl ?_
   refine WO.qF rfl ?_
   refine WO.q (Y.pickT (u := .bool _) rfl rfl) ?_
   refine WO.q (Y.move (v := .bool _) rfl) ?_
   refine WO.qF rfl ?_
   refine WO.qF rfl ?_
   refine WO.qF rfl ?_
   refine WO.q (Y.pickT (u := .bool _) rfl rfl) ?_
   refine WO.nil ?_
   refine Then.nx ?_
   first | refine W.condT rfl ?_ | refine W.condT (congrArg Value.bool (by assumption)) ?_
   refine W.seq ?_
   refine W.region rfl ?_
   refine WO.q (Y.assign (v := .bool _) rfl) ?_
   refine WO.nil ?_
   refine Then.nx ?_
   refine W.ret ?_
   refine Then.r ?_
   refine BodyQ.ret1 Tryd.results7 (ResV.tmp _ rfl) ?_
   first | exact ⟨rfl, S.ext⟩ | contradiction | (exfalso; omega) | (exfalso; simp_all; done)
  ·
   (try simp only [Q1, Q2, Q3, Q4, Q5, Q6, Q7, Q8, Q9, Qa] at h2)
   refine WO.qT rfl (Y.move (v := .int .i64 _) rfl) ?_
   refine WO.qT rfl (Y.move (v := .int .i64 _) rfl) ?_
   refine WO.qT rfl (Y.neq rfl rfl) ?_
   refine WO.q (Y.pickF (u := .bool _) rfl rfl) ?_
   refine WO.q (Y.move (v := .bool _) rfl) ?_
   refine WO.splitB (fun h3 => ?_) (fun h3 => ?_)
   ·
    (try simp only [Q1, Q2, Q3, Q4, Q5, Q6, Q7, Q8, Q9, Qa] at h3)
    refine WO.qF rfl ?_
    refine WO.qF rfl ?_
    refine WO.qF rfl ?_
    refine WO.q (Y.pickT (u := .bool _) rfl rfl) ?_
    refine WO.q (Y.move (v := .bool _) rfl) ?_
    refine WO.qF rfl ?_
    refine WO.qF rfl ?_
    refine WO.qF rfl ?_
    refine WO.q (Y.pickT (u := .bool _) rfl rfl) ?_
    refine WO.q (Y.move (v := .bool _) rfl) ?_
    refine WO.qF rfl ?_
    refine WO.qF rfl ?_
    refine WO.qF rfl ?_
    refine WO.qF rfl ?_
    refine WO.q (Y.pickT (u := .bool _) rfl rfl) ?_
    refine WO.q (Y.move (v := .bool _) rfl) ?_
    refine WO.qF rfl ?_
    refine WO.qF rfl ?_
    refine WO.qF rfl ?_
    refine WO.qF rfl ?_
    refine WO.q (Y.pickT (u := .bool _) rfl rfl) ?_
    refine WO.q (Y.move (v := .bool _) rfl) ?_
    refine WO.qF rfl ?_
    refine WO.qF rfl ?_
    refine WO.qF rfl ?_
    refine WO.qF rfl ?_
    refine WO.q (Y.pickT (u := .bool _) rfl rfl) ?_
    refine WO.q (Y.move (v := .bool _) rfl) ?_
    refine WO.qF rfl ?_
    refine WO.qF rfl ?_
    refine WO.qF rfl ?_
    refine WO.q (Y.pickT (u := .bool _) rfl rfl) ?_
    refine WO.nil ?_
    refine Then.nx ?_
    first | refine W.condT rfl ?_ | refine W.condT (congrArg Value.bool (by assumption)) ?_
    refine W.seq ?_
    refine W.region rfl ?_
    refine WO.q (Y.assign (v := .bool _) rfl) ?_
    refine WO.nil ?_
    refine Then.nx ?_
    refine W.ret ?_
    refine Then.r ?_
    refine BodyQ.ret1 Tryd.results7 (ResV.tmp _ rfl) ?_
    first | exact ⟨rfl, S.ext⟩ | contradiction | (exfalso; omega) | (exfalso; simp_all; done)
   ·
    (try simp only [Q1, Q2, Q3, Q4, Q5, Q6, Q7, Q8, Q9, Qa] at h3)
    refine WO.qT rfl (Y.move (v := .int .i64 _) rfl) ?_
    refine WO.qT rfl (Y.move (v := .int .i64 _) rfl) ?_
    refine WO.qT rfl (Y.neq rfl rfl) ?_
    refine WO.q (Y.pickF (u := .bool _) rfl rfl) ?_
    refine WO.q (Y.move (v := .bool _) rfl) ?_
    refine WO.splitB (fun h4 => ?_) (fun h4 => ?_)
    ·
     (try simp only [Q1, Q2, Q3, Q4, Q5, Q6, Q7, Q8, Q9, Qa] at h4)
     refine WO.qF rfl ?_
     refine WO.qF rfl ?_
     refine WO.qF rfl ?_
     refine WO.q (Y.pickT (u := .bool _) rfl rfl) ?_
     refine WO.q (Y.move (v := .bool _) rfl) ?_
     refine WO.qF rfl ?_
     refine WO.qF rfl ?_
     refine WO.qF rfl ?_
     refine WO.qF rfl ?_
     refine WO.q (Y.pickT (u := .bool _) rfl rfl) ?_
     refine WO.q (Y.move (v := .bool _) rfl) ?_
     refine WO.qF rfl ?_
     refine WO.qF rfl ?_
     refine WO.qF rfl ?_
     refine WO.qF rfl ?_
     refine WO.q (Y.pickT (u := .bool _) rfl rfl) ?_
     refine WO.q (Y.move (v := .bool _) rfl) ?_
     refine WO.qF rfl ?_
     refine WO.qF rfl ?_
     refine WO.qF rfl ?_
     refine WO.qF rfl ?_
     refine WO.q (Y.pickT (u := .bool _) rfl rfl) ?_
     refine WO.q (Y.move (v := .bool _) rfl) ?_
     refine WO.qF rfl ?_
     refine WO.qF rfl ?_
     refine WO.qF rfl ?_
     refine WO.q (Y.pickT (u := .bool _) rfl rfl) ?_
     refine WO.nil ?_
     refine Then.nx ?_
     first | refine W.condT rfl ?_ | refine W.condT (congrArg Value.bool (by assumption)) ?_
     refine W.seq ?_
     refine W.region rfl ?_
     refine WO.q (Y.assign (v := .bool _) rfl) ?_
     refine WO.nil ?_
     refine Then.nx ?_
     refine W.ret ?_
     refine Then.r ?_
     refine BodyQ.ret1 Tryd.results7 (ResV.tmp _ rfl) ?_
     first | exact ⟨rfl, S.ext⟩ | contradiction | (exfalso; omega) | (exfalso; simp_all; done)
    ·
     (try simp only [Q1, Q2, Q3, Q4, Q5, Q6, Q7, Q8, Q9, Qa] at h4)
     refine WO.qT rfl (Y.move (v := .int .i64 _) rfl) ?_
     refine WO.qT rfl (Y.move (v := .int .i64 _) rfl) ?_
     refine WO.qT rfl (Y.neq rfl rfl) ?_
     refine WO.q (Y.pickF (u := .bool _) rfl rfl) ?_
     refine WO.q (Y.move (v := .bool _) rfl) ?_
     refine WO.splitB (fun h5 => ?_) (fun h5 => ?_)
     ·
      (try simp only [Q1, Q2, Q3, Q4, Q5, Q6, Q7, Q8, Q9, Qa] at h5)
      refine WO.qF rfl ?_
      refine WO.qF rfl ?_
      refine WO.qF rfl ?_
      refine WO.qF rfl ?_
      refine WO.q (Y.pickT (u := .bool _) rfl rfl) ?_
      refine WO.q (Y.move (v := .bool _) rfl) ?_
      refine WO.qF rfl ?_
      refine WO.qF rfl ?_
      refine WO.qF rfl ?_
      refine WO.qF rfl ?_
      refine WO.q (Y.pickT (u := .bool _) rfl rfl) ?_
      refine WO.q (Y.move (v := .bool _) rfl) ?_
      refine WO.qF rfl ?_
      refine WO.qF rfl ?_
      refine WO.qF rfl ?_
      refine WO.qF rfl ?_
      refine WO.q (Y.pickT (u := .bool _) rfl rfl) ?_
      refine WO.q (Y.move (v := .bool _) rfl) ?_
      refine WO.qF rfl ?_
      refine WO.qF rfl ?_
      refine WO.qF rfl ?_
      refine WO.q (Y.pickT (u := .bool _) rfl rfl) ?_
      refine WO.nil ?_
      refine Then.nx ?_
      first | refine W.condT rfl ?_ | refine W.condT (congrArg Value.bool (by assumption)) ?_
      refine W.seq ?_
      refine W.region rfl ?_
      refine WO.q (Y.assign (v := .bool _) rfl) ?_
      refine WO.nil ?_
      refine Then.nx ?_
      refine W.ret ?_
      refine Then.r ?_
      refine BodyQ.ret1 Tryd.results7 (ResV.tmp _ rfl) ?_
      first | exact ⟨rfl, S.ext⟩ | contradiction | (exfalso; omega) | (exfalso; simp_all; done)
     ·
      (try simp only [Q1, Q2, Q3, Q4, Q5, Q6, Q7, Q8, Q9, Qa] at h5)
      refine WO.qT rfl (Y.move (v := .slice _ _ _) rfl) ?_
      refine WO.qT rfl (Y.move (v := .slice _ _ _) rfl) ?_
      refine WO.eT rfl (O.call cf_38 rfl (EqRaces_spec _ _ _ _ _ (racesR l) (racesR l) (S.rd 2 rfl) (S.rd 0 rfl) (by omega)) ?_)
      rintro _ w ⟨rfl, E⟩
      replace S := S.keep E
      refine ⟨_, rfl, ?_⟩
      refine WO.qT rfl (Y.not rfl) ?_
      refine WO.q (Y.pickF (u := .bool _) rfl rfl) ?_
      refine WO.q (Y.move (v := .bool _) rfl) ?_
      refine WO.splitB (fun h6 => ?_) (fun h6 => ?_)
      ·
       (try simp only [Q1, Q2, Q3, Q4, Q5, Q6, Q7, Q8, Q9, Qa] at h6)
       refine WO.qF rfl ?_
       refine WO.qF rfl ?_
       refine WO.qF rfl ?_
       refine WO.qF rfl ?_
       refine WO.q (Y.pickT (u := .bool _) rfl rfl) ?_
       refine WO.q (Y.move (v := .bool _) rfl) ?_
       refine WO.qF rfl ?_
       refine WO.qF rfl ?_
       refine WO.qF rfl ?_
       refine WO.qF rfl ?_
       refine WO.q (Y.pickT (u := .bool _) rfl rfl) ?_
       refine WO.q (Y.move (v := .bool _) rfl) ?_
       refine WO.qF rfl ?_
       refine WO.qF rfl ?_
       refine WO.qF rfl ?_
       refine WO.q (Y.pickT (u := .bool _) rfl rfl) ?_
       refine WO.nil ?_
       refine Then.nx ?_
       first | refine W.condT rfl ?_ | refine W.condT (congrArg Value.bool (by assumption)) ?_
       refine W.seq ?_
       refine W.region rfl ?_
       refine WO.q (Y.assign (v := .bool _) rfl) ?_
       refine WO.nil ?_
       refine Then.nx ?_
       refine W.ret ?_
       refine Then.r ?_
       refine BodyQ.ret1 Tryd.results7 (ResV.tmp _ rfl) ?_
       first | exact ⟨rfl, S.ext⟩ | contradiction | (exfalso; omega) | (exfalso; simp_all; done)
      ·
       (try simp only [Q1, Q2, Q3, Q4, Q5, Q6, Q7, Q8, Q9, Qa] at h6)
       refine WO.qT rfl (Y.move (v := .slice _ _ _) rfl) ?_
       refine WO.qT rfl (Y.move (v := .slice _ _ _) rfl) ?_
       refine WO.eT rfl (O.call cf_38 rfl (EqRaces_spec _ _ _ _ _ (racesR l) (racesR l) (S.rd 1 rfl) (S.rd 0 rfl) (by omega)) ?_)
       rintro _ w ⟨rfl, E⟩
       replace S := S.keep E
       refine ⟨_, rfl, ?_⟩
       refine WO.qT rfl (Y.not rfl) ?_
       refine WO.q (Y.pickF (u := .bool _) rfl rfl) ?_
       refine WO.q (Y.move (v := .bool _) rfl) ?_
       refine WO.splitB (fun h7 => ?_) (fun h7 => ?_)
       ·
        (try simp only [Q1, Q2, Q3, Q4, Q5, Q6, Q7, Q8, Q9, Qa] at h7)
        refine WO.qF rfl ?_
        refine WO.qF rfl ?_
        refine WO.qF rfl ?_
        refine WO.qF rfl ?_
        refine WO.q (Y.pickT (u := .bool _) rfl rfl) ?_
        refine WO.q (Y.move (v := .bool _) rfl) ?_
        refine WO.qF rfl ?_
        refine WO.qF rfl ?_
        refine WO.qF rfl ?_
        refine WO.q (Y.pickT (u := .bool _) rfl rfl) ?_
        refine WO.nil ?_
        refine Then.nx ?_
        first | refine W.condT rfl ?_ | refine W.condT (congrArg Value.bool (by assumption)) ?_
        refine W.seq ?_
        refine W.region rfl ?_
        refine WO.q (Y.assign (v := .bool _) rfl) ?_
        refine WO.nil ?_
        refine Then.nx ?_
        refine W.ret ?_
        refine Then.r ?_
        refine BodyQ.ret1 Tryd.results7 (ResV.tmp _ rfl) ?_
        first | exact ⟨rfl, S.ext⟩ | contradiction | (exfalso; omega) | (exfalso; simp_all; done)
       ·
        (try simp only [Q1, Q2, Q3, Q4, Q5, Q6, Q7, Q8, Q9, Qa] at h7)
        refine WO.qT rfl (Y.move (v := .slice _ _ _) rfl) ?_
        refine WO.qT rfl (Y.move (v := .slice _ _ _) rfl) ?_
        refine WO.eT rfl (O.call cf_31 rfl (EqAccesses_spec _ _ _ _ _ l l (S.rd 3 rfl).pre (R1.ext S.ext) (by omega)) ?_)
        rintro _ w ⟨rfl, E⟩
        replace S := S.keep E
        refine ⟨_, rfl, ?_⟩
        refine WO.qT rfl (Y.not rfl) ?_
        refine WO.q (Y.pickF (u := .bool _) rfl rfl) ?_
        refine WO.q (Y.move (v := .bool _) rfl) ?_
        refine WO.splitB (fun h8 => ?_) (fun h8 => ?_)
        ·
         (try simp only [Q1, Q2, Q3, Q4, Q5, Q6, Q7, Q8, Q9, Qa] at h8)
         refine WO.qF rfl ?_
         refine WO.qF rfl ?_
         refine WO.qF rfl ?_
         refine WO.q (Y.pickT (u := .bool _) rfl rfl) ?_
         refine WO.nil ?_
         refine Then.nx ?_
         first | refine W.condT rfl ?_ | refine W.condT (congrArg Value.bool (by assumption)) ?_
         refine W.seq ?_
         refine W.region rfl ?_
         refine WO.q (Y.assign (v := .bool _) rfl) ?_
         refine WO.nil ?_
         refine Then.nx ?_
         refine W.ret ?_
         refine Then.r ?_
         refine BodyQ.ret1 Tryd.results7 (ResV.tmp _ rfl) ?_
         first | exact ⟨rfl, S.ext⟩ | contradiction | (exfalso; omega) | (exfalso; simp_all; done)
        ·
         (try simp only [Q1, Q2, Q3, Q4, Q5, Q6, Q7, Q8, Q9, Qa] at h8)
         refine WO.qT rfl (Y.move (v := .slice _ _ _) rfl) ?_
         refine WO.eT rfl (O.call cf_32 rfl (SpareAccesses_spec _ _ l (S.rd 3 rfl) (by omega)) ?_)
         rintro _ w ⟨rfl, E⟩
         replace S := S.keep E
         refine ⟨_, rfl, ?_⟩
         refine WO.qT rfl (Y.not rfl) ?_
         refine WO.q (Y.pickF (u := .bool _) rfl rfl) ?_
         refine WO.nil ?_
         refine Then.nx ?_
         refine W.cond rfl (fun h9 => ?_) (fun h9 => ?_) -- cond 1
         ·
          have rh9 := h9
          (try simp only [Q1, Q2, Q3, Q4, Q5, Q6, Q7, Q8, Q9, Qa] at h9)
          refine W.seq ?_
          refine W.region rfl ?_
          refine WO.q (Y.assign (v := .bool _) rfl) ?_
          refine WO.nil ?_
          refine Then.nx ?_
          refine W.ret ?_
          refine Then.r ?_
          refine BodyQ.ret1 Tryd.results7 (ResV.tmp _ rfl) ?_
          first | exact ⟨rfl, S.ext⟩ | contradiction | (exfalso; omega) | (exfalso; simp_all; done)
         ·
          have rh9 := h9
          (try simp only [Q1, Q2, Q3, Q4, Q5, Q6, Q7, Q8, Q9, Qa] at h9)
          refine W.skip ?_
          refine Then.nx ?_
          refine W.seq ?_
          refine W.region rfl ?_
          refine WO.q (Y.build rfl (bld_50_)) ?_
          refine WO.e (O.box rfl rfl S (fun b87 w S => ?_))
          first | refine WO.q (Y.assign (v := .pointer (some _)) rfl) ?_ | refine WO.q (Y.assign (v := .pointer _) rfl) ?_
          refine WO.nil ?_
          refine Then.nx ?_
          refine W.seq ?_
          replace S : Sat w0 w [Cel b87 [.slice none 0 0, .slice none 0 0, .slice none 0 0, .slice none 0 0, .slice none 0 0, .slice none 0 0, .slice none 0 0, .slice none 0 0, .slice none 0 0, .slice none 0 0, .slice none 0 0, .slice none 0 0, .slice none 0 0, .slice none 0 0] 50, Own tSl 79 none 0 [], Own tRace 87 a7 c7 (racesR l), Own tRace 87 a6 c6 (racesR l), Own tRace 87 a5 c5 (racesR l), Own tAccess 71 a4 (l.length + 64) (l ++ mks (mkAccesses 9) l.length 64)] := (S.nilOwn tSl 79).pk (.cons 1 rfl (.cons 0 rfl (.refl _)))
          refine W.region rfl ?_
          first | refine WO.q (Y.move (v := .pointer (some _)) rfl) ?_ | refine WO.q (Y.move (v := .pointer _) rfl) ?_
          refine WO.q (Y.move (v := .slice _ _ _) rfl) ?_
          refine WO.e (O.call cf_39 rfl (AddRaces_spec w0 _ b87 [.slice none 0 0, .slice none 0 0, .slice none 0 0, .slice none 0 0, .slice none 0 0, .slice none 0 0, .slice none 0 0, .slice none 0 0, .slice none 0 0, .slice none 0 0, .slice none 0 0, .slice none 0 0, .slice none 0 0, .slice none 0 0] none 0 [] a5 (racesR l).length c5 _ rfl (by decide) S) ?_)
          rintro _ w ⟨g1, gc1, rfl, S⟩
          refine ⟨_, rfl, ?_⟩
          refine WO.nil ?_
          refine Then.nx ?_
          refine W.seq ?_
          refine W.region rfl ?_
          first | refine WO.q (Y.move (v := .pointer (some _)) rfl) ?_ | refine WO.q (Y.move (v := .pointer _) rfl) ?_
          refine WO.q (Y.move (v := .slice _ _ _) rfl) ?_
          refine WO.e (O.call cf_39 rfl (AddRaces_spec w0 _ b87 _ g1 gc1 [((a5, (racesR l).length, c5) : SlV)] a6 (racesR l).length c6 _ rfl (by simp) S) ?_)
          rintro _ w ⟨g2, gc2, rfl, S⟩
          refine ⟨_, rfl, ?_⟩
          refine WO.nil ?_
          refine Then.nx ?_
          refine W.seq ?_
          replace S := S.pk (.cons 4 rfl (.cons 3 rfl (.refl _)))
          replace S := (S.rows2 (n1 := (racesR l).length) (n2 := (racesR l).length)).pk (.cons 1 rfl (.cons 1 rfl (.refl _)))
          have hN : ∀ j, j < 2 → (([((a5, (racesR l).length, c5) : SlV), ((a6, (racesR l).length, c6) : SlV)]).getD j sl0).2.1 = (racesR l).length ∧ ((fun j => if j = 0 then (racesR l) else (racesR l)) j).length = (racesR l).length ∧ (racesR l).length ≤ 1048576 := fun j hj => (by (rcases (show j = 0 ∨ j = 1 by omega) with rfl | rfl <;> exact ⟨rfl, by simp, by omega⟩))
          refine W.region rfl ?_
          first | refine WO.q (Y.move (v := .pointer (some _)) rfl) ?_ | refine WO.q (Y.move (v := .pointer _) rfl) ?_
          refine WO.e (O.call cf_18 rfl (Apart_Races_spec w0 _ b87 _ _ g2 gc2 [((a5, (racesR l).length, c5) : SlV), ((a6, (racesR l).length, c6) : SlV)] (fun _ => (racesR l).length) _ rfl (by simp) hN rfl rfl rfl rfl rfl rfl rfl rfl rfl rfl rfl rfl rfl S) ?_)
          rintro _ w ⟨rfl, S⟩
          refine ⟨_, rfl, ?_⟩
          refine WO.q (Y.move (v := .bool _) rfl) ?_
          refine WO.splitB (fun h10 => ?_) (fun h10 => ?_)
          ·
           (try simp only [Q1, Q2, Q3, Q4, Q5, Q6, Q7, Q8, Q9, Qa] at h10)
           refine WO.qT rfl (Y.move (v := .slice _ _ _) rfl) ?_
           refine WO.qT rfl (Y.move (v := .slice _ _ _) rfl) ?_
           refine WO.eT rfl (O.call cf_31 rfl (EqAccesses_spec _ _ _ _ _ l l (S.rd 2 rfl).pre (R1.ext S.ext) (by omega)) ?_)
           rintro _ w ⟨rfl, E⟩
           replace S := S.keep E
           refine ⟨_, rfl, ?_⟩
           refine WO.q (Y.pickT (u := .bool _) rfl rfl) ?_
           refine WO.q (Y.move (v := .bool _) rfl) ?_
           refine WO.splitB (fun h11 => ?_) (fun h11 => ?_)
           ·
            (try simp only [Q1, Q2, Q3, Q4, Q5, Q6, Q7, Q8, Q9, Qa] at h11)
            refine WO.eT rfl (O.call cf_10 rfl (lives_spec _ (Lib.tabBelow_of_tabIs htab _ S.ext)) ?_)
            rintro _ w ⟨rfl, E⟩
            replace S := S.keep E
            refine ⟨_, rfl, ?_⟩
            refine WO.q (Y.pickT (u := .bool _) rfl rfl) ?_
            refine WO.q (Y.assign (v := .bool _) rfl) ?_
            refine WO.nil ?_
            refine Then.nx ?_
            refine W.ret ?_
            refine BodyQ.ret1 Tryd.results7 (ResV.tmp _ rfl) ?_
            first | exact ⟨rfl, S.ext⟩ | contradiction | (exfalso; omega) | (exfalso; simp_all; done)
           ·
            (try simp only [Q1, Q2, Q3, Q4, Q5, Q6, Q7, Q8, Q9, Qa] at h11)
            refine WO.qF rfl ?_
            refine WO.q (Y.pickF (u := .bool _) rfl rfl) ?_
            refine WO.q (Y.assign (v := .bool _) rfl) ?_
            refine WO.nil ?_
            refine Then.nx ?_
            refine W.ret ?_
            refine BodyQ.ret1 Tryd.results7 (ResV.tmp _ rfl) ?_
            first | exact ⟨rfl, S.ext⟩ | contradiction | (exfalso; omega) | (exfalso; simp_all; done)
          ·
           (try simp only [Q1, Q2, Q3, Q4, Q5, Q6, Q7, Q8, Q9, Qa] at h10)
           refine WO.qF rfl ?_
           refine WO.qF rfl ?_
           refine WO.qF rfl ?_
           refine WO.q (Y.pickF (u := .bool _) rfl rfl) ?_
           refine WO.q (Y.move (v := .bool _) rfl) ?_
           refine WO.qF rfl ?_
           refine WO.q (Y.pickF (u := .bool _) rfl rfl) ?_
           refine WO.q (Y.assign (v := .bool _) rfl) ?_
           refine WO.nil ?_
           refine Then.nx ?_
           refine W.ret ?_
           refine BodyQ.ret1 Tryd.results7 (ResV.tmp _ rfl) ?_
           first | exact ⟨rfl, S.ext⟩ | contradiction | (exfalso; omega) | (exfalso; simp_all; done)
end Go.Proofs
