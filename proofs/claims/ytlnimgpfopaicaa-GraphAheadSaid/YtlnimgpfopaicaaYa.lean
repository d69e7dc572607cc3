/-
  Walks of pair, livesG.
-/
import Derived.Test.YtlnimgpfopaicaaGe
import Derived.Test.YtlnimgpfopaicaaGk
import Derived.Test.YtlnimgpfopaicaaSx
import Derived.Test.YtlnimgpfopaicaaFa
import Derived.Test.YtlnimgpfopaicaaFb
import Derived.Test.YtlnimgpfopaicaaWh
import Derived.Test.YtlnimgpfopaicaaWe
import Derived.Test.YtlnimgpfopaicaaWc
import Derived.Test.YtlnimgpfopaicaaXa
import Derived.Test.YtlnimgpfopaicaaXb
import Derived.Test.YtlnimgpfopaicaaVg
set_option linter.unusedVariables false
set_option linter.unusedSimpArgs false
set_option maxRecDepth 100000
set_option maxHeartbeats 1000000
namespace Go.Proofs
open Go Go.TL Go.RowKit
theorem pair_spec (w0 : World) :
    Calls Try.prog 20 [].toArray w0 (fun r w => ∃ v M, r = .returned (.agg (fL v pairF).toArray) ∧ Sat w0 w [M] ∧ HasFlow M v pairF) := by
 have S := Sat.refl w0
 refine calls_of_W (args := []) 15 Try.func20 rfl Try.ntmps20 rfl ?_
 refine W.seq ?_
 refine W.region rfl ?_
 refine WO.e (O.alloc z_25 S (fun b0 w S => ?_))
 refine WO.nil ?_
 refine Then.nx ?_
 refine W.seq ?_
 refine W.region rfl ?_
 refine WO.q (Y.build rfl (bld_75_0_1)) ?_
 first | refine WO.e (O.buildSlice rfl (buildOne sl_49 (by decide) rfl rfl) S (fun b4 w S => ?_)) | refine WO.e (O.buildSlice rfl (buildOne sl_49 (by decide) rfl (by simp)) S (fun b4 w S => ?_)) | refine WO.e (O.buildSlice rfl (bs_49_1_0) S (fun b4 w S => ?_))
 refine WO.q (Y.build rfl (bld_51_0_1)) ?_
 refine WO.e (O.alloc z_51 S (fun b1 w S => ?_))
 first | refine WO.e0 (O.store (v := .agg _) 0 S rfl rfl rfl sz_51 rfl rfl rfl rfl (fun w S => ?_)) | refine WO.e0 (O.store (v := .agg _) 1 S rfl rfl rfl sz_51 rfl rfl rfl rfl (fun w S => ?_)) | refine WO.e0 (O.store (v := .agg _) 2 S rfl rfl rfl sz_51 rfl rfl rfl rfl (fun w S => ?_)) | refine WO.e0 (O.store (v := .agg _) 3 S rfl rfl rfl sz_51 rfl rfl rfl rfl (fun w S => ?_)) | refine WO.e0 (O.store (v := .agg _) 4 S rfl rfl rfl sz_51 rfl rfl rfl rfl (fun w S => ?_)) | refine WO.e0 (O.store (v := .agg _) 5 S rfl rfl rfl sz_51 rfl rfl rfl rfl (fun w S => ?_)) | refine WO.e0 (O.store (v := .agg _) 6 S rfl rfl rfl sz_51 rfl rfl rfl rfl (fun w S => ?_)) | refine WO.e0 (O.store (v := .agg _) 7 S rfl rfl rfl sz_51 rfl rfl rfl rfl (fun w S => ?_))
 refine WO.nil ?_
 refine Then.nx ?_
 refine W.seq ?_
 refine W.region rfl ?_
 refine WO.q (Y.build rfl (bld_75_0_2)) ?_
 refine WO.q (Y.build rfl (bld_75_0)) ?_
 refine WO.q (Y.build rfl (bld_75_0_1)) ?_
 refine WO.e (O.buildSlice rfl (bs_49_3_0_1_2) S (fun b9 w S => ?_))
 refine WO.q (Y.build rfl (bld_51_0_1)) ?_
 refine WO.e (O.alloc z_51 S (fun b2 w S => ?_))
 first | refine WO.e0 (O.store (v := .agg _) 0 S rfl rfl rfl sz_51 rfl rfl rfl rfl (fun w S => ?_)) | refine WO.e0 (O.store (v := .agg _) 1 S rfl rfl rfl sz_51 rfl rfl rfl rfl (fun w S => ?_)) | refine WO.e0 (O.store (v := .agg _) 2 S rfl rfl rfl sz_51 rfl rfl rfl rfl (fun w S => ?_)) | refine WO.e0 (O.store (v := .agg _) 3 S rfl rfl rfl sz_51 rfl rfl rfl rfl (fun w S => ?_)) | refine WO.e0 (O.store (v := .agg _) 4 S rfl rfl rfl sz_51 rfl rfl rfl rfl (fun w S => ?_)) | refine WO.e0 (O.store (v := .agg _) 5 S rfl rfl rfl sz_51 rfl rfl rfl rfl (fun w S => ?_)) | refine WO.e0 (O.store (v := .agg _) 6 S rfl rfl rfl sz_51 rfl rfl rfl rfl (fun w S => ?_)) | refine WO.e0 (O.store (v := .agg _) 7 S rfl rfl rfl sz_51 rfl rfl rfl rfl (fun w S => ?_))
 refine WO.nil ?_
 refine Then.nx ?_
 refine W.seq ?_
 refine W.region rfl ?_
 first | refine WO.q (Y.load rfl (loadSN sz_51 S 0 rfl rfl rfl)) ?_ | refine WO.q (Y.load rfl (loadSN sz_51 S 1 rfl rfl rfl)) ?_ | refine WO.q (Y.load rfl (loadSN sz_51 S 2 rfl rfl rfl)) ?_ | refine WO.q (Y.load rfl (loadSN sz_51 S 3 rfl rfl rfl)) ?_ | refine WO.q (Y.load rfl (loadSN sz_51 S 4 rfl rfl rfl)) ?_ | refine WO.q (Y.load rfl (loadSN sz_51 S 5 rfl rfl rfl)) ?_ | refine WO.q (Y.load rfl (loadSN sz_51 S 6 rfl rfl rfl)) ?_ | refine WO.q (Y.load rfl (loadSN sz_51 S 7 rfl rfl rfl)) ?_
 first | refine WO.q (Y.load rfl (loadSN sz_51 S 0 rfl rfl rfl)) ?_ | refine WO.q (Y.load rfl (loadSN sz_51 S 1 rfl rfl rfl)) ?_ | refine WO.q (Y.load rfl (loadSN sz_51 S 2 rfl rfl rfl)) ?_ | refine WO.q (Y.load rfl (loadSN sz_51 S 3 rfl rfl rfl)) ?_ | refine WO.q (Y.load rfl (loadSN sz_51 S 4 rfl rfl rfl)) ?_ | refine WO.q (Y.load rfl (loadSN sz_51 S 5 rfl rfl rfl)) ?_ | refine WO.q (Y.load rfl (loadSN sz_51 S 6 rfl rfl rfl)) ?_ | refine WO.q (Y.load rfl (loadSN sz_51 S 7 rfl rfl rfl)) ?_
 refine WO.e (O.buildSlice rfl (bs_22_2_0_1) S (fun b13 w S => ?_))
 refine WO.q (Y.build rfl (bld_25_0)) ?_
 first | refine WO.e0 (O.store (v := .agg _) 0 S rfl rfl rfl sz_25 rfl rfl rfl rfl (fun w S => ?_)) | refine WO.e0 (O.store (v := .agg _) 1 S rfl rfl rfl sz_25 rfl rfl rfl rfl (fun w S => ?_)) | refine WO.e0 (O.store (v := .agg _) 2 S rfl rfl rfl sz_25 rfl rfl rfl rfl (fun w S => ?_)) | refine WO.e0 (O.store (v := .agg _) 3 S rfl rfl rfl sz_25 rfl rfl rfl rfl (fun w S => ?_)) | refine WO.e0 (O.store (v := .agg _) 4 S rfl rfl rfl sz_25 rfl rfl rfl rfl (fun w S => ?_)) | refine WO.e0 (O.store (v := .agg _) 5 S rfl rfl rfl sz_25 rfl rfl rfl rfl (fun w S => ?_)) | refine WO.e0 (O.store (v := .agg _) 6 S rfl rfl rfl sz_25 rfl rfl rfl rfl (fun w S => ?_)) | refine WO.e0 (O.store (v := .agg _) 7 S rfl rfl rfl sz_25 rfl rfl rfl rfl (fun w S => ?_))
 refine WO.nil ?_
 refine Then.nx ?_
 refine W.ret ?_
 refine BodyQ.ret1 Try.results20 (by first | exact (ResV.cell _ rfl (loadSN sz_25 S 0 rfl rfl rfl)) | exact (ResV.cell _ rfl (loadSN sz_25 S 1 rfl rfl rfl)) | exact (ResV.cell _ rfl (loadSN sz_25 S 2 rfl rfl rfl)) | exact (ResV.cell _ rfl (loadSN sz_25 S 3 rfl rfl rfl)) | exact (ResV.cell _ rfl (loadSN sz_25 S 4 rfl rfl rfl)) | exact (ResV.cell _ rfl (loadSN sz_25 S 5 rfl rfl rfl)) | exact (ResV.cell _ rfl (loadSN sz_25 S 6 rfl rfl rfl)) | exact (ResV.cell _ rfl (loadSN sz_25 S 7 rfl rfl rfl))) ?_
 exact ⟨⟨some ⟨b13, 0, none⟩, 2, none, 0⟩, Bun [Cel b13 (tRLet.all [⟨⟨#[97]⟩, (some ⟨b4, 0, none⟩, 1, 1), 0⟩, ⟨⟨#[98]⟩, (some ⟨b9, 0, none⟩, 3, 3), 0⟩]) 51, Cel b9 (tNode.all [⟨4, 0, 2, 0⟩, ⟨2, 0, 0, 0⟩, ⟨1, 2, 0, 0⟩]) 75, Cel b4 (tNode.all [⟨1, 1, 0, 0⟩]) 75], rfl, Sat.bun (M := [Cel b13 (tRLet.all [⟨⟨#[97]⟩, (some ⟨b4, 0, none⟩, 1, 1), 0⟩, ⟨⟨#[98]⟩, (some ⟨b9, 0, none⟩, 3, 3), 0⟩]) 51, Cel b9 (tNode.all [⟨4, 0, 2, 0⟩, ⟨2, 0, 0, 0⟩, ⟨1, 2, 0, 0⟩]) 75, Cel b4 (tNode.all [⟨1, 1, 0, 0⟩]) 75]) (S.pk (.cons 0 rfl (.cons 1 rfl (.cons 2 rfl (.nil _))))), flowP _ 0 1 2 rfl rfl rfl⟩
theorem livesG_spec (w0 : World) :
    Calls Try.prog 6 [].toArray w0 (fun r w => r = .returned (.bool true) ∧ Ext w0 w) := by
 have S := Sat.refl w0
 have hl1 : ([⟨1, 1⟩, ⟨1, 3⟩] : List GEnd)[1]? = some ⟨1, 3⟩ := rfl
 have hl2 : ([0, 1] : List Int)[1]? = some 1 := rfl
 refine calls_of_W (args := []) 72 Try.func6 rfl Try.ntmps6 rfl ?_
 refine W.seq ?_
 refine W.region rfl ?_
 refine WO.q (Y.assign (v := .bool _) rfl) ?_
 refine WO.nil ?_
 refine Then.nx ?_
 refine W.seq ?_
 refine W.region rfl ?_
 refine WO.e (O.call cf_20 rfl (pair_spec _) ?_)
 rintro _ w ⟨v1, M1, rfl, SP1, HP1⟩
 replace S := S.trans SP1
 refine ⟨_, rfl, ?_⟩
 refine WO.q (Y.build rfl (bld_27_)) ?_
 refine WO.e (O.call cf_7 rfl (Plain_spec _ _ [] v1 pairF gm0 (S.hasFlow 0 rfl HP1 smallP) (Sat.refl _)) ?_)
 rintro _ w ⟨a8, c8, rfl, S8⟩
 rw [plainP] at S8 ⊢
 replace S := S.trans S8
 refine ⟨_, rfl, ?_⟩
 refine WO.q (Y.move (v := .tuple _) rfl) ?_
 refine WO.q (Y.extract (v := .slice _ _ _) rfl rfl) ?_
 refine WO.q (Y.extract (v := .int .i64 _) rfl rfl) ?_
 refine WO.q (Y.assign (v := .slice _ _ _) rfl) ?_
 refine WO.q (Y.assign (v := .int .i64 _) rfl) ?_
 refine WO.nil ?_
 refine Then.nx ?_
 refine W.seq ?_
 refine W.region rfl ?_
 refine WO.e (O.call cf_20 rfl (pair_spec _) ?_)
 rintro _ w ⟨v2, M2, rfl, SP2, HP2⟩
 replace S := S.trans SP2
 refine ⟨_, rfl, ?_⟩
 refine WO.e (O.call cf_13 rfl (Needs_spec _ 1 v2 pairF (S.hasFlow 0 rfl HP2 smallP)) ?_)
 rintro _ w ⟨a15, c15, rfl, S15⟩
 rw [needsP] at S15 ⊢
 replace S := S.trans S15
 refine ⟨_, rfl, ?_⟩
 refine WO.q (Y.assign (v := .slice _ _ _) rfl) ?_
 refine WO.nil ?_
 refine Then.nx ?_
 refine W.seq ?_
 refine W.region rfl ?_
 refine WO.e (O.call cf_20 rfl (pair_spec _) ?_)
 rintro _ w ⟨v3, M3, rfl, SP3, HP3⟩
 replace S := S.trans SP3
 refine ⟨_, rfl, ?_⟩
 refine WO.e (O.call cf_12 rfl (Levels_spec _ v3 pairF (S.hasFlow 0 rfl HP3 smallP)) ?_)
 rintro _ w ⟨a18, c18, rfl, S18⟩
 rw [levelsP] at S18 ⊢
 replace S := S.trans S18
 refine ⟨_, rfl, ?_⟩
 refine WO.q (Y.move (v := .tuple _) rfl) ?_
 refine WO.q (Y.extract (v := .slice _ _ _) rfl rfl) ?_
 refine WO.q (Y.extract (v := .int .i64 _) rfl rfl) ?_
 refine WO.q (Y.assign (v := .slice _ _ _) rfl) ?_
 refine WO.q (Y.assign (v := .int .i64 _) rfl) ?_
 refine WO.nil ?_
 refine Then.nx ?_
 refine W.seq ?_
 refine W.region rfl ?_
 refine WO.e (O.call cf_20 rfl (pair_spec _) ?_)
 rintro _ w ⟨v4, M4, rfl, SP4, HP4⟩
 replace S := S.trans SP4
 refine ⟨_, rfl, ?_⟩
 refine WO.q (Y.build rfl (bld_27_)) ?_
 refine WO.q (Y.build rfl (bld_30_0_1)) ?_
 refine WO.q (Y.build rfl (bld_30_0_1)) ?_
 refine WO.e (O.buildSlice rfl (bs_33_2_0_1) S (fun b26 w S => ?_))
 refine WO.e (O.call cf_9 rfl (Fits_spec _ v4 pairF (S.hasFlow 1 rfl HP4 smallP) gm0 (some ⟨b26, 0, none⟩) 2 [⟨1, 1⟩, ⟨1, 4⟩] (S.reads 0 rfl (Reads.all (T := tEnd) (e := 30) [⟨1, 1⟩, ⟨1, 4⟩])) (by decide) (by decide)) ?_)
 rintro _ w ⟨rfl, E⟩
 rw [fitsP]
 replace S := S.keep E
 refine ⟨_, rfl, ?_⟩
 refine WO.q (Y.move (v := .tuple _) rfl) ?_
 refine WO.q (Y.extract (v := .int .i64 _) rfl rfl) ?_
 refine WO.q (Y.extract (v := .int .i64 _) rfl rfl) ?_
 refine WO.q (Y.assign (v := .int .i64 _) rfl) ?_
 refine WO.q (Y.assign (v := .int .i64 _) rfl) ?_
 refine WO.nil ?_
 refine Then.nx ?_
 refine W.seq ?_
 have hea := (S.rd (T := tEnd) (e := 30) (xs := [⟨1, 1⟩, ⟨1, 3⟩]) 6 rfl).1 (by decide)
 have hva := (S.rd (T := tI .i64) (e := 3) (xs := [0, 1]) 2 rfl).1 (by decide)
 refine W.region rfl ?_
 refine WO.q (Y.move (v := .int .i64 _) rfl) ?_
 refine WO.q (Y.eql rfl rfl) ?_
 refine WO.q (Y.move (v := .bool _) rfl) ?_
 refine WO.splitB (fun h1 => ?_) (fun h1 => ?_)
 ·
  (try simp only [Q1, Q2, Q3, Q4, Q5, Q6, Q7, Q8, Q9, Qa] at h1)
  refine WO.qT rfl (Y.move (v := .int .i64 _) rfl) ?_
  refine WO.qT rfl (Y.eql rfl rfl) ?_
  refine WO.q (Y.pickT (u := .bool _) rfl rfl) ?_
  refine WO.q (Y.move (v := .bool _) rfl) ?_
  refine WO.splitB (fun h2 => ?_) (fun h2 => ?_)
  ·
   (try simp only [Q1, Q2, Q3, Q4, Q5, Q6, Q7, Q8, Q9, Qa] at h2)
   refine WO.qT rfl (Y.move (v := .slice _ _ _) rfl) ?_
   refine WO.qT rfl (Y.len (t' := 0) Try.underlying33 rfl) ?_
   refine WO.qT rfl (Y.eql rfl rfl) ?_
   refine WO.q (Y.pickT (u := .bool _) rfl rfl) ?_
   refine WO.q (Y.move (v := .bool _) rfl) ?_
   refine WO.splitB (fun h3 => ?_) (fun h3 => ?_)
   ·
    (try simp only [Q1, Q2, Q3, Q4, Q5, Q6, Q7, Q8, Q9, Qa] at h3)
    refine WO.qT rfl (Y.move (v := .slice _ _ _) rfl) ?_
    first | refine WO.qT rfl (Y.ixN sl_33 rfl rfl (by (first | assumption | rfl)) (by (first | assumption | omega | decide))) ?_ | refine WO.qT rfl (Y.ix sl_33 rfl rfl (by (first | assumption | rfl)) (by (first | assumption | omega | decide)) (by (first | assumption | omega | decide))) ?_
    first | refine WO.qT rfl (Y.load rfl (loadRdN sz_30 (S.rd 0 rfl) (by assumption))) ?_ | refine WO.qT rfl (Y.load rfl (loadRdN sz_30 (S.rd 1 rfl) (by assumption))) ?_ | refine WO.qT rfl (Y.load rfl (loadRdN sz_30 (S.rd 2 rfl) (by assumption))) ?_ | refine WO.qT rfl (Y.load rfl (loadRdN sz_30 (S.rd 3 rfl) (by assumption))) ?_ | refine WO.qT rfl (Y.load rfl (loadRdN sz_30 (S.rd 4 rfl) (by assumption))) ?_ | refine WO.qT rfl (Y.load rfl (loadRdN sz_30 (S.rd 5 rfl) (by assumption))) ?_ | refine WO.qT rfl (Y.load rfl (loadRdN sz_30 (S.rd 6 rfl) (by assumption))) ?_ | refine WO.qT rfl (Y.load rfl (loadRdN sz_30 (S.rd 7 rfl) (by assumption))) ?_
    refine WO.qT rfl (Y.build rfl (bld_30_0_1)) ?_
    first | refine WO.qT rfl (Y.eqlA eqt_30 rfl rfl) ?_ | refine WO.qT rfl (Y.eqlA (x := (⟨1, 3⟩ : GEnd)) (y := (⟨1, 3⟩ : GEnd)) eqt_30 rfl rfl) ?_
    refine WO.q (Y.pickT (u := .bool _) rfl rfl) ?_
    refine WO.q (Y.move (v := .bool _) rfl) ?_
    refine WO.splitB (fun h4 => ?_) (fun h4 => ?_)
    ·
     (try simp only [Q1, Q2, Q3, Q4, Q5, Q6, Q7, Q8, Q9, Qa] at h4)
     refine WO.qT rfl (Y.move (v := .slice _ _ _) rfl) ?_
     refine WO.qT rfl (Y.len (t' := 0) Try.underlying23 rfl) ?_
     refine WO.qT rfl (Y.eql rfl rfl) ?_
     refine WO.q (Y.pickT (u := .bool _) rfl rfl) ?_
     refine WO.q (Y.move (v := .bool _) rfl) ?_
     refine WO.splitB (fun h5 => ?_) (fun h5 => ?_)
     ·
      (try simp only [Q1, Q2, Q3, Q4, Q5, Q6, Q7, Q8, Q9, Qa] at h5)
      refine WO.qT rfl (Y.move (v := .slice _ _ _) rfl) ?_
      refine WO.qT rfl (Y.len (t' := 0) Try.underlying23 rfl) ?_
      refine WO.qT rfl (Y.eql rfl rfl) ?_
      refine WO.q (Y.pickT (u := .bool _) rfl rfl) ?_
      refine WO.q (Y.move (v := .bool _) rfl) ?_
      refine WO.splitB (fun h6 => ?_) (fun h6 => ?_)
      ·
       (try simp only [Q1, Q2, Q3, Q4, Q5, Q6, Q7, Q8, Q9, Qa] at h6)
       refine WO.qT rfl (Y.move (v := .slice _ _ _) rfl) ?_
       first | refine WO.qT rfl (Y.ixN sl_23 rfl rfl (by (first | assumption | rfl)) (by (first | assumption | omega | decide))) ?_ | refine WO.qT rfl (Y.ix sl_23 rfl rfl (by (first | assumption | rfl)) (by (first | assumption | omega | decide)) (by (first | assumption | omega | decide))) ?_
       first | refine WO.qT rfl (Y.load rfl (loadRd1 sz_3 (S.rd 0 rfl) (by assumption) rfl)) ?_ | refine WO.qT rfl (Y.load rfl (loadRd1 sz_3 (S.rd 1 rfl) (by assumption) rfl)) ?_ | refine WO.qT rfl (Y.load rfl (loadRd1 sz_3 (S.rd 2 rfl) (by assumption) rfl)) ?_ | refine WO.qT rfl (Y.load rfl (loadRd1 sz_3 (S.rd 3 rfl) (by assumption) rfl)) ?_ | refine WO.qT rfl (Y.load rfl (loadRd1 sz_3 (S.rd 4 rfl) (by assumption) rfl)) ?_ | refine WO.qT rfl (Y.load rfl (loadRd1 sz_3 (S.rd 5 rfl) (by assumption) rfl)) ?_ | refine WO.qT rfl (Y.load rfl (loadRd1 sz_3 (S.rd 6 rfl) (by assumption) rfl)) ?_ | refine WO.qT rfl (Y.load rfl (loadRd1 sz_3 (S.rd 7 rfl) (by assumption) rfl)) ?_
       refine WO.qT rfl (Y.eql rfl rfl) ?_
       refine WO.q (Y.pickT (u := .bool _) rfl rfl) ?_
       refine WO.q (Y.move (v := .bool _) rfl) ?_
       refine WO.splitB (fun h7 => ?_) (fun h7 => ?_)
       ·
        (try simp only [Q1, Q2, Q3, Q4, Q5, Q6, Q7, Q8, Q9, Qa] at h7)
        refine WO.qT rfl (Y.move (v := .int .i64 _) rfl) ?_
        refine WO.qT rfl (Y.eql rfl rfl) ?_
        refine WO.q (Y.pickT (u := .bool _) rfl rfl) ?_
        refine WO.q (Y.move (v := .bool _) rfl) ?_
        refine WO.splitB (fun h8 => ?_) (fun h8 => ?_)
        ·
         (try simp only [Q1, Q2, Q3, Q4, Q5, Q6, Q7, Q8, Q9, Qa] at h8)
         refine WO.qT rfl (Y.move (v := .int .i64 _) rfl) ?_
         refine WO.qT rfl (Y.eql rfl rfl) ?_
         refine WO.q (Y.pickT (u := .bool _) rfl rfl) ?_
         refine WO.q (Y.assign (v := .bool _) rfl) ?_
         refine WO.nil ?_
         refine Then.nx ?_
         refine W.ret ?_
         refine BodyQ.ret1 Try.results6 (ResV.tmp _ rfl) ?_
         first | exact ⟨rfl, S.ext⟩ | (exfalso; omega) | (exfalso; simp_all; done)
        ·
         (try simp only [Q1, Q2, Q3, Q4, Q5, Q6, Q7, Q8, Q9, Qa] at h8)
         refine WO.qF rfl ?_
         refine WO.qF rfl ?_
         refine WO.q (Y.pickF (u := .bool _) rfl rfl) ?_
         refine WO.q (Y.assign (v := .bool _) rfl) ?_
         refine WO.nil ?_
         refine Then.nx ?_
         refine W.ret ?_
         refine BodyQ.ret1 Try.results6 (ResV.tmp _ rfl) ?_
         first | exact ⟨rfl, S.ext⟩ | (exfalso; omega) | (exfalso; simp_all; done)
       ·
        (try simp only [Q1, Q2, Q3, Q4, Q5, Q6, Q7, Q8, Q9, Qa] at h7)
        refine WO.qF rfl ?_
        refine WO.qF rfl ?_
        refine WO.q (Y.pickF (u := .bool _) rfl rfl) ?_
        refine WO.q (Y.move (v := .bool _) rfl) ?_
        refine WO.qF rfl ?_
        refine WO.qF rfl ?_
        refine WO.q (Y.pickF (u := .bool _) rfl rfl) ?_
        refine WO.q (Y.assign (v := .bool _) rfl) ?_
        refine WO.nil ?_
        refine Then.nx ?_
        refine W.ret ?_
        refine BodyQ.ret1 Try.results6 (ResV.tmp _ rfl) ?_
        first | exact ⟨rfl, S.ext⟩ | (exfalso; omega) | (exfalso; simp_all; done)
      ·
       (try simp only [Q1, Q2, Q3, Q4, Q5, Q6, Q7, Q8, Q9, Qa] at h6)
       refine WO.qF rfl ?_
       refine WO.qF rfl ?_
       refine WO.qF rfl ?_
       refine WO.qF rfl ?_
       refine WO.q (Y.pickF (u := .bool _) rfl rfl) ?_
       refine WO.q (Y.move (v := .bool _) rfl) ?_
       refine WO.qF rfl ?_
       refine WO.qF rfl ?_
       refine WO.q (Y.pickF (u := .bool _) rfl rfl) ?_
       refine WO.q (Y.move (v := .bool _) rfl) ?_
       refine WO.qF rfl ?_
       refine WO.qF rfl ?_
       refine WO.q (Y.pickF (u := .bool _) rfl rfl) ?_
       refine WO.q (Y.assign (v := .bool _) rfl) ?_
       refine WO.nil ?_
       refine Then.nx ?_
       refine W.ret ?_
       refine BodyQ.ret1 Try.results6 (ResV.tmp _ rfl) ?_
       first | exact ⟨rfl, S.ext⟩ | (exfalso; omega) | (exfalso; simp_all; done)
     ·
      (try simp only [Q1, Q2, Q3, Q4, Q5, Q6, Q7, Q8, Q9, Qa] at h5)
      refine WO.qF rfl ?_
      refine WO.qF rfl ?_
      refine WO.qF rfl ?_
      refine WO.q (Y.pickF (u := .bool _) rfl rfl) ?_
      refine WO.q (Y.move (v := .bool _) rfl) ?_
      refine WO.qF rfl ?_
      refine WO.qF rfl ?_
      refine WO.qF rfl ?_
      refine WO.qF rfl ?_
      refine WO.q (Y.pickF (u := .bool _) rfl rfl) ?_
      refine WO.q (Y.move (v := .bool _) rfl) ?_
      refine WO.qF rfl ?_
      refine WO.qF rfl ?_
      refine WO.q (Y.pickF (u := .bool _) rfl rfl) ?_
      refine WO.q (Y.move (v := .bool _) rfl) ?_
      refine WO.qF rfl ?_
      refine WO.qF rfl ?_
      refine WO.q (Y.pickF (u := .bool _) rfl rfl) ?_
      refine WO.q (Y.assign (v := .bool _) rfl) ?_
      refine WO.nil ?_
      refine Then.nx ?_
      refine W.ret ?_
      refine BodyQ.ret1 Try.results6 (ResV.tmp _ rfl) ?_
      first | exact ⟨rfl, S.ext⟩ | (exfalso; omega) | (exfalso; simp_all; done)
    ·
     (try simp only [Q1, Q2, Q3, Q4, Q5, Q6, Q7, Q8, Q9, Qa] at h4)
     refine WO.qF rfl ?_
     refine WO.qF rfl ?_
     refine WO.qF rfl ?_
     refine WO.q (Y.pickF (u := .bool _) rfl rfl) ?_
     refine WO.q (Y.move (v := .bool _) rfl) ?_
     refine WO.qF rfl ?_
     refine WO.qF rfl ?_
     refine WO.qF rfl ?_
     refine WO.q (Y.pickF (u := .bool _) rfl rfl) ?_
     refine WO.q (Y.move (v := .bool _) rfl) ?_
     refine WO.qF rfl ?_
     refine WO.qF rfl ?_
     refine WO.qF rfl ?_
     refine WO.qF rfl ?_
     refine WO.q (Y.pickF (u := .bool _) rfl rfl) ?_
     refine WO.q (Y.move (v := .bool _) rfl) ?_
     refine WO.qF rfl ?_
     refine WO.qF rfl ?_
     refine WO.q (Y.pickF (u := .bool _) rfl rfl) ?_
     refine WO.q (Y.move (v := .bool _) rfl) ?_
     refine WO.qF rfl ?_
     refine WO.qF rfl ?_
     refine WO.q (Y.pickF (u := .bool _) rfl rfl) ?_
     refine WO.q (Y.assign (v := .bool _) rfl) ?_
     refine WO.nil ?_
     refine Then.nx ?_
     refine W.ret ?_
     refine BodyQ.ret1 Try.results6 (ResV.tmp _ rfl) ?_
     first | exact ⟨rfl, S.ext⟩ | (exfalso; omega) | (exfalso; simp_all; done)
   ·
    (try simp only [Q1, Q2, Q3, Q4, Q5, Q6, Q7, Q8, Q9, Qa] at h3)
    refine WO.qF rfl ?_
    refine WO.qF rfl ?_
    refine WO.qF rfl ?_
    refine WO.qF rfl ?_
    refine WO.qF rfl ?_
    refine WO.q (Y.pickF (u := .bool _) rfl rfl) ?_
    refine WO.q (Y.move (v := .bool _) rfl) ?_
    refine WO.qF rfl ?_
    refine WO.qF rfl ?_
    refine WO.qF rfl ?_
    refine WO.q (Y.pickF (u := .bool _) rfl rfl) ?_
    refine WO.q (Y.move (v := .bool _) rfl) ?_
    refine WO.qF rfl ?_
    refine WO.qF rfl ?_
    refine WO.qF rfl ?_
    refine WO.q (Y.pickF (u := .bool _) rfl rfl) ?_
    refine WO.q (Y.move (v := .bool _) rfl) ?_
    refine WO.qF rfl ?_
    refine WO.qF rfl ?_
    refine WO.qF rfl ?_
    refine WO.qF rfl ?_
    refine WO.q (Y.pickF (u := .bool _) rfl rfl) ?_
    refine WO.q (Y.move (v := .bool _) rfl) ?_
    refine WO.qF rfl ?_
    refine WO.qF rfl ?_
    refine WO.q (Y.pickF (u := .bool _) rfl rfl) ?_
    refine WO.q (Y.move (v := .bool _) rfl) ?_
    refine WO.qF rfl ?_
    refine WO.qF rfl ?_
    refine WO.q (Y.pickF (u := .bool _) rfl rfl) ?_
    refine WO.q (Y.assign (v := .bool _) rfl) ?_
    refine WO.nil ?_
    refine Then.nx ?_
    refine W.ret ?_
    refine BodyQ.ret1 Try.results6 (ResV.tmp _ rfl) ?_
    first | exact ⟨rfl, S.ext⟩ | (exfalso; omega) | (exfalso; simp_all; done)
  ·
   (try simp only [Q1, Q2, Q3, Q4, Q5, Q6, Q7, Q8, Q9, Qa] at h2)
   refine WO.qF rfl ?_
   refine WO.qF rfl ?_
   refine WO.qF rfl ?_
   refine WO.q (Y.pickF (u := .bool _) rfl rfl) ?_
   refine WO.q (Y.move (v := .bool _) rfl) ?_
   refine WO.qF rfl ?_
   refine WO.qF rfl ?_
   refine WO.qF rfl ?_
   refine WO.qF rfl ?_
   refine WO.qF rfl ?_
   refine WO.q (Y.pickF (u := .bool _) rfl rfl) ?_
   refine WO.q (Y.move (v := .bool _) rfl) ?_
   refine WO.qF rfl ?_
   refine WO.qF rfl ?_
   refine WO.qF rfl ?_
   refine WO.q (Y.pickF (u := .bool _) rfl rfl) ?_
   refine WO.q (Y.move (v := .bool _) rfl) ?_
   refine WO.qF rfl ?_
   refine WO.qF rfl ?_
   refine WO.qF rfl ?_
   refine WO.q (Y.pickF (u := .bool _) rfl rfl) ?_
   refine WO.q (Y.move (v := .bool _) rfl) ?_
   refine WO.qF rfl ?_
   refine WO.qF rfl ?_
   refine WO.qF rfl ?_
   refine WO.qF rfl ?_
   refine WO.q (Y.pickF (u := .bool _) rfl rfl) ?_
   refine WO.q (Y.move (v := .bool _) rfl) ?_
   refine WO.qF rfl ?_
   refine WO.qF rfl ?_
   refine WO.q (Y.pickF (u := .bool _) rfl rfl) ?_
   refine WO.q (Y.move (v := .bool _) rfl) ?_
   refine WO.qF rfl ?_
   refine WO.qF rfl ?_
   refine WO.q (Y.pickF (u := .bool _) rfl rfl) ?_
   refine WO.q (Y.assign (v := .bool _) rfl) ?_
   refine WO.nil ?_
   refine Then.nx ?_
   refine W.ret ?_
   refine BodyQ.ret1 Try.results6 (ResV.tmp _ rfl) ?_
   first | exact ⟨rfl, S.ext⟩ | (exfalso; omega) | (exfalso; simp_all; done)
 ·
  (try simp only [Q1, Q2, Q3, Q4, Q5, Q6, Q7, Q8, Q9, Qa] at h1)
  refine WO.qF rfl ?_
  refine WO.qF rfl ?_
  refine WO.q (Y.pickF (u := .bool _) rfl rfl) ?_
  refine WO.q (Y.move (v := .bool _) rfl) ?_
  refine WO.qF rfl ?_
  refine WO.qF rfl ?_
  refine WO.qF rfl ?_
  refine WO.q (Y.pickF (u := .bool _) rfl rfl) ?_
  refine WO.q (Y.move (v := .bool _) rfl) ?_
  refine WO.qF rfl ?_
  refine WO.qF rfl ?_
  refine WO.qF rfl ?_
  refine WO.qF rfl ?_
  refine WO.qF rfl ?_
  refine WO.q (Y.pickF (u := .bool _) rfl rfl) ?_
  refine WO.q (Y.move (v := .bool _) rfl) ?_
  refine WO.qF rfl ?_
  refine WO.qF rfl ?_
  refine WO.qF rfl ?_
  refine WO.q (Y.pickF (u := .bool _) rfl rfl) ?_
  refine WO.q (Y.move (v := .bool _) rfl) ?_
  refine WO.qF rfl ?_
  refine WO.qF rfl ?_
  refine WO.qF rfl ?_
  refine WO.q (Y.pickF (u := .bool _) rfl rfl) ?_
  refine WO.q (Y.move (v := .bool _) rfl) ?_
  refine WO.qF rfl ?_
  refine WO.qF rfl ?_
  refine WO.qF rfl ?_
  refine WO.qF rfl ?_
  refine WO.q (Y.pickF (u := .bool _) rfl rfl) ?_
  refine WO.q (Y.move (v := .bool _) rfl) ?_
  refine WO.qF rfl ?_
  refine WO.qF rfl ?_
  refine WO.q (Y.pickF (u := .bool _) rfl rfl) ?_
  refine WO.q (Y.move (v := .bool _) rfl) ?_
  refine WO.qF rfl ?_
  refine WO.qF rfl ?_
  refine WO.q (Y.pickF (u := .bool _) rfl rfl) ?_
  refine WO.q (Y.assign (v := .bool _) rfl) ?_
  refine WO.nil ?_
  refine Then.nx ?_
  refine W.ret ?_
  refine BodyQ.ret1 Try.results6 (ResV.tmp _ rfl) ?_
  first | exact ⟨rfl, S.ext⟩ | (exfalso; omega) | (exfalso; simp_all; done)
end Go.Proofs
