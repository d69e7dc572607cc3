/-
  Walks of lives_L, lives_M, lives_H7, lives_H8, lives.
-/
import Derived.Test.YticopppiogophaaDoorTp
import Derived.Test.YticopppiogophaaDoorTo
import Derived.Test.YticopppiogophaaDoorSx
import Derived.Test.YticopppiogophaaDoorFa
import Derived.Test.YticopppiogophaaDoorFb
import Derived.Test.YticopppiogophaaDoorFc
import Derived.Test.YticopppiogophaaDoorWe
import Derived.Test.YticopppiogophaaDoorWi
set_option linter.unusedVariables false
set_option linter.unusedSimpArgs false
set_option maxRecDepth 100000
set_option maxHeartbeats 1000000
namespace Go.Proofs
open Go Go.TL Go.RowKit
theorem lives_L (w0 : World) (a : Option Addr) (c : Nat) (R1 : Rd tAccess w0 a livesL) : Calls Tryd.prog 34 [.slice a 3 c].toArray w0 (fun e w => ∃ a' c', e = .returned (.tuple #[.slice a' 1 c', .int .i64 0]) ∧ Sat w0 w [Own tRace 87 a' c' [⟨0, 2⟩]]) := by
  have h := Races_spec w0 a c livesL R1 (by decide)
  rw [livesL_r.1, livesL_r.2] at h
  exact h
theorem lives_M (w0 : World) (a : Option Addr) (c : Nat) (R1 : Rd tAccess w0 a livesM) : Calls Tryd.prog 34 [.slice a 4 c].toArray w0 (fun e w => ∃ a' c', e = .returned (.tuple #[.slice a' 0 c', .int .i64 0]) ∧ Sat w0 w [Own tRace 87 a' c' []]) := by
  have h := Races_spec w0 a c livesM R1 (by decide)
  rw [livesM_r.1, livesM_r.2] at h
  exact h
theorem lives_H7 (w0 : World) (htab : Lib.TabIs Tryd.prog w0 "internal/strconv.uint64pow10" .u64 Lib.pow10Tab) (a : Option Addr) (c : Nat) (R1 : Rd tCall w0 a (livesH 7)) : Calls Tryd.prog 12 [.int .i64 1, .slice a 2 c].toArray w0 (fun e w => ∃ a' c', e = .returned (.tuple #[.slice a' 2 c', .bool true, .int .i64 0]) ∧ Sat w0 w [Own tN 3 a' c' [0, 1]]) := by
  have h := Linear_spec w0 htab 1 (livesH 7) a c R1 (by decide) (by intro c hc; simp only [livesH, List.mem_cons, List.not_mem_nil, or_false] at hc; rcases hc with rfl | rfl <;> exact ⟨⟨by decide, by decide⟩, ⟨by decide, by decide⟩⟩)
  rw [livesH7.1, livesH7.2.1, livesH7.2.2] at h
  exact h
theorem lives_H8 (w0 : World) (htab : Lib.TabIs Tryd.prog w0 "internal/strconv.uint64pow10" .u64 Lib.pow10Tab) (a : Option Addr) (c : Nat) (R1 : Rd tCall w0 a (livesH 8)) : Calls Tryd.prog 12 [.int .i64 1, .slice a 2 c].toArray w0 (fun e w => ∃ a' c', e = .returned (.tuple #[.slice a' 0 c', .bool false, .int .i64 0]) ∧ Sat w0 w [Own tN 3 a' c' []]) := by
  have h := Linear_spec w0 htab 1 (livesH 8) a c R1 (by decide) (by intro c hc; simp only [livesH, List.mem_cons, List.not_mem_nil, or_false] at hc; rcases hc with rfl | rfl <;> exact ⟨⟨by decide, by decide⟩, ⟨by decide, by decide⟩⟩)
  rw [livesH8.2.2, livesH8.1, livesH8.2.1] at h
  exact h
theorem lives_spec (w0 : World) (htab : Lib.TabIs Tryd.prog w0 "internal/strconv.uint64pow10" .u64 Lib.pow10Tab) : Calls Tryd.prog 10 [].toArray w0 (fun e w => e = .returned (.bool true) ∧ Ext w0 w) := by
 have S := Sat.refl w0
 refine calls_of_W (args := []) 100 Tryd.func10 rfl Tryd.ntmps10 rfl ?_
 refine W.seq ?_
 refine W.region rfl ?_
 refine WO.q (Y.assign (v := .bool _) rfl) ?_
 refine WO.nil ?_
 refine Then.nx ?_
 refine W.seq ?_
 refine W.region rfl ?_
 refine WO.q (Y.build rfl (bld_71_1_2_3_4)) ?_
 refine WO.q (Y.build rfl (bld_71_0_1)) ?_
 refine WO.q (Y.build rfl (bld_71_0_1_2_3)) ?_
 refine WO.e (O.buildSlice rfl (bs_64_3_0_1_2) S (fun b17 w S => ?_))
 refine WO.q (Y.assign (v := .slice _ _ _) rfl) ?_
 refine WO.nil ?_
 refine Then.nx ?_
 refine W.seq ?_
 refine W.draw (.q 0 (.q 1 (.q 2 (.q 3 (.q 4 (.q 5 (.q 6 (.q 7 (.q 8 (.q 9 (.e 10 (.q 11 .nil)))))))))))) (fun w => Sat _ w _) rfl rfl (by kernel_rfl) rfl (by kernel_rfl) (by repeat (first | exact BodyQ.noFrame | refine Then.noFrame ?_ | refine InB.noFrame ?_)) S.drew ?_
 clear S
 refine Plan.q rfl (fun w S => Y.move (v := .slice _ _ _) rfl) ?_
 refine Plan.q rfl (fun w S => Y.ixNB (i := 0) sl_64 rfl rfl (by decide)) ?_
 refine Plan.q rfl (fun w S => Y.load rfl (loadSN sz_71 S 0 rfl rfl rfl)) ?_
 refine Plan.q rfl (fun w S => Y.build rfl (bld_71_1)) ?_
 refine Plan.q rfl (fun w S => Y.move (v := .slice _ _ _) rfl) ?_
 refine Plan.q rfl (fun w S => Y.ixNB (i := 1) sl_64 rfl rfl (by decide)) ?_
 refine Plan.q rfl (fun w S => Y.load rfl (loadSN sz_71 S 0 rfl rfl rfl)) ?_
 refine Plan.q rfl (fun w S => Y.move (v := .slice _ _ _) rfl) ?_
 refine Plan.q rfl (fun w S => Y.ixNB (i := 2) sl_64 rfl rfl (by decide)) ?_
 refine Plan.q rfl (fun w S => Y.load rfl (loadSN sz_71 S 0 rfl rfl rfl)) ?_
 refine Plan.e1 rfl (fun w S => O.buildSlice rfl (bs_64_4_0_1_2_3) S (fun b28 w S => ?_))
 refine ⟨(fun w => Sat _ w _), S, (.inr (fun w S => S.pk (by repeat (first | exact Pk.nil _ | exact Pk.refl _ | refine Pk.cons 0 rfl ?_ | refine Pk.cons 1 rfl ?_ | refine Pk.cons 2 rfl ?_ | refine Pk.cons 3 rfl ?_ | refine Pk.cons 4 rfl ?_ | refine Pk.cons 5 rfl ?_ | refine Pk.cons 6 rfl ?_ | refine Pk.cons 7 rfl ?_ | refine Pk.cons 8 rfl ?_ | refine Pk.cons 9 rfl ?_ | refine Pk.cons 10 rfl ?_ | refine Pk.cons 11 rfl ?_ | refine Pk.cons 12 rfl ?_ | refine Pk.cons 13 rfl ?_ | refine Pk.drop ?_)))), ?_⟩
 clear S
 refine Plan.q rfl (fun w S => Y.assign (v := .slice _ _ _) rfl) ?_
 refine Plan.nil (fun w S => ?_)
 replace S : Sat _ _ _ := S
 refine Then.nx ?_
 refine W.seq ?_
 refine W.region rfl ?_
 refine WO.q (Y.move (v := .slice _ _ _) rfl) ?_
 refine WO.e (O.call cf_34 rfl (lives_L _ _ _ (S.reads 1 rfl (Reads.all (T := tAccess) livesL))) ?_)
 rintro _ w ⟨a31, c31, rfl, S2⟩
 replace S := S.trans S2
 refine ⟨_, rfl, ?_⟩
 refine WO.q (Y.move (v := .tuple _) rfl) ?_
 refine WO.q (Y.extract (v := .slice _ _ _) rfl rfl) ?_
 refine WO.q (Y.extract (v := .int .i64 _) rfl rfl) ?_
 refine WO.q (Y.assign (v := .slice _ _ _) rfl) ?_
 refine WO.q (Y.assign (v := .int .i64 _) rfl) ?_
 refine WO.nil ?_
 refine Then.nx ?_
 refine W.seq ?_
 refine W.region rfl ?_
 refine WO.q (Y.move (v := .slice _ _ _) rfl) ?_
 refine WO.e (O.call cf_34 rfl (lives_M _ _ _ (S.reads 1 rfl (Reads.all (T := tAccess) livesM))) ?_)
 rintro _ w ⟨a36, c36, rfl, S2⟩
 replace S := S.trans S2
 refine ⟨_, rfl, ?_⟩
 refine WO.q (Y.move (v := .tuple _) rfl) ?_
 refine WO.q (Y.extract (v := .slice _ _ _) rfl rfl) ?_
 refine WO.q (Y.extract (v := .int .i64 _) rfl rfl) ?_
 refine WO.q (Y.assign (v := .slice _ _ _) rfl) ?_
 refine WO.q (Y.assign (v := .int .i64 _) rfl) ?_
 refine WO.nil ?_
 refine Then.nx ?_
 refine W.seq ?_
 refine W.region rfl ?_
 refine WO.q (Y.build rfl (bld_58_0_1_6)) ?_
 refine WO.q (Y.build rfl (bld_58_0_3_4_5_6)) ?_
 refine WO.e (O.buildSlice rfl (bs_22_2_0_1) S (fun b41 w S => ?_))
 refine WO.q (Y.assign (v := .slice _ _ _) rfl) ?_
 refine WO.nil ?_
 refine Then.nx ?_
 refine W.seq ?_
 refine W.region rfl ?_
 refine WO.q (Y.move (v := .slice _ _ _) rfl) ?_
 refine WO.e (O.call cf_12 rfl (lives_H7 _ (Lib.tabBelow_of_tabIs htab _ S.ext) _ _ (S.reads 0 rfl (Reads.all (T := tCall) (livesH 7)))) ?_)
 rintro _ w ⟨a44, c44, rfl, S2⟩
 replace S := S.trans S2
 refine ⟨_, rfl, ?_⟩
 refine WO.q (Y.move (v := .tuple _) rfl) ?_
 refine WO.q (Y.extract (v := .slice _ _ _) rfl rfl) ?_
 refine WO.q (Y.extract (v := .bool _) rfl rfl) ?_
 refine WO.q (Y.extract (v := .int .i64 _) rfl rfl) ?_
 refine WO.q (Y.assign (v := .slice _ _ _) rfl) ?_
 refine WO.q (Y.assign (v := .bool _) rfl) ?_
 refine WO.q (Y.assign (v := .int .i64 _) rfl) ?_
 refine WO.nil ?_
 refine Then.nx ?_
 refine W.seq ?_
 refine W.region rfl ?_
 refine WO.q (Y.move (v := .slice _ _ _) rfl) ?_
 refine WO.q (Y.ixNB (i := 1) sl_22 rfl rfl (by decide)) ?_
 refine WO.q (Y.fieldE fo_58_3 rfl) ?_
 first | refine WO.e0 (O.store (v := .int .i64 _) 0 S rfl rfl rfl sz_2 rfl rfl rfl rfl (fun w S => ?_)) | refine WO.e0 (O.store (v := .int .i64 _) 1 S rfl rfl rfl sz_2 rfl rfl rfl rfl (fun w S => ?_)) | refine WO.e0 (O.store (v := .int .i64 _) 2 S rfl rfl rfl sz_2 rfl rfl rfl rfl (fun w S => ?_)) | refine WO.e0 (O.store (v := .int .i64 _) 3 S rfl rfl rfl sz_2 rfl rfl rfl rfl (fun w S => ?_))
 refine WO.nil ?_
 refine Then.nx ?_
 refine W.seq ?_
 refine W.region rfl ?_
 refine WO.q (Y.move (v := .slice _ _ _) rfl) ?_
 refine WO.e (O.call cf_12 rfl (lives_H8 _ (Lib.tabBelow_of_tabIs htab _ S.ext) _ _ (S.reads 1 rfl (Reads.all (T := tCall) (livesH 8)))) ?_)
 rintro _ w ⟨a53, c53, rfl, S2⟩
 replace S := S.trans S2
 refine ⟨_, rfl, ?_⟩
 refine WO.q (Y.move (v := .tuple _) rfl) ?_
 refine WO.q (Y.extract (v := .slice _ _ _) rfl rfl) ?_
 refine WO.q (Y.extract (v := .bool _) rfl rfl) ?_
 refine WO.q (Y.extract (v := .int .i64 _) rfl rfl) ?_
 refine WO.q (Y.assign (v := .slice _ _ _) rfl) ?_
 refine WO.q (Y.assign (v := .bool _) rfl) ?_
 refine WO.q (Y.assign (v := .int .i64 _) rfl) ?_
 refine WO.nil ?_
 refine Then.nx ?_
 refine W.seq ?_
 have ha31 := (S.rd 4 rfl).1 (by decide)
 have hx1 : ([⟨0, 2⟩] : List GRace)[0]? = some ⟨0, 2⟩ := rfl
 refine W.region rfl ?_
 refine WO.q (Y.move (v := .int .i64 _) rfl) ?_
 refine WO.q (Y.eql rfl rfl) ?_
 refine WO.q (Y.move (v := .bool _) rfl) ?_
 refine WO.splitB (fun h1 => ?_) (fun h1 => ?_)
 ·
  (try simp only [Q1, Q2, Q3, Q4, Q5, Q6, Q7, Q8, Q9, Qa] at h1)
  refine WO.qT rfl (Y.move (v := .int .i64 _) rfl) ?_
  refine WO.qT rfl (Y.eql rfl rfl) ?_
  refine WO.q (Y.pickT (u := .bool _) rfl rfl) ?_
  refine WO.q (Y.move (v := .bool _) rfl) ?_
  refine WO.splitB (fun h2 => ?_) (fun h2 => ?_)
  ·
   (try simp only [Q1, Q2, Q3, Q4, Q5, Q6, Q7, Q8, Q9, Qa] at h2)
   refine WO.qT rfl (Y.move (v := .int .i64 _) rfl) ?_
   refine WO.qT rfl (Y.eql rfl rfl) ?_
   refine WO.q (Y.pickT (u := .bool _) rfl rfl) ?_
   refine WO.q (Y.move (v := .bool _) rfl) ?_
   refine WO.splitB (fun h3 => ?_) (fun h3 => ?_)
   ·
    (try simp only [Q1, Q2, Q3, Q4, Q5, Q6, Q7, Q8, Q9, Qa] at h3)
    refine WO.qT rfl (Y.move (v := .int .i64 _) rfl) ?_
    refine WO.qT rfl (Y.eql rfl rfl) ?_
    refine WO.q (Y.pickT (u := .bool _) rfl rfl) ?_
    refine WO.q (Y.move (v := .bool _) rfl) ?_
    refine WO.splitB (fun h4 => ?_) (fun h4 => ?_)
    ·
     (try simp only [Q1, Q2, Q3, Q4, Q5, Q6, Q7, Q8, Q9, Qa] at h4)
     refine WO.qT rfl (Y.move (v := .slice _ _ _) rfl) ?_
     refine WO.qT rfl (Y.len (t' := 0) Tryd.underlying79 rfl) ?_
     refine WO.qT rfl (Y.eql rfl rfl) ?_
     refine WO.q (Y.pickT (u := .bool _) rfl rfl) ?_
     refine WO.q (Y.move (v := .bool _) rfl) ?_
     refine WO.splitB (fun h5 => ?_) (fun h5 => ?_)
     ·
      (try simp only [Q1, Q2, Q3, Q4, Q5, Q6, Q7, Q8, Q9, Qa] at h5)
      refine WO.qT rfl (Y.move (v := .slice _ _ _) rfl) ?_
      refine WO.qT rfl (Y.ix sl_79 rfl rfl ha31 (by decide) (by decide)) ?_
      first | refine WO.qT rfl (Y.load rfl (loadRdN sz_87 (S.rd 0 rfl) (by assumption))) ?_ | refine WO.qT rfl (Y.load rfl (loadRdN sz_87 (S.rd 1 rfl) (by assumption))) ?_ | refine WO.qT rfl (Y.load rfl (loadRdN sz_87 (S.rd 2 rfl) (by assumption))) ?_ | refine WO.qT rfl (Y.load rfl (loadRdN sz_87 (S.rd 3 rfl) (by assumption))) ?_ | refine WO.qT rfl (Y.load rfl (loadRdN sz_87 (S.rd 4 rfl) (by assumption))) ?_
      refine WO.qT rfl (Y.build rfl (bld_87_1)) ?_
      first | refine WO.qT rfl (Y.eqlA eqt_87 rfl rfl) ?_ | refine WO.qT rfl (Y.eqlA (x := (⟨0, 2⟩ : GRace)) (y := ⟨0, 2⟩) eqt_87 rfl rfl) ?_
      refine WO.q (Y.pickT (u := .bool _) rfl rfl) ?_
      refine WO.q (Y.move (v := .bool _) rfl) ?_
      refine WO.splitB (fun h6 => ?_) (fun h6 => ?_)
      ·
       (try simp only [Q1, Q2, Q3, Q4, Q5, Q6, Q7, Q8, Q9, Qa] at h6)
       refine WO.qT rfl (Y.move (v := .slice _ _ _) rfl) ?_
       refine WO.qT rfl (Y.len (t' := 0) Tryd.underlying79 rfl) ?_
       refine WO.qT rfl (Y.eql rfl rfl) ?_
       refine WO.q (Y.pickT (u := .bool _) rfl rfl) ?_
       refine WO.q (Y.move (v := .bool _) rfl) ?_
       refine WO.splitB (fun h7 => ?_) (fun h7 => ?_)
       ·
        (try simp only [Q1, Q2, Q3, Q4, Q5, Q6, Q7, Q8, Q9, Qa] at h7)
        refine WO.qT rfl (Y.move (v := .bool _) rfl) ?_
        refine WO.q (Y.pickT (u := .bool _) rfl rfl) ?_
        refine WO.q (Y.move (v := .bool _) rfl) ?_
        refine WO.splitB (fun h8 => ?_) (fun h8 => ?_)
        ·
         (try simp only [Q1, Q2, Q3, Q4, Q5, Q6, Q7, Q8, Q9, Qa] at h8)
         refine WO.qT rfl (Y.move (v := .bool _) rfl) ?_
         refine WO.qT rfl (Y.not rfl) ?_
         refine WO.q (Y.pickT (u := .bool _) rfl rfl) ?_
         refine WO.q (Y.move (v := .bool _) rfl) ?_
         refine WO.splitB (fun h9 => ?_) (fun h9 => ?_)
         ·
          (try simp only [Q1, Q2, Q3, Q4, Q5, Q6, Q7, Q8, Q9, Qa] at h9)
          refine WO.qT rfl (Y.move (v := .slice _ _ _) rfl) ?_
          refine WO.qT rfl (Y.len (t' := 0) Tryd.underlying27 rfl) ?_
          refine WO.qT rfl (Y.eql rfl rfl) ?_
          refine WO.q (Y.pickT (u := .bool _) rfl rfl) ?_
          refine WO.q (Y.assign (v := .bool _) rfl) ?_
          refine WO.nil ?_
          refine Then.nx ?_
          refine W.ret ?_
          refine BodyQ.ret1 Tryd.results10 (ResV.tmp _ rfl) ?_
          first | contradiction | (exfalso; omega) | exact ⟨rfl, S.ext⟩ | (exfalso; simp_all; done)
         ·
          (try simp only [Q1, Q2, Q3, Q4, Q5, Q6, Q7, Q8, Q9, Qa] at h9)
          refine WO.qF rfl ?_
          refine WO.qF rfl ?_
          refine WO.qF rfl ?_
          refine WO.q (Y.pickF (u := .bool _) rfl rfl) ?_
          refine WO.q (Y.assign (v := .bool _) rfl) ?_
          refine WO.nil ?_
          refine Then.nx ?_
          refine W.ret ?_
          refine BodyQ.ret1 Tryd.results10 (ResV.tmp _ rfl) ?_
          first | contradiction | (exfalso; omega) | exact ⟨rfl, S.ext⟩ | (exfalso; simp_all; done)
        ·
         (try simp only [Q1, Q2, Q3, Q4, Q5, Q6, Q7, Q8, Q9, Qa] at h8)
         refine WO.qF rfl ?_
         refine WO.qF rfl ?_
         refine WO.q (Y.pickF (u := .bool _) rfl rfl) ?_
         refine WO.q (Y.move (v := .bool _) rfl) ?_
         refine WO.qF rfl ?_
         refine WO.qF rfl ?_
         refine WO.qF rfl ?_
         refine WO.q (Y.pickF (u := .bool _) rfl rfl) ?_
         refine WO.q (Y.assign (v := .bool _) rfl) ?_
         refine WO.nil ?_
         refine Then.nx ?_
         refine W.ret ?_
         refine BodyQ.ret1 Tryd.results10 (ResV.tmp _ rfl) ?_
         first | contradiction | (exfalso; omega) | exact ⟨rfl, S.ext⟩ | (exfalso; simp_all; done)
       ·
        (try simp only [Q1, Q2, Q3, Q4, Q5, Q6, Q7, Q8, Q9, Qa] at h7)
        refine WO.qF rfl ?_
        refine WO.q (Y.pickF (u := .bool _) rfl rfl) ?_
        refine WO.q (Y.move (v := .bool _) rfl) ?_
        refine WO.qF rfl ?_
        refine WO.qF rfl ?_
        refine WO.q (Y.pickF (u := .bool _) rfl rfl) ?_
        refine WO.q (Y.move (v := .bool _) rfl) ?_
        refine WO.qF rfl ?_
        refine WO.qF rfl ?_
        refine WO.qF rfl ?_
        refine WO.q (Y.pickF (u := .bool _) rfl rfl) ?_
        refine WO.q (Y.assign (v := .bool _) rfl) ?_
        refine WO.nil ?_
        refine Then.nx ?_
        refine W.ret ?_
        refine BodyQ.ret1 Tryd.results10 (ResV.tmp _ rfl) ?_
        first | contradiction | (exfalso; omega) | exact ⟨rfl, S.ext⟩ | (exfalso; simp_all; done)
      ·
       (try simp only [Q1, Q2, Q3, Q4, Q5, Q6, Q7, Q8, Q9, Qa] at h6)
       refine WO.qF rfl ?_
       refine WO.qF rfl ?_
       refine WO.qF rfl ?_
       refine WO.q (Y.pickF (u := .bool _) rfl rfl) ?_
       refine WO.q (Y.move (v := .bool _) rfl) ?_
       refine WO.qF rfl ?_
       refine WO.q (Y.pickF (u := .bool _) rfl rfl) ?_
       refine WO.q (Y.move (v := .bool _) rfl) ?_
       refine WO.qF rfl ?_
       refine WO.qF rfl ?_
       refine WO.q (Y.pickF (u := .bool _) rfl rfl) ?_
       refine WO.q (Y.move (v := .bool _) rfl) ?_
       refine WO.qF rfl ?_
       refine WO.qF rfl ?_
       refine WO.qF rfl ?_
       refine WO.q (Y.pickF (u := .bool _) rfl rfl) ?_
       refine WO.q (Y.assign (v := .bool _) rfl) ?_
       refine WO.nil ?_
       refine Then.nx ?_
       refine W.ret ?_
       refine BodyQ.ret1 Tryd.results10 (ResV.tmp _ rfl) ?_
       first | contradiction | (exfalso; omega) | exact ⟨rfl, S.ext⟩ | (exfalso; simp_all; done)
     ·
      (try simp only [Q1, Q2, Q3, Q4, Q5, Q6, Q7, Q8, Q9, Qa] at h5)
      refine WO.qF rfl ?_
      refine WO.qF rfl ?_
      refine WO.qF rfl ?_
      refine WO.qF rfl ?_
      refine WO.qF rfl ?_
      refine WO.q (Y.pickF (u := .bool _) rfl rfl) ?_
      refine WO.q (Y.move (v := .bool _) rfl) ?_
      refine WO.qF rfl ?_
      refine WO.qF rfl ?_
      refine WO.qF rfl ?_
      refine WO.q (Y.pickF (u := .bool _) rfl rfl) ?_
      refine WO.q (Y.move (v := .bool _) rfl) ?_
      refine WO.qF rfl ?_
      refine WO.q (Y.pickF (u := .bool _) rfl rfl) ?_
      refine WO.q (Y.move (v := .bool _) rfl) ?_
      refine WO.qF rfl ?_
      refine WO.qF rfl ?_
      refine WO.q (Y.pickF (u := .bool _) rfl rfl) ?_
      refine WO.q (Y.move (v := .bool _) rfl) ?_
      refine WO.qF rfl ?_
      refine WO.qF rfl ?_
      refine WO.qF rfl ?_
      refine WO.q (Y.pickF (u := .bool _) rfl rfl) ?_
      refine WO.q (Y.assign (v := .bool _) rfl) ?_
      refine WO.nil ?_
      refine Then.nx ?_
      refine W.ret ?_
      refine BodyQ.ret1 Tryd.results10 (ResV.tmp _ rfl) ?_
      first | contradiction | (exfalso; omega) | exact ⟨rfl, S.ext⟩ | (exfalso; simp_all; done)
    ·
     (try simp only [Q1, Q2, Q3, Q4, Q5, Q6, Q7, Q8, Q9, Qa] at h4)
     refine WO.qF rfl ?_
     refine WO.qF rfl ?_
     refine WO.qF rfl ?_
     refine WO.q (Y.pickF (u := .bool _) rfl rfl) ?_
     refine WO.q (Y.move (v := .bool _) rfl) ?_
     refine WO.qF rfl ?_
     refine WO.qF rfl ?_
     refine WO.qF rfl ?_
     refine WO.qF rfl ?_
     refine WO.qF rfl ?_
     refine WO.q (Y.pickF (u := .bool _) rfl rfl) ?_
     refine WO.q (Y.move (v := .bool _) rfl) ?_
     refine WO.qF rfl ?_
     refine WO.qF rfl ?_
     refine WO.qF rfl ?_
     refine WO.q (Y.pickF (u := .bool _) rfl rfl) ?_
     refine WO.q (Y.move (v := .bool _) rfl) ?_
     refine WO.qF rfl ?_
     refine WO.q (Y.pickF (u := .bool _) rfl rfl) ?_
     refine WO.q (Y.move (v := .bool _) rfl) ?_
     refine WO.qF rfl ?_
     refine WO.qF rfl ?_
     refine WO.q (Y.pickF (u := .bool _) rfl rfl) ?_
     refine WO.q (Y.move (v := .bool _) rfl) ?_
     refine WO.qF rfl ?_
     refine WO.qF rfl ?_
     refine WO.qF rfl ?_
     refine WO.q (Y.pickF (u := .bool _) rfl rfl) ?_
     refine WO.q (Y.assign (v := .bool _) rfl) ?_
     refine WO.nil ?_
     refine Then.nx ?_
     refine W.ret ?_
     refine BodyQ.ret1 Tryd.results10 (ResV.tmp _ rfl) ?_
     first | contradiction | (exfalso; omega) | exact ⟨rfl, S.ext⟩ | (exfalso; simp_all; done)
   ·
    (try simp only [Q1, Q2, Q3, Q4, Q5, Q6, Q7, Q8, Q9, Qa] at h3)
    refine WO.qF rfl ?_
    refine WO.qF rfl ?_
    refine WO.q (Y.pickF (u := .bool _) rfl rfl) ?_
    refine WO.q (Y.move (v := .bool _) rfl) ?_
    refine WO.qF rfl ?_
    refine WO.qF rfl ?_
    refine WO.qF rfl ?_
    refine WO.q (Y.pickF (u := .bool _) rfl rfl) ?_
    refine WO.q (Y.move (v := .bool _) rfl) ?_
    refine WO.qF rfl ?_
    refine WO.qF rfl ?_
    refine WO.qF rfl ?_
    refine WO.qF rfl ?_
    refine WO.qF rfl ?_
    refine WO.q (Y.pickF (u := .bool _) rfl rfl) ?_
    refine WO.q (Y.move (v := .bool _) rfl) ?_
    refine WO.qF rfl ?_
    refine WO.qF rfl ?_
    refine WO.qF rfl ?_
    refine WO.q (Y.pickF (u := .bool _) rfl rfl) ?_
    refine WO.q (Y.move (v := .bool _) rfl) ?_
    refine WO.qF rfl ?_
    refine WO.q (Y.pickF (u := .bool _) rfl rfl) ?_
    refine WO.q (Y.move (v := .bool _) rfl) ?_
    refine WO.qF rfl ?_
    refine WO.qF rfl ?_
    refine WO.q (Y.pickF (u := .bool _) rfl rfl) ?_
    refine WO.q (Y.move (v := .bool _) rfl) ?_
    refine WO.qF rfl ?_
    refine WO.qF rfl ?_
    refine WO.qF rfl ?_
    refine WO.q (Y.pickF (u := .bool _) rfl rfl) ?_
    refine WO.q (Y.assign (v := .bool _) rfl) ?_
    refine WO.nil ?_
    refine Then.nx ?_
    refine W.ret ?_
    refine BodyQ.ret1 Tryd.results10 (ResV.tmp _ rfl) ?_
    first | contradiction | (exfalso; omega) | exact ⟨rfl, S.ext⟩ | (exfalso; simp_all; done)
  ·
   (try simp only [Q1, Q2, Q3, Q4, Q5, Q6, Q7, Q8, Q9, Qa] at h2)
   refine WO.qF rfl ?_
   refine WO.qF rfl ?_
   refine WO.q (Y.pickF (u := .bool _) rfl rfl) ?_
   refine WO.q (Y.move (v := .bool _) rfl) ?_
   refine WO.qF rfl ?_
   refine WO.qF rfl ?_
   refine WO.q (Y.pickF (u := .bool _) rfl rfl) ?_
   refine WO.q (Y.move (v := .bool _) rfl) ?_
   refine WO.qF rfl ?_
   refine WO.qF rfl ?_
   refine WO.qF rfl ?_
   refine WO.q (Y.pickF (u := .bool _) rfl rfl) ?_
   refine WO.q (Y.move (v := .bool _) rfl) ?_
   refine WO.qF rfl ?_
   refine WO.qF rfl ?_
   refine WO.qF rfl ?_
   refine WO.qF rfl ?_
   refine WO.qF rfl ?_
   refine WO.q (Y.pickF (u := .bool _) rfl rfl) ?_
   refine WO.q (Y.move (v := .bool _) rfl) ?_
   refine WO.qF rfl ?_
   refine WO.qF rfl ?_
   refine WO.qF rfl ?_
   refine WO.q (Y.pickF (u := .bool _) rfl rfl) ?_
   refine WO.q (Y.move (v := .bool _) rfl) ?_
   refine WO.qF rfl ?_
   refine WO.q (Y.pickF (u := .bool _) rfl rfl) ?_
   refine WO.q (Y.move (v := .bool _) rfl) ?_
   refine WO.qF rfl ?_
   refine WO.qF rfl ?_
   refine WO.q (Y.pickF (u := .bool _) rfl rfl) ?_
   refine WO.q (Y.move (v := .bool _) rfl) ?_
   refine WO.qF rfl ?_
   refine WO.qF rfl ?_
   refine WO.qF rfl ?_
   refine WO.q (Y.pickF (u := .bool _) rfl rfl) ?_
   refine WO.q (Y.assign (v := .bool _) rfl) ?_
   refine WO.nil ?_
   refine Then.nx ?_
   refine W.ret ?_
   refine BodyQ.ret1 Tryd.results10 (ResV.tmp _ rfl) ?_
   first | contradiction | (exfalso; omega) | exact ⟨rfl, S.ext⟩ | (exfalso; simp_all; done)
 ·
  (try simp only [Q1, Q2, Q3, Q4, Q5, Q6, Q7, Q8, Q9, Qa] at h1)
  refine WO.qF rfl ?_
  refine WO.qF rfl ?_
  refine WO.q (Y.pickF (u := .bool _) rfl rfl) ?_
  refine WO.q (Y.move (v := .bool _) rfl) ?_
  refine WO.qF rfl ?_
  refine WO.qF rfl ?_
  refine WO.q (Y.pickF (u := .bool _) rfl rfl) ?_
  refine WO.q (Y.move (v := .bool _) rfl) ?_
  refine WO.qF rfl ?_
  refine WO.qF rfl ?_
  refine WO.q (Y.pickF (u := .bool _) rfl rfl) ?_
  refine WO.q (Y.move (v := .bool _) rfl) ?_
  refine WO.qF rfl ?_
  refine WO.qF rfl ?_
  refine WO.qF rfl ?_
  refine WO.q (Y.pickF (u := .bool _) rfl rfl) ?_
  refine WO.q (Y.move (v := .bool _) rfl) ?_
  refine WO.qF rfl ?_
  refine WO.qF rfl ?_
  refine WO.qF rfl ?_
  refine WO.qF rfl ?_
  refine WO.qF rfl ?_
  refine WO.q (Y.pickF (u := .bool _) rfl rfl) ?_
  refine WO.q (Y.move (v := .bool _) rfl) ?_
  refine WO.qF rfl ?_
  refine WO.qF rfl ?_
  refine WO.qF rfl ?_
  refine WO.q (Y.pickF (u := .bool _) rfl rfl) ?_
  refine WO.q (Y.move (v := .bool _) rfl) ?_
  refine WO.qF rfl ?_
  refine WO.q (Y.pickF (u := .bool _) rfl rfl) ?_
  refine WO.q (Y.move (v := .bool _) rfl) ?_
  refine WO.qF rfl ?_
  refine WO.qF rfl ?_
  refine WO.q (Y.pickF (u := .bool _) rfl rfl) ?_
  refine WO.q (Y.move (v := .bool _) rfl) ?_
  refine WO.qF rfl ?_
  refine WO.qF rfl ?_
  refine WO.qF rfl ?_
  refine WO.q (Y.pickF (u := .bool _) rfl rfl) ?_
  refine WO.q (Y.assign (v := .bool _) rfl) ?_
  refine WO.nil ?_
  refine Then.nx ?_
  refine W.ret ?_
  refine BodyQ.ret1 Tryd.results10 (ResV.tmp _ rfl) ?_
  first | contradiction | (exfalso; omega) | exact ⟨rfl, S.ext⟩ | (exfalso; simp_all; done)
end Go.Proofs
