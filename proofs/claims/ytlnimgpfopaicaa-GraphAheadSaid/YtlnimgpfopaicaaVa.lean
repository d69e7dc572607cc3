/-
  Walks of of, build, skip, kids.
-/
import Derived.Test.YtlnimgpfopaicaaGc
import Derived.Test.YtlnimgpfopaicaaFa
import Derived.Test.YtlnimgpfopaicaaFb
set_option linter.unusedVariables false
set_option linter.unusedSimpArgs false
set_option maxRecDepth 100000
set_option maxHeartbeats 1000000
namespace Go.Proofs
open Go Go.TL Go.RowKit
theorem of_spec (w0 : World) (e : GEnd) :
    Calls Try.prog 33 [endV e].toArray w0 (fun r w => r = .returned (outV 79 82 (ofM e)) ∧ Ext w0 w) := by
 have S := Sat.refl w0
 refine calls_of_W (args := [endV e]) 11 Try.func33 rfl Try.ntmps33 rfl ?_
 refine W.seq ?_
 refine W.region rfl ?_
 first | refine WO.e (O.box (v := .agg #[.int .i8 e.kind, .int .i64 e.n]) rfl rfl S (fun b1 w S => ?_)) | refine WO.e (O.box rfl rfl S (fun b1 w S => ?_))
 first | refine WO.q (Y.assign (v := .iface _ _) rfl) ?_ | refine WO.q (Y.assign (v := .nilIface) rfl) ?_ | refine WO.q (Y.assign (v := outV _ _ _) rfl) ?_
 refine WO.nil ?_
 refine Then.nx ?_
 refine W.seq ?_
 refine W.seq ?_
 refine W.region rfl ?_
 refine WO.q (Y.fieldB fo_30_0 rfl) ?_
 first | refine WO.q (Y.load rfl (loadS1 sz_28 S 0 rfl rfl)) ?_ | refine WO.q (Y.load rfl (loadS1 sz_28 S 1 rfl rfl)) ?_
 refine WO.q (Y.eql rfl rfl) ?_
 refine WO.nil ?_
 refine Then.nx ?_
 refine W.cond rfl (fun h1 => ?_) (fun h1 => ?_) -- cond 0
 ·
  have rh1 := h1
  (try simp only [Q1, Q2, Q3, Q4, Q5, Q6, Q7, Q8, Q9, Qa] at h1)
  refine W.seq ?_
  refine W.region rfl ?_
  refine WO.q (Y.fieldB fo_30_1 rfl) ?_
  first | refine WO.q (Y.load rfl (loadS1 sz_2 S 0 rfl rfl)) ?_ | refine WO.q (Y.load rfl (loadS1 sz_2 S 1 rfl rfl)) ?_
  refine WO.q (Y.mkI (v := .int .i64 _) Try.underlying79 (fun _ hh => by cases hh) rfl) ?_
  first | refine WO.q (Y.assign (v := .iface _ _) rfl) ?_ | refine WO.q (Y.assign (v := .nilIface) rfl) ?_ | refine WO.q (Y.assign (v := outV _ _ _) rfl) ?_
  refine WO.nil ?_
  refine Then.nx ?_
  refine W.ret ?_
  refine Then.r ?_
  refine BodyQ.ret1 Try.results33 (ResV.tmp _ rfl) ?_
  first | exact ⟨by (unfold ofM; rw [if_pos (by omega)]; rfl), S.ext⟩ | exact ⟨by (unfold ofM; rw [if_neg (by omega)]; rfl), S.ext⟩
 ·
  have rh1 := h1
  (try simp only [Q1, Q2, Q3, Q4, Q5, Q6, Q7, Q8, Q9, Qa] at h1)
  refine W.skip ?_
  refine Then.nx ?_
  refine W.seq ?_
  refine W.region rfl ?_
  first | refine WO.q (Y.load rfl (loadSN sz_30 S 0 rfl rfl rfl)) ?_ | refine WO.q (Y.load rfl (loadSN sz_30 S 1 rfl rfl rfl)) ?_
  refine WO.q (Y.mkI (v := .agg _) Try.underlying82 (fun _ hh => by cases hh) rfl) ?_
  first | refine WO.q (Y.assign (v := .iface _ _) rfl) ?_ | refine WO.q (Y.assign (v := .nilIface) rfl) ?_ | refine WO.q (Y.assign (v := outV _ _ _) rfl) ?_
  refine WO.nil ?_
  refine Then.nx ?_
  refine W.ret ?_
  refine BodyQ.ret1 Try.results33 (ResV.tmp _ rfl) ?_
  first | exact ⟨by (unfold ofM; rw [if_pos (by omega)]; rfl), S.ext⟩ | exact ⟨by (unfold ofM; rw [if_neg (by omega)]; rfl), S.ext⟩
theorem build_spec (w0 : World) (m : GMaker) (k : Int) :
    Calls Try.prog 48 [.agg (tMaker.enc m).toArray, .int .i64 k].toArray w0 (fun r w => r = .returned (outV 79 82 (buildM m k)) ∧ Ext w0 w) := by
 have S := Sat.refl w0
 refine calls_of_W (args := [.agg (tMaker.enc m).toArray, .int .i64 k]) 41 Try.func48 rfl Try.ntmps48 rfl ?_
 refine W.seq ?_
 refine W.region rfl ?_
 refine WO.e (O.box rfl rfl S (fun b2 w S => ?_))
 first | refine WO.q (Y.assign (v := .iface _ _) rfl) ?_ | refine WO.q (Y.assign (v := .nilIface) rfl) ?_ | refine WO.q (Y.assign (v := outV _ _ _) rfl) ?_
 refine WO.nil ?_
 refine Then.nx ?_
 refine W.seq ?_
 refine W.block ?_
 refine W.seq ?_
 refine W.region rfl ?_
 refine WO.q (Y.fieldB fo_27_3 rfl) ?_
 first | refine WO.q (Y.load rfl (loadS1 sz_2 S 0 rfl rfl)) ?_ | refine WO.q (Y.load rfl (loadS1 sz_2 S 1 rfl rfl)) ?_
 refine WO.q (Y.gtr rfl rfl) ?_
 refine WO.q (Y.move (v := .bool _) rfl) ?_
 refine WO.splitB (fun h1 => ?_) (fun h1 => ?_)
 ·
  (try simp only [Q1, Q2, Q3, Q4, Q5, Q6, Q7, Q8, Q9, Qa] at h1)
  refine WO.qT rfl (Y.move (v := .int .i64 _) rfl) ?_
  refine WO.qT rfl (Y.fieldB fo_27_3 rfl) ?_
  first | refine WO.qT rfl (Y.load rfl (loadS1 sz_2 S 0 rfl rfl)) ?_ | refine WO.qT rfl (Y.load rfl (loadS1 sz_2 S 1 rfl rfl)) ?_
  refine WO.qT rfl (Y.rem rfl rfl (by omega)) ?_
  refine WO.qT rfl (Y.eql rfl rfl) ?_
  refine WO.q (Y.pickT (u := .bool _) rfl rfl) ?_
  refine WO.q (Y.assign (v := .bool _) rfl) ?_
  refine WO.nil ?_
  refine Then.nx ?_
  refine W.cond rfl (fun h2 => ?_) (fun h2 => ?_) -- cond 0
  ·
   have rh2 := h2
   (try simp only [Q1, Q2, Q3, Q4, Q5, Q6, Q7, Q8, Q9, Qa] at h2)
   refine W.seq ?_
   refine W.region rfl ?_
   refine WO.q (Y.move (v := .int .i64 _) rfl) ?_
   refine WO.q (Y.build rfl (bld_82_0_1)) ?_
   refine WO.q (Y.mkI (v := .agg _) Try.underlying82 (fun _ hh => by cases hh) rfl) ?_
   first | refine WO.q (Y.assign (v := .iface _ _) rfl) ?_ | refine WO.q (Y.assign (v := .nilIface) rfl) ?_ | refine WO.q (Y.assign (v := outV _ _ _) rfl) ?_
   refine WO.nil ?_
   refine Then.nx ?_
   refine W.ret ?_
   refine InB.r ?_
   refine Then.r ?_
   refine BodyQ.ret1 Try.results48 (ResV.tmp _ rfl) ?_
   first | exact ⟨by (unfold buildM; rw [if_pos (by (constructor <;> assumption))]; rfl), S.ext⟩ | exact ⟨by (unfold buildM; rw [if_neg (by (rintro ⟨ha, hb⟩; first | omega | contradiction)), if_pos (by (constructor <;> assumption))]; rfl), S.ext⟩ | exact ⟨by (unfold buildM; rw [if_neg (by (rintro ⟨ha, hb⟩; first | omega | contradiction)), if_neg (by (rintro ⟨ha, hb⟩; first | omega | contradiction))]; rfl), S.ext⟩
  ·
   have rh2 := h2
   (try simp only [Q1, Q2, Q3, Q4, Q5, Q6, Q7, Q8, Q9, Qa] at h2)
   refine W.seq ?_
   refine W.region rfl ?_
   refine WO.q (Y.fieldB fo_27_2 rfl) ?_
   first | refine WO.q (Y.load rfl (loadS1 sz_2 S 0 rfl rfl)) ?_ | refine WO.q (Y.load rfl (loadS1 sz_2 S 1 rfl rfl)) ?_
   refine WO.q (Y.gtr rfl rfl) ?_
   refine WO.q (Y.move (v := .bool _) rfl) ?_
   refine WO.splitB (fun h3 => ?_) (fun h3 => ?_)
   ·
    (try simp only [Q1, Q2, Q3, Q4, Q5, Q6, Q7, Q8, Q9, Qa] at h3)
    refine WO.qT rfl (Y.move (v := .int .i64 _) rfl) ?_
    refine WO.qT rfl (Y.fieldB fo_27_2 rfl) ?_
    first | refine WO.qT rfl (Y.load rfl (loadS1 sz_2 S 0 rfl rfl)) ?_ | refine WO.qT rfl (Y.load rfl (loadS1 sz_2 S 1 rfl rfl)) ?_
    refine WO.qT rfl (Y.rem rfl rfl (by omega)) ?_
    refine WO.qT rfl (Y.eql rfl rfl) ?_
    refine WO.q (Y.pickT (u := .bool _) rfl rfl) ?_
    refine WO.q (Y.assign (v := .bool _) rfl) ?_
    refine WO.nil ?_
    refine Then.nx ?_
    refine W.cond rfl (fun h4 => ?_) (fun h4 => ?_) -- cond 1
    ·
     have rh4 := h4
     (try simp only [Q1, Q2, Q3, Q4, Q5, Q6, Q7, Q8, Q9, Qa] at h4)
     refine W.seq ?_
     refine W.region rfl ?_
     refine WO.q (Y.move (v := .int .i64 _) rfl) ?_
     refine WO.q (Y.build rfl (bld_82_0_1)) ?_
     refine WO.q (Y.mkI (v := .agg _) Try.underlying82 (fun _ hh => by cases hh) rfl) ?_
     first | refine WO.q (Y.assign (v := .iface _ _) rfl) ?_ | refine WO.q (Y.assign (v := .nilIface) rfl) ?_ | refine WO.q (Y.assign (v := outV _ _ _) rfl) ?_
     refine WO.nil ?_
     refine Then.nx ?_
     refine W.ret ?_
     refine InB.r ?_
     refine Then.r ?_
     refine BodyQ.ret1 Try.results48 (ResV.tmp _ rfl) ?_
     first | exact ⟨by (unfold buildM; rw [if_pos (by (constructor <;> assumption))]; rfl), S.ext⟩ | exact ⟨by (unfold buildM; rw [if_neg (by (rintro ⟨ha, hb⟩; first | omega | contradiction)), if_pos (by (constructor <;> assumption))]; rfl), S.ext⟩ | exact ⟨by (unfold buildM; rw [if_neg (by (rintro ⟨ha, hb⟩; first | omega | contradiction)), if_neg (by (rintro ⟨ha, hb⟩; first | omega | contradiction))]; rfl), S.ext⟩
    ·
     have rh4 := h4
     (try simp only [Q1, Q2, Q3, Q4, Q5, Q6, Q7, Q8, Q9, Qa] at h4)
     refine W.skip ?_
     refine InB.nx ?_
     refine Then.nx ?_
     refine W.seq ?_
     refine W.region rfl ?_
     refine WO.q (Y.move (v := .int .i64 _) rfl) ?_
     refine WO.q (Y.fieldB fo_27_0 rfl) ?_
     first | refine WO.q (Y.load rfl (loadS1 sz_2 S 0 rfl rfl)) ?_ | refine WO.q (Y.load rfl (loadS1 sz_2 S 1 rfl rfl)) ?_
     refine WO.q (Y.mul rfl rfl) ?_
     refine WO.q (Y.fieldB fo_27_1 rfl) ?_
     first | refine WO.q (Y.load rfl (loadS1 sz_2 S 0 rfl rfl)) ?_ | refine WO.q (Y.load rfl (loadS1 sz_2 S 1 rfl rfl)) ?_
     refine WO.q (Y.add rfl rfl) ?_
     refine WO.q (Y.mkI (v := .int .i64 _) Try.underlying79 (fun _ hh => by cases hh) rfl) ?_
     first | refine WO.q (Y.assign (v := .iface _ _) rfl) ?_ | refine WO.q (Y.assign (v := .nilIface) rfl) ?_ | refine WO.q (Y.assign (v := outV _ _ _) rfl) ?_
     refine WO.nil ?_
     refine Then.nx ?_
     refine W.ret ?_
     refine BodyQ.ret1 Try.results48 (ResV.tmp _ rfl) ?_
     first | exact ⟨by (unfold buildM; rw [if_pos (by (constructor <;> assumption))]; rfl), S.ext⟩ | exact ⟨by (unfold buildM; rw [if_neg (by (rintro ⟨ha, hb⟩; first | omega | contradiction)), if_pos (by (constructor <;> assumption))]; rfl), S.ext⟩ | exact ⟨by (unfold buildM; rw [if_neg (by (rintro ⟨ha, hb⟩; first | omega | contradiction)), if_neg (by (rintro ⟨ha, hb⟩; first | omega | contradiction))]; rfl), S.ext⟩
   ·
    (try simp only [Q1, Q2, Q3, Q4, Q5, Q6, Q7, Q8, Q9, Qa] at h3)
    refine WO.qF rfl ?_
    refine WO.qF rfl ?_
    refine WO.qF rfl ?_
    refine WO.qF rfl ?_
    refine WO.qF rfl ?_
    refine WO.q (Y.pickF (u := .bool _) rfl rfl) ?_
    refine WO.q (Y.assign (v := .bool _) rfl) ?_
    refine WO.nil ?_
    refine Then.nx ?_
    first | refine W.condF rfl ?_ | refine W.condF (congrArg Value.bool (by assumption)) ?_
    refine W.skip ?_
    refine InB.nx ?_
    refine Then.nx ?_
    refine W.seq ?_
    refine W.region rfl ?_
    refine WO.q (Y.move (v := .int .i64 _) rfl) ?_
    refine WO.q (Y.fieldB fo_27_0 rfl) ?_
    first | refine WO.q (Y.load rfl (loadS1 sz_2 S 0 rfl rfl)) ?_ | refine WO.q (Y.load rfl (loadS1 sz_2 S 1 rfl rfl)) ?_
    refine WO.q (Y.mul rfl rfl) ?_
    refine WO.q (Y.fieldB fo_27_1 rfl) ?_
    first | refine WO.q (Y.load rfl (loadS1 sz_2 S 0 rfl rfl)) ?_ | refine WO.q (Y.load rfl (loadS1 sz_2 S 1 rfl rfl)) ?_
    refine WO.q (Y.add rfl rfl) ?_
    refine WO.q (Y.mkI (v := .int .i64 _) Try.underlying79 (fun _ hh => by cases hh) rfl) ?_
    first | refine WO.q (Y.assign (v := .iface _ _) rfl) ?_ | refine WO.q (Y.assign (v := .nilIface) rfl) ?_ | refine WO.q (Y.assign (v := outV _ _ _) rfl) ?_
    refine WO.nil ?_
    refine Then.nx ?_
    refine W.ret ?_
    refine BodyQ.ret1 Try.results48 (ResV.tmp _ rfl) ?_
    first | exact ⟨by (unfold buildM; rw [if_pos (by (constructor <;> assumption))]; rfl), S.ext⟩ | exact ⟨by (unfold buildM; rw [if_neg (by (rintro ⟨ha, hb⟩; first | omega | contradiction)), if_pos (by (constructor <;> assumption))]; rfl), S.ext⟩ | exact ⟨by (unfold buildM; rw [if_neg (by (rintro ⟨ha, hb⟩; first | omega | contradiction)), if_neg (by (rintro ⟨ha, hb⟩; first | omega | contradiction))]; rfl), S.ext⟩
 ·
  (try simp only [Q1, Q2, Q3, Q4, Q5, Q6, Q7, Q8, Q9, Qa] at h1)
  refine WO.qF rfl ?_
  refine WO.qF rfl ?_
  refine WO.qF rfl ?_
  refine WO.qF rfl ?_
  refine WO.qF rfl ?_
  refine WO.q (Y.pickF (u := .bool _) rfl rfl) ?_
  refine WO.q (Y.assign (v := .bool _) rfl) ?_
  refine WO.nil ?_
  refine Then.nx ?_
  first | refine W.condF rfl ?_ | refine W.condF (congrArg Value.bool (by assumption)) ?_
  refine W.seq ?_
  refine W.region rfl ?_
  refine WO.q (Y.fieldB fo_27_2 rfl) ?_
  first | refine WO.q (Y.load rfl (loadS1 sz_2 S 0 rfl rfl)) ?_ | refine WO.q (Y.load rfl (loadS1 sz_2 S 1 rfl rfl)) ?_
  refine WO.q (Y.gtr rfl rfl) ?_
  refine WO.q (Y.move (v := .bool _) rfl) ?_
  refine WO.splitB (fun h5 => ?_) (fun h5 => ?_)
  ·
   (try simp only [Q1, Q2, Q3, Q4, Q5, Q6, Q7, Q8, Q9, Qa] at h5)
   refine WO.qT rfl (Y.move (v := .int .i64 _) rfl) ?_
   refine WO.qT rfl (Y.fieldB fo_27_2 rfl) ?_
   first | refine WO.qT rfl (Y.load rfl (loadS1 sz_2 S 0 rfl rfl)) ?_ | refine WO.qT rfl (Y.load rfl (loadS1 sz_2 S 1 rfl rfl)) ?_
   refine WO.qT rfl (Y.rem rfl rfl (by omega)) ?_
   refine WO.qT rfl (Y.eql rfl rfl) ?_
   refine WO.q (Y.pickT (u := .bool _) rfl rfl) ?_
   refine WO.q (Y.assign (v := .bool _) rfl) ?_
   refine WO.nil ?_
   refine Then.nx ?_
   refine W.cond rfl (fun h6 => ?_) (fun h6 => ?_) -- cond 2
   ·
    have rh6 := h6
    (try simp only [Q1, Q2, Q3, Q4, Q5, Q6, Q7, Q8, Q9, Qa] at h6)
    refine W.seq ?_
    refine W.region rfl ?_
    refine WO.q (Y.move (v := .int .i64 _) rfl) ?_
    refine WO.q (Y.build rfl (bld_82_0_1)) ?_
    refine WO.q (Y.mkI (v := .agg _) Try.underlying82 (fun _ hh => by cases hh) rfl) ?_
    first | refine WO.q (Y.assign (v := .iface _ _) rfl) ?_ | refine WO.q (Y.assign (v := .nilIface) rfl) ?_ | refine WO.q (Y.assign (v := outV _ _ _) rfl) ?_
    refine WO.nil ?_
    refine Then.nx ?_
    refine W.ret ?_
    refine InB.r ?_
    refine Then.r ?_
    refine BodyQ.ret1 Try.results48 (ResV.tmp _ rfl) ?_
    first | exact ⟨by (unfold buildM; rw [if_pos (by (constructor <;> assumption))]; rfl), S.ext⟩ | exact ⟨by (unfold buildM; rw [if_neg (by (rintro ⟨ha, hb⟩; first | omega | contradiction)), if_pos (by (constructor <;> assumption))]; rfl), S.ext⟩ | exact ⟨by (unfold buildM; rw [if_neg (by (rintro ⟨ha, hb⟩; first | omega | contradiction)), if_neg (by (rintro ⟨ha, hb⟩; first | omega | contradiction))]; rfl), S.ext⟩
   ·
    have rh6 := h6
    (try simp only [Q1, Q2, Q3, Q4, Q5, Q6, Q7, Q8, Q9, Qa] at h6)
    refine W.skip ?_
    refine InB.nx ?_
    refine Then.nx ?_
    refine W.seq ?_
    refine W.region rfl ?_
    refine WO.q (Y.move (v := .int .i64 _) rfl) ?_
    refine WO.q (Y.fieldB fo_27_0 rfl) ?_
    first | refine WO.q (Y.load rfl (loadS1 sz_2 S 0 rfl rfl)) ?_ | refine WO.q (Y.load rfl (loadS1 sz_2 S 1 rfl rfl)) ?_
    refine WO.q (Y.mul rfl rfl) ?_
    refine WO.q (Y.fieldB fo_27_1 rfl) ?_
    first | refine WO.q (Y.load rfl (loadS1 sz_2 S 0 rfl rfl)) ?_ | refine WO.q (Y.load rfl (loadS1 sz_2 S 1 rfl rfl)) ?_
    refine WO.q (Y.add rfl rfl) ?_
    refine WO.q (Y.mkI (v := .int .i64 _) Try.underlying79 (fun _ hh => by cases hh) rfl) ?_
    first | refine WO.q (Y.assign (v := .iface _ _) rfl) ?_ | refine WO.q (Y.assign (v := .nilIface) rfl) ?_ | refine WO.q (Y.assign (v := outV _ _ _) rfl) ?_
    refine WO.nil ?_
    refine Then.nx ?_
    refine W.ret ?_
    refine BodyQ.ret1 Try.results48 (ResV.tmp _ rfl) ?_
    first | exact ⟨by (unfold buildM; rw [if_pos (by (constructor <;> assumption))]; rfl), S.ext⟩ | exact ⟨by (unfold buildM; rw [if_neg (by (rintro ⟨ha, hb⟩; first | omega | contradiction)), if_pos (by (constructor <;> assumption))]; rfl), S.ext⟩ | exact ⟨by (unfold buildM; rw [if_neg (by (rintro ⟨ha, hb⟩; first | omega | contradiction)), if_neg (by (rintro ⟨ha, hb⟩; first | omega | contradiction))]; rfl), S.ext⟩
  ·
   (try simp only [Q1, Q2, Q3, Q4, Q5, Q6, Q7, Q8, Q9, Qa] at h5)
   refine WO.qF rfl ?_
   refine WO.qF rfl ?_
   refine WO.qF rfl ?_
   refine WO.qF rfl ?_
   refine WO.qF rfl ?_
   refine WO.q (Y.pickF (u := .bool _) rfl rfl) ?_
   refine WO.q (Y.assign (v := .bool _) rfl) ?_
   refine WO.nil ?_
   refine Then.nx ?_
   first | refine W.condF rfl ?_ | refine W.condF (congrArg Value.bool (by assumption)) ?_
   refine W.skip ?_
   refine InB.nx ?_
   refine Then.nx ?_
   refine W.seq ?_
   refine W.region rfl ?_
   refine WO.q (Y.move (v := .int .i64 _) rfl) ?_
   refine WO.q (Y.fieldB fo_27_0 rfl) ?_
   first | refine WO.q (Y.load rfl (loadS1 sz_2 S 0 rfl rfl)) ?_ | refine WO.q (Y.load rfl (loadS1 sz_2 S 1 rfl rfl)) ?_
   refine WO.q (Y.mul rfl rfl) ?_
   refine WO.q (Y.fieldB fo_27_1 rfl) ?_
   first | refine WO.q (Y.load rfl (loadS1 sz_2 S 0 rfl rfl)) ?_ | refine WO.q (Y.load rfl (loadS1 sz_2 S 1 rfl rfl)) ?_
   refine WO.q (Y.add rfl rfl) ?_
   refine WO.q (Y.mkI (v := .int .i64 _) Try.underlying79 (fun _ hh => by cases hh) rfl) ?_
   first | refine WO.q (Y.assign (v := .iface _ _) rfl) ?_ | refine WO.q (Y.assign (v := .nilIface) rfl) ?_ | refine WO.q (Y.assign (v := outV _ _ _) rfl) ?_
   refine WO.nil ?_
   refine Then.nx ?_
   refine W.ret ?_
   refine BodyQ.ret1 Try.results48 (ResV.tmp _ rfl) ?_
   first | exact ⟨by (unfold buildM; rw [if_pos (by (constructor <;> assumption))]; rfl), S.ext⟩ | exact ⟨by (unfold buildM; rw [if_neg (by (rintro ⟨ha, hb⟩; first | omega | contradiction)), if_pos (by (constructor <;> assumption))]; rfl), S.ext⟩ | exact ⟨by (unfold buildM; rw [if_neg (by (rintro ⟨ha, hb⟩; first | omega | contradiction)), if_neg (by (rintro ⟨ha, hb⟩; first | omega | contradiction))]; rfl), S.ext⟩
theorem skip_spec (w0 : World) (b : Nat) (v : WIn) (l : List GNode) (es : List GEnd) (m : GMaker) (p : Nat) (t : Tr) (post : List GNode) (Wk : RdWalk 61 w0 b v l es m) (hp : l.drop p = flat t ++ post) (hf : fitT t) :
    Calls Try.prog 47 [.pointer (some ⟨b, 0, none⟩), .int .i64 (p : Int)].toArray w0 (fun r w => r = .returned (.int .i64 ((p + (flat t).length : Nat) : Int)) ∧ Ext w0 w) := by
 have S := Sat.refl w0
 have hsm := Wk.small
 have hpl : p + (flat t).length ≤ l.length := by (have h1 := congrArg List.length hp; rw [List.length_drop, List.length_append] at h1; have h2 := flat_pos t; omega)
 refine calls_of_W (args := [.pointer (some ⟨b, 0, none⟩), .int .i64 (p : Int)]) 22 Try.func47 rfl Try.ntmps47 rfl ?_
 refine W.seq ?_
 refine W.region rfl ?_
 refine WO.q (Y.assign (v := .int .i64 _) rfl) ?_
 refine WO.nil ?_
 refine Then.nx ?_
 refine W.seq ?_
 refine W.seq ?_
 refine W.region rfl ?_
 refine WO.q (Y.assign (v := .int .i64 _) rfl) ?_
 refine WO.nil ?_
 refine Then.nx ?_
 refine W.block ?_
 -- loop 0 carries 1:at, 5:left
 refine W.loop2 [1, 5, 6, 7, 8, 9, 10, 11, 12, 13, 14, 15, 16, 17, 18, 19, 20] 1 5 (fun v1 v5 w => ∃ (i : Nat) (ts : List Tr), v1 = .int .i64 (i : Int) ∧ v5 = .int .i64 (ts.length : Int) ∧ l.drop i = flats ts ++ post ∧ fitTs ts ∧ i + (flats ts).length = p + (flat t).length ∧ Sat w0 w []) (fun v1 v5 w => p + (flat t).length - (intOf v1).toNat) ?_ ?_
 ·
  exact ⟨p, [t], rfl, rfl, by (rw [hp]; simp [flats]), by (rw [fitTs]; exact ⟨hf, by (rw [fitTs]; trivial)⟩), by simp [flats], S⟩
 ·
  rintro g0 v1 v5 w ⟨i, ts, rfl, rfl, hd, hfs, hie, S⟩
  refine W.seq ?_
  refine W.seq ?_
  refine W.region rfl ?_
  refine WO.q (Y.move (v := .int .i64 _) rfl) ?_
  refine WO.q (Y.gtr rfl rfl) ?_
  refine WO.nil ?_
  refine Then.nx ?_
  refine W.cond rfl (fun h1 => ?_) (fun h1 => ?_) -- cond 0
  ·
   have rh1 := h1
   (try simp only [Q1, Q2, Q3, Q4, Q5, Q6, Q7, Q8, Q9, Qa] at h1)
   refine W.skip ?_
   refine Then.nx ?_
   refine W.seq ?_
   refine W.block ?_
   obtain ⟨u, us, rfl⟩ := cons_pos (l := ts) (by omega)
   obtain ⟨n, ks⟩ := u
   rw [fitTs, fitT] at hfs
   obtain ⟨⟨hnk, hfk⟩, hfu⟩ := hfs
   have hl0 : l[i]? = some n := drop_at (r := flats ks ++ flats us ++ post) (by (rw [hd]; simp [flats, flat]))
   have hil := at_lt hl0
   have ha := Wk.tree.1 (by omega)
   have hd2 : l.drop (i + 1) = flats (ks ++ us) ++ post := by (rw [← List.drop_drop, hd, flats_append]; simp [flats, flat])
   have hc2 : (flats (Tr.node n ks :: us)).length = 1 + (flats (ks ++ us)).length := by (rw [flats_append]; simp only [flats, flat, List.length_append, List.length_cons]; omega)
   have hg1 := flats_ge (ks ++ us)
   rw [List.length_append] at hg1
   have hlu : (Tr.node n ks :: us).length = us.length + 1 := rfl
   refine W.region rfl ?_
   refine WO.q (Y.move (v := .int .i64 _) rfl) ?_
   first | refine WO.q (Y.move (v := .pointer (some _)) rfl) ?_ | refine WO.q (Y.move (v := .pointer _) rfl) ?_
   refine WO.q (Y.nilP rfl) ?_
   first | refine WO.q (Y.fieldB fo_61_0 rfl) ?_ | refine WO.q (Y.fieldE fo_61_0 rfl) ?_
   first | refine WO.q (Y.load rfl (loadB1 sz_49 (S.ext.heap Wk.blk) rfl)) ?_ | refine WO.q (Y.load rfl (loadS1 sz_49 S 0 rfl rfl)) ?_ | refine WO.q (Y.load rfl (loadRdF sz_49 (Wk.tree.ext S.ext) (by assumption) rfl)) ?_ | refine WO.q (Y.load rfl (loadRd1 sz_49 (Wk.tree.ext S.ext) (by assumption) rfl)) ?_
   refine WO.q (Y.move (v := .int .i64 _) rfl) ?_
   first | refine WO.q (Y.ixN sl_49 rfl rfl (by (first | assumption | rfl)) (by (first | assumption | omega))) ?_ | refine WO.q (Y.ix sl_49 rfl rfl (by (first | assumption | rfl)) (by (first | assumption | omega)) (by (first | assumption | omega))) ?_
   refine WO.q (Y.fieldE fo_75_2 rfl) ?_
   refine WO.q (Y.load rfl (loadRdF sz_3 (Wk.tree.ext S.ext) (by assumption) rfl)) ?_
   first | refine WO.q (Y.subI rfl rfl (by omega)) ?_ | refine WO.q (Y.sub rfl rfl) ?_
   first | refine WO.q (Y.addI rfl rfl (by omega)) ?_ | refine WO.q (Y.add rfl rfl) ?_
   refine WO.q (Y.assign (v := .int .i64 _) rfl) ?_
   refine WO.nil ?_
   refine InB.nx ?_
   refine Then.nx ?_
   refine W.region rfl ?_
   refine WO.q (Y.move (v := .int .i64 _) rfl) ?_
   first | refine WO.q (Y.addI rfl rfl (by omega)) ?_ | refine WO.q (Y.add rfl rfl) ?_
   refine WO.q (Y.assign (v := .int .i64 _) rfl) ?_
   refine WO.nil ?_
   refine Then.nx ⟨?_, ?_, ?_⟩
   ·
    (repeat (first | exact Out.hav _ _ _ | exact Out.refl _ _ | refine Out.up rfl ?_ | refine Out.sub rfl ?_))
   ·
    exact ⟨i + 1, ks ++ us, rfl, by (show Value.int .i64 _ = Value.int .i64 _; congr 1; rw [List.length_append]; omega), hd2, fitTs_append.2 ⟨hfk, hfu⟩, by omega, S⟩
   ·
    (show p + (flat t).length - (i + 1) < p + (flat t).length - i; omega)
  ·
   have rh1 := h1
   (try simp only [Q1, Q2, Q3, Q4, Q5, Q6, Q7, Q8, Q9, Qa] at h1)
   refine W.exit ?_
   refine Then.x ?_
   refine Then.x ?_
   refine InB.e ?_
   refine Then.nx ?_
   refine W.seq ?_
   refine W.region rfl ?_
   refine WO.q (Y.move (v := .int .i64 _) rfl) ?_
   refine WO.q (Y.assign (v := .int .i64 _) rfl) ?_
   refine WO.nil ?_
   refine Then.nx ?_
   refine W.ret ?_
   refine BodyQ.ret1 Try.results47 (ResV.tmp _ rfl) ?_
   (have e0 : ts = [] := List.eq_nil_of_length_eq_zero (by omega)); subst e0; refine ⟨?_, S.ext⟩; show Ending.returned (.int .i64 (i : Int)) = _; rw [← hie]; simp [flats]
theorem kids_spec (w0 w : World) (L : List HA) (b : Nat) (v : WIn) (l : List GNode) (es : List GEnd) (m : GMaker) (p : Nat) (n : GNode) (ks : List Tr) (post : List GNode) (Wk : RdWalk 61 w0 b v l es m) (hp : l.drop p = flat (.node n ks) ++ post) (hf : fitT (.node n ks)) (S : Sat w0 w L) :
    Calls Try.prog 32 [.pointer (some ⟨b, 0, none⟩), .int .i64 (p : Int)].toArray w (fun r w' => ∃ a c, r = .returned (.slice a (kidPl (p + 1) ks).length c) ∧ Sat w0 w' (Own (tI .i64) 3 a c (kidPl (p + 1) ks) :: L)) := by
 have hsm := Wk.small
 have hl0 : l[p]? = some n := drop_at (r := flats ks ++ post) (by (rw [hp]; simp [flat]))
 have hil := at_lt hl0
 have ha := Wk.tree.1 (by omega)
 rw [fitT] at hf
 obtain ⟨hnk, hfk⟩ := hf
 have hkl := flats_ge ks
 have hpl : p + (flats ks).length ≤ l.length := by (have h1 := congrArg List.length hp; rw [List.length_drop, List.length_append] at h1; simp only [flat, List.length_cons] at h1; omega)
 refine calls_of_W (args := [.pointer (some ⟨b, 0, none⟩), .int .i64 (p : Int)]) 28 Try.func32 rfl Try.ntmps32 rfl ?_
 refine W.seq ?_
 refine W.region rfl ?_
 refine WO.q (Y.assign (v := .slice _ _ _) rfl) ?_
 refine WO.nil ?_
 refine Then.nx ?_
 refine W.seq ?_
 refine W.region rfl ?_
 refine WO.q (Y.assign (v := .slice _ _ _) rfl) ?_
 refine WO.nil ?_
 refine Then.nx ?_
 refine W.seq ?_
 refine W.region rfl ?_
 refine WO.q (Y.move (v := .int .i64 _) rfl) ?_
 first | refine WO.q (Y.addI rfl rfl (by omega)) ?_ | refine WO.q (Y.add rfl rfl) ?_
 refine WO.q (Y.assign (v := .int .i64 _) rfl) ?_
 refine WO.nil ?_
 refine Then.nx ?_
 refine W.seq ?_
 refine W.seq ?_
 refine W.region rfl ?_
 first | refine WO.q (Y.move (v := .pointer (some _)) rfl) ?_ | refine WO.q (Y.move (v := .pointer _) rfl) ?_
 refine WO.q (Y.nilP rfl) ?_
 first | refine WO.q (Y.fieldB fo_61_0 rfl) ?_ | refine WO.q (Y.fieldE fo_61_0 rfl) ?_
 first | refine WO.q (Y.load rfl (loadB1 sz_49 (S.ext.heap Wk.blk) rfl)) ?_ | refine WO.q (Y.load rfl (loadS1 sz_49 S 0 rfl rfl)) ?_ | refine WO.q (Y.load rfl (loadS1 sz_49 S 1 rfl rfl)) ?_ | refine WO.q (Y.load rfl (loadRdF sz_49 (Wk.tree.ext S.ext) (by assumption) rfl)) ?_ | refine WO.q (Y.load rfl (loadRd1 sz_49 (Wk.tree.ext S.ext) (by assumption) rfl)) ?_
 refine WO.q (Y.move (v := .int .i64 _) rfl) ?_
 first | refine WO.q (Y.ixN sl_49 rfl rfl (by (first | assumption | rfl)) (by (first | assumption | omega))) ?_ | refine WO.q (Y.ix sl_49 rfl rfl (by (first | assumption | rfl)) (by (first | assumption | omega)) (by (first | assumption | omega))) ?_
 refine WO.q (Y.fieldE fo_75_2 rfl) ?_
 refine WO.q (Y.load rfl (loadRdF sz_3 (Wk.tree.ext S.ext) (by assumption) rfl)) ?_
 refine WO.q (Y.move (v := .int .i64 _) rfl) ?_
 refine WO.nil ?_
 refine Then.nx ?_
 refine W.block ?_
 -- loop 0 carries 5:l, 6:k, 17
 refine W.loop3 [5, 6, 17, 18, 19, 20, 21, 22, 23, 24, 25, 26] 5 6 17 (fun v5 v6 v17 w => ∃ (i : Nat) (la : Option Addr) (lc : Nat), v17 = .int .i64 (i : Int) ∧ v5 = .slice la (kidPl (p + 1) (ks.take i)).length lc ∧ v6 = .int .i64 (((p + 1 + (flats (ks.take i)).length) : Nat) : Int) ∧ i ≤ ks.length ∧ Sat w0 w (Own (tI .i64) 3 la lc (kidPl (p + 1) (ks.take i)) :: L)) (fun v5 v6 v17 w => ks.length - (intOf v17).toNat) ?_ ?_
 ·
  exact ⟨0, none, 0, rfl, rfl, rfl, Nat.zero_le _, S.nilOwn (tI .i64) 3⟩
 ·
  rintro g0 v5 v6 v17 w ⟨i, la, lc, rfl, rfl, rfl, hi, S⟩
  refine W.seq ?_
  refine W.region rfl ?_
  refine WO.q (Y.lss rfl rfl) ?_
  refine WO.nil ?_
  refine Then.nx ?_
  refine W.seq ?_
  refine W.cond rfl (fun h1 => ?_) (fun h1 => ?_) -- cond 0
  ·
   have rh1 := h1
   (try simp only [Q1, Q2, Q3, Q4, Q5, Q6, Q7, Q8, Q9, Qa] at h1)
   refine W.skip ?_
   refine Then.nx ?_
   refine W.seq ?_
   refine W.block ?_
   refine W.seq ?_
   obtain ⟨k, hk⟩ := at_ex (xs := ks) (k := i) (by omega)
   obtain ⟨post2, hpp⟩ := kid_place hp hk
   have hfl := flats_kid hk
   have hfl2 := flats_take_le ks (i + 1)
   have hlk := kidPl_len (p + 1) (ks.take i)
   have hlt : (ks.take i).length = i := by (rw [List.length_take]; omega)
   refine W.region rfl ?_
   refine WO.q (Y.move (v := .slice _ _ _) rfl) ?_
   refine WO.q (Y.move (v := .int .i64 _) rfl) ?_
   first | refine WO.e (O.buildSlice rfl (buildOne sl_23 (by decide) rfl rfl) S (fun b21 w S => ?_)) | refine WO.e (O.buildSlice rfl (buildOne sl_23 (by decide) rfl (by simp)) S (fun b21 w S => ?_)) | refine WO.e (O.buildSlice rfl (bs_23_1_0) S (fun b21 w S => ?_))
   refine WO.e (O.append (T := tI .i64) (ys := [(((p + 1 + (flats (ks.take i)).length) : Nat) : Int)]) 1 sl_23 S rfl rfl rfl rfl (S.rd1 (T := tI .i64) (x := (((p + 1 + (flats (ks.take i)).length) : Nat) : Int)) 0 rfl) rfl (by (simp only [List.length_singleton]; omega)) (by (simp only [List.length_singleton, maxLen]; omega)) (fun a22 c22 w S hn22 => ?_))
   refine WO.q (Y.assign (v := .slice _ _ _) rfl) ?_
   refine WO.nil ?_
   refine Then.nx ?_
   refine W.region rfl ?_
   first | refine WO.q (Y.move (v := .pointer (some _)) rfl) ?_ | refine WO.q (Y.move (v := .pointer _) rfl) ?_
   refine WO.q (Y.move (v := .int .i64 _) rfl) ?_
   refine WO.e (O.call cf_47 rfl (skip_spec _ b v l es m (p + 1 + (flats (ks.take i)).length) k post2 (Wk.ext S.ext) hpp (fitTs_at hfk hk)) ?_)
   rintro _ w ⟨rfl, E⟩
   replace S := S.keep E
   refine ⟨_, rfl, ?_⟩
   refine WO.q (Y.assign (v := .int .i64 _) rfl) ?_
   refine WO.nil ?_
   refine InB.nx ?_
   refine Then.nx ?_
   refine W.region rfl ?_
   first | refine WO.q (Y.addI rfl rfl (by omega)) ?_ | refine WO.q (Y.add rfl rfl) ?_
   refine WO.q (Y.move (v := .int .i64 _) rfl) ?_
   refine WO.nil ?_
   refine Then.nx ⟨?_, ?_, ?_⟩
   ·
    (repeat (first | exact Out.hav _ _ _ | exact Out.refl _ _ | refine Out.up rfl ?_ | refine Out.sub rfl ?_))
   ·
    have eK : kidPl (p + 1) (ks.take (i + 1)) = kidPl (p + 1) (ks.take i) ++ [(((p + 1 + (flats (ks.take i)).length) : Nat) : Int)] := (by rw [take_succ_at hk, kidPl_snoc]); exact ⟨i + 1, _, _, rfl, by (rw [eK]; rfl), by (show Value.int .i64 _ = Value.int .i64 _; congr 1; omega), by omega, by (rw [eK]; exact S.tl)⟩
   ·
    (show ks.length - (i + 1) < ks.length - i; omega)
  ·
   have rh1 := h1
   (try simp only [Q1, Q2, Q3, Q4, Q5, Q6, Q7, Q8, Q9, Qa] at h1)
   refine W.exit ?_
   refine Then.x ?_
   refine Then.x ?_
   refine InB.e ?_
   refine Then.nx ?_
   refine W.seq ?_
   refine W.region rfl ?_
   refine WO.q (Y.move (v := .slice _ _ _) rfl) ?_
   refine WO.q (Y.assign (v := .slice _ _ _) rfl) ?_
   refine WO.nil ?_
   refine Then.nx ?_
   refine W.ret ?_
   refine BodyQ.ret1 Try.results32 (ResV.tmp _ rfl) ?_
   (have ei : i = ks.length := by omega); subst ei; rw [List.take_length] at S; exact ⟨_, _, by (rw [List.take_length]; rfl), S⟩
end Go.Proofs
