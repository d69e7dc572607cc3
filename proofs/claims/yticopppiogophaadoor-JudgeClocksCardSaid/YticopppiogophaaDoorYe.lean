/-
  Walks of AddIntsF, AddRows.
-/
import Derived.Test.YticopppiogophaaDoorTw
import Derived.Test.YticopppiogophaaDoorTp
import Derived.Test.YticopppiogophaaDoorSx
import Derived.Test.YticopppiogophaaDoorFa
import Derived.Test.YticopppiogophaaDoorFb
import Derived.Test.YticopppiogophaaDoorFc
import Derived.Test.YticopppiogophaaDoorVa
set_option linter.unusedVariables false
set_option linter.unusedSimpArgs false
set_option maxRecDepth 100000
set_option maxHeartbeats 1000000
namespace Go.Proofs
open Go Go.TL Go.RowKit
theorem AddIntsF_spec (w0 w : World) (bg : Nat) (hdr : List Value) (ga : Option Addr) (gc : Nat) (ps : List SlV) (a : Option Addr) (n c : Nat) (L : List HA) (hh : hdr[1]? = some (.slice ga ps.length gc)) (hk : ps.length ≤ 400)
    (S : Sat w0 w (Cel bg hdr 50 :: Own tSl 27 ga gc ps :: L)) :
    Calls Tryd.prog 17 [.pointer (some ⟨bg, 0, none⟩), .slice a n c].toArray w (fun e w' => ∃ ga' gc', e = .returned (.tuple #[]) ∧ Sat w0 w' (Cel bg (hdr.set 1 (.slice ga' (if ps.length < 400 then ps ++ [((a, n, c) : SlV)] else ps).length gc')) 50 :: Own tSl 27 ga' gc' (if ps.length < 400 then ps ++ [((a, n, c) : SlV)] else ps) :: L)) := by
 refine calls_of_W (args := [.pointer (some ⟨bg, 0, none⟩), .slice a n c]) 20 Tryd.func17 rfl Tryd.ntmps17 rfl ?_
 refine W.seq ?_
 refine W.region rfl ?_
 first | refine WO.q (Y.move (v := .pointer (some _)) rfl) ?_ | refine WO.q (Y.move (v := .pointer _) rfl) ?_
 refine WO.q (Y.nilP rfl) ?_
 first | refine WO.q (Y.fieldB fo_50_1 rfl) ?_ | refine WO.q (Y.fieldE fo_50_1 rfl) ?_
 first | refine WO.q (Y.load rfl (loadS1 sz_36 S 0 rfl hh)) ?_ | refine WO.q (Y.load rfl (loadS1 sz_36 S 0 rfl rfl)) ?_ | refine WO.q (Y.load rfl (loadS1 sz_36 S 1 rfl rfl)) ?_ | refine WO.q (Y.load rfl (loadS1 sz_36 S 2 rfl rfl)) ?_
 refine WO.q (Y.len (t' := 0) Tryd.underlying36 rfl) ?_
 refine WO.q (Y.lss rfl rfl) ?_
 refine WO.nil ?_
 refine Then.nx ?_
 refine W.cond rfl (fun h1 => ?_) (fun h1 => ?_) -- cond 0
 ·
  have rh1 := h1
  (try simp only [Q1, Q2, Q3, Q4, Q5, Q6, Q7, Q8, Q9, Qa] at h1)
  replace S : Sat w0 w (Cel bg hdr 50 :: Own tSl 27 ga gc ps :: L) := S
  refine W.region rfl ?_
  first | refine WO.q (Y.move (v := .pointer (some _)) rfl) ?_ | refine WO.q (Y.move (v := .pointer _) rfl) ?_
  first | refine WO.q (Y.move (v := .pointer (some _)) rfl) ?_ | refine WO.q (Y.move (v := .pointer _) rfl) ?_
  refine WO.q (Y.nilP rfl) ?_
  first | refine WO.q (Y.fieldB fo_50_1 rfl) ?_ | refine WO.q (Y.fieldE fo_50_1 rfl) ?_
  first | refine WO.q (Y.load rfl (loadS1 sz_36 S 0 rfl hh)) ?_ | refine WO.q (Y.load rfl (loadS1 sz_36 S 0 rfl rfl)) ?_ | refine WO.q (Y.load rfl (loadS1 sz_36 S 1 rfl rfl)) ?_ | refine WO.q (Y.load rfl (loadS1 sz_36 S 2 rfl rfl)) ?_
  refine WO.q (Y.move (v := .slice _ _ _) rfl) ?_
  first | refine WO.e (O.buildSlice rfl (buildOne sl_36 (by decide) rfl rfl) S (fun b16 w S => ?_)) | refine WO.e (O.buildSlice rfl (buildOne sl_36 (by decide) rfl (by simp)) S (fun b16 w S => ?_)) | refine WO.e (O.buildSlice rfl (bs_36_1_0) S (fun b16 w S => ?_))
  refine WO.e (O.append (T := tSl) (ys := [((a, n, c) : SlV)]) 2 sl_36 S rfl rfl rfl rfl (S.rd1 (T := tSl) (x := ((a, n, c) : SlV)) 0 rfl) rfl (by (simp only [List.length_singleton]; omega)) (by (simp only [List.length_singleton, maxLen]; omega)) (fun a17 c17 w S hn17 => ?_))
  refine WO.q (Y.nilP rfl) ?_
  first | refine WO.q (Y.fieldB fo_50_1 rfl) ?_ | refine WO.q (Y.fieldE fo_50_1 rfl) ?_
  refine WO.e0 (O.store (v := .slice _ _ _) 1 S rfl rfl rfl sz_36 rfl rfl rfl (by (have := (List.getElem?_eq_some_iff.1 hh).1; simp only [Nat.ble_eq]; omega)) (fun w S => ?_))
  refine WO.nil ?_
  refine BodyQ.end0 Tryd.results17 ?_
  first | (rw [if_pos (by omega)]; exact ⟨a17, c17, rfl, by (rw [← lset_at hh]; exact S.tl)⟩) | (rw [if_neg (by omega)]; exact ⟨ga, gc, rfl, by (rw [set_same hh]; exact S)⟩)
 ·
  have rh1 := h1
  (try simp only [Q1, Q2, Q3, Q4, Q5, Q6, Q7, Q8, Q9, Qa] at h1)
  refine W.skip ?_
  refine BodyQ.end0 Tryd.results17 ?_
  first | (rw [if_pos (by omega)]; exact ⟨a17, c17, rfl, by (rw [← lset_at hh]; exact S.tl)⟩) | (rw [if_neg (by omega)]; exact ⟨ga, gc, rfl, by (rw [set_same hh]; exact S)⟩)
theorem AddRows_spec (w0 w : World) (bg : Nat) (hdr : List Value) (gr gi : Option Addr) (gcr gci : Nat) (psR psI : List SlV) (a : Option Addr) (c : Nat) (rs : List SlV) (L : List HA) (hhR : hdr[11]? = some (.slice gr psR.length gcr)) (hhI : hdr[1]? = some (.slice gi psI.length gci)) (hkR : psR.length < 400) (hkI : psI.length ≤ 400) (hrs : rs.length ≤ 1048576)
    (S : Sat w0 w (Cel bg hdr 50 :: Own tSl 27 gi gci psI :: Own tSl 36 gr gcr psR :: Own tSl 27 a c rs :: L)) :
    Calls Tryd.prog 33 [.pointer (some ⟨bg, 0, none⟩), .slice a rs.length c].toArray w (fun e w' => ∃ gr1 gcr1 gi1 gci1, e = .returned (.tuple #[]) ∧ Sat w0 w' (Cel bg ((hdr.set 11 (.slice gr1 (psR ++ [((a, rs.length, c) : SlV)]).length gcr1)).set 1 (.slice gi1 ((psI ++ rs).take 400).length gci1)) 50 :: Own tSl 27 gi1 gci1 ((psI ++ rs).take 400) :: Own tSl 36 gr1 gcr1 (psR ++ [((a, rs.length, c) : SlV)]) :: Own tSl 27 a c rs :: L)) := by
 refine calls_of_W (args := [.pointer (some ⟨bg, 0, none⟩), .slice a rs.length c]) 37 Tryd.func33 rfl Tryd.ntmps33 rfl ?_
 refine W.seq ?_
 refine W.seq ?_
 refine W.region rfl ?_
 first | refine WO.q (Y.move (v := .pointer (some _)) rfl) ?_ | refine WO.q (Y.move (v := .pointer _) rfl) ?_
 refine WO.q (Y.nilP rfl) ?_
 first | refine WO.q (Y.fieldB fo_50_11 rfl) ?_ | refine WO.q (Y.fieldE fo_50_11 rfl) ?_
 first | refine WO.q (Y.load rfl (loadS1 sz_46 S 0 rfl hhR)) ?_ | refine WO.q (Y.load rfl (loadS1 sz_46 S 0 rfl rfl)) ?_ | refine WO.q (Y.load rfl (loadS1 sz_46 S 1 rfl rfl)) ?_ | refine WO.q (Y.load rfl (loadRdF sz_46 (S.rd 3 rfl) (by assumption) rfl)) ?_ | refine WO.q (Y.load rfl (loadRd1 sz_46 (S.rd 3 rfl) (by assumption) rfl)) ?_
 refine WO.q (Y.len (t' := 0) Tryd.underlying46 rfl) ?_
 refine WO.q (Y.lss rfl rfl) ?_
 refine WO.nil ?_
 refine Then.nx ?_
 refine W.cond rfl (fun h1 => ?_) (fun h1 => ?_) -- cond 0
 ·
  have rh1 := h1
  (try simp only [Q1, Q2, Q3, Q4, Q5, Q6, Q7, Q8, Q9, Qa] at h1)
  refine W.region rfl ?_
  first | refine WO.q (Y.move (v := .pointer (some _)) rfl) ?_ | refine WO.q (Y.move (v := .pointer _) rfl) ?_
  first | refine WO.q (Y.move (v := .pointer (some _)) rfl) ?_ | refine WO.q (Y.move (v := .pointer _) rfl) ?_
  refine WO.q (Y.nilP rfl) ?_
  first | refine WO.q (Y.fieldB fo_50_11 rfl) ?_ | refine WO.q (Y.fieldE fo_50_11 rfl) ?_
  first | refine WO.q (Y.load rfl (loadS1 sz_46 S 0 rfl hhR)) ?_ | refine WO.q (Y.load rfl (loadS1 sz_46 S 0 rfl rfl)) ?_ | refine WO.q (Y.load rfl (loadS1 sz_46 S 1 rfl rfl)) ?_ | refine WO.q (Y.load rfl (loadRdF sz_46 (S.rd 3 rfl) (by assumption) rfl)) ?_ | refine WO.q (Y.load rfl (loadRd1 sz_46 (S.rd 3 rfl) (by assumption) rfl)) ?_
  refine WO.q (Y.move (v := .slice _ _ _) rfl) ?_
  first | refine WO.e (O.buildSlice rfl (buildOne sl_46 (by decide) rfl rfl) S (fun b17 w S => ?_)) | refine WO.e (O.buildSlice rfl (buildOne sl_46 (by decide) rfl (by simp)) S (fun b17 w S => ?_)) | refine WO.e (O.buildSlice rfl (bs_46_1_0) S (fun b17 w S => ?_))
  refine WO.e (O.append (T := tSl) (ys := [((a, rs.length, c) : SlV)]) 3 sl_46 S rfl rfl rfl rfl (S.rd1 (T := tSl) (x := ((a, rs.length, c) : SlV)) 0 rfl) rfl (by (simp only [List.length_singleton]; omega)) (by (simp only [List.length_singleton, maxLen]; omega)) (fun gr1 gcr1 w S hn17 => ?_))
  refine WO.q (Y.nilP rfl) ?_
  first | refine WO.q (Y.fieldB fo_50_11 rfl) ?_ | refine WO.q (Y.fieldE fo_50_11 rfl) ?_
  refine WO.e0 (O.store (v := .slice _ _ _) 1 S rfl rfl rfl sz_46 rfl rfl rfl (by (have := (List.getElem?_eq_some_iff.1 hhR).1; simp only [Nat.ble_eq]; omega)) (fun w S => ?_))
  refine WO.nil ?_
  refine Then.nx ?_
  refine W.seq ?_
  replace S := S.tl
  replace S : Sat w0 w (Cel bg (hdr.set 11 (.slice gr1 (psR ++ [((a, rs.length, c) : SlV)]).length gcr1)) 50 :: Own tSl 27 gi gci psI :: Own tSl 36 gr1 gcr1 (psR ++ [((a, rs.length, c) : SlV)]) :: Own tSl 27 a c rs :: L) := (by (rw [← lset_at hhR]; exact S))
  have hh1 : (hdr.set 11 (.slice gr1 (psR ++ [((a, rs.length, c) : SlV)]).length gcr1))[1]? = some (.slice gi psI.length gci) := (by (rw [List.getElem?_set, if_neg (by decide)]; exact hhI))
  have hl1 : 1 < (hdr.set 11 (.slice gr1 (psR ++ [((a, rs.length, c) : SlV)]).length gcr1)).length := (List.getElem?_eq_some_iff.1 hh1).1
  refine W.region rfl ?_
  refine WO.q (Y.assign (v := .int .i64 _) rfl) ?_
  refine WO.nil ?_
  refine Then.nx ?_
  refine W.block ?_
  -- loop 0 carries 4:i
  refine W.loop1 [4, 21, 22, 23, 24, 25, 26, 27, 28, 29, 30, 31, 32, 33, 34, 35, 36] 4 (fun v4 w => ∃ (i : Nat) (gi1 : Option Addr) (gci1 : Nat), v4 = .int .i64 (i : Int) ∧ i ≤ rs.length ∧ i ≤ 400 ∧ Sat w0 w (Cel bg ((hdr.set 11 (.slice gr1 (psR ++ [((a, rs.length, c) : SlV)]).length gcr1)).set 1 (.slice gi1 ((psI ++ rs.take i).take 400).length gci1)) 50 :: Own tSl 27 gi1 gci1 ((psI ++ rs.take i).take 400) :: Own tSl 36 gr1 gcr1 (psR ++ [((a, rs.length, c) : SlV)]) :: Own tSl 27 a c rs :: L)) (fun v4 w => rs.length - (intOf v4).toNat) ?_ ?_
  ·
   exact ⟨0, gi, gci, rfl, Nat.zero_le _, Nat.zero_le _, by (rw [List.take_zero, List.append_nil, List.take_of_length_le hkI, set_same hh1]; exact S)⟩
  ·
   rintro g0 v4 w ⟨i, gi1, gci1, rfl, hi, hi4, S⟩
   refine W.seq ?_
   refine W.seq ?_
   refine W.region rfl ?_
   refine WO.q (Y.move (v := .int .i64 _) rfl) ?_
   refine WO.q (Y.move (v := .slice _ _ _) rfl) ?_
   refine WO.q (Y.len (t' := 0) Tryd.underlying36 rfl) ?_
   refine WO.q (Y.lss rfl rfl) ?_
   refine WO.q (Y.move (v := .bool _) rfl) ?_
   refine WO.splitB (fun h2 => ?_) (fun h2 => ?_)
   ·
    (try simp only [Q1, Q2, Q3, Q4, Q5, Q6, Q7, Q8, Q9, Qa] at h2)
    refine WO.qT rfl (Y.move (v := .int .i64 _) rfl) ?_
    refine WO.qT rfl (Y.lss rfl rfl) ?_
    refine WO.q (Y.pickT (u := .bool _) rfl rfl) ?_
    refine WO.nil ?_
    refine Then.nx ?_
    refine W.cond rfl (fun h3 => ?_) (fun h3 => ?_) -- cond 1
    ·
     have rh3 := h3
     (try simp only [Q1, Q2, Q3, Q4, Q5, Q6, Q7, Q8, Q9, Qa] at h3)
     have ha := (S.rd 3 rfl).1 (by omega)
     obtain ⟨⟨qa, qn, qc⟩, hq⟩ := at_ex (xs := rs) (k := i) (by omega)
     refine W.skip ?_
     refine Then.nx ?_
     refine W.seq ?_
     refine W.block ?_
     refine W.region rfl ?_
     first | refine WO.q (Y.move (v := .pointer (some _)) rfl) ?_ | refine WO.q (Y.move (v := .pointer _) rfl) ?_
     refine WO.q (Y.move (v := .slice _ _ _) rfl) ?_
     refine WO.q (Y.move (v := .int .i64 _) rfl) ?_
     first | refine WO.q (Y.ixN sl_36 rfl rfl (by (first | assumption | rfl)) (by (first | assumption | omega))) ?_ | refine WO.q (Y.ix sl_36 rfl rfl (by (first | assumption | rfl)) (by (first | assumption | omega)) (by (first | assumption | omega))) ?_
     first | refine WO.q (Y.load rfl (loadRd1 (c := .slice qa qn qc) sz_27 (S.rd 3 rfl) hq rfl)) ?_ | refine WO.q (Y.load rfl (loadRd1 sz_27 (S.rd 3 rfl) (by assumption) rfl)) ?_
     refine WO.e (O.call cf_17 rfl (AddIntsF_spec w0 _ bg _ gi1 gci1 ((psI ++ rs.take i).take 400) qa qn qc _ (by (rw [List.getElem?_set, if_pos rfl, if_pos hl1])) (by (rw [List.length_take]; omega)) S) ?_)
     rintro _ w ⟨gi2, gci2, rfl, S⟩
     rw [← take_snoc400, List.append_assoc, ← take_succ_at hq, List.set_set] at S
     refine ⟨_, rfl, ?_⟩
     refine WO.nil ?_
     refine InB.nx ?_
     refine Then.nx ?_
     refine W.region rfl ?_
     refine WO.q (Y.move (v := .int .i64 _) rfl) ?_
     first | refine WO.q (Y.addI rfl rfl (by omega)) ?_ | refine WO.q (Y.add rfl rfl) ?_
     refine WO.q (Y.assign (v := .int .i64 _) rfl) ?_
     refine WO.nil ?_
     refine Then.nx ⟨?_, ?_, ?_⟩
     ·
      (repeat (first | exact Out.hav _ _ _ | exact Out.refl _ _ | refine Out.up rfl ?_ | refine Out.sub rfl ?_))
     ·
      exact ⟨i + 1, gi2, gci2, rfl, by omega, by omega, S⟩
     ·
      (show rs.length - (i + 1) < rs.length - i; omega)
    ·
     have rh3 := h3
     (try simp only [Q1, Q2, Q3, Q4, Q5, Q6, Q7, Q8, Q9, Qa] at h3)
     refine W.exit ?_
     refine Then.x ?_
     refine Then.x ?_
     refine InB.e ?_
     refine BodyQ.end0 Tryd.results33 ?_
     rw [take_more _ _ _ _ (by omega)] at S; exact ⟨gr1, gcr1, gi1, gci1, rfl, S⟩
   ·
    (try simp only [Q1, Q2, Q3, Q4, Q5, Q6, Q7, Q8, Q9, Qa] at h2)
    refine WO.qF rfl ?_
    refine WO.qF rfl ?_
    refine WO.q (Y.pickF (u := .bool _) rfl rfl) ?_
    refine WO.nil ?_
    refine Then.nx ?_
    first | refine W.condF rfl ?_ | refine W.condF (congrArg Value.bool (by assumption)) ?_
    refine W.exit ?_
    refine Then.x ?_
    refine Then.x ?_
    refine InB.e ?_
    refine BodyQ.end0 Tryd.results33 ?_
    rw [take_more _ _ _ _ (by omega)] at S; exact ⟨gr1, gcr1, gi1, gci1, rfl, S⟩
 ·
  have rh1 := h1
  (try simp only [Q1, Q2, Q3, Q4, Q5, Q6, Q7, Q8, Q9, Qa] at h1)
  exfalso; omega
end Go.Proofs
