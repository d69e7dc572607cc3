/-
  Walks of needs.
-/
import Derived.Test.YtlnimgpfopaicaaGe
import Derived.Test.YtlnimgpfopaicaaGh
import Derived.Test.YtlnimgpfopaicaaSx
import Derived.Test.YtlnimgpfopaicaaFa
import Derived.Test.YtlnimgpfopaicaaFb
import Derived.Test.YtlnimgpfopaicaaWa
import Derived.Test.YtlnimgpfopaicaaVd
import Derived.Test.YtlnimgpfopaicaaVh
set_option linter.unusedVariables false
set_option linter.unusedSimpArgs false
set_option maxRecDepth 100000
set_option maxHeartbeats 1000000
namespace Go.Proofs
open Go Go.TL Go.RowKit
theorem needs_spec (w0 : World) (x : GLet) (a : Option Addr) (c : Nat) (nd : GNode) (R1 : Rd tNode w0 a x.tree) (hnd : x.tree[0]? = some nd) (hsz : x.tree.length ≤ 1048576) :
    Calls Try.prog 28 [.agg (tRLet.enc ⟨x.name, (a, x.tree.length, c), x.at_⟩).toArray].toArray w0 (fun r w => ∃ b k, r = .returned (.slice b (needsR x).length k) ∧ Sat w0 w [Own (tI .i64) 3 b k (needsR x)]) := by
 have S := Sat.refl w0
 have hnd1 := at_lt hnd
 have ha := R1.1 (by omega)
 have hrm := rootM_at hnd
 refine calls_of_W (args := [.agg (tRLet.enc ⟨x.name, (a, x.tree.length, c), x.at_⟩).toArray]) 30 Try.func28 rfl Try.ntmps28 rfl ?_
 refine W.seq ?_
 refine W.region rfl ?_
 refine WO.e (O.box rfl rfl S (fun b1 w S => ?_))
 refine WO.q (Y.assign (v := .slice _ _ _) rfl) ?_
 refine WO.nil ?_
 refine Then.nx ?_
 refine W.seq ?_
 refine W.region rfl ?_
 refine WO.q (Y.assign (v := .slice _ _ _) rfl) ?_
 refine WO.nil ?_
 refine Then.nx ?_
 refine W.seq ?_
 refine W.seq ?_
 refine W.region rfl ?_
 first | refine WO.q (Y.load rfl (loadSN sz_51 S 0 rfl rfl rfl)) ?_ | refine WO.q (Y.load rfl (loadSN sz_51 S 1 rfl rfl rfl)) ?_ | refine WO.q (Y.load rfl (loadSN sz_51 S 2 rfl rfl rfl)) ?_ | refine WO.q (Y.load rfl (loadSN sz_51 S 3 rfl rfl rfl)) ?_
 refine WO.e (O.call cf_22 rfl (root_spec _ x a c nd (R1.ext S.ext) hnd) ?_)
 rintro _ w ⟨rfl, E⟩
 replace S := S.keep E
 refine ⟨_, rfl, ?_⟩
 refine WO.q (Y.eql rfl rfl) ?_
 refine WO.nil ?_
 refine Then.nx ?_
 refine W.cond rfl (fun h1 => ?_) (fun h1 => ?_) -- cond 0
 ·
  have rh1 := h1
  (try simp only [Q1, Q2, Q3, Q4, Q5, Q6, Q7, Q8, Q9, Qa] at h1)
  refine W.seq ?_
  refine W.region rfl ?_
  refine WO.q (Y.assign (v := .slice _ _ _) rfl) ?_
  refine WO.nil ?_
  refine Then.nx ?_
  refine W.ret ?_
  refine Then.r ?_
  refine BodyQ.ret1 Try.results28 (ResV.tmp _ rfl) ?_
  first | exact ⟨none, 0, by (rw [needsR_no (by omega)]; rfl), by (rw [needsR_no (by omega)]; exact ((S.pk (.nil _)).nilOwn (tI .i64) 3))⟩ | exact ⟨la, _, by (rw [needsR_yes (by omega)]; rfl), by (rw [needsR_yes (by omega)]; exact (S.clip rfl).pk (by repeat (first | exact Pk.nil _ | exact Pk.refl _ | refine Pk.cons 0 rfl ?_ | refine Pk.cons 1 rfl ?_ | refine Pk.cons 2 rfl ?_ | refine Pk.cons 3 rfl ?_ | refine Pk.cons 4 rfl ?_ | refine Pk.cons 5 rfl ?_ | refine Pk.cons 6 rfl ?_ | refine Pk.cons 7 rfl ?_ | refine Pk.cons 8 rfl ?_ | refine Pk.cons 9 rfl ?_ | refine Pk.cons 10 rfl ?_ | refine Pk.cons 11 rfl ?_ | refine Pk.cons 12 rfl ?_ | refine Pk.cons 13 rfl ?_ | refine Pk.drop ?_)))⟩
 ·
  have rh1 := h1
  (try simp only [Q1, Q2, Q3, Q4, Q5, Q6, Q7, Q8, Q9, Qa] at h1)
  refine W.skip ?_
  refine Then.nx ?_
  refine W.seq ?_
  refine W.seq ?_
  refine W.region rfl ?_
  refine WO.q (Y.fieldB fo_51_1 rfl) ?_
  first | refine WO.q (Y.load rfl (loadS1 sz_49 S 0 rfl rfl)) ?_ | refine WO.q (Y.load rfl (loadS1 sz_49 S 1 rfl rfl)) ?_ | refine WO.q (Y.load rfl (loadS1 sz_49 S 2 rfl rfl)) ?_ | refine WO.q (Y.load rfl (loadS1 sz_49 S 3 rfl rfl)) ?_
  refine WO.q (Y.len (t' := 0) Try.underlying49 rfl) ?_
  refine WO.q (Y.move (v := .int .i64 _) rfl) ?_
  refine WO.nil ?_
  refine Then.nx ?_
  refine W.block ?_
  -- loop 0 carries 3:l, 12
  refine W.loop2 [3, 5, 12, 13, 14, 15, 16, 17, 18, 19, 20, 21, 22, 23, 24] 3 12 (fun v3 v12 w => ∃ (i : Nat) (la : Option Addr) (lc : Nat), v12 = .int .i64 (i : Int) ∧ v3 = .slice la (namesL (x.tree.take i)).length lc ∧ i ≤ x.tree.length ∧ Sat w0 w [Own (tI .i64) 3 la lc (namesL (x.tree.take i)), Cel b1 (tRLet.enc ⟨x.name, (a, x.tree.length, c), x.at_⟩) 51]) (fun v3 v12 w => x.tree.length - (intOf v12).toNat) ?_ ?_
  ·
   exact ⟨0, none, 0, rfl, rfl, Nat.zero_le _, S.nilOwn (tI .i64) 3⟩
  ·
   rintro g0 v3 v12 w ⟨i, la, lc, rfl, rfl, hi, S⟩
   refine W.seq ?_
   refine W.region rfl ?_
   refine WO.q (Y.lss rfl rfl) ?_
   refine WO.nil ?_
   refine Then.nx ?_
   refine W.seq ?_
   refine W.cond rfl (fun h2 => ?_) (fun h2 => ?_) -- cond 1
   ·
    have rh2 := h2
    (try simp only [Q1, Q2, Q3, Q4, Q5, Q6, Q7, Q8, Q9, Qa] at h2)
    refine W.skip ?_
    refine Then.nx ?_
    refine W.seq ?_
    refine W.block ?_
    refine W.seq ?_
    obtain ⟨n, hn⟩ := at_ex (xs := x.tree) (k := i) (by omega)
    have hnl := namesL_len (x.tree.take i)
    rw [List.length_take] at hnl
    refine W.region rfl ?_
    first | refine WO.q (Y.ixN sl_49 rfl rfl (by (first | assumption | rfl)) (by (first | assumption | omega))) ?_ | refine WO.q (Y.ix sl_49 rfl rfl (by (first | assumption | rfl)) (by (first | assumption | omega)) (by (first | assumption | omega))) ?_
    refine WO.q (Y.load rfl (loadRdN sz_75 (R1.ext S.ext) (by assumption))) ?_
    refine WO.e (O.alloc z_75 S (fun b5 w S => ?_))
    first | refine WO.e0 (O.store (v := .agg _) 0 S rfl rfl rfl sz_75 rfl rfl rfl rfl (fun w S => ?_)) | refine WO.e0 (O.store (v := .agg _) 1 S rfl rfl rfl sz_75 rfl rfl rfl rfl (fun w S => ?_)) | refine WO.e0 (O.store (v := .agg _) 2 S rfl rfl rfl sz_75 rfl rfl rfl rfl (fun w S => ?_)) | refine WO.e0 (O.store (v := .agg _) 3 S rfl rfl rfl sz_75 rfl rfl rfl rfl (fun w S => ?_))
    refine WO.nil ?_
    refine Then.nx ?_
    refine W.seq ?_
    refine W.region rfl ?_
    refine WO.q (Y.fieldB fo_75_0 rfl) ?_
    first | refine WO.q (Y.load rfl (loadS1 sz_28 S 0 rfl rfl)) ?_ | refine WO.q (Y.load rfl (loadS1 sz_28 S 1 rfl rfl)) ?_ | refine WO.q (Y.load rfl (loadS1 sz_28 S 2 rfl rfl)) ?_ | refine WO.q (Y.load rfl (loadS1 sz_28 S 3 rfl rfl)) ?_
    refine WO.q (Y.eql rfl rfl) ?_
    refine WO.nil ?_
    refine Then.nx ?_
    refine W.cond rfl (fun h3 => ?_) (fun h3 => ?_) -- cond 2
    ·
     have rh3 := h3
     (try simp only [Q1, Q2, Q3, Q4, Q5, Q6, Q7, Q8, Q9, Qa] at h3)
     refine W.region rfl ?_
     refine WO.q (Y.move (v := .slice _ _ _) rfl) ?_
     refine WO.q (Y.fieldB fo_75_1 rfl) ?_
     first | refine WO.q (Y.load rfl (loadS1 sz_2 S 0 rfl rfl)) ?_ | refine WO.q (Y.load rfl (loadS1 sz_2 S 1 rfl rfl)) ?_ | refine WO.q (Y.load rfl (loadS1 sz_2 S 2 rfl rfl)) ?_ | refine WO.q (Y.load rfl (loadS1 sz_2 S 3 rfl rfl)) ?_
     first | refine WO.e (O.buildSlice rfl (buildOne sl_23 (by decide) rfl rfl) S (fun b22 w S => ?_)) | refine WO.e (O.buildSlice rfl (buildOne sl_23 (by decide) rfl (by simp)) S (fun b22 w S => ?_)) | refine WO.e (O.buildSlice rfl (bs_23_1_0) S (fun b22 w S => ?_))
     refine WO.e (O.append (T := tI .i64) (ys := [n.n]) 2 sl_23 S rfl rfl rfl rfl (S.rd1 (T := tI .i64) (x := n.n) 0 rfl) rfl (by (simp only [List.length_singleton]; omega)) (by (simp only [List.length_singleton, maxLen]; omega)) (fun a23 c23 w S hn23 => ?_))
     refine WO.q (Y.assign (v := .slice _ _ _) rfl) ?_
     refine WO.nil ?_
     refine InB.nx ?_
     refine Then.nx ?_
     refine W.region rfl ?_
     first | refine WO.q (Y.addI rfl rfl (by omega)) ?_ | refine WO.q (Y.add rfl rfl) ?_
     refine WO.q (Y.move (v := .int .i64 _) rfl) ?_
     refine WO.nil ?_
     refine Then.nx ⟨?_, ?_, ?_⟩
     ·
      (repeat (first | exact Out.hav _ _ _ | exact Out.refl _ _ | refine Out.up rfl ?_ | refine Out.sub rfl ?_))
     ·
      first | exact ⟨i + 1, a23, c23, rfl, by (rw [namesL_yes hn (by omega)]; rfl), by omega, by (rw [namesL_yes hn (by omega)]; exact S.pk (by repeat (first | exact Pk.nil _ | exact Pk.refl _ | refine Pk.cons 0 rfl ?_ | refine Pk.cons 1 rfl ?_ | refine Pk.cons 2 rfl ?_ | refine Pk.cons 3 rfl ?_ | refine Pk.cons 4 rfl ?_ | refine Pk.cons 5 rfl ?_ | refine Pk.cons 6 rfl ?_ | refine Pk.cons 7 rfl ?_ | refine Pk.cons 8 rfl ?_ | refine Pk.cons 9 rfl ?_ | refine Pk.cons 10 rfl ?_ | refine Pk.cons 11 rfl ?_ | refine Pk.cons 12 rfl ?_ | refine Pk.cons 13 rfl ?_ | refine Pk.drop ?_)))⟩ | exact ⟨i + 1, la, lc, rfl, by (rw [namesL_no hn (by omega)]; rfl), by omega, by (rw [namesL_no hn (by omega)]; exact S.tl)⟩
     ·
      (show x.tree.length - (i + 1) < x.tree.length - i; omega)
    ·
     have rh3 := h3
     (try simp only [Q1, Q2, Q3, Q4, Q5, Q6, Q7, Q8, Q9, Qa] at h3)
     refine W.skip ?_
     refine InB.nx ?_
     refine Then.nx ?_
     refine W.region rfl ?_
     first | refine WO.q (Y.addI rfl rfl (by omega)) ?_ | refine WO.q (Y.add rfl rfl) ?_
     refine WO.q (Y.move (v := .int .i64 _) rfl) ?_
     refine WO.nil ?_
     refine Then.nx ⟨?_, ?_, ?_⟩
     ·
      (repeat (first | exact Out.hav _ _ _ | exact Out.refl _ _ | refine Out.up rfl ?_ | refine Out.sub rfl ?_))
     ·
      first | exact ⟨i + 1, a23, c23, rfl, by (rw [namesL_yes hn (by omega)]; rfl), by omega, by (rw [namesL_yes hn (by omega)]; exact S.pk (by repeat (first | exact Pk.nil _ | exact Pk.refl _ | refine Pk.cons 0 rfl ?_ | refine Pk.cons 1 rfl ?_ | refine Pk.cons 2 rfl ?_ | refine Pk.cons 3 rfl ?_ | refine Pk.cons 4 rfl ?_ | refine Pk.cons 5 rfl ?_ | refine Pk.cons 6 rfl ?_ | refine Pk.cons 7 rfl ?_ | refine Pk.cons 8 rfl ?_ | refine Pk.cons 9 rfl ?_ | refine Pk.cons 10 rfl ?_ | refine Pk.cons 11 rfl ?_ | refine Pk.cons 12 rfl ?_ | refine Pk.cons 13 rfl ?_ | refine Pk.drop ?_)))⟩ | exact ⟨i + 1, la, lc, rfl, by (rw [namesL_no hn (by omega)]; rfl), by omega, by (rw [namesL_no hn (by omega)]; exact S.tl)⟩
     ·
      (show x.tree.length - (i + 1) < x.tree.length - i; omega)
   ·
    have rh2 := h2
    (try simp only [Q1, Q2, Q3, Q4, Q5, Q6, Q7, Q8, Q9, Qa] at h2)
    refine W.exit ?_
    refine Then.x ?_
    refine Then.x ?_
    refine InB.e ?_
    refine Then.nx ?_
    refine W.seq ?_
    obtain rfl : i = x.tree.length := by omega
    rw [List.take_length] at S ⊢
    have hnl := namesL_len x.tree
    refine W.region rfl ?_
    refine WO.q (Y.move (v := .slice _ _ _) rfl) ?_
    refine WO.e (O.call cf_39 rfl (sortI_spec w0 _ _ la lc (namesL x.tree) (by omega) S) ?_)
    rintro _ w ⟨rfl, S⟩
    refine ⟨_, rfl, ?_⟩
    refine WO.nil ?_
    refine Then.nx ?_
    refine W.seq ?_
    refine W.region rfl ?_
    refine WO.q (Y.move (v := .slice _ _ _) rfl) ?_
    refine WO.e (O.call cf_41 rfl (compactI_spec w0 _ _ la lc _ _ (List.length_mergeSort _).symm (by (rw [List.length_mergeSort]; omega)) S) ?_)
    rintro _ w ⟨rfl, S⟩
    refine ⟨_, rfl, ?_⟩
    refine WO.e (O.call cf_40 rfl (clipI_spec w0 _ _ la lc _ (by (have hh := (S.ownLen 0 rfl).1; rw [List.length_append] at hh; omega)) S) ?_)
    rintro _ w ⟨rfl, S⟩
    refine ⟨_, rfl, ?_⟩
    refine WO.q (Y.assign (v := .slice _ _ _) rfl) ?_
    refine WO.nil ?_
    refine Then.nx ?_
    refine W.ret ?_
    refine BodyQ.ret1 Try.results28 (ResV.tmp _ rfl) ?_
    first | exact ⟨none, 0, by (rw [needsR_no (by omega)]; rfl), by (rw [needsR_no (by omega)]; exact ((S.pk (.nil _)).nilOwn (tI .i64) 3))⟩ | exact ⟨la, _, by (rw [needsR_yes (by omega)]; rfl), by (rw [needsR_yes (by omega)]; exact (S.clip rfl).pk (by repeat (first | exact Pk.nil _ | exact Pk.refl _ | refine Pk.cons 0 rfl ?_ | refine Pk.cons 1 rfl ?_ | refine Pk.cons 2 rfl ?_ | refine Pk.cons 3 rfl ?_ | refine Pk.cons 4 rfl ?_ | refine Pk.cons 5 rfl ?_ | refine Pk.cons 6 rfl ?_ | refine Pk.cons 7 rfl ?_ | refine Pk.cons 8 rfl ?_ | refine Pk.cons 9 rfl ?_ | refine Pk.cons 10 rfl ?_ | refine Pk.cons 11 rfl ?_ | refine Pk.cons 12 rfl ?_ | refine Pk.cons 13 rfl ?_ | refine Pk.drop ?_)))⟩
end Go.Proofs
