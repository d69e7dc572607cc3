/-
  Walks of WideAccesses, SpareAccesses, AddRaces.
-/
import Derived.Test.YticopppiogophaaDoorTm
import Derived.Test.YticopppiogophaaDoorFa
import Derived.Test.YticopppiogophaaDoorFb
import Derived.Test.YticopppiogophaaDoorFc
import Derived.Test.YticopppiogophaaDoorVa
set_option linter.unusedVariables false
set_option linter.unusedSimpArgs false
set_option maxRecDepth 100000
set_option maxHeartbeats 1000000
namespace Go.Proofs
open Go Go.TL Go.RowKit
theorem WideAccesses_spec (w0 : World) (a : Option Addr) (c : Nat) (xs : List Access) (R1 : Rd tAccess w0 a xs) (hx : xs.length ≤ 2147483647) :
    Calls Tryd.prog 26 [.slice a xs.length c].toArray w0 (fun e w => ∃ a', e = .returned (.slice a' xs.length (xs.length + 64)) ∧ Sat w0 w [Own tAccess 71 a' (xs.length + 64) (xs ++ mks (mkAccesses 9) xs.length 64)]) := by
 have S := Sat.refl w0
 refine calls_of_W (args := [.slice a xs.length c]) 36 Tryd.func26 rfl Tryd.ntmps26 rfl ?_
 refine W.seq ?_
 refine W.region rfl ?_
 refine WO.q (Y.assign (v := .slice _ _ _) rfl) ?_
 refine WO.nil ?_
 refine Then.nx ?_
 refine W.seq ?_
 refine W.region rfl ?_
 refine WO.q (Y.move (v := .slice _ _ _) rfl) ?_
 refine WO.q (Y.len (t' := 0) Tryd.underlying64 rfl) ?_
 refine WO.q (Y.addI rfl rfl (by omega)) ?_
 refine WO.e (O.makeSlice (T := tAccess) (l := xs.length + 64) (c := xs.length + 64) (⟨0, 0, 0, 0, 0, 0, 0, false⟩) sl_64 ⟨_, _, rfl, rfl, rfl⟩ S rfl rfl (Nat.le_refl _) (by omega) (by (simp only [maxLen]; omega)) (fun b8 w S => ?_))
 refine WO.q (Y.assign (v := .slice _ _ _) rfl) ?_
 refine WO.nil ?_
 refine Then.nx ?_
 refine W.seq ?_
 refine W.seq ?_
 refine W.region rfl ?_
 refine WO.q (Y.assign (v := .int .i64 _) rfl) ?_
 refine WO.nil ?_
 refine Then.nx ?_
 refine W.block ?_
 -- loop 0 carries 4:i
 refine W.loop1 [4, 9, 10, 11, 12, 13, 14, 15, 16, 17, 18, 19, 20, 21, 22, 23, 24, 25, 26, 27, 28, 29, 30, 31] 4 (fun v4 w => ∃ i : Nat, v4 = .int .i64 (i : Int) ∧ i ≤ xs.length + 64 ∧ Sat w0 w [Own tAccess 71 (some ⟨b8, 0, none⟩) (xs.length + 64) (wideL (mkAccesses 9) (⟨0, 0, 0, 0, 0, 0, 0, false⟩) xs i)]) (fun v4 w => xs.length + 64 - (intOf v4).toNat) ?_ ?_
 ·
  exact ⟨0, rfl, Nat.zero_le _, by (rw [wideL_zero]; exact S)⟩
 ·
  rintro g0 v4 w ⟨i, rfl, hi, S⟩
  refine W.seq ?_
  refine W.seq ?_
  refine W.region rfl ?_
  refine WO.q (Y.move (v := .int .i64 _) rfl) ?_
  refine WO.q (Y.move (v := .slice _ _ _) rfl) ?_
  refine WO.q (Y.len (t' := 0) Tryd.underlying64 rfl) ?_
  refine WO.q (Y.lss rfl rfl) ?_
  refine WO.nil ?_
  refine Then.nx ?_
  refine W.cond rfl (fun h1 => ?_) (fun h1 => ?_) -- cond 0
  ·
   have rh1 := h1
   (try simp only [Q1, Q2, Q3, Q4, Q5, Q6, Q7, Q8, Q9, Qa] at h1)
   refine W.skip ?_
   refine Then.nx ?_
   refine W.seq ?_
   refine W.block ?_
   refine W.seq ?_
   refine W.region rfl ?_
   refine WO.q (Y.move (v := .int .i64 _) rfl) ?_
   refine WO.q (Y.move (v := .slice _ _ _) rfl) ?_
   refine WO.q (Y.len (t' := 0) Tryd.underlying64 rfl) ?_
   refine WO.q (Y.lss rfl rfl) ?_
   refine WO.nil ?_
   refine Then.nx ?_
   refine W.cond rfl (fun h2 => ?_) (fun h2 => ?_) -- cond 1
   ·
    have rh2 := h2
    (try simp only [Q1, Q2, Q3, Q4, Q5, Q6, Q7, Q8, Q9, Qa] at h2)
    have ha := R1.1 (by omega)
    obtain ⟨x, hx1⟩ := at_ex (xs := xs) (k := i) (by omega)
    refine W.region rfl ?_
    refine WO.q (Y.move (v := .slice _ _ _) rfl) ?_
    refine WO.q (Y.move (v := .int .i64 _) rfl) ?_
    refine WO.q (Y.move (v := .slice _ _ _) rfl) ?_
    refine WO.q (Y.move (v := .int .i64 _) rfl) ?_
    first | refine WO.q (Y.ixN sl_64 rfl rfl (by (first | assumption | rfl)) (by (first | assumption | omega))) ?_ | refine WO.q (Y.ix sl_64 rfl rfl (by (first | assumption | rfl)) (by (first | assumption | omega)) (by (first | assumption | omega))) ?_
    refine WO.q (Y.load rfl (loadRdN sz_71 (R1.ext S.ext) (by assumption))) ?_
    first | refine WO.q (Y.ixN sl_64 rfl rfl (by (first | assumption | rfl)) (by (first | assumption | omega))) ?_ | refine WO.q (Y.ix sl_64 rfl rfl (by (first | assumption | rfl)) (by (first | assumption | omega)) (by (first | assumption | omega))) ?_
    refine WO.e0 (O.storeEl 0 x S rfl rfl (by (rw [wideL_len _ _ _ hi]; omega)) rfl sz_71 rfl (fun w S => ?_))
    refine WO.nil ?_
    refine InB.nx ?_
    refine Then.nx ?_
    refine W.region rfl ?_
    refine WO.q (Y.move (v := .int .i64 _) rfl) ?_
    first | refine WO.q (Y.addI rfl rfl (by omega)) ?_ | refine WO.q (Y.add rfl rfl) ?_
    refine WO.q (Y.assign (v := .int .i64 _) rfl) ?_
    refine WO.nil ?_
    refine Then.nx ⟨?_, ?_, ?_⟩
    ·
     (repeat (first | exact Out.hav _ _ _ | exact Out.refl _ _ | refine Out.up rfl ?_ | refine Out.sub rfl ?_))
    ·
     first | exact ⟨i + 1, rfl, by omega, by (rw [← wideL_in _ _ hx1]; exact S)⟩ | exact ⟨i + 1, rfl, by omega, by (rw [← wideL_out _ _ (by omega) (by omega)]; exact S)⟩
    ·
     (show xs.length + 64 - (i + 1) < xs.length + 64 - i; omega)
   ·
    have rh2 := h2
    (try simp only [Q1, Q2, Q3, Q4, Q5, Q6, Q7, Q8, Q9, Qa] at h2)
    refine W.region rfl ?_
    refine WO.q (Y.move (v := .slice _ _ _) rfl) ?_
    refine WO.q (Y.move (v := .int .i64 _) rfl) ?_
    refine WO.q (Y.move (v := .int .i64 _) rfl) ?_
    refine WO.e (O.call cf_40 rfl (num_spec _ 9 i (by omega) (by omega)) ?_)
    rintro _ w ⟨rfl, E⟩
    replace S := S.keep E
    refine ⟨_, rfl, ?_⟩
    refine WO.q (Y.build rfl (bld_71_2)) ?_
    first | refine WO.q (Y.ixN sl_64 rfl rfl (by (first | assumption | rfl)) (by (first | assumption | omega))) ?_ | refine WO.q (Y.ix sl_64 rfl rfl (by (first | assumption | rfl)) (by (first | assumption | omega)) (by (first | assumption | omega))) ?_
    refine WO.e0 (O.storeEl 0 (mkAccesses 9 i) S rfl rfl (by (rw [wideL_len _ _ _ hi]; omega)) rfl sz_71 rfl (fun w S => ?_))
    refine WO.nil ?_
    refine InB.nx ?_
    refine Then.nx ?_
    refine W.region rfl ?_
    refine WO.q (Y.move (v := .int .i64 _) rfl) ?_
    first | refine WO.q (Y.addI rfl rfl (by omega)) ?_ | refine WO.q (Y.add rfl rfl) ?_
    refine WO.q (Y.assign (v := .int .i64 _) rfl) ?_
    refine WO.nil ?_
    refine Then.nx ⟨?_, ?_, ?_⟩
    ·
     (repeat (first | exact Out.hav _ _ _ | exact Out.refl _ _ | refine Out.up rfl ?_ | refine Out.sub rfl ?_))
    ·
     first | exact ⟨i + 1, rfl, by omega, by (rw [← wideL_in _ _ hx1]; exact S)⟩ | exact ⟨i + 1, rfl, by omega, by (rw [← wideL_out _ _ (by omega) (by omega)]; exact S)⟩
    ·
     (show xs.length + 64 - (i + 1) < xs.length + 64 - i; omega)
  ·
   have rh1 := h1
   (try simp only [Q1, Q2, Q3, Q4, Q5, Q6, Q7, Q8, Q9, Qa] at h1)
   refine W.exit ?_
   refine Then.x ?_
   refine Then.x ?_
   refine InB.e ?_
   refine Then.nx ?_
   refine W.seq ?_
   refine W.region rfl ?_
   refine WO.q (Y.move (v := .slice _ _ _) rfl) ?_
   refine WO.q (Y.move (v := .slice _ _ _) rfl) ?_
   refine WO.q (Y.len (t' := 0) Tryd.underlying64 rfl) ?_
   refine WO.q (Y.sliceH sl_64 rfl rfl (by (first | assumption | omega))) ?_
   refine WO.q (Y.assign (v := .slice _ _ _) rfl) ?_
   refine WO.nil ?_
   refine Then.nx ?_
   refine W.ret ?_
   refine BodyQ.ret1 Tryd.results26 (ResV.tmp _ rfl) ?_
   have ei : i = xs.length + 64 := (by omega); subst ei; rw [wideL_end] at S; exact ⟨_, rfl, S⟩
theorem SpareAccesses_spec (w0 : World) (a : Option Addr) (xs : List Access) (R1 : Rd tAccess w0 a (xs ++ mks (mkAccesses 9) xs.length 64)) (hx : xs.length ≤ 2147483647) :
    Calls Tryd.prog 32 [.slice a xs.length (xs.length + 64)].toArray w0 (fun e w => e = .returned (.bool true) ∧ Ext w0 w) := by
 have S := Sat.refl w0
 have ha := R1.1 (by (rw [List.length_append, mks_len]; omega))
 refine calls_of_W (args := [.slice a xs.length (xs.length + 64)]) 29 Tryd.func32 rfl Tryd.ntmps32 rfl ?_
 refine W.seq ?_
 refine W.region rfl ?_
 refine WO.q (Y.assign (v := .bool _) rfl) ?_
 refine WO.nil ?_
 refine Then.nx ?_
 refine W.seq ?_
 refine W.region rfl ?_
 refine WO.q (Y.move (v := .slice _ _ _) rfl) ?_
 refine WO.q (Y.move (v := .slice _ _ _) rfl) ?_
 refine WO.q (Y.len (t' := 0) Tryd.underlying64 rfl) ?_
 refine WO.q (Y.addI rfl rfl (by omega)) ?_
 refine WO.q (Y.sliceH (h := xs.length + 64) sl_64 rfl rfl (by omega)) ?_
 refine WO.q (Y.assign (v := .slice _ _ _) rfl) ?_
 refine WO.nil ?_
 refine Then.nx ?_
 refine W.seq ?_
 refine W.seq ?_
 refine W.region rfl ?_
 refine WO.q (Y.move (v := .slice _ _ _) rfl) ?_
 refine WO.q (Y.len (t' := 0) Tryd.underlying64 rfl) ?_
 refine WO.q (Y.assign (v := .int .i64 _) rfl) ?_
 refine WO.nil ?_
 refine Then.nx ?_
 refine W.block ?_
 -- loop 0 carries 4:i
 refine W.loop1 [2, 4, 5, 13, 14, 15, 16, 17, 18, 19, 20, 21, 22, 23, 24, 25, 26, 27, 28] 4 (fun v4 w => ∃ i : Nat, v4 = .int .i64 (i : Int) ∧ xs.length ≤ i ∧ i ≤ xs.length + 64 ∧ Sat w0 w []) (fun v4 w => xs.length + 64 - (intOf v4).toNat) ?_ ?_
 ·
  exact ⟨xs.length, rfl, Nat.le_refl _, by omega, S⟩
 ·
  rintro g0 v4 w ⟨i, rfl, hi0, hi, S⟩
  refine W.seq ?_
  refine W.seq ?_
  refine W.region rfl ?_
  refine WO.q (Y.move (v := .int .i64 _) rfl) ?_
  refine WO.q (Y.move (v := .slice _ _ _) rfl) ?_
  refine WO.q (Y.len (t' := 0) Tryd.underlying64 rfl) ?_
  refine WO.q (Y.lss rfl rfl) ?_
  refine WO.nil ?_
  refine Then.nx ?_
  refine W.cond rfl (fun h1 => ?_) (fun h1 => ?_) -- cond 0
  ·
   have rh1 := h1
   (try simp only [Q1, Q2, Q3, Q4, Q5, Q6, Q7, Q8, Q9, Qa] at h1)
   have hx1 : (xs ++ mks (mkAccesses 9) xs.length 64)[i]? = some (mkAccesses 9 i) := by (rw [List.getElem?_append_right hi0, mks_at (by omega)]; congr 2; omega)
   refine W.skip ?_
   refine Then.nx ?_
   refine W.seq ?_
   refine W.block ?_
   refine W.seq ?_
   refine W.region rfl ?_
   refine WO.q (Y.move (v := .slice _ _ _) rfl) ?_
   refine WO.q (Y.move (v := .int .i64 _) rfl) ?_
   first | refine WO.q (Y.ixN sl_64 rfl rfl (by (first | assumption | rfl)) (by (first | assumption | omega))) ?_ | refine WO.q (Y.ix sl_64 rfl rfl (by (first | assumption | rfl)) (by (first | assumption | omega)) (by (first | assumption | omega))) ?_
   refine WO.q (Y.load rfl (loadRdN sz_71 (R1.ext S.ext) (by assumption))) ?_
   refine WO.e (O.alloc z_71 S (fun b5 w S => ?_))
   first | refine WO.e0 (O.store (v := .agg _) 0 S rfl rfl rfl sz_71 rfl rfl rfl rfl (fun w S => ?_)) | refine WO.e0 (O.store (v := .agg _) 1 S rfl rfl rfl sz_71 rfl rfl rfl rfl (fun w S => ?_)) | refine WO.e0 (O.store (v := .agg _) 2 S rfl rfl rfl sz_71 rfl rfl rfl rfl (fun w S => ?_))
   refine WO.nil ?_
   refine Then.nx ?_
   refine W.seq ?_
   refine W.draw (.q 0 (.q 1 (.e 2 (.q 3 (.q 4 (.q 5 .nil)))))) (fun w => Sat _ w _) rfl rfl (by kernel_rfl) rfl (by kernel_rfl) (by repeat (first | exact BodyQ.noFrame | refine Then.noFrame ?_ | refine InB.noFrame ?_)) S.drew ?_
   clear S
   first | refine Plan.q rfl (fun w S => Y.load rfl (loadSN sz_71 S 0 rfl rfl rfl)) ?_ | refine Plan.q rfl (fun w S => Y.load rfl (loadSN sz_71 S 1 rfl rfl rfl)) ?_ | refine Plan.q rfl (fun w S => Y.load rfl (loadSN sz_71 S 2 rfl rfl rfl)) ?_
   refine Plan.q rfl (fun w S => Y.move (v := .int .i64 _) rfl) ?_
   refine Plan.e1 rfl (fun w S => O.call cf_40 rfl (num_spec _ 9 i (by omega) (by omega)) ?_)
   rintro _ w ⟨rfl, E⟩
   replace S := S.keep E
   refine ⟨_, rfl, ?_⟩
   refine ⟨(fun w => Sat _ w _), S, (.inr (fun w S => S.pk (by repeat (first | exact Pk.nil _ | exact Pk.refl _ | refine Pk.cons 0 rfl ?_ | refine Pk.cons 1 rfl ?_ | refine Pk.cons 2 rfl ?_ | refine Pk.cons 3 rfl ?_ | refine Pk.cons 4 rfl ?_ | refine Pk.cons 5 rfl ?_ | refine Pk.cons 6 rfl ?_ | refine Pk.cons 7 rfl ?_ | refine Pk.cons 8 rfl ?_ | refine Pk.cons 9 rfl ?_ | refine Pk.cons 10 rfl ?_ | refine Pk.cons 11 rfl ?_ | refine Pk.cons 12 rfl ?_ | refine Pk.cons 13 rfl ?_ | refine Pk.drop ?_)))), ?_⟩
   clear S
   refine Plan.q rfl (fun w S => Y.build rfl (bld_71_2)) ?_
   first | refine Plan.q rfl (fun w S => Y.eqlA eqt_71 rfl rfl) ?_ | refine Plan.q rfl (fun w S => Y.eqlA (x := mkAccesses 9 i) (y := mkAccesses 9 i) eqt_71 rfl rfl) ?_
   refine Plan.q rfl (fun w S => Y.not rfl) ?_
   refine Plan.nil (fun w S => ?_)
   replace S : Sat _ _ _ := S
   refine Then.nx ?_
   refine W.cond rfl (fun h2 => ?_) (fun h2 => ?_) -- cond 1
   ·
    have rh2 := h2
    (try simp only [Q1, Q2, Q3, Q4, Q5, Q6, Q7, Q8, Q9, Qa] at h2)
    refine W.seq ?_
    refine W.region rfl ?_
    refine WO.q (Y.assign (v := .bool _) rfl) ?_
    refine WO.nil ?_
    refine Then.nx ?_
    refine W.ret ?_
    refine InB.r ?_
    refine Then.r ?_
    refine Then.r ?_
    refine InB.r ?_
    refine Then.r ?_
    refine BodyQ.ret1 Tryd.results32 (ResV.tmp _ rfl) ?_
    first | exact ⟨rfl, S.ext⟩ | contradiction | (exfalso; omega) | (exfalso; simp_all; done)
   ·
    have rh2 := h2
    (try simp only [Q1, Q2, Q3, Q4, Q5, Q6, Q7, Q8, Q9, Qa] at h2)
    refine W.skip ?_
    refine InB.nx ?_
    refine Then.nx ?_
    refine W.region rfl ?_
    refine WO.q (Y.move (v := .int .i64 _) rfl) ?_
    first | refine WO.q (Y.addI rfl rfl (by omega)) ?_ | refine WO.q (Y.add rfl rfl) ?_
    refine WO.q (Y.assign (v := .int .i64 _) rfl) ?_
    refine WO.nil ?_
    refine Then.nx ⟨?_, ?_, ?_⟩
    ·
     (repeat (first | exact Out.hav _ _ _ | exact Out.refl _ _ | refine Out.up rfl ?_ | refine Out.sub rfl ?_))
    ·
     exact ⟨i + 1, rfl, by omega, by omega, S.nil⟩
    ·
     (show xs.length + 64 - (i + 1) < xs.length + 64 - i; omega)
  ·
   have rh1 := h1
   (try simp only [Q1, Q2, Q3, Q4, Q5, Q6, Q7, Q8, Q9, Qa] at h1)
   refine W.exit ?_
   refine Then.x ?_
   refine Then.x ?_
   refine InB.e ?_
   refine Then.nx ?_
   refine W.seq ?_
   refine W.region rfl ?_
   refine WO.q (Y.assign (v := .bool _) rfl) ?_
   refine WO.nil ?_
   refine Then.nx ?_
   refine W.ret ?_
   refine BodyQ.ret1 Tryd.results32 (ResV.tmp _ rfl) ?_
   first | exact ⟨rfl, S.ext⟩ | contradiction | (exfalso; omega) | (exfalso; simp_all; done)
theorem AddRaces_spec (w0 w : World) (bg : Nat) (hdr : List Value) (ga : Option Addr) (gc : Nat) (ps : List SlV) (a : Option Addr) (n c : Nat) (L : List HA) (hh : hdr[8]? = some (.slice ga ps.length gc)) (hk : ps.length < 400)
    (S : Sat w0 w (Cel bg hdr 50 :: Own tSl 79 ga gc ps :: L)) :
    Calls Tryd.prog 39 [.pointer (some ⟨bg, 0, none⟩), .slice a n c].toArray w (fun e w' => ∃ ga' gc', e = .returned (.tuple #[]) ∧ Sat w0 w' (Cel bg (hdr.set 8 (.slice ga' (ps ++ [(a, n, c)]).length gc')) 50 :: Own tSl 79 ga' gc' (ps ++ [((a, n, c) : SlV)]) :: L)) := by
 refine calls_of_W (args := [.pointer (some ⟨bg, 0, none⟩), .slice a n c]) 20 Tryd.func39 rfl Tryd.ntmps39 rfl ?_
 refine W.seq ?_
 refine W.region rfl ?_
 first | refine WO.q (Y.move (v := .pointer (some _)) rfl) ?_ | refine WO.q (Y.move (v := .pointer _) rfl) ?_
 refine WO.q (Y.nilP rfl) ?_
 first | refine WO.q (Y.fieldB fo_50_8 rfl) ?_ | refine WO.q (Y.fieldE fo_50_8 rfl) ?_
 first | refine WO.q (Y.load rfl (loadS1 sz_43 S 0 rfl hh)) ?_ | refine WO.q (Y.load rfl (loadS1 sz_43 S 0 rfl rfl)) ?_ | refine WO.q (Y.load rfl (loadS1 sz_43 S 1 rfl rfl)) ?_ | refine WO.q (Y.load rfl (loadS1 sz_43 S 2 rfl rfl)) ?_
 refine WO.q (Y.len (t' := 0) Tryd.underlying43 rfl) ?_
 refine WO.q (Y.lss rfl rfl) ?_
 refine WO.nil ?_
 refine Then.nx ?_
 refine W.cond rfl (fun h1 => ?_) (fun h1 => ?_) -- cond 0
 ·
  have rh1 := h1
  (try simp only [Q1, Q2, Q3, Q4, Q5, Q6, Q7, Q8, Q9, Qa] at h1)
  replace S : Sat w0 w (Cel bg hdr 50 :: Own tSl 79 ga gc ps :: L) := S
  refine W.region rfl ?_
  first | refine WO.q (Y.move (v := .pointer (some _)) rfl) ?_ | refine WO.q (Y.move (v := .pointer _) rfl) ?_
  first | refine WO.q (Y.move (v := .pointer (some _)) rfl) ?_ | refine WO.q (Y.move (v := .pointer _) rfl) ?_
  refine WO.q (Y.nilP rfl) ?_
  first | refine WO.q (Y.fieldB fo_50_8 rfl) ?_ | refine WO.q (Y.fieldE fo_50_8 rfl) ?_
  first | refine WO.q (Y.load rfl (loadS1 sz_43 S 0 rfl hh)) ?_ | refine WO.q (Y.load rfl (loadS1 sz_43 S 0 rfl rfl)) ?_ | refine WO.q (Y.load rfl (loadS1 sz_43 S 1 rfl rfl)) ?_ | refine WO.q (Y.load rfl (loadS1 sz_43 S 2 rfl rfl)) ?_
  refine WO.q (Y.move (v := .slice _ _ _) rfl) ?_
  first | refine WO.e (O.buildSlice rfl (buildOne sl_43 (by decide) rfl rfl) S (fun b16 w S => ?_)) | refine WO.e (O.buildSlice rfl (buildOne sl_43 (by decide) rfl (by simp)) S (fun b16 w S => ?_)) | refine WO.e (O.buildSlice rfl (bs_43_1_0) S (fun b16 w S => ?_))
  refine WO.e (O.append (T := tSl) (ys := [((a, n, c) : SlV)]) 2 sl_43 S rfl rfl rfl rfl (S.rd1 (T := tSl) (x := ((a, n, c) : SlV)) 0 rfl) rfl (by (simp only [List.length_singleton]; omega)) (by (simp only [List.length_singleton, maxLen]; omega)) (fun a17 c17 w S hn17 => ?_))
  refine WO.q (Y.nilP rfl) ?_
  first | refine WO.q (Y.fieldB fo_50_8 rfl) ?_ | refine WO.q (Y.fieldE fo_50_8 rfl) ?_
  refine WO.e0 (O.store (v := .slice _ _ _) 1 S rfl rfl rfl sz_43 rfl rfl rfl (by (have := (List.getElem?_eq_some_iff.1 hh).1; simp only [Nat.ble_eq]; omega)) (fun w S => ?_))
  refine WO.nil ?_
  refine BodyQ.end0 Tryd.results39 ?_
  exact ⟨a17, c17, rfl, by (rw [← lset_at hh]; exact S.tl)⟩
 ·
  have rh1 := h1
  (try simp only [Q1, Q2, Q3, Q4, Q5, Q6, Q7, Q8, Q9, Qa] at h1)
  exfalso; omega
end Go.Proofs
