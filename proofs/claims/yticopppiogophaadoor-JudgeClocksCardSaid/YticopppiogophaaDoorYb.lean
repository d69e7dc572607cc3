/-
  Walks of CloneI, Clocks.
-/
import Derived.Test.YticopppiogophaaDoorTw
import Derived.Test.YticopppiogophaaDoorTp
import Derived.Test.YticopppiogophaaDoorSx
import Derived.Test.YticopppiogophaaDoorFa
import Derived.Test.YticopppiogophaaDoorFb
import Derived.Test.YticopppiogophaaDoorFc
import Derived.Test.YticopppiogophaaDoorWc
set_option linter.unusedVariables false
set_option linter.unusedSimpArgs false
set_option maxRecDepth 100000
set_option maxHeartbeats 1000000
namespace Go.Proofs
open Go Go.TL Go.RowKit
theorem CloneI_spec (w0 : World) (a : Option Addr) (cap : Nat) (xs : List Int) (R1 : Rd (tI .i64) w0 a xs) (h : xs.length ≤ 4096) :
    Calls Tryd.prog 46 [.slice a xs.length cap].toArray w0 (fun e w' => ∃ a' cap', e = .returned (.slice a' xs.length cap') ∧ Sat w0 w' [Own (tI .i64) 3 a' cap' xs]) := by
 have S := Sat.refl w0
 refine calls_of_W (args := [.slice a xs.length cap]) 8 Tryd.func46 rfl Tryd.ntmps46 rfl ?_
 refine W.seq ?_
 refine W.region rfl ?_
 refine WO.q (Y.assign (v := .slice _ _ _) rfl) ?_
 refine WO.nil ?_
 refine Then.nx ?_
 refine W.seq ?_
 refine W.seq ?_
 refine W.region rfl ?_
 refine WO.q (Y.move (v := .slice _ _ _) rfl) ?_
 refine WO.q (Y.eqNilS Tryd.underlying27 rfl rfl) ?_
 refine WO.nil ?_
 refine Then.nx ?_
 refine W.cond rfl (fun h1 => ?_) (fun h1 => ?_) -- cond 0
 ·
  have rh1 := h1
  (try simp only [Q1, Q2, Q3, Q4, Q5, Q6, Q7, Q8, Q9, Qa] at h1)
  refine W.seq ?_
  refine W.region rfl ?_
  refine WO.q (Y.assign (v := .slice _ _ _) rfl) ?_
  refine WO.nil ?_
  refine Then.nx ?_
  refine W.ret ?_
  refine Then.r ?_
  refine BodyQ.ret1 Tryd.results46 (ResV.tmp _ rfl) ?_
  have e := R1.isNil (by assumption); subst e; exact ⟨none, 0, rfl, S.nilOwn (tI .i64) 3⟩
 ·
  have rh1 := h1
  (try simp only [Q1, Q2, Q3, Q4, Q5, Q6, Q7, Q8, Q9, Qa] at h1)
  refine W.skip ?_
  refine Then.nx ?_
  refine W.seq ?_
  refine W.region rfl ?_
  refine WO.e (O.buildSlice (cs := []) (e := 3) rfl (by intro w; kernel_rfl) S (fun b5 w S => ?_))
  replace S := S.emptyOwn (tI .i64)
  refine WO.q (Y.move (v := .slice _ _ _) rfl) ?_
  refine WO.e (O.append 0 sl_27 S rfl rfl rfl rfl (R1.ext S.ext) rfl (by (simp only [List.length_nil]; omega)) (by (simp only [List.length_nil, maxLen]; omega)) (fun a7 c7 w S hn7 => ?_))
  refine WO.q (Y.assign (v := .slice _ _ _) rfl) ?_
  refine WO.nil ?_
  refine Then.nx ?_
  refine W.ret ?_
  refine BodyQ.ret1 Tryd.results46 (ResV.tmp _ rfl) ?_
  exact ⟨a7, c7, rfl, S⟩
theorem Clocks_spec (w0 : World) (a : Option Addr) (c : Nat) (l : List Access) (R1 : Rd tAccess w0 a l) (hx : l.length ≤ 4096) :
    Calls Tryd.prog 27 [.slice a l.length c].toArray w0 (fun e w => ∃ (a' : Option Addr) (c' : Nat) (ps : List SlV), e = .returned (.tuple #[.slice a' ps.length c', .int .i64 (mayE l)]) ∧ ps.length = clksP l ∧ (∀ q ∈ ps, q.2.1 = (mayN l).toNat) ∧ Sat w0 w [Own tSl 27 a' c' ps, Rws (ARow (tI .i64) 3 ps (clksR l)) ps.length]) := by
 have S := Sat.refl w0
 have hn64 := mayN_64 l
 refine calls_of_W (args := [.slice a l.length c]) 32 Tryd.func27 rfl Tryd.ntmps27 rfl ?_
 refine W.seq ?_
 refine W.region rfl ?_
 refine WO.q (Y.assign (v := .slice _ _ _) rfl) ?_
 refine WO.q (Y.assign (v := .int .i64 _) rfl) ?_
 refine WO.nil ?_
 refine Then.nx ?_
 refine W.seq ?_
 refine W.region rfl ?_
 refine WO.q (Y.move (v := .slice _ _ _) rfl) ?_
 refine WO.e (O.call cf_63 rfl (may_spec _ _ _ l (R1.ext S.ext) (by omega)) ?_)
 rintro _ w ⟨rfl, E⟩
 replace S := S.keep E
 refine ⟨_, rfl, ?_⟩
 refine WO.q (Y.move (v := .tuple _) rfl) ?_
 refine WO.q (Y.extract (v := .int .i64 _) rfl rfl) ?_
 refine WO.q (Y.extract (v := .bool _) rfl rfl) ?_
 refine WO.q (Y.assign (v := .int .i64 _) rfl) ?_
 refine WO.q (Y.assign (v := .bool _) rfl) ?_
 refine WO.nil ?_
 refine Then.nx ?_
 refine W.seq ?_
 refine W.seq ?_
 refine W.region rfl ?_
 refine WO.q (Y.move (v := .bool _) rfl) ?_
 refine WO.q (Y.not rfl) ?_
 refine WO.nil ?_
 refine Then.nx ?_
 refine W.cond rfl (fun h1 => ?_) (fun h1 => ?_) -- cond 0
 ·
  have rh1 := h1
  (try simp only [Q1, Q2, Q3, Q4, Q5, Q6, Q7, Q8, Q9, Qa] at h1)
  refine W.seq ?_
  refine W.region rfl ?_
  refine WO.q (Y.assign (v := .slice _ _ _) rfl) ?_
  refine WO.q (Y.assign (v := .int .i64 _) rfl) ?_
  refine WO.nil ?_
  refine Then.nx ?_
  refine W.ret ?_
  refine Then.r ?_
  refine BodyQ.ret2 Tryd.results27 (ResV.tmp _ rfl) (ResV.tmp _ rfl) ?_
  first | (obtain ⟨e1, e2⟩ := races_no (l := l) (by assumption); rw [e2]; exact ⟨none, 0, [], rfl, by (unfold clksP; rw [show mayOk l = false by assumption]; rfl), fun q h => (by cases h), ((S.nilOwn tSl 27).bun (M := [])).pk (.cons 1 rfl (.cons 0 rfl (.nil _)))⟩) | (obtain ⟨e1, e2⟩ := races_yes (l := l) hmo; rw [e2]; exact ⟨ao, co, ps, rfl, by (unfold clksP; rw [hmo, if_pos rfl]; omega), fun q h => (by (rw [Int.toNat_natCast]; exact hq q h)), S.pk (.cons 0 rfl (.cons 1 rfl (.nil _)))⟩)
 ·
  have rh1 := h1
  (try simp only [Q1, Q2, Q3, Q4, Q5, Q6, Q7, Q8, Q9, Qa] at h1)
  refine W.skip ?_
  refine Then.nx ?_
  refine W.seq ?_
  have hmo : mayOk l = true := by assumption
  obtain ⟨n, hn⟩ := Int.eq_ofNat_of_zero_le (mayN_bd hmo).1
  have hnn : (mayN l).toNat = n := by omega
  simp only [hn]
  refine W.region rfl ?_
  refine WO.q (Y.assign (v := .slice _ _ _) rfl) ?_
  refine WO.nil ?_
  refine Then.nx ?_
  refine W.seq ?_
  refine W.seq ?_
  refine W.region rfl ?_
  refine WO.q (Y.move (v := .slice _ _ _) rfl) ?_
  refine WO.e (O.call cf_64 rfl (clocks_spec _ _ _ l (R1.ext S.ext) (by omega) (by assumption)) ?_)
  rintro _ w ⟨a1, c1, rfl, S2⟩
  replace S := S.trans S2
  refine ⟨_, rfl, ?_⟩
  refine WO.q (Y.len (t' := 0) Tryd.underlying105 rfl) ?_
  refine WO.q (Y.move (v := .int .i64 _) rfl) ?_
  refine WO.nil ?_
  refine Then.nx ?_
  refine W.block ?_
  -- loop 0 carries 6:out, 19
  refine W.loop2 [6, 8, 19, 20, 21, 22, 23, 24, 25, 26, 27, 28, 29, 30] 6 19 (fun v6 v19 w => ∃ (i : Nat) (ao : Option Addr) (co : Nat) (ps : List SlV), v19 = .int .i64 (i : Int) ∧ i ≤ l.length ∧ v6 = .slice ao ps.length co ∧ ps.length = i ∧ (∀ q ∈ ps, q.2.1 = n) ∧ Sat w0 w [Own tSl 27 ao co ps, Own tClock 109 a1 c1 (clks l), Rws (ARow (tI .i64) 3 ps (clksR l)) ps.length]) (fun v6 v19 w => l.length - (intOf v19).toNat) ?_ ?_
  ·
   exact ⟨0, none, 0, [], rfl, Nat.zero_le _, rfl, rfl, fun q h => (by cases h), ((S.nilOwn tSl 27).bun (M := [])).pk (.cons 1 rfl (.cons 1 rfl (.cons 0 rfl (.nil _))))⟩
  ·
   rintro g0 v6 v19 w ⟨i, ao, co, ps, rfl, hi, rfl, hpl, hq, S⟩
   refine W.seq ?_
   refine W.region rfl ?_
   refine WO.q (Y.lss rfl rfl) ?_
   refine WO.nil ?_
   refine Then.nx ?_
   refine W.seq ?_
   refine W.cond rfl (fun h2 => ?_) (fun h2 => ?_) -- cond 1
   ·
    have rh2 := h2
    (try simp only [Q1, Q2, Q3, Q4, Q5, Q6, Q7, Q8, Q9, Qa] at h2)
    have ha1 := (S.rd 1 rfl).1 (by (rw [clks_len]; omega))
    have hck := clks_at (l := l) (i := i) (by omega)
    refine W.skip ?_
    refine Then.nx ?_
    refine W.seq ?_
    refine W.block ?_
    refine W.seq ?_
    refine W.region rfl ?_
    first | refine WO.q (Y.ixN sl_105 rfl rfl (by (first | assumption | rfl)) (by (first | assumption | omega))) ?_ | refine WO.q (Y.ix sl_105 rfl rfl (by (first | assumption | rfl)) (by (first | assumption | omega)) (by (first | assumption | omega))) ?_
    refine WO.q (Y.load rfl (loadRdN sz_109 (S.rd 1 rfl) (by assumption))) ?_
    refine WO.e (O.alloc (z := .agg (List.replicate 64 (Value.int .i64 0)).toArray) (zc := List.replicate 64 (Value.int .i64 0)) ⟨fun w => by kernel_rfl, rfl⟩ S (fun b8 w S => ?_))
    refine WO.e0 (O.store (v := .agg _) 0 S rfl rfl rfl sz_109 rfl (clkL_len 64 _) (clk_one _) (by (rw [List.length_replicate]; rfl)) (fun w S => ?_))
    refine WO.nil ?_
    refine Then.nx ?_
    replace S : Sat w0 w [Cel b8 (clkL 64 (clkAt l i)) 109, Own tSl 27 ao co ps, Own tClock 109 a1 c1 (clks l), Rws (ARow (tI .i64) 3 ps (clksR l)) ps.length] := (by (rw [show lset (List.replicate 64 (Value.int .i64 0)) 0 (tClock.enc (clkAt l i)) = clkL 64 (clkAt l i) from lset_clk _] at S; exact S))
    refine W.region rfl ?_
    refine WO.q (Y.move (v := .slice _ _ _) rfl) ?_
    refine WO.q (Y.move (v := .int .i64 _) rfl) ?_
    refine WO.q (Y.move (v := .int .i64 _) rfl) ?_
    refine WO.q (Y.sliceAr (h := n) Tryd.underlying109 (fun w => (sz_3 w).2) rfl rfl rfl (by omega)) ?_
    refine WO.e (O.call cf_46 rfl (Calls_args (by (rw [rowN_len]; rfl)) (CloneI_spec _ _ n (rowN n (clkAt l i)) (clk_rd S 0 rfl (by omega)) (by (rw [rowN_len]; omega)))) ?_)
    rintro _ w ⟨a5, c5, rfl, S2⟩
    replace S := S.trans S2
    refine ⟨_, rfl, ?_⟩
    first | refine WO.e (O.buildSlice rfl (buildOne sl_36 (by decide) rfl rfl) S (fun b28 w S => ?_)) | refine WO.e (O.buildSlice rfl (buildOne sl_36 (by decide) rfl (by simp)) S (fun b28 w S => ?_)) | refine WO.e (O.buildSlice rfl (bs_36_1_0) S (fun b28 w S => ?_))
    refine WO.e (O.append (T := tSl) (ys := [((a5, (rowN n (clkAt l i)).length, c5) : SlV)]) 3 sl_36 S rfl rfl rfl rfl (S.rd1 (T := tSl) (x := ((a5, (rowN n (clkAt l i)).length, c5) : SlV)) 0 rfl) rfl (by (simp only [List.length_singleton]; omega)) (by (simp only [List.length_singleton, maxLen]; omega)) (fun a29 c29 w S hn29 => ?_))
    refine WO.q (Y.assign (v := .slice _ _ _) rfl) ?_
    refine WO.nil ?_
    refine InB.nx ?_
    refine Then.nx ?_
    refine W.region rfl ?_
    first | refine WO.q (Y.addI rfl rfl (by omega)) ?_ | refine WO.q (Y.add rfl rfl) ?_
    refine WO.q (Y.move (v := .int .i64 _) rfl) ?_
    refine WO.nil ?_
    refine Then.nx ⟨?_, ?_, ?_⟩
    ·
     (repeat (first | exact Out.hav _ _ _ | exact Out.refl _ _ | refine Out.up rfl ?_ | refine Out.sub rfl ?_))
    ·
     have hcr : rowN n (clkAt l i) = clksR l ps.length := (by (unfold clksR; rw [hnn, hpl])); rw [hcr] at S ⊢; exact ⟨i + 1, a29, c29, _, rfl, by omega, rfl, by (simp [hpl]), (fun q h => by (rcases List.mem_append.1 h with h | h; exact hq q h; simp at h; subst h; rw [clksR_len, hnn])), ((S.pk (.cons 1 rfl (.cons 4 rfl (.refl _)))).arSnoc).pk (.cons 3 rfl (.cons 3 rfl (.cons 0 rfl (.drop (.drop (.refl _))))))⟩
    ·
     (show l.length - (i + 1) < l.length - i; omega)
   ·
    have rh2 := h2
    (try simp only [Q1, Q2, Q3, Q4, Q5, Q6, Q7, Q8, Q9, Qa] at h2)
    refine W.exit ?_
    refine Then.x ?_
    refine Then.x ?_
    refine InB.e ?_
    refine Then.nx ?_
    refine W.seq ?_
    refine W.region rfl ?_
    refine WO.q (Y.move (v := .slice _ _ _) rfl) ?_
    refine WO.q (Y.assign (v := .slice _ _ _) rfl) ?_
    refine WO.q (Y.assign (v := .int .i64 _) rfl) ?_
    refine WO.nil ?_
    refine Then.nx ?_
    refine W.ret ?_
    refine BodyQ.ret2 Tryd.results27 (ResV.tmp _ rfl) (ResV.tmp _ rfl) ?_
    first | (obtain ⟨e1, e2⟩ := races_no (l := l) (by assumption); rw [e2]; exact ⟨none, 0, [], rfl, by (unfold clksP; rw [show mayOk l = false by assumption]; rfl), fun q h => (by cases h), ((S.nilOwn tSl 27).bun (M := [])).pk (.cons 1 rfl (.cons 0 rfl (.nil _)))⟩) | (obtain ⟨e1, e2⟩ := races_yes (l := l) hmo; rw [e2]; exact ⟨ao, co, ps, rfl, by (unfold clksP; rw [hmo, if_pos rfl]; omega), fun q h => (by (rw [Int.toNat_natCast]; exact hq q h)), S.pk (.cons 0 rfl (.cons 1 rfl (.nil _)))⟩)
end Go.Proofs
