/-
  Walks of level.
-/
import Derived.Test.YtlnimgpfopaicaaGe
import Derived.Test.YtlnimgpfopaicaaGh
import Derived.Test.YtlnimgpfopaicaaSx
import Derived.Test.YtlnimgpfopaicaaFa
import Derived.Test.YtlnimgpfopaicaaFb
import Derived.Test.YtlnimgpfopaicaaWb
set_option linter.unusedVariables false
set_option linter.unusedSimpArgs false
set_option maxRecDepth 100000
set_option maxHeartbeats 1000000
namespace Go.Proofs
open Go Go.TL Go.RowKit
theorem level_spec (w0 : World) (v : FIn) (f : GFlow) (R : RdFlow w0 v f) (hck : (checkM f).1 = 0) (bm b6 b1 b7 : Nat) : ∀ (B : Nat) (w : World) (L : List HA) (n : Nat) (m : Int → Option Int), n < B → n < f.lets.length → (∀ (j : Nat) (u : Int), m (j : Int) = some u → u = levM f.lets j) → Sat w0 w (MapF bm (fun n : Int => Value.int .i64 n) (fun n : Int => Value.int .i64 n) m :: Cel b6 [.map (some bm)] 69 :: Cel b1 (fL v f) 25 :: Cel b7 [.func (.func 27) #[] #[.pointer (some ⟨b6, 0, none⟩), .pointer (some ⟨b1, 0, none⟩), .pointer (some ⟨b7, 0, none⟩)]] 70 :: L) →
    Calls Try.prog 27 [.int .i64 (n : Int), .pointer (some ⟨b6, 0, none⟩), .pointer (some ⟨b1, 0, none⟩), .pointer (some ⟨b7, 0, none⟩)].toArray w (fun r w' => r = .returned (.int .i64 (levM f.lets n)) ∧ ∃ m', (∀ (j : Nat) (u : Int), m' (j : Int) = some u → u = levM f.lets j) ∧ Sat w0 w' (MapF bm (fun n : Int => Value.int .i64 n) (fun n : Int => Value.int .i64 n) m' :: Cel b6 [.map (some bm)] 69 :: Cel b1 (fL v f) 25 :: Cel b7 [.func (.func 27) #[] #[.pointer (some ⟨b6, 0, none⟩), .pointer (some ⟨b1, 0, none⟩), .pointer (some ⟨b7, 0, none⟩)]] 70 :: L)) := by
 have hR := R
 obtain ⟨⟨raws, R1, hraw⟩, Ro, hlc, hoc, hln, hon, htn⟩ := R
 have hrl := hraw.1
 intro B
 induction B
 case zero => (intro w L n m hB; omega)
 rename_i B ih
 intro w L n m hB hnl hm S
 have ha := R1.1 (by omega)
 obtain ⟨x, hx⟩ := at_ex (xs := f.lets) (k := n) (by omega)
 obtain ⟨ra, rc, hr, hrc, hrt⟩ := hraw.get hx
 obtain ⟨htr, hft, hot⟩ := checked2 hck hx
 have htl := htn n x hx
 obtain ⟨nd, hnd⟩ := at_ex (xs := x.tree) (k := 0) (by (rw [htr]; exact flat_pos _))
 have hrm := rootM_at hnd
 have hnq := needsR_eq hck hx
 have hnql := needsR_len x
 have hlq := levM_eq hx
 have hnb := needL_len x n
 refine calls_of_W (args := [.int .i64 (n : Int), .pointer (some ⟨b6, 0, none⟩), .pointer (some ⟨b1, 0, none⟩), .pointer (some ⟨b7, 0, none⟩)]) 41 Try.func27 rfl Try.ntmps27 rfl ?_
 refine W.seq ?_
 refine W.region rfl ?_
 refine WO.q (Y.assign (v := .int .i64 _) rfl) ?_
 refine WO.nil ?_
 refine Then.nx ?_
 refine W.seq ?_
 refine W.seq ?_
 refine W.region rfl ?_
 first | refine WO.q (Y.load rfl (loadS1 sz_69 S 0 rfl rfl)) ?_ | refine WO.q (Y.load rfl (loadS1 sz_69 S 1 rfl rfl)) ?_ | refine WO.q (Y.load rfl (loadS1 sz_69 S 2 rfl rfl)) ?_ | refine WO.q (Y.load rfl (loadS1 sz_69 S 3 rfl rfl)) ?_ | refine WO.q (Y.load rfl (loadS1 sz_69 S 4 rfl rfl)) ?_ | refine WO.q (Y.load rfl (loadS1 sz_69 S 5 rfl rfl)) ?_ | refine WO.q (Y.load rfl (loadS1 sz_69 S 6 rfl rfl)) ?_ | refine WO.q (Y.load rfl (loadS1 sz_69 S 7 rfl rfl)) ?_ | refine WO.q (Y.load rfl (loadRdF sz_69 (R1.ext S.ext) (by assumption) rfl)) ?_ | refine WO.q (Y.load rfl (loadRdF sz_69 (S.rd 0 rfl) (by assumption) rfl)) ?_ | refine WO.q (Y.load rfl (loadRd1 sz_69 (R1.ext S.ext) (by assumption) rfl)) ?_ | refine WO.q (Y.load rfl (loadRd1 sz_69 (S.rd 0 rfl) (by assumption) rfl)) ?_
 refine WO.q (Y.move (v := .int .i64 _) rfl) ?_
 refine WO.q (Y.lookupOk (kv := (fun n : Int => Value.int .i64 n)) (vv := (fun n : Int => Value.int .i64 n)) (z := 0) (n : Int) Try.underlying69 (keyInt Try.underlying3) (fun w => by kernel_rfl) 0 S rfl rfl rfl) ?_
 refine WO.q (Y.move (v := .tuple _) rfl) ?_
 refine WO.q (Y.extract (v := .int .i64 _) rfl rfl) ?_
 refine WO.q (Y.extract (v := .bool _) rfl rfl) ?_
 refine WO.q (Y.assign (v := .int .i64 _) rfl) ?_
 refine WO.q (Y.assign (v := .bool _) rfl) ?_
 refine WO.nil ?_
 refine Then.nx ?_
 refine W.seq ?_
 refine W.region rfl ?_
 refine WO.q (Y.move (v := .bool _) rfl) ?_
 refine WO.nil ?_
 refine Then.nx ?_
 refine W.cond rfl (fun h1 => ?_) (fun h1 => ?_) -- cond 0
 ·
  have rh1 := h1
  (try simp only [Q1, Q2, Q3, Q4, Q5, Q6, Q7, Q8, Q9, Qa] at h1)
  refine W.seq ?_
  refine W.region rfl ?_
  refine WO.q (Y.move (v := .int .i64 _) rfl) ?_
  refine WO.q (Y.assign (v := .int .i64 _) rfl) ?_
  refine WO.nil ?_
  refine Then.nx ?_
  refine W.ret ?_
  refine Then.r ?_
  refine BodyQ.ret1 Try.results27 (ResV.tmp _ rfl) ?_
  first | (exact ⟨(congrArg (fun u => Ending.returned (.int .i64 u)) (hm n _ (getD_some (by assumption)))), m, hm, S⟩) | exact ⟨rfl, _, known_set hm2, S.pk (by repeat (first | exact Pk.nil _ | exact Pk.refl _ | refine Pk.cons 0 rfl ?_ | refine Pk.cons 1 rfl ?_ | refine Pk.cons 2 rfl ?_ | refine Pk.cons 3 rfl ?_ | refine Pk.cons 4 rfl ?_ | refine Pk.cons 5 rfl ?_ | refine Pk.cons 6 rfl ?_ | refine Pk.cons 7 rfl ?_ | refine Pk.cons 8 rfl ?_ | refine Pk.cons 9 rfl ?_ | refine Pk.cons 10 rfl ?_ | refine Pk.cons 11 rfl ?_ | refine Pk.cons 12 rfl ?_ | refine Pk.cons 13 rfl ?_ | refine Pk.drop ?_))⟩
 ·
  have rh1 := h1
  (try simp only [Q1, Q2, Q3, Q4, Q5, Q6, Q7, Q8, Q9, Qa] at h1)
  refine W.skip ?_
  refine Then.nx ?_
  refine W.seq ?_
  refine W.region rfl ?_
  refine WO.q (Y.assign (v := .int .i64 _) rfl) ?_
  refine WO.nil ?_
  refine Then.nx ?_
  refine W.seq ?_
  refine W.seq ?_
  refine W.region rfl ?_
  first | refine WO.q (Y.fieldB fo_25_0 rfl) ?_ | refine WO.q (Y.fieldE fo_25_0 rfl) ?_
  first | refine WO.q (Y.load rfl (loadS1 sz_22 S 0 rfl rfl)) ?_ | refine WO.q (Y.load rfl (loadS1 sz_22 S 1 rfl rfl)) ?_ | refine WO.q (Y.load rfl (loadS1 sz_22 S 2 rfl rfl)) ?_ | refine WO.q (Y.load rfl (loadS1 sz_22 S 3 rfl rfl)) ?_ | refine WO.q (Y.load rfl (loadS1 sz_22 S 4 rfl rfl)) ?_ | refine WO.q (Y.load rfl (loadS1 sz_22 S 5 rfl rfl)) ?_ | refine WO.q (Y.load rfl (loadS1 sz_22 S 6 rfl rfl)) ?_ | refine WO.q (Y.load rfl (loadS1 sz_22 S 7 rfl rfl)) ?_ | refine WO.q (Y.load rfl (loadRdF sz_22 (R1.ext S.ext) (by assumption) rfl)) ?_ | refine WO.q (Y.load rfl (loadRdF sz_22 (S.rd 0 rfl) (by assumption) rfl)) ?_ | refine WO.q (Y.load rfl (loadRd1 sz_22 (R1.ext S.ext) (by assumption) rfl)) ?_ | refine WO.q (Y.load rfl (loadRd1 sz_22 (S.rd 0 rfl) (by assumption) rfl)) ?_
  refine WO.q (Y.move (v := .int .i64 _) rfl) ?_
  first | refine WO.q (Y.ixN sl_22 rfl rfl (by (first | assumption | rfl)) (by (first | assumption | omega))) ?_ | refine WO.q (Y.ix sl_22 rfl rfl (by (first | assumption | rfl)) (by (first | assumption | omega)) (by (first | assumption | omega))) ?_
  first | refine WO.q (Y.load rfl (loadRdN sz_51 (R1.ext S.ext) (by assumption))) ?_ | refine WO.q (Y.load rfl (loadRdN sz_51 (S.rd 0 rfl) (by assumption))) ?_
  refine WO.e (O.call cf_28 rfl (needs_spec _ x ra rc nd (hrt.ext S.ext) hnd htl) ?_)
  rintro _ w ⟨nb, nk, rfl, SN⟩
  replace S := S.trans SN
  rw [hnq] at S hnql ⊢
  refine ⟨_, rfl, ?_⟩
  refine WO.q (Y.len (t' := 0) Try.underlying23 rfl) ?_
  refine WO.q (Y.move (v := .int .i64 _) rfl) ?_
  refine WO.nil ?_
  refine Then.nx ?_
  refine W.block ?_
  -- loop 0 carries 8:most, 26
  refine W.loop2 [8, 10, 26, 27, 28, 29, 30, 31, 32, 33, 34, 35, 36] 8 26 (fun v8 v26 w => ∃ (i : Nat) (m2 : Int → Option Int), v26 = .int .i64 (i : Int) ∧ v8 = .int .i64 (mostOf (fun k => levM f.lets k.toNat) ((needL x n).take i)) ∧ i ≤ (needL x n).length ∧ (∀ (j : Nat) (u : Int), m2 (j : Int) = some u → u = levM f.lets j) ∧ Sat w0 w (Own (tI .i64) 3 nb nk (needL x n) :: MapF bm (fun n : Int => Value.int .i64 n) (fun n : Int => Value.int .i64 n) m2 :: Cel b6 [.map (some bm)] 69 :: Cel b1 (fL v f) 25 :: Cel b7 [.func (.func 27) #[] #[.pointer (some ⟨b6, 0, none⟩), .pointer (some ⟨b1, 0, none⟩), .pointer (some ⟨b7, 0, none⟩)]] 70 :: L)) (fun v8 v26 w => (needL x n).length - (intOf v26).toNat) ?_ ?_
  ·
   exact ⟨0, m, rfl, rfl, Nat.zero_le _, hm, S⟩
  ·
   rintro g0 v8 v26 w ⟨i, m2, rfl, rfl, hi, hm2, S⟩
   refine W.seq ?_
   refine W.region rfl ?_
   refine WO.q (Y.lss rfl rfl) ?_
   refine WO.nil ?_
   refine Then.nx ?_
   refine W.seq ?_
   refine W.cond rfl (fun h2 => ?_) (fun h2 => ?_) -- cond 1
   ·
    have rh2 := h2
    (try simp only [Q1, Q2, Q3, Q4, Q5, Q6, Q7, Q8, Q9, Qa] at h2)
    refine W.skip ?_
    refine Then.nx ?_
    refine W.seq ?_
    refine W.block ?_
    refine W.seq ?_
    obtain ⟨k, hk⟩ := at_ex (xs := needL x n) (k := i) (by omega)
    have hkb := needL_bd (List.mem_of_getElem? hk)
    obtain ⟨k2, rfl⟩ := Int.eq_ofNat_of_zero_le hkb.1
    have hklv := levM_bd f.lets k2 (by omega)
    have hna := (S.rd 0 rfl).1 (by omega)
    refine W.region rfl ?_
    first | refine WO.q (Y.ixN sl_23 rfl rfl (by (first | assumption | rfl)) (by (first | assumption | omega))) ?_ | refine WO.q (Y.ix sl_23 rfl rfl (by (first | assumption | rfl)) (by (first | assumption | omega)) (by (first | assumption | omega))) ?_
    first | refine WO.q (Y.load rfl (loadRd1 sz_3 (R1.ext S.ext) (by assumption) rfl)) ?_ | refine WO.q (Y.load rfl (loadRd1 sz_3 (S.rd 0 rfl) (by assumption) rfl)) ?_
    refine WO.q (Y.assign (v := .int .i64 _) rfl) ?_
    refine WO.nil ?_
    refine Then.nx ?_
    refine W.region rfl ?_
    refine WO.q (Y.move (v := .int .i64 _) rfl) ?_
    first | refine WO.q (Y.load rfl (loadS1 sz_70 S 0 rfl rfl)) ?_ | refine WO.q (Y.load rfl (loadS1 sz_70 S 1 rfl rfl)) ?_ | refine WO.q (Y.load rfl (loadS1 sz_70 S 2 rfl rfl)) ?_ | refine WO.q (Y.load rfl (loadS1 sz_70 S 3 rfl rfl)) ?_ | refine WO.q (Y.load rfl (loadS1 sz_70 S 4 rfl rfl)) ?_ | refine WO.q (Y.load rfl (loadS1 sz_70 S 5 rfl rfl)) ?_ | refine WO.q (Y.load rfl (loadS1 sz_70 S 6 rfl rfl)) ?_ | refine WO.q (Y.load rfl (loadS1 sz_70 S 7 rfl rfl)) ?_ | refine WO.q (Y.load rfl (loadRdF sz_70 (R1.ext S.ext) (by assumption) rfl)) ?_ | refine WO.q (Y.load rfl (loadRdF sz_70 (S.rd 0 rfl) (by assumption) rfl)) ?_ | refine WO.q (Y.load rfl (loadRd1 sz_70 (R1.ext S.ext) (by assumption) rfl)) ?_ | refine WO.q (Y.load rfl (loadRd1 sz_70 (S.rd 0 rfl) (by assumption) rfl)) ?_
    refine WO.q (Y.move (v := .int .i64 _) rfl) ?_
    refine WO.e (O.callV (fun args w => by kernel_rfl) rfl rfl (ih _ (Own (tI .i64) 3 nb nk (needL x n) :: L) k2 m2 (by omega) (by omega) hm2 (S.pk (by repeat (first | exact Pk.nil _ | exact Pk.refl _ | refine Pk.cons 0 rfl ?_ | refine Pk.cons 1 rfl ?_ | refine Pk.cons 2 rfl ?_ | refine Pk.cons 3 rfl ?_ | refine Pk.cons 4 rfl ?_ | refine Pk.cons 5 rfl ?_ | refine Pk.cons 6 rfl ?_ | refine Pk.cons 7 rfl ?_ | refine Pk.cons 8 rfl ?_ | refine Pk.cons 9 rfl ?_ | refine Pk.cons 10 rfl ?_ | refine Pk.cons 11 rfl ?_ | refine Pk.cons 12 rfl ?_ | refine Pk.cons 13 rfl ?_ | refine Pk.drop ?_)))) ?_)
    rintro _ w ⟨rfl, m3, hm3, S⟩
    refine ⟨_, rfl, ?_⟩
    first | refine WO.q (Y.addI rfl rfl (by omega)) ?_ | refine WO.q (Y.add rfl rfl) ?_
    refine WO.q (Y.max2 rfl rfl) ?_
    refine WO.q (Y.assign (v := .int .i64 _) rfl) ?_
    refine WO.nil ?_
    refine InB.nx ?_
    refine Then.nx ?_
    refine W.region rfl ?_
    first | refine WO.q (Y.addI rfl rfl (by omega)) ?_ | refine WO.q (Y.add rfl rfl) ?_
    refine WO.q (Y.move (v := .int .i64 _) rfl) ?_
    refine WO.nil ?_
    refine Then.nx ⟨?_, ?_, ?_⟩
    ·
     (repeat (first | exact Out.hav _ _ _ | exact Out.refl _ _ | refine Out.up rfl ?_ | refine Out.sub rfl ?_))
    ·
     exact ⟨i + 1, m3, rfl, by (rw [mostOf_snoc hk]; rfl), by omega, hm3, S.pk (by repeat (first | exact Pk.nil _ | exact Pk.refl _ | refine Pk.cons 0 rfl ?_ | refine Pk.cons 1 rfl ?_ | refine Pk.cons 2 rfl ?_ | refine Pk.cons 3 rfl ?_ | refine Pk.cons 4 rfl ?_ | refine Pk.cons 5 rfl ?_ | refine Pk.cons 6 rfl ?_ | refine Pk.cons 7 rfl ?_ | refine Pk.cons 8 rfl ?_ | refine Pk.cons 9 rfl ?_ | refine Pk.cons 10 rfl ?_ | refine Pk.cons 11 rfl ?_ | refine Pk.cons 12 rfl ?_ | refine Pk.cons 13 rfl ?_ | refine Pk.drop ?_))⟩
    ·
     (show (needL x n).length - (i + 1) < (needL x n).length - i; omega)
   ·
    have rh2 := h2
    (try simp only [Q1, Q2, Q3, Q4, Q5, Q6, Q7, Q8, Q9, Qa] at h2)
    refine W.exit ?_
    refine Then.x ?_
    refine Then.x ?_
    refine InB.e ?_
    refine Then.nx ?_
    refine W.seq ?_
    obtain rfl : i = (needL x n).length := by omega
    rw [List.take_length, ← hlq]
    refine W.region rfl ?_
    first | refine WO.q (Y.load rfl (loadS1 sz_69 S 0 rfl rfl)) ?_ | refine WO.q (Y.load rfl (loadS1 sz_69 S 1 rfl rfl)) ?_ | refine WO.q (Y.load rfl (loadS1 sz_69 S 2 rfl rfl)) ?_ | refine WO.q (Y.load rfl (loadS1 sz_69 S 3 rfl rfl)) ?_ | refine WO.q (Y.load rfl (loadS1 sz_69 S 4 rfl rfl)) ?_ | refine WO.q (Y.load rfl (loadS1 sz_69 S 5 rfl rfl)) ?_ | refine WO.q (Y.load rfl (loadS1 sz_69 S 6 rfl rfl)) ?_ | refine WO.q (Y.load rfl (loadS1 sz_69 S 7 rfl rfl)) ?_ | refine WO.q (Y.load rfl (loadRdF sz_69 (R1.ext S.ext) (by assumption) rfl)) ?_ | refine WO.q (Y.load rfl (loadRdF sz_69 (S.rd 0 rfl) (by assumption) rfl)) ?_ | refine WO.q (Y.load rfl (loadRd1 sz_69 (R1.ext S.ext) (by assumption) rfl)) ?_ | refine WO.q (Y.load rfl (loadRd1 sz_69 (S.rd 0 rfl) (by assumption) rfl)) ?_
    refine WO.q (Y.move (v := .int .i64 _) rfl) ?_
    refine WO.q (Y.move (v := .int .i64 _) rfl) ?_
    refine WO.e0 (O.mapUpdate (n : Int) (levM f.lets n) Try.underlying69 (keyInt Try.underlying3) 1 S rfl rfl rfl rfl (fun w S => ?_))
    refine WO.nil ?_
    refine Then.nx ?_
    refine W.seq ?_
    refine W.region rfl ?_
    refine WO.q (Y.move (v := .int .i64 _) rfl) ?_
    refine WO.q (Y.assign (v := .int .i64 _) rfl) ?_
    refine WO.nil ?_
    refine Then.nx ?_
    refine W.ret ?_
    refine BodyQ.ret1 Try.results27 (ResV.tmp _ rfl) ?_
    first | (exact ⟨(congrArg (fun u => Ending.returned (.int .i64 u)) (hm n _ (getD_some (by assumption)))), m, hm, S⟩) | exact ⟨rfl, _, known_set hm2, S.pk (by repeat (first | exact Pk.nil _ | exact Pk.refl _ | refine Pk.cons 0 rfl ?_ | refine Pk.cons 1 rfl ?_ | refine Pk.cons 2 rfl ?_ | refine Pk.cons 3 rfl ?_ | refine Pk.cons 4 rfl ?_ | refine Pk.cons 5 rfl ?_ | refine Pk.cons 6 rfl ?_ | refine Pk.cons 7 rfl ?_ | refine Pk.cons 8 rfl ?_ | refine Pk.cons 9 rfl ?_ | refine Pk.cons 10 rfl ?_ | refine Pk.cons 11 rfl ?_ | refine Pk.cons 12 rfl ?_ | refine Pk.cons 13 rfl ?_ | refine Pk.drop ?_))⟩
end Go.Proofs
