/-
  Walks of apartInts.
-/
import Derived.Test.YticopppiogophaaDoorTm
import Derived.Test.YticopppiogophaaDoorFa
import Derived.Test.YticopppiogophaaDoorFb
import Derived.Test.YticopppiogophaaDoorFc
import Derived.Test.YticopppiogophaaDoorVa
set_option linter.unusedVariables false
set_option linter.unusedSimpArgs false
set_option maxRecDepth 100000
set_option maxHeartbeats 1000000
namespace Go.Proofs
open Go Go.TL Go.RowKit
theorem apartInts_spec (w0 w : World) (bg : Nat) (hdr : List Value) (ga : Option Addr) (gc : Nat) (ps : List SlV) (N : Nat → Nat) (fs : Nat → List Int) (L : List HA) (hh : hdr[1]? = some (.slice ga ps.length gc)) (hk : ps.length ≤ 400) (hN : ∀ j, j < ps.length → (ps.getD j sl0).2.1 = N j ∧ (fs j).length = N j ∧ N j ≤ 1048576)
    (S : Sat w0 w (Cel bg hdr 50 :: Own tSl 27 ga gc ps :: Rws (ARow (tI .i64) 3 ps fs) ps.length :: L)) :
    Calls Tryd.prog 50 [.pointer (some ⟨bg, 0, none⟩)].toArray w (fun e w' => e = .returned (.bool true) ∧ Sat w0 w' (Cel bg hdr 50 :: L)) := by
 refine calls_of_W (args := [.pointer (some ⟨bg, 0, none⟩)]) 183 Tryd.func50 rfl Tryd.ntmps50 rfl ?_
 refine W.seq ?_
 refine W.region rfl ?_
 refine WO.q (Y.assign (v := .bool _) rfl) ?_
 refine WO.nil ?_
 refine Then.nx ?_
 refine W.seq ?_
 refine W.seq ?_
 refine W.region rfl ?_
 refine WO.q (Y.assign (v := .int .i64 _) rfl) ?_
 refine WO.nil ?_
 refine Then.nx ?_
 refine W.block ?_
 -- loop 0 carries 3:n
 refine W.loop1 [3, 4, 14, 15, 16, 17, 18, 19, 20, 21, 22, 23, 24, 25, 26, 27, 28, 29, 30, 31, 32, 33, 34, 35, 36, 37, 38, 39, 40, 41, 42, 43, 44, 45, 46] 3 (fun v3 w => ∃ n : Nat, v3 = .int .i64 (n : Int) ∧ n ≤ ps.length ∧ Sat w0 w (Cel bg hdr 50 :: Own tSl 27 ga gc ps :: Rws (ARow (tI .i64) 3 ps (wr1 mkInts N fs n)) ps.length :: L)) (fun v3 w => ps.length - (intOf v3).toNat) ?_ ?_
 ·
  exact ⟨0, rfl, Nat.zero_le _, by (rw [wr1_zero]; exact S)⟩
 ·
  rintro g0 v3 w ⟨n, rfl, hn, S⟩
  refine W.seq ?_
  refine W.seq ?_
  refine W.region rfl ?_
  refine WO.q (Y.move (v := .int .i64 _) rfl) ?_
  first | refine WO.q (Y.move (v := .pointer (some _)) rfl) ?_ | refine WO.q (Y.move (v := .pointer _) rfl) ?_
  refine WO.q (Y.nilP rfl) ?_
  first | refine WO.q (Y.fieldB fo_50_1 rfl) ?_ | refine WO.q (Y.fieldE fo_50_1 rfl) ?_
  first | refine WO.q (Y.load rfl (loadS1 sz_36 S 0 rfl hh)) ?_ | refine WO.q (Y.load rfl (loadS1 sz_36 S 1 rfl hh)) ?_ | refine WO.q (Y.load rfl (loadS1 sz_36 S 0 rfl rfl)) ?_ | refine WO.q (Y.load rfl (loadRdF sz_36 (S.rd 1 rfl) (by assumption) rfl)) ?_ | refine WO.q (Y.load rfl (loadRdF sz_36 (S.rd 2 rfl) (by assumption) rfl)) ?_ | refine WO.q (Y.load rfl (loadRdF sz_36 (S.rd 3 rfl) (by assumption) rfl)) ?_ | refine WO.q (Y.load rfl (loadRdF sz_36 (S.reads 4 rfl (Reads.mix hnk hm2)) (by assumption) rfl)) ?_ | refine WO.q (Y.load rfl (loadRdF sz_36 (S.reads 4 rfl (Reads.mix hnk hown)) (by assumption) rfl)) ?_ | refine WO.q (Y.load rfl (loadRdF sz_36 (S.reads 4 rfl (Reads.mix hnk ho2)) (by assumption) rfl)) ?_ | refine WO.q (Y.load rfl (loadRd1 sz_36 (S.rd 1 rfl) (by assumption) rfl)) ?_ | refine WO.q (Y.load rfl (loadRd1 sz_36 (S.rd 2 rfl) (by assumption) rfl)) ?_ | refine WO.q (Y.load rfl (loadRd1 sz_36 (S.rd 3 rfl) (by assumption) rfl)) ?_ | refine WO.q (Y.load rfl (loadRd1 sz_36 (S.reads 4 rfl (Reads.mix hnk hm2)) (by assumption) rfl)) ?_ | refine WO.q (Y.load rfl (loadRd1 sz_36 (S.reads 4 rfl (Reads.mix hnk hown)) (by assumption) rfl)) ?_ | refine WO.q (Y.load rfl (loadRd1 sz_36 (S.reads 4 rfl (Reads.mix hnk ho2)) (by assumption) rfl)) ?_
  refine WO.q (Y.len (t' := 0) Tryd.underlying36 rfl) ?_
  refine WO.q (Y.lss rfl rfl) ?_
  refine WO.nil ?_
  refine Then.nx ?_
  refine W.cond rfl (fun h1 => ?_) (fun h1 => ?_) -- cond 0
  ·
   have rh1 := h1
   (try simp only [Q1, Q2, Q3, Q4, Q5, Q6, Q7, Q8, Q9, Qa] at h1)
   have hnk : n < ps.length := by omega
   obtain ⟨⟨pa, pl, pc⟩, hp⟩ := at_ex (xs := ps) (k := n) hnk
   have hpD := getD_at (d := sl0) hp
   obtain ⟨hpl, hfl, hNb⟩ := hN n hnk
   rw [hpD] at hpl
   replace hpl : pl = N n := hpl
   subst hpl
   have hga := (S.rd 1 rfl).1 (by omega)
   refine W.skip ?_
   refine Then.nx ?_
   refine W.seq ?_
   refine W.block ?_
   refine W.seq ?_
   replace S : Sat w0 w (Cel bg hdr 50 :: Own tSl 27 ga gc ps :: Own (tI .i64) 3 pa pc (wr1 mkInts N fs n n) :: RwsX (ARow (tI .i64) 3 ps (wr1 mkInts N fs n)) ps.length n :: L) := ((S.pk (.cons 2 rfl (.refl _))).arOpen hnk hpD).pk (.cons 2 rfl (.cons 2 rfl (.refl _)))
   rw [wr1_self] at S
   refine W.region rfl ?_
   refine WO.q (Y.assign (v := .int .i64 _) rfl) ?_
   refine WO.nil ?_
   refine Then.nx ?_
   refine W.block ?_
   -- loop 1 carries 4:i
   refine W.loop1 [4, 23, 24, 25, 26, 27, 28, 29, 30, 31, 32, 33, 34, 35, 36, 37, 38, 39, 40, 41, 42, 43, 44, 45, 46] 4 (fun v4 w => ∃ i : Nat, v4 = .int .i64 (i : Int) ∧ i ≤ N n ∧ Sat w0 w (Cel bg hdr 50 :: Own tSl 27 ga gc ps :: Own (tI .i64) 3 pa pc (midL (mkInts n) (fs n) i) :: RwsX (ARow (tI .i64) 3 ps (wr1 mkInts N fs n)) ps.length n :: L)) (fun v4 w => N n - (intOf v4).toNat) ?_ ?_
   ·
    exact ⟨0, rfl, Nat.zero_le _, by (rw [midL_zero]; exact S)⟩
   ·
    rintro g1 v4 w ⟨i, rfl, hi, S⟩
    refine W.seq ?_
    refine W.seq ?_
    refine W.region rfl ?_
    refine WO.q (Y.move (v := .int .i64 _) rfl) ?_
    first | refine WO.q (Y.move (v := .pointer (some _)) rfl) ?_ | refine WO.q (Y.move (v := .pointer _) rfl) ?_
    refine WO.q (Y.nilP rfl) ?_
    first | refine WO.q (Y.fieldB fo_50_1 rfl) ?_ | refine WO.q (Y.fieldE fo_50_1 rfl) ?_
    first | refine WO.q (Y.load rfl (loadS1 sz_36 S 0 rfl hh)) ?_ | refine WO.q (Y.load rfl (loadS1 sz_36 S 1 rfl hh)) ?_ | refine WO.q (Y.load rfl (loadS1 sz_36 S 0 rfl rfl)) ?_ | refine WO.q (Y.load rfl (loadRdF sz_36 (S.rd 1 rfl) (by assumption) rfl)) ?_ | refine WO.q (Y.load rfl (loadRdF sz_36 (S.rd 2 rfl) (by assumption) rfl)) ?_ | refine WO.q (Y.load rfl (loadRdF sz_36 (S.rd 3 rfl) (by assumption) rfl)) ?_ | refine WO.q (Y.load rfl (loadRdF sz_36 (S.reads 4 rfl (Reads.mix hnk hm2)) (by assumption) rfl)) ?_ | refine WO.q (Y.load rfl (loadRdF sz_36 (S.reads 4 rfl (Reads.mix hnk hown)) (by assumption) rfl)) ?_ | refine WO.q (Y.load rfl (loadRdF sz_36 (S.reads 4 rfl (Reads.mix hnk ho2)) (by assumption) rfl)) ?_ | refine WO.q (Y.load rfl (loadRd1 sz_36 (S.rd 1 rfl) (by assumption) rfl)) ?_ | refine WO.q (Y.load rfl (loadRd1 sz_36 (S.rd 2 rfl) (by assumption) rfl)) ?_ | refine WO.q (Y.load rfl (loadRd1 sz_36 (S.rd 3 rfl) (by assumption) rfl)) ?_ | refine WO.q (Y.load rfl (loadRd1 sz_36 (S.reads 4 rfl (Reads.mix hnk hm2)) (by assumption) rfl)) ?_ | refine WO.q (Y.load rfl (loadRd1 sz_36 (S.reads 4 rfl (Reads.mix hnk hown)) (by assumption) rfl)) ?_ | refine WO.q (Y.load rfl (loadRd1 sz_36 (S.reads 4 rfl (Reads.mix hnk ho2)) (by assumption) rfl)) ?_
    refine WO.q (Y.move (v := .int .i64 _) rfl) ?_
    first | refine WO.q (Y.ixN sl_36 rfl rfl (by (first | assumption | rfl)) (by (first | assumption | omega))) ?_ | refine WO.q (Y.ix sl_36 rfl rfl (by (first | assumption | rfl)) (by (first | assumption | omega)) (by (first | assumption | omega))) ?_
    first | refine WO.q (Y.load rfl (loadRd1 (c := .slice pa (N n) pc) sz_27 (S.rd 1 rfl) hp rfl)) ?_ | refine WO.q (Y.load rfl (loadRd1 (c := .slice oa2 (N n + 1) oc2) sz_27 (S.rd 2 rfl) ho1 rfl)) ?_ | refine WO.q (Y.load rfl (loadRd1 (c := .slice ma2 (N n + 70) mc2) sz_27 (S.rd 3 rfl) hm1 rfl)) ?_ | refine WO.q (Y.load rfl (loadRd1 sz_27 (S.rd 1 rfl) (by assumption) rfl)) ?_ | refine WO.q (Y.load rfl (loadRd1 sz_27 (S.rd 2 rfl) (by assumption) rfl)) ?_ | refine WO.q (Y.load rfl (loadRd1 sz_27 (S.rd 3 rfl) (by assumption) rfl)) ?_ | refine WO.q (Y.load rfl (loadRd1 sz_27 (S.reads 4 rfl (Reads.mix hnk hm2)) (by assumption) rfl)) ?_ | refine WO.q (Y.load rfl (loadRd1 sz_27 (S.reads 4 rfl (Reads.mix hnk hown)) (by assumption) rfl)) ?_ | refine WO.q (Y.load rfl (loadRd1 sz_27 (S.reads 4 rfl (Reads.mix hnk ho2)) (by assumption) rfl)) ?_
    refine WO.q (Y.len (t' := 0) Tryd.underlying27 rfl) ?_
    refine WO.q (Y.lss rfl rfl) ?_
    refine WO.nil ?_
    refine Then.nx ?_
    refine W.cond rfl (fun h2 => ?_) (fun h2 => ?_) -- cond 1
    ·
     have rh2 := h2
     (try simp only [Q1, Q2, Q3, Q4, Q5, Q6, Q7, Q8, Q9, Qa] at h2)
     have hpa := (S.rd 2 rfl).1 (by (rw [midL_len _ (by omega)]; omega))
     refine W.skip ?_
     refine Then.nx ?_
     refine W.seq ?_
     refine W.block ?_
     refine W.draw (.q 0 (.q 1 (.q 2 (.q 3 (.q 4 (.q 5 (.q 6 (.q 7 (.q 8 (.q 9 (.e 10 (.q 11 (.e 12 .nil))))))))))))) (fun w => Sat _ w _) rfl rfl (by kernel_rfl) rfl (by kernel_rfl) (by repeat (first | exact BodyQ.noFrame | refine Then.noFrame ?_ | refine InB.noFrame ?_)) S.drew ?_
     clear S
     first | refine Plan.q rfl (fun w S => Y.move (v := .pointer (some _)) rfl) ?_ | refine Plan.q rfl (fun w S => Y.move (v := .pointer _) rfl) ?_
     refine Plan.q rfl (fun w S => Y.nilP rfl) ?_
     first | refine Plan.q rfl (fun w S => Y.fieldB fo_50_1 rfl) ?_ | refine Plan.q rfl (fun w S => Y.fieldE fo_50_1 rfl) ?_
     first | refine Plan.q rfl (fun w S => Y.load rfl (loadS1 sz_36 S 0 rfl hh)) ?_ | refine Plan.q rfl (fun w S => Y.load rfl (loadS1 sz_36 S 1 rfl hh)) ?_ | refine Plan.q rfl (fun w S => Y.load rfl (loadS1 sz_36 S 0 rfl rfl)) ?_ | refine Plan.q rfl (fun w S => Y.load rfl (loadRdF sz_36 (S.rd 1 rfl) (by assumption) rfl)) ?_ | refine Plan.q rfl (fun w S => Y.load rfl (loadRdF sz_36 (S.rd 2 rfl) (by assumption) rfl)) ?_ | refine Plan.q rfl (fun w S => Y.load rfl (loadRdF sz_36 (S.rd 3 rfl) (by assumption) rfl)) ?_ | refine Plan.q rfl (fun w S => Y.load rfl (loadRdF sz_36 (S.reads 4 rfl (Reads.mix hnk hm2)) (by assumption) rfl)) ?_ | refine Plan.q rfl (fun w S => Y.load rfl (loadRdF sz_36 (S.reads 4 rfl (Reads.mix hnk hown)) (by assumption) rfl)) ?_ | refine Plan.q rfl (fun w S => Y.load rfl (loadRdF sz_36 (S.reads 4 rfl (Reads.mix hnk ho2)) (by assumption) rfl)) ?_ | refine Plan.q rfl (fun w S => Y.load rfl (loadRd1 sz_36 (S.rd 1 rfl) (by assumption) rfl)) ?_ | refine Plan.q rfl (fun w S => Y.load rfl (loadRd1 sz_36 (S.rd 2 rfl) (by assumption) rfl)) ?_ | refine Plan.q rfl (fun w S => Y.load rfl (loadRd1 sz_36 (S.rd 3 rfl) (by assumption) rfl)) ?_ | refine Plan.q rfl (fun w S => Y.load rfl (loadRd1 sz_36 (S.reads 4 rfl (Reads.mix hnk hm2)) (by assumption) rfl)) ?_ | refine Plan.q rfl (fun w S => Y.load rfl (loadRd1 sz_36 (S.reads 4 rfl (Reads.mix hnk hown)) (by assumption) rfl)) ?_ | refine Plan.q rfl (fun w S => Y.load rfl (loadRd1 sz_36 (S.reads 4 rfl (Reads.mix hnk ho2)) (by assumption) rfl)) ?_
     refine Plan.q rfl (fun w S => Y.move (v := .int .i64 _) rfl) ?_
     first | refine Plan.q rfl (fun w S => Y.ixN sl_36 rfl rfl (by (first | assumption | rfl)) (by (first | assumption | omega))) ?_ | refine Plan.q rfl (fun w S => Y.ix sl_36 rfl rfl (by (first | assumption | rfl)) (by (first | assumption | omega)) (by (first | assumption | omega))) ?_
     first | refine Plan.q rfl (fun w S => Y.load rfl (loadRd1 (c := .slice pa (N n) pc) sz_27 (S.rd 1 rfl) hp rfl)) ?_ | refine Plan.q rfl (fun w S => Y.load rfl (loadRd1 (c := .slice oa2 (N n + 1) oc2) sz_27 (S.rd 2 rfl) ho1 rfl)) ?_ | refine Plan.q rfl (fun w S => Y.load rfl (loadRd1 (c := .slice ma2 (N n + 70) mc2) sz_27 (S.rd 3 rfl) hm1 rfl)) ?_ | refine Plan.q rfl (fun w S => Y.load rfl (loadRd1 sz_27 (S.rd 1 rfl) (by assumption) rfl)) ?_ | refine Plan.q rfl (fun w S => Y.load rfl (loadRd1 sz_27 (S.rd 2 rfl) (by assumption) rfl)) ?_ | refine Plan.q rfl (fun w S => Y.load rfl (loadRd1 sz_27 (S.rd 3 rfl) (by assumption) rfl)) ?_ | refine Plan.q rfl (fun w S => Y.load rfl (loadRd1 sz_27 (S.reads 4 rfl (Reads.mix hnk hm2)) (by assumption) rfl)) ?_ | refine Plan.q rfl (fun w S => Y.load rfl (loadRd1 sz_27 (S.reads 4 rfl (Reads.mix hnk hown)) (by assumption) rfl)) ?_ | refine Plan.q rfl (fun w S => Y.load rfl (loadRd1 sz_27 (S.reads 4 rfl (Reads.mix hnk ho2)) (by assumption) rfl)) ?_
     refine Plan.q rfl (fun w S => Y.move (v := .int .i64 _) rfl) ?_
     refine Plan.q rfl (fun w S => Y.move (v := .int .i64 _) rfl) ?_
     refine Plan.q rfl (fun w S => Y.move (v := .int .i64 _) rfl) ?_
     refine Plan.e1 rfl (fun w S => O.call cf_40 rfl (num_spec _ n i (by omega) (by omega)) ?_)
     rintro _ w ⟨rfl, E⟩
     replace S := S.keep E
     refine ⟨_, rfl, ?_⟩
     refine ⟨(fun w => Sat _ w _), S, (.inr (fun w S => S.pk (by repeat (first | exact Pk.nil _ | exact Pk.refl _ | refine Pk.cons 0 rfl ?_ | refine Pk.cons 1 rfl ?_ | refine Pk.cons 2 rfl ?_ | refine Pk.cons 3 rfl ?_ | refine Pk.cons 4 rfl ?_ | refine Pk.cons 5 rfl ?_ | refine Pk.cons 6 rfl ?_ | refine Pk.cons 7 rfl ?_ | refine Pk.cons 8 rfl ?_ | refine Pk.cons 9 rfl ?_ | refine Pk.cons 10 rfl ?_ | refine Pk.cons 11 rfl ?_ | refine Pk.cons 12 rfl ?_ | refine Pk.cons 13 rfl ?_ | refine Pk.drop ?_)))), ?_⟩
     clear S
     first | refine Plan.q rfl (fun w S => Y.ixN sl_27 rfl rfl (by (first | assumption | rfl)) (by (first | assumption | omega))) ?_ | refine Plan.q rfl (fun w S => Y.ix sl_27 rfl rfl (by (first | assumption | rfl)) (by (first | assumption | omega)) (by (first | assumption | omega))) ?_
     refine Plan.e0 rfl (fun w S => O.storeEl 2 (mkInts n i) S rfl rfl (by (rw [midL_len _ (by omega)]; omega)) rfl sz_3 rfl (fun w S => ?_))
     refine ⟨(fun w => Sat _ w _), S, (.inl (by kernel_rfl)), ?_⟩
     clear S
     refine Plan.nil (fun w S => ?_)
     replace S : Sat _ _ _ := S
     refine InB.nx ?_
     refine Then.nx ?_
     refine W.region rfl ?_
     refine WO.q (Y.move (v := .int .i64 _) rfl) ?_
     first | refine WO.q (Y.addI rfl rfl (by omega)) ?_ | refine WO.q (Y.add rfl rfl) ?_
     refine WO.q (Y.assign (v := .int .i64 _) rfl) ?_
     refine WO.nil ?_
     refine Then.nx ⟨?_, ?_, ?_⟩
     ·
      (repeat (first | exact Out.hav _ _ _ | exact Out.refl _ _ | refine Out.up rfl ?_ | refine Out.sub rfl ?_))
     ·
      exact ⟨i + 1, rfl, by omega, by (rw [← midL_set _ (by omega)]; exact S)⟩
     ·
      (show N n - (i + 1) < N n - i; omega)
    ·
     have rh2 := h2
     (try simp only [Q1, Q2, Q3, Q4, Q5, Q6, Q7, Q8, Q9, Qa] at h2)
     refine W.exit ?_
     refine Then.x ?_
     refine Then.x ?_
     refine InB.e ?_
     refine InB.nx ?_
     refine Then.nx ?_
     refine W.region rfl ?_
     refine WO.q (Y.move (v := .int .i64 _) rfl) ?_
     first | refine WO.q (Y.addI rfl rfl (by omega)) ?_ | refine WO.q (Y.add rfl rfl) ?_
     refine WO.q (Y.assign (v := .int .i64 _) rfl) ?_
     refine WO.nil ?_
     refine Then.nx ⟨?_, ?_, ?_⟩
     ·
      (repeat (first | exact Out.hav _ _ _ | exact Out.refl _ _ | refine Out.up rfl ?_ | refine Out.sub rfl ?_))
     ·
      exact ⟨n + 1, rfl, by omega, ((S.pk (.cons 2 rfl (.cons 2 rfl (.refl _)))).wr1Close hnk hpD (by (rw [show i = (fs n).length by omega, midL_end, hfl]))).pk (.cons 1 rfl (.cons 1 rfl (.refl _)))⟩
     ·
      (show ps.length - (n + 1) < ps.length - n; omega)
  ·
   have rh1 := h1
   (try simp only [Q1, Q2, Q3, Q4, Q5, Q6, Q7, Q8, Q9, Qa] at h1)
   refine W.exit ?_
   refine Then.x ?_
   refine Then.x ?_
   refine InB.e ?_
   refine Then.nx ?_
   refine W.seq ?_
   refine W.region rfl ?_
   refine WO.q (Y.assign (v := .slice _ _ _) rfl) ?_
   refine WO.q (Y.assign (v := .slice _ _ _) rfl) ?_
   refine WO.nil ?_
   refine Then.nx ?_
   refine W.seq ?_
   refine W.seq ?_
   have en : n = ps.length := by omega
   subst en
   replace S : Sat w0 w (Cel bg hdr 50 :: Own tSl 27 ga gc ps :: Own tSl 27 none 0 [] :: Own tSl 27 none 0 [] :: Rws (AMix (fun _ _ => True) (AM (tI .i64) 3 ps mkInts N) 0) ps.length :: L) := ((((S.pk (.cons 2 rfl (.refl _))).mixStart (fun _ _ => True)).nilOwn tSl 27).nilOwn tSl 27).pk (.cons 3 rfl (.cons 3 rfl (.cons 0 rfl (.cons 0 rfl (.refl _)))))
   refine W.region rfl ?_
   refine WO.q (Y.assign (v := .int .i64 _) rfl) ?_
   refine WO.nil ?_
   refine Then.nx ?_
   refine W.block ?_
   -- loop 2 carries 5:one, 6:more, 7:n
   refine W.loop3 [5, 6, 7, 8, 9, 47, 48, 49, 50, 51, 52, 53, 54, 55, 56, 57, 58, 59, 60, 61, 62, 63, 64, 65, 66, 67, 68, 69, 70, 71, 72, 73, 74, 75, 76, 77, 78, 79, 80, 81, 82, 83, 84, 85, 86, 87, 88, 89, 90, 91, 92, 93, 94, 95, 96, 97, 98, 99, 100, 101] 5 6 7 (fun v5 v6 v7 w => ∃ (n : Nat) (Z : Nat → HA) (oa ma : Option Addr) (oc mc : Nat) (one more : List SlV), v7 = .int .i64 (n : Int) ∧ n ≤ ps.length ∧ v5 = .slice oa one.length oc ∧ v6 = .slice ma more.length mc ∧ Grown (tI .i64) mkInts ps N Z one more n ∧ Sat w0 w (Cel bg hdr 50 :: Own tSl 27 ga gc ps :: Own tSl 27 oa oc one :: Own tSl 27 ma mc more :: Rws (AMix Z (AM (tI .i64) 3 ps mkInts N) n) ps.length :: L)) (fun v5 v6 v7 w => ps.length - (intOf v7).toNat) ?_ ?_
   ·
    exact ⟨0, _, none, none, 0, 0, [], [], rfl, Nat.zero_le _, rfl, rfl, Grown.nil _ _ _ _ _, S⟩
   ·
    rintro g2 v5 v6 v7 w ⟨n, Z, oa, ma, oc, mc, one, more, rfl, hn, rfl, rfl, G, S⟩
    refine W.seq ?_
    refine W.seq ?_
    refine W.region rfl ?_
    refine WO.q (Y.move (v := .int .i64 _) rfl) ?_
    first | refine WO.q (Y.move (v := .pointer (some _)) rfl) ?_ | refine WO.q (Y.move (v := .pointer _) rfl) ?_
    refine WO.q (Y.nilP rfl) ?_
    first | refine WO.q (Y.fieldB fo_50_1 rfl) ?_ | refine WO.q (Y.fieldE fo_50_1 rfl) ?_
    first | refine WO.q (Y.load rfl (loadS1 sz_36 S 0 rfl hh)) ?_ | refine WO.q (Y.load rfl (loadS1 sz_36 S 1 rfl hh)) ?_ | refine WO.q (Y.load rfl (loadS1 sz_36 S 0 rfl rfl)) ?_ | refine WO.q (Y.load rfl (loadRdF sz_36 (S.rd 1 rfl) (by assumption) rfl)) ?_ | refine WO.q (Y.load rfl (loadRdF sz_36 (S.rd 2 rfl) (by assumption) rfl)) ?_ | refine WO.q (Y.load rfl (loadRdF sz_36 (S.rd 3 rfl) (by assumption) rfl)) ?_ | refine WO.q (Y.load rfl (loadRdF sz_36 (S.reads 4 rfl (Reads.mix hnk hm2)) (by assumption) rfl)) ?_ | refine WO.q (Y.load rfl (loadRdF sz_36 (S.reads 4 rfl (Reads.mix hnk hown)) (by assumption) rfl)) ?_ | refine WO.q (Y.load rfl (loadRdF sz_36 (S.reads 4 rfl (Reads.mix hnk ho2)) (by assumption) rfl)) ?_ | refine WO.q (Y.load rfl (loadRd1 sz_36 (S.rd 1 rfl) (by assumption) rfl)) ?_ | refine WO.q (Y.load rfl (loadRd1 sz_36 (S.rd 2 rfl) (by assumption) rfl)) ?_ | refine WO.q (Y.load rfl (loadRd1 sz_36 (S.rd 3 rfl) (by assumption) rfl)) ?_ | refine WO.q (Y.load rfl (loadRd1 sz_36 (S.reads 4 rfl (Reads.mix hnk hm2)) (by assumption) rfl)) ?_ | refine WO.q (Y.load rfl (loadRd1 sz_36 (S.reads 4 rfl (Reads.mix hnk hown)) (by assumption) rfl)) ?_ | refine WO.q (Y.load rfl (loadRd1 sz_36 (S.reads 4 rfl (Reads.mix hnk ho2)) (by assumption) rfl)) ?_
    refine WO.q (Y.len (t' := 0) Tryd.underlying36 rfl) ?_
    refine WO.q (Y.lss rfl rfl) ?_
    refine WO.nil ?_
    refine Then.nx ?_
    refine W.cond rfl (fun h3 => ?_) (fun h3 => ?_) -- cond 2
    ·
     have rh3 := h3
     (try simp only [Q1, Q2, Q3, Q4, Q5, Q6, Q7, Q8, Q9, Qa] at h3)
     have hnk : n < ps.length := by omega
     obtain ⟨⟨pa, pl, pc⟩, hp⟩ := at_ex (xs := ps) (k := n) hnk
     have hpD := getD_at (d := sl0) hp
     obtain ⟨hpl, hfl, hNb⟩ := hN n hnk
     rw [hpD] at hpl
     replace hpl : pl = N n := hpl
     subst hpl
     have hga := (S.rd 1 rfl).1 (by omega)
     refine W.skip ?_
     refine Then.nx ?_
     refine W.seq ?_
     refine W.block ?_
     refine W.seq ?_
     refine W.region rfl ?_
     first | refine WO.q (Y.move (v := .pointer (some _)) rfl) ?_ | refine WO.q (Y.move (v := .pointer _) rfl) ?_
     refine WO.q (Y.nilP rfl) ?_
     first | refine WO.q (Y.fieldB fo_50_1 rfl) ?_ | refine WO.q (Y.fieldE fo_50_1 rfl) ?_
     first | refine WO.q (Y.load rfl (loadS1 sz_36 S 0 rfl hh)) ?_ | refine WO.q (Y.load rfl (loadS1 sz_36 S 1 rfl hh)) ?_ | refine WO.q (Y.load rfl (loadS1 sz_36 S 0 rfl rfl)) ?_ | refine WO.q (Y.load rfl (loadRdF sz_36 (S.rd 1 rfl) (by assumption) rfl)) ?_ | refine WO.q (Y.load rfl (loadRdF sz_36 (S.rd 2 rfl) (by assumption) rfl)) ?_ | refine WO.q (Y.load rfl (loadRdF sz_36 (S.rd 3 rfl) (by assumption) rfl)) ?_ | refine WO.q (Y.load rfl (loadRdF sz_36 (S.reads 4 rfl (Reads.mix hnk hm2)) (by assumption) rfl)) ?_ | refine WO.q (Y.load rfl (loadRdF sz_36 (S.reads 4 rfl (Reads.mix hnk hown)) (by assumption) rfl)) ?_ | refine WO.q (Y.load rfl (loadRdF sz_36 (S.reads 4 rfl (Reads.mix hnk ho2)) (by assumption) rfl)) ?_ | refine WO.q (Y.load rfl (loadRd1 sz_36 (S.rd 1 rfl) (by assumption) rfl)) ?_ | refine WO.q (Y.load rfl (loadRd1 sz_36 (S.rd 2 rfl) (by assumption) rfl)) ?_ | refine WO.q (Y.load rfl (loadRd1 sz_36 (S.rd 3 rfl) (by assumption) rfl)) ?_ | refine WO.q (Y.load rfl (loadRd1 sz_36 (S.reads 4 rfl (Reads.mix hnk hm2)) (by assumption) rfl)) ?_ | refine WO.q (Y.load rfl (loadRd1 sz_36 (S.reads 4 rfl (Reads.mix hnk hown)) (by assumption) rfl)) ?_ | refine WO.q (Y.load rfl (loadRd1 sz_36 (S.reads 4 rfl (Reads.mix hnk ho2)) (by assumption) rfl)) ?_
     refine WO.q (Y.move (v := .int .i64 _) rfl) ?_
     first | refine WO.q (Y.ixN sl_36 rfl rfl (by (first | assumption | rfl)) (by (first | assumption | omega))) ?_ | refine WO.q (Y.ix sl_36 rfl rfl (by (first | assumption | rfl)) (by (first | assumption | omega)) (by (first | assumption | omega))) ?_
     first | refine WO.q (Y.load rfl (loadRd1 (c := .slice pa (N n) pc) sz_27 (S.rd 1 rfl) hp rfl)) ?_ | refine WO.q (Y.load rfl (loadRd1 (c := .slice oa2 (N n + 1) oc2) sz_27 (S.rd 2 rfl) ho1 rfl)) ?_ | refine WO.q (Y.load rfl (loadRd1 (c := .slice ma2 (N n + 70) mc2) sz_27 (S.rd 3 rfl) hm1 rfl)) ?_ | refine WO.q (Y.load rfl (loadRd1 sz_27 (S.rd 1 rfl) (by assumption) rfl)) ?_ | refine WO.q (Y.load rfl (loadRd1 sz_27 (S.rd 2 rfl) (by assumption) rfl)) ?_ | refine WO.q (Y.load rfl (loadRd1 sz_27 (S.rd 3 rfl) (by assumption) rfl)) ?_ | refine WO.q (Y.load rfl (loadRd1 sz_27 (S.reads 4 rfl (Reads.mix hnk hm2)) (by assumption) rfl)) ?_ | refine WO.q (Y.load rfl (loadRd1 sz_27 (S.reads 4 rfl (Reads.mix hnk hown)) (by assumption) rfl)) ?_ | refine WO.q (Y.load rfl (loadRd1 sz_27 (S.reads 4 rfl (Reads.mix hnk ho2)) (by assumption) rfl)) ?_
     refine WO.q (Y.assign (v := .slice _ _ _) rfl) ?_
     refine WO.nil ?_
     refine Then.nx ?_
     refine W.seq ?_
     refine W.seq ?_
     replace S : Sat w0 w (Cel bg hdr 50 :: Own tSl 27 ga gc ps :: Own tSl 27 oa oc one :: Own tSl 27 ma mc more :: Own (tI .i64) 3 pa pc (mks (mkInts n) 0 (N n)) :: RwsX (AMix Z (AM (tI .i64) 3 ps mkInts N) n) ps.length n :: L) := ((S.pk (.cons 4 rfl (.refl _))).mixOpen hnk hpD).pk (.cons 2 rfl (.cons 2 rfl (.cons 2 rfl (.cons 2 rfl (.refl _)))))
     replace S : Sat w0 w (Cel bg hdr 50 :: Own tSl 27 ga gc ps :: Own tSl 27 oa oc one :: Own tSl 27 ma mc more :: Own (tI .i64) 3 pa pc (mks (mkInts n) 0 (N n)) :: Bun [] :: RwsX (AMix Z (AM (tI .i64) 3 ps mkInts N) n) ps.length n :: L) := (S.bun (M := [])).pk (.cons 1 rfl (.cons 1 rfl (.cons 1 rfl (.cons 1 rfl (.cons 1 rfl (.refl _))))))
     refine W.region rfl ?_
     refine WO.q (Y.move (v := .slice _ _ _) rfl) ?_
     refine WO.q (Y.len (t' := 0) Tryd.underlying27 rfl) ?_
     refine WO.q (Y.assign (v := .int .i64 _) rfl) ?_
     refine WO.nil ?_
     refine Then.nx ?_
     refine W.block ?_
     -- loop 3 carries 5:one, 8:l, 9:i
     refine W.loop3 [5, 8, 9, 65, 66, 67, 68, 69, 70, 71, 72, 73, 74, 75, 76, 77, 78, 79, 80, 81, 82, 83, 84, 85, 86, 87, 88, 89, 90, 91, 92, 93, 94, 95, 96, 97] 5 8 9 (fun v5 v8 v9 w => ∃ (i : Nat) (al : Option Addr) (cl : Nat) (M : HA) (oa1 : Option Addr) (oc1 : Nat) (one1 : List SlV), v9 = .int .i64 (i : Int) ∧ v8 = .slice al (mks (mkInts n) 0 i).length cl ∧ v5 = .slice oa1 one1.length oc1 ∧ N n ≤ i ∧ i ≤ N n + 70 ∧ Seen (tI .i64) al (mks (mkInts n) 0 i) M pa (mks (mkInts n) 0 (N n)) ∧ ((i = N n ∧ one1 = one) ∨ (N n < i ∧ ∃ ox ocx, one1 = one ++ [((ox, N n + 1, ocx) : SlV)] ∧ Seen (tI .i64) al (mks (mkInts n) 0 i) M ox (mks (mkInts n) 0 (N n + 1)))) ∧ Sat w0 w (Cel bg hdr 50 :: Own tSl 27 ga gc ps :: Own tSl 27 oa1 oc1 one1 :: Own tSl 27 ma mc more :: Own (tI .i64) 3 al cl (mks (mkInts n) 0 i) :: M :: RwsX (AMix Z (AM (tI .i64) 3 ps mkInts N) n) ps.length n :: L)) (fun v5 v8 v9 w => N n + 70 - (intOf v9).toNat) ?_ ?_
     ·
      exact ⟨N n, pa, pc, Bun [], _, _, _, rfl, by (show Value.slice _ _ _ = _; rw [mks_len]), rfl, Nat.le_refl _, by omega, Seen.self, .inl ⟨rfl, rfl⟩, S⟩
     ·
      rintro g3 v5 v8 v9 w ⟨i, al, cl, M, oa1, oc1, one1, rfl, rfl, rfl, hi0, hi, hsn, hone, S⟩
      refine W.seq ?_
      refine W.seq ?_
      refine W.region rfl ?_
      refine WO.q (Y.move (v := .int .i64 _) rfl) ?_
      first | refine WO.q (Y.move (v := .pointer (some _)) rfl) ?_ | refine WO.q (Y.move (v := .pointer _) rfl) ?_
      refine WO.q (Y.nilP rfl) ?_
      first | refine WO.q (Y.fieldB fo_50_1 rfl) ?_ | refine WO.q (Y.fieldE fo_50_1 rfl) ?_
      first | refine WO.q (Y.load rfl (loadS1 sz_36 S 0 rfl hh)) ?_ | refine WO.q (Y.load rfl (loadS1 sz_36 S 1 rfl hh)) ?_ | refine WO.q (Y.load rfl (loadS1 sz_36 S 0 rfl rfl)) ?_ | refine WO.q (Y.load rfl (loadRdF sz_36 (S.rd 1 rfl) (by assumption) rfl)) ?_ | refine WO.q (Y.load rfl (loadRdF sz_36 (S.rd 2 rfl) (by assumption) rfl)) ?_ | refine WO.q (Y.load rfl (loadRdF sz_36 (S.rd 3 rfl) (by assumption) rfl)) ?_ | refine WO.q (Y.load rfl (loadRdF sz_36 (S.reads 4 rfl (Reads.mix hnk hm2)) (by assumption) rfl)) ?_ | refine WO.q (Y.load rfl (loadRdF sz_36 (S.reads 4 rfl (Reads.mix hnk hown)) (by assumption) rfl)) ?_ | refine WO.q (Y.load rfl (loadRdF sz_36 (S.reads 4 rfl (Reads.mix hnk ho2)) (by assumption) rfl)) ?_ | refine WO.q (Y.load rfl (loadRd1 sz_36 (S.rd 1 rfl) (by assumption) rfl)) ?_ | refine WO.q (Y.load rfl (loadRd1 sz_36 (S.rd 2 rfl) (by assumption) rfl)) ?_ | refine WO.q (Y.load rfl (loadRd1 sz_36 (S.rd 3 rfl) (by assumption) rfl)) ?_ | refine WO.q (Y.load rfl (loadRd1 sz_36 (S.reads 4 rfl (Reads.mix hnk hm2)) (by assumption) rfl)) ?_ | refine WO.q (Y.load rfl (loadRd1 sz_36 (S.reads 4 rfl (Reads.mix hnk hown)) (by assumption) rfl)) ?_ | refine WO.q (Y.load rfl (loadRd1 sz_36 (S.reads 4 rfl (Reads.mix hnk ho2)) (by assumption) rfl)) ?_
      refine WO.q (Y.move (v := .int .i64 _) rfl) ?_
      first | refine WO.q (Y.ixN sl_36 rfl rfl (by (first | assumption | rfl)) (by (first | assumption | omega))) ?_ | refine WO.q (Y.ix sl_36 rfl rfl (by (first | assumption | rfl)) (by (first | assumption | omega)) (by (first | assumption | omega))) ?_
      first | refine WO.q (Y.load rfl (loadRd1 (c := .slice pa (N n) pc) sz_27 (S.rd 1 rfl) hp rfl)) ?_ | refine WO.q (Y.load rfl (loadRd1 (c := .slice oa2 (N n + 1) oc2) sz_27 (S.rd 2 rfl) ho1 rfl)) ?_ | refine WO.q (Y.load rfl (loadRd1 (c := .slice ma2 (N n + 70) mc2) sz_27 (S.rd 3 rfl) hm1 rfl)) ?_ | refine WO.q (Y.load rfl (loadRd1 sz_27 (S.rd 1 rfl) (by assumption) rfl)) ?_ | refine WO.q (Y.load rfl (loadRd1 sz_27 (S.rd 2 rfl) (by assumption) rfl)) ?_ | refine WO.q (Y.load rfl (loadRd1 sz_27 (S.rd 3 rfl) (by assumption) rfl)) ?_ | refine WO.q (Y.load rfl (loadRd1 sz_27 (S.reads 4 rfl (Reads.mix hnk hm2)) (by assumption) rfl)) ?_ | refine WO.q (Y.load rfl (loadRd1 sz_27 (S.reads 4 rfl (Reads.mix hnk hown)) (by assumption) rfl)) ?_ | refine WO.q (Y.load rfl (loadRd1 sz_27 (S.reads 4 rfl (Reads.mix hnk ho2)) (by assumption) rfl)) ?_
      refine WO.q (Y.len (t' := 0) Tryd.underlying27 rfl) ?_
      first | refine WO.q (Y.addI rfl rfl (by omega)) ?_ | refine WO.q (Y.add rfl rfl) ?_
      refine WO.q (Y.lss rfl rfl) ?_
      refine WO.nil ?_
      refine Then.nx ?_
      refine W.cond rfl (fun h4 => ?_) (fun h4 => ?_) -- cond 3
      ·
       have rh4 := h4
       (try simp only [Q1, Q2, Q3, Q4, Q5, Q6, Q7, Q8, Q9, Qa] at h4)
       refine W.skip ?_
       refine Then.nx ?_
       refine W.seq ?_
       refine W.block ?_
       refine W.seq ?_
       refine W.region rfl ?_
       refine WO.q (Y.move (v := .slice _ _ _) rfl) ?_
       refine WO.q (Y.move (v := .int .i64 _) rfl) ?_
       refine WO.q (Y.move (v := .int .i64 _) rfl) ?_
       refine WO.e (O.call cf_40 rfl (num_spec _ n i (by omega) (by omega)) ?_)
       rintro _ w ⟨rfl, E⟩
       replace S := S.keep E
       refine ⟨_, rfl, ?_⟩
       first | refine WO.e (O.buildSlice rfl (buildOne sl_27 (by decide) rfl rfl) S (fun b82 w S => ?_)) | refine WO.e (O.buildSlice rfl (buildOne sl_27 (by decide) rfl (by simp)) S (fun b82 w S => ?_)) | refine WO.e (O.buildSlice rfl (bs_27_1_0) S (fun b82 w S => ?_))
       refine WO.e (O.appendKeep (T := (tI .i64)) (ys := [mkInts n i]) sl_27 (S.pk (.cons 5 rfl (.cons 5 rfl (.refl _)))) rfl rfl rfl (S.rd1 (T := (tI .i64)) (x := mkInts n i) 0 rfl) rfl (by simp) (by (simp only [mks_len, List.length_singleton]; omega)) (by (simp only [mks_len, List.length_singleton, maxLen]; omega)) (fun a83 c83 M83 w S hs83 => ?_))
       refine WO.q (Y.assign (v := .slice _ _ _) rfl) ?_
       refine WO.nil ?_
       refine Then.nx ?_
       refine W.seq ?_
       replace S : Sat w0 w (Cel bg hdr 50 :: Own tSl 27 ga gc ps :: Own tSl 27 oa1 oc1 one1 :: Own tSl 27 ma mc more :: Own (tI .i64) 3 a83 c83 (mks (mkInts n) 0 (i + 1)) :: M83 :: RwsX (AMix Z (AM (tI .i64) 3 ps mkInts N) n) ps.length n :: L) := (by (rw [mks_succ0]; exact S.pk (.cons 3 rfl (.cons 3 rfl (.cons 3 rfl (.cons 3 rfl (.cons 0 rfl (.cons 0 rfl (.drop (.refl _))))))))))
       have hol1 : one1.length ≤ n + 1 := by (have := G.oneL; rcases hone with ⟨_, h2⟩ | ⟨_, _, _, h2, _⟩ <;> simp [h2] <;> omega)
       have hs84 := hs83
       rw [← mks_succ0] at hs84
       refine W.region rfl ?_
       refine WO.q (Y.move (v := .int .i64 _) rfl) ?_
       first | refine WO.q (Y.move (v := .pointer (some _)) rfl) ?_ | refine WO.q (Y.move (v := .pointer _) rfl) ?_
       refine WO.q (Y.nilP rfl) ?_
       first | refine WO.q (Y.fieldB fo_50_1 rfl) ?_ | refine WO.q (Y.fieldE fo_50_1 rfl) ?_
       first | refine WO.q (Y.load rfl (loadS1 sz_36 S 0 rfl hh)) ?_ | refine WO.q (Y.load rfl (loadS1 sz_36 S 1 rfl hh)) ?_ | refine WO.q (Y.load rfl (loadS1 sz_36 S 0 rfl rfl)) ?_ | refine WO.q (Y.load rfl (loadRdF sz_36 (S.rd 1 rfl) (by assumption) rfl)) ?_ | refine WO.q (Y.load rfl (loadRdF sz_36 (S.rd 2 rfl) (by assumption) rfl)) ?_ | refine WO.q (Y.load rfl (loadRdF sz_36 (S.rd 3 rfl) (by assumption) rfl)) ?_ | refine WO.q (Y.load rfl (loadRdF sz_36 (S.reads 4 rfl (Reads.mix hnk hm2)) (by assumption) rfl)) ?_ | refine WO.q (Y.load rfl (loadRdF sz_36 (S.reads 4 rfl (Reads.mix hnk hown)) (by assumption) rfl)) ?_ | refine WO.q (Y.load rfl (loadRdF sz_36 (S.reads 4 rfl (Reads.mix hnk ho2)) (by assumption) rfl)) ?_ | refine WO.q (Y.load rfl (loadRd1 sz_36 (S.rd 1 rfl) (by assumption) rfl)) ?_ | refine WO.q (Y.load rfl (loadRd1 sz_36 (S.rd 2 rfl) (by assumption) rfl)) ?_ | refine WO.q (Y.load rfl (loadRd1 sz_36 (S.rd 3 rfl) (by assumption) rfl)) ?_ | refine WO.q (Y.load rfl (loadRd1 sz_36 (S.reads 4 rfl (Reads.mix hnk hm2)) (by assumption) rfl)) ?_ | refine WO.q (Y.load rfl (loadRd1 sz_36 (S.reads 4 rfl (Reads.mix hnk hown)) (by assumption) rfl)) ?_ | refine WO.q (Y.load rfl (loadRd1 sz_36 (S.reads 4 rfl (Reads.mix hnk ho2)) (by assumption) rfl)) ?_
       refine WO.q (Y.move (v := .int .i64 _) rfl) ?_
       first | refine WO.q (Y.ixN sl_36 rfl rfl (by (first | assumption | rfl)) (by (first | assumption | omega))) ?_ | refine WO.q (Y.ix sl_36 rfl rfl (by (first | assumption | rfl)) (by (first | assumption | omega)) (by (first | assumption | omega))) ?_
       first | refine WO.q (Y.load rfl (loadRd1 (c := .slice pa (N n) pc) sz_27 (S.rd 1 rfl) hp rfl)) ?_ | refine WO.q (Y.load rfl (loadRd1 (c := .slice oa2 (N n + 1) oc2) sz_27 (S.rd 2 rfl) ho1 rfl)) ?_ | refine WO.q (Y.load rfl (loadRd1 (c := .slice ma2 (N n + 70) mc2) sz_27 (S.rd 3 rfl) hm1 rfl)) ?_ | refine WO.q (Y.load rfl (loadRd1 sz_27 (S.rd 1 rfl) (by assumption) rfl)) ?_ | refine WO.q (Y.load rfl (loadRd1 sz_27 (S.rd 2 rfl) (by assumption) rfl)) ?_ | refine WO.q (Y.load rfl (loadRd1 sz_27 (S.rd 3 rfl) (by assumption) rfl)) ?_ | refine WO.q (Y.load rfl (loadRd1 sz_27 (S.reads 4 rfl (Reads.mix hnk hm2)) (by assumption) rfl)) ?_ | refine WO.q (Y.load rfl (loadRd1 sz_27 (S.reads 4 rfl (Reads.mix hnk hown)) (by assumption) rfl)) ?_ | refine WO.q (Y.load rfl (loadRd1 sz_27 (S.reads 4 rfl (Reads.mix hnk ho2)) (by assumption) rfl)) ?_
       refine WO.q (Y.len (t' := 0) Tryd.underlying27 rfl) ?_
       refine WO.q (Y.eql rfl rfl) ?_
       refine WO.nil ?_
       refine Then.nx ?_
       refine W.cond rfl (fun h5 => ?_) (fun h5 => ?_) -- cond 4
       ·
        have rh5 := h5
        (try simp only [Q1, Q2, Q3, Q4, Q5, Q6, Q7, Q8, Q9, Qa] at h5)
        refine W.region rfl ?_
        refine WO.q (Y.move (v := .slice _ _ _) rfl) ?_
        refine WO.q (Y.move (v := .slice _ _ _) rfl) ?_
        first | refine WO.e (O.buildSlice rfl (buildOne sl_36 (by decide) rfl rfl) S (fun b96 w S => ?_)) | refine WO.e (O.buildSlice rfl (buildOne sl_36 (by decide) rfl (by simp)) S (fun b96 w S => ?_)) | refine WO.e (O.buildSlice rfl (bs_36_1_0) S (fun b96 w S => ?_))
        refine WO.e (O.append (T := tSl) (ys := [((a83, (mks (mkInts n) 0 i ++ [mkInts n i]).length, c83) : SlV)]) 3 sl_36 S rfl rfl rfl rfl (S.rd1 (T := tSl) (x := ((a83, (mks (mkInts n) 0 i ++ [mkInts n i]).length, c83) : SlV)) 0 rfl) rfl (by (simp only [List.length_singleton]; omega)) (by (simp only [List.length_singleton, maxLen]; omega)) (fun a97 c97 w S hn97 => ?_))
        refine WO.q (Y.assign (v := .slice _ _ _) rfl) ?_
        refine WO.nil ?_
        refine InB.nx ?_
        refine Then.nx ?_
        refine W.region rfl ?_
        refine WO.q (Y.move (v := .int .i64 _) rfl) ?_
        first | refine WO.q (Y.addI rfl rfl (by omega)) ?_ | refine WO.q (Y.add rfl rfl) ?_
        refine WO.q (Y.assign (v := .int .i64 _) rfl) ?_
        refine WO.nil ?_
        refine Then.nx ⟨?_, ?_, ?_⟩
        ·
         (repeat (first | exact Out.hav _ _ _ | exact Out.refl _ _ | refine Out.up rfl ?_ | refine Out.sub rfl ?_))
        ·
         rcases hone with ⟨h1, h2⟩ | ⟨h1, ox, ocx, h2, hox⟩; (first | (exfalso; omega) | exact ⟨i + 1, a83, c83, M83, _, _, _, rfl, by (show Value.slice _ _ _ = _; rw [mks_succ0]), rfl, by omega, by omega, hs84 _ _ hsn, .inr ⟨by omega, a83, c83, by (rw [h2, ← mks_succ0, mks_len, h1]), by (rw [h1]; exact Seen.self)⟩, S.tl⟩); (first | (exfalso; omega) | exact ⟨i + 1, a83, c83, M83, _, _, _, rfl, by (show Value.slice _ _ _ = _; rw [mks_succ0]), rfl, by omega, by omega, hs84 _ _ hsn, .inr ⟨by omega, ox, ocx, h2, hs84 _ _ hox⟩, S⟩)
        ·
         (show N n + 70 - (i + 1) < N n + 70 - i; omega)
       ·
        have rh5 := h5
        (try simp only [Q1, Q2, Q3, Q4, Q5, Q6, Q7, Q8, Q9, Qa] at h5)
        refine W.skip ?_
        refine InB.nx ?_
        refine Then.nx ?_
        refine W.region rfl ?_
        refine WO.q (Y.move (v := .int .i64 _) rfl) ?_
        first | refine WO.q (Y.addI rfl rfl (by omega)) ?_ | refine WO.q (Y.add rfl rfl) ?_
        refine WO.q (Y.assign (v := .int .i64 _) rfl) ?_
        refine WO.nil ?_
        refine Then.nx ⟨?_, ?_, ?_⟩
        ·
         (repeat (first | exact Out.hav _ _ _ | exact Out.refl _ _ | refine Out.up rfl ?_ | refine Out.sub rfl ?_))
        ·
         rcases hone with ⟨h1, h2⟩ | ⟨h1, ox, ocx, h2, hox⟩; (first | (exfalso; omega) | exact ⟨i + 1, a83, c83, M83, _, _, _, rfl, by (show Value.slice _ _ _ = _; rw [mks_succ0]), rfl, by omega, by omega, hs84 _ _ hsn, .inr ⟨by omega, a83, c83, by (rw [h2, ← mks_succ0, mks_len, h1]), by (rw [h1]; exact Seen.self)⟩, S.tl⟩); (first | (exfalso; omega) | exact ⟨i + 1, a83, c83, M83, _, _, _, rfl, by (show Value.slice _ _ _ = _; rw [mks_succ0]), rfl, by omega, by omega, hs84 _ _ hsn, .inr ⟨by omega, ox, ocx, h2, hs84 _ _ hox⟩, S⟩)
        ·
         (show N n + 70 - (i + 1) < N n + 70 - i; omega)
      ·
       have rh4 := h4
       (try simp only [Q1, Q2, Q3, Q4, Q5, Q6, Q7, Q8, Q9, Qa] at h4)
       refine W.exit ?_
       refine Then.x ?_
       refine Then.x ?_
       refine InB.e ?_
       refine Then.nx ?_
       have hml1 := G.moreL
       refine W.region rfl ?_
       refine WO.q (Y.move (v := .slice _ _ _) rfl) ?_
       refine WO.q (Y.move (v := .slice _ _ _) rfl) ?_
       first | refine WO.e (O.buildSlice rfl (buildOne sl_36 (by decide) rfl rfl) S (fun b100 w S => ?_)) | refine WO.e (O.buildSlice rfl (buildOne sl_36 (by decide) rfl (by simp)) S (fun b100 w S => ?_)) | refine WO.e (O.buildSlice rfl (bs_36_1_0) S (fun b100 w S => ?_))
       refine WO.e (O.append (T := tSl) (ys := [((al, (mks (mkInts n) 0 i).length, cl) : SlV)]) 4 sl_36 S rfl rfl rfl rfl (S.rd1 (T := tSl) (x := ((al, (mks (mkInts n) 0 i).length, cl) : SlV)) 0 rfl) rfl (by (simp only [List.length_singleton]; omega)) (by (simp only [List.length_singleton, maxLen]; omega)) (fun a101 c101 w S hn101 => ?_))
       refine WO.q (Y.assign (v := .slice _ _ _) rfl) ?_
       refine WO.nil ?_
       refine InB.nx ?_
       refine Then.nx ?_
       refine W.region rfl ?_
       refine WO.q (Y.move (v := .int .i64 _) rfl) ?_
       first | refine WO.q (Y.addI rfl rfl (by omega)) ?_ | refine WO.q (Y.add rfl rfl) ?_
       refine WO.q (Y.assign (v := .int .i64 _) rfl) ?_
       refine WO.nil ?_
       refine Then.nx ⟨?_, ?_, ?_⟩
       ·
        (repeat (first | exact Out.hav _ _ _ | exact Out.refl _ _ | refine Out.up rfl ?_ | refine Out.sub rfl ?_))
       ·
        have hi70 : i = N n + 70 := (by omega); rcases hone with ⟨h1, _⟩ | ⟨_, ox, ocx, h2, hox⟩; (exfalso; omega); rw [h2] at S ⊢; rw [hi70] at hsn hox; have G2 := G.snoc (e := 3) (cap := cl) (oc := ocx) (by (rw [hpD]; exact hsn)) hox; rw [mks_len, hi70] at S; exact ⟨n + 1, _, _, _, _, _, _, _, rfl, by omega, rfl, (by (show Value.slice _ _ _ = _; rw [mks_len, hi70])), G2, ((S.pk (.cons 5 rfl (.cons 5 rfl (.cons 5 rfl (.refl _))))).mixClose hnk).pk (.cons 2 rfl (.cons 2 rfl (.cons 2 rfl (.cons 2 rfl (.cons 0 rfl (.drop (.refl _)))))))⟩
       ·
        (show ps.length - (n + 1) < ps.length - n; omega)
    ·
     have rh3 := h3
     (try simp only [Q1, Q2, Q3, Q4, Q5, Q6, Q7, Q8, Q9, Qa] at h3)
     refine W.exit ?_
     refine Then.x ?_
     refine Then.x ?_
     refine InB.e ?_
     refine Then.nx ?_
     refine W.seq ?_
     refine W.seq ?_
     have en : n = ps.length := by omega
     subst en
     have hG := G
     have hml := hG.moreL
     refine W.region rfl ?_
     refine WO.q (Y.assign (v := .int .i64 _) rfl) ?_
     refine WO.nil ?_
     refine Then.nx ?_
     refine W.block ?_
     -- loop 4 carries 10:n
     refine W.loop1 [2, 10, 11, 12, 13, 102, 103, 104, 105, 106, 107, 108, 109, 110, 111, 112, 113, 114, 115, 116, 117, 118, 119, 120, 121, 122, 123, 124, 125, 126, 127, 128, 129, 130, 131, 132, 133, 134, 135, 136, 137, 138, 139, 140, 141, 142, 143, 144, 145, 146, 147, 148, 149, 150, 151, 152, 153, 154, 155, 156, 157, 158, 159, 160, 161, 162, 163, 164, 165, 166, 167, 168, 169, 170, 171, 172, 173, 174, 175, 176, 177, 178, 179, 180, 181, 182] 10 (fun v10 w => ∃ n : Nat, v10 = .int .i64 (n : Int) ∧ n ≤ ps.length ∧ Sat w0 w (Cel bg hdr 50 :: Own tSl 27 ga gc ps :: Own tSl 27 oa oc one :: Own tSl 27 ma mc more :: Rws (AMix Z (AM (tI .i64) 3 ps mkInts N) ps.length) ps.length :: L)) (fun v10 w => ps.length - (intOf v10).toNat) ?_ ?_
     ·
      exact ⟨0, rfl, Nat.zero_le _, S⟩
     ·
      rintro g4 v10 w ⟨n, rfl, hn, S⟩
      refine W.seq ?_
      refine W.seq ?_
      refine W.region rfl ?_
      refine WO.q (Y.move (v := .int .i64 _) rfl) ?_
      refine WO.q (Y.move (v := .slice _ _ _) rfl) ?_
      refine WO.q (Y.len (t' := 0) Tryd.underlying36 rfl) ?_
      refine WO.q (Y.lss rfl rfl) ?_
      refine WO.nil ?_
      refine Then.nx ?_
      refine W.cond rfl (fun h6 => ?_) (fun h6 => ?_) -- cond 5
      ·
       have rh6 := h6
       (try simp only [Q1, Q2, Q3, Q4, Q5, Q6, Q7, Q8, Q9, Qa] at h6)
       have hnk : n < ps.length := by omega
       obtain ⟨⟨pa, pl, pc⟩, hp⟩ := at_ex (xs := ps) (k := n) hnk
       have hpD := getD_at (d := sl0) hp
       obtain ⟨hpl, hfl, hNb⟩ := hN n hnk
       rw [hpD] at hpl
       replace hpl : pl = N n := hpl
       subst hpl
       have hga := (S.rd 1 rfl).1 (by omega)
       obtain ⟨oa2, oc2, ho1, ho2⟩ := hG.oneR n hnk
       obtain ⟨ma2, mc2, hm1, hm2⟩ := hG.moreR n hnk
       have hoa := (S.rd 2 rfl).1 (by (rw [hG.oneL]; omega))
       have hma := (S.rd 3 rfl).1 (by (rw [hG.moreL]; omega))
       have hol := hG.oneL
       have hown := hG.own n hnk
       rw [hpD] at hown
       refine W.skip ?_
       refine Then.nx ?_
       refine W.seq ?_
       refine W.block ?_
       refine W.seq ?_
       refine W.region rfl ?_
       refine WO.q (Y.assign (v := .int .i64 _) rfl) ?_
       refine WO.nil ?_
       refine Then.nx ?_
       refine W.block ?_
       -- loop 5 carries 11:i
       refine W.loop1 [2, 11, 12, 13, 108, 109, 110, 111, 112, 113, 114, 115, 116, 117, 118, 119, 120, 121, 122, 123, 124, 125, 126, 127, 128, 129, 130, 131, 132, 133, 134, 135, 136, 137, 138, 139, 140, 141, 142, 143, 144, 145, 146, 147, 148, 149, 150, 151, 152, 153, 154, 155, 156, 157, 158, 159, 160, 161, 162, 163, 164, 165, 166, 167, 168, 169, 170, 171, 172, 173, 174, 175, 176, 177, 178, 179, 180, 181, 182] 11 (fun v11 w => ∃ i : Nat, v11 = .int .i64 (i : Int) ∧ i ≤ N n + 70 ∧ Sat w0 w (Cel bg hdr 50 :: Own tSl 27 ga gc ps :: Own tSl 27 oa oc one :: Own tSl 27 ma mc more :: Rws (AMix Z (AM (tI .i64) 3 ps mkInts N) ps.length) ps.length :: L)) (fun v11 w => N n + 70 - (intOf v11).toNat) ?_ ?_
       ·
        exact ⟨0, rfl, Nat.zero_le _, S⟩
       ·
        rintro g5 v11 w ⟨i, rfl, hi, S⟩
        refine W.seq ?_
        refine W.seq ?_
        refine W.region rfl ?_
        refine WO.q (Y.move (v := .int .i64 _) rfl) ?_
        refine WO.q (Y.move (v := .slice _ _ _) rfl) ?_
        refine WO.q (Y.move (v := .int .i64 _) rfl) ?_
        first | refine WO.q (Y.ixN sl_36 rfl rfl (by (first | assumption | rfl)) (by (first | assumption | omega))) ?_ | refine WO.q (Y.ix sl_36 rfl rfl (by (first | assumption | rfl)) (by (first | assumption | omega)) (by (first | assumption | omega))) ?_
        first | refine WO.q (Y.load rfl (loadRd1 (c := .slice pa (N n) pc) sz_27 (S.rd 1 rfl) hp rfl)) ?_ | refine WO.q (Y.load rfl (loadRd1 (c := .slice oa2 (N n + 1) oc2) sz_27 (S.rd 2 rfl) ho1 rfl)) ?_ | refine WO.q (Y.load rfl (loadRd1 (c := .slice ma2 (N n + 70) mc2) sz_27 (S.rd 3 rfl) hm1 rfl)) ?_ | refine WO.q (Y.load rfl (loadRd1 sz_27 (S.rd 1 rfl) (by assumption) rfl)) ?_ | refine WO.q (Y.load rfl (loadRd1 sz_27 (S.rd 2 rfl) (by assumption) rfl)) ?_ | refine WO.q (Y.load rfl (loadRd1 sz_27 (S.rd 3 rfl) (by assumption) rfl)) ?_ | refine WO.q (Y.load rfl (loadRd1 sz_27 (S.reads 4 rfl (Reads.mix hnk hm2)) (by assumption) rfl)) ?_ | refine WO.q (Y.load rfl (loadRd1 sz_27 (S.reads 4 rfl (Reads.mix hnk hown)) (by assumption) rfl)) ?_ | refine WO.q (Y.load rfl (loadRd1 sz_27 (S.reads 4 rfl (Reads.mix hnk ho2)) (by assumption) rfl)) ?_
        refine WO.q (Y.len (t' := 0) Tryd.underlying27 rfl) ?_
        refine WO.q (Y.lss rfl rfl) ?_
        refine WO.nil ?_
        refine Then.nx ?_
        refine W.cond rfl (fun h7 => ?_) (fun h7 => ?_) -- cond 6
        ·
         have rh7 := h7
         (try simp only [Q1, Q2, Q3, Q4, Q5, Q6, Q7, Q8, Q9, Qa] at h7)
         have hxm := mks_at0 (mk := mkInts n) (m := N n + 70) (j := i) (by omega)
         have ham := (S.reads 4 rfl (Reads.mix hnk hm2)).1 (by (rw [mks_len]; omega))
         refine W.skip ?_
         refine Then.nx ?_
         refine W.seq ?_
         refine W.block ?_
         refine W.seq ?_
         refine W.region rfl ?_
         refine WO.q (Y.move (v := .slice _ _ _) rfl) ?_
         refine WO.q (Y.move (v := .int .i64 _) rfl) ?_
         first | refine WO.q (Y.ixN sl_36 rfl rfl (by (first | assumption | rfl)) (by (first | assumption | omega))) ?_ | refine WO.q (Y.ix sl_36 rfl rfl (by (first | assumption | rfl)) (by (first | assumption | omega)) (by (first | assumption | omega))) ?_
         first | refine WO.q (Y.load rfl (loadRd1 (c := .slice pa (N n) pc) sz_27 (S.rd 1 rfl) hp rfl)) ?_ | refine WO.q (Y.load rfl (loadRd1 (c := .slice oa2 (N n + 1) oc2) sz_27 (S.rd 2 rfl) ho1 rfl)) ?_ | refine WO.q (Y.load rfl (loadRd1 (c := .slice ma2 (N n + 70) mc2) sz_27 (S.rd 3 rfl) hm1 rfl)) ?_ | refine WO.q (Y.load rfl (loadRd1 sz_27 (S.rd 1 rfl) (by assumption) rfl)) ?_ | refine WO.q (Y.load rfl (loadRd1 sz_27 (S.rd 2 rfl) (by assumption) rfl)) ?_ | refine WO.q (Y.load rfl (loadRd1 sz_27 (S.rd 3 rfl) (by assumption) rfl)) ?_ | refine WO.q (Y.load rfl (loadRd1 sz_27 (S.reads 4 rfl (Reads.mix hnk hm2)) (by assumption) rfl)) ?_ | refine WO.q (Y.load rfl (loadRd1 sz_27 (S.reads 4 rfl (Reads.mix hnk hown)) (by assumption) rfl)) ?_ | refine WO.q (Y.load rfl (loadRd1 sz_27 (S.reads 4 rfl (Reads.mix hnk ho2)) (by assumption) rfl)) ?_
         refine WO.q (Y.move (v := .int .i64 _) rfl) ?_
         first | refine WO.q (Y.ixN sl_27 rfl rfl (by (first | assumption | rfl)) (by (first | assumption | omega))) ?_ | refine WO.q (Y.ix sl_27 rfl rfl (by (first | assumption | rfl)) (by (first | assumption | omega)) (by (first | assumption | omega))) ?_
         first | refine WO.q (Y.load rfl (loadRd1 sz_3 (S.rd 1 rfl) (by assumption) rfl)) ?_ | refine WO.q (Y.load rfl (loadRd1 sz_3 (S.rd 2 rfl) (by assumption) rfl)) ?_ | refine WO.q (Y.load rfl (loadRd1 sz_3 (S.rd 3 rfl) (by assumption) rfl)) ?_ | refine WO.q (Y.load rfl (loadRd1 sz_3 (S.reads 4 rfl (Reads.mix hnk hm2)) (by assumption) rfl)) ?_ | refine WO.q (Y.load rfl (loadRd1 sz_3 (S.reads 4 rfl (Reads.mix hnk hown)) (by assumption) rfl)) ?_ | refine WO.q (Y.load rfl (loadRd1 sz_3 (S.reads 4 rfl (Reads.mix hnk ho2)) (by assumption) rfl)) ?_
         refine WO.q (Y.assign (v := .int .i64 _) rfl) ?_
         refine WO.nil ?_
         refine Then.nx ?_
         refine W.cut1 [12, 124, 125, 126, 127, 128, 129, 130, 131, 132, 133, 134, 135, 136, 137, 138, 139, 140, 141, 142, 143] 12 (fun v12 w => v12 = .int .i64 (numM n i) ∧ Sat w0 w (Cel bg hdr 50 :: Own tSl 27 ga gc ps :: Own tSl 27 oa oc one :: Own tSl 27 ma mc more :: Rws (AMix Z (AM (tI .i64) 3 ps mkInts N) ps.length) ps.length :: L)) ?_ ?_
         ·
          refine W.seq ?_
          refine W.region rfl ?_
          refine WO.q (Y.move (v := .int .i64 _) rfl) ?_
          first | refine WO.q (Y.move (v := .pointer (some _)) rfl) ?_ | refine WO.q (Y.move (v := .pointer _) rfl) ?_
          refine WO.q (Y.nilP rfl) ?_
          first | refine WO.q (Y.fieldB fo_50_1 rfl) ?_ | refine WO.q (Y.fieldE fo_50_1 rfl) ?_
          first | refine WO.q (Y.load rfl (loadS1 sz_36 S 0 rfl hh)) ?_ | refine WO.q (Y.load rfl (loadS1 sz_36 S 1 rfl hh)) ?_ | refine WO.q (Y.load rfl (loadS1 sz_36 S 0 rfl rfl)) ?_ | refine WO.q (Y.load rfl (loadRdF sz_36 (S.rd 1 rfl) (by assumption) rfl)) ?_ | refine WO.q (Y.load rfl (loadRdF sz_36 (S.rd 2 rfl) (by assumption) rfl)) ?_ | refine WO.q (Y.load rfl (loadRdF sz_36 (S.rd 3 rfl) (by assumption) rfl)) ?_ | refine WO.q (Y.load rfl (loadRdF sz_36 (S.reads 4 rfl (Reads.mix hnk hm2)) (by assumption) rfl)) ?_ | refine WO.q (Y.load rfl (loadRdF sz_36 (S.reads 4 rfl (Reads.mix hnk hown)) (by assumption) rfl)) ?_ | refine WO.q (Y.load rfl (loadRdF sz_36 (S.reads 4 rfl (Reads.mix hnk ho2)) (by assumption) rfl)) ?_ | refine WO.q (Y.load rfl (loadRd1 sz_36 (S.rd 1 rfl) (by assumption) rfl)) ?_ | refine WO.q (Y.load rfl (loadRd1 sz_36 (S.rd 2 rfl) (by assumption) rfl)) ?_ | refine WO.q (Y.load rfl (loadRd1 sz_36 (S.rd 3 rfl) (by assumption) rfl)) ?_ | refine WO.q (Y.load rfl (loadRd1 sz_36 (S.reads 4 rfl (Reads.mix hnk hm2)) (by assumption) rfl)) ?_ | refine WO.q (Y.load rfl (loadRd1 sz_36 (S.reads 4 rfl (Reads.mix hnk hown)) (by assumption) rfl)) ?_ | refine WO.q (Y.load rfl (loadRd1 sz_36 (S.reads 4 rfl (Reads.mix hnk ho2)) (by assumption) rfl)) ?_
          refine WO.q (Y.move (v := .int .i64 _) rfl) ?_
          first | refine WO.q (Y.ixN sl_36 rfl rfl (by (first | assumption | rfl)) (by (first | assumption | omega))) ?_ | refine WO.q (Y.ix sl_36 rfl rfl (by (first | assumption | rfl)) (by (first | assumption | omega)) (by (first | assumption | omega))) ?_
          first | refine WO.q (Y.load rfl (loadRd1 (c := .slice pa (N n) pc) sz_27 (S.rd 1 rfl) hp rfl)) ?_ | refine WO.q (Y.load rfl (loadRd1 (c := .slice oa2 (N n + 1) oc2) sz_27 (S.rd 2 rfl) ho1 rfl)) ?_ | refine WO.q (Y.load rfl (loadRd1 (c := .slice ma2 (N n + 70) mc2) sz_27 (S.rd 3 rfl) hm1 rfl)) ?_ | refine WO.q (Y.load rfl (loadRd1 sz_27 (S.rd 1 rfl) (by assumption) rfl)) ?_ | refine WO.q (Y.load rfl (loadRd1 sz_27 (S.rd 2 rfl) (by assumption) rfl)) ?_ | refine WO.q (Y.load rfl (loadRd1 sz_27 (S.rd 3 rfl) (by assumption) rfl)) ?_ | refine WO.q (Y.load rfl (loadRd1 sz_27 (S.reads 4 rfl (Reads.mix hnk hm2)) (by assumption) rfl)) ?_ | refine WO.q (Y.load rfl (loadRd1 sz_27 (S.reads 4 rfl (Reads.mix hnk hown)) (by assumption) rfl)) ?_ | refine WO.q (Y.load rfl (loadRd1 sz_27 (S.reads 4 rfl (Reads.mix hnk ho2)) (by assumption) rfl)) ?_
          refine WO.q (Y.len (t' := 0) Tryd.underlying27 rfl) ?_
          refine WO.q (Y.lss rfl rfl) ?_
          refine WO.nil ?_
          refine Then.nx ?_
          refine W.cond rfl (fun h8 => ?_) (fun h8 => ?_) -- cond 7
          ·
           have rh8 := h8
           (try simp only [Q1, Q2, Q3, Q4, Q5, Q6, Q7, Q8, Q9, Qa] at h8)
           have hxg := mks_at0 (mk := mkInts n) (m := N n) (j := i) (by omega)
           have hag := (S.reads 4 rfl (Reads.mix hnk hown)).1 (by (rw [mks_len]; omega))
           refine W.region rfl ?_
           first | refine WO.q (Y.move (v := .pointer (some _)) rfl) ?_ | refine WO.q (Y.move (v := .pointer _) rfl) ?_
           refine WO.q (Y.nilP rfl) ?_
           first | refine WO.q (Y.fieldB fo_50_1 rfl) ?_ | refine WO.q (Y.fieldE fo_50_1 rfl) ?_
           first | refine WO.q (Y.load rfl (loadS1 sz_36 S 0 rfl hh)) ?_ | refine WO.q (Y.load rfl (loadS1 sz_36 S 1 rfl hh)) ?_ | refine WO.q (Y.load rfl (loadS1 sz_36 S 0 rfl rfl)) ?_ | refine WO.q (Y.load rfl (loadRdF sz_36 (S.rd 1 rfl) (by assumption) rfl)) ?_ | refine WO.q (Y.load rfl (loadRdF sz_36 (S.rd 2 rfl) (by assumption) rfl)) ?_ | refine WO.q (Y.load rfl (loadRdF sz_36 (S.rd 3 rfl) (by assumption) rfl)) ?_ | refine WO.q (Y.load rfl (loadRdF sz_36 (S.reads 4 rfl (Reads.mix hnk hm2)) (by assumption) rfl)) ?_ | refine WO.q (Y.load rfl (loadRdF sz_36 (S.reads 4 rfl (Reads.mix hnk hown)) (by assumption) rfl)) ?_ | refine WO.q (Y.load rfl (loadRdF sz_36 (S.reads 4 rfl (Reads.mix hnk ho2)) (by assumption) rfl)) ?_ | refine WO.q (Y.load rfl (loadRd1 sz_36 (S.rd 1 rfl) (by assumption) rfl)) ?_ | refine WO.q (Y.load rfl (loadRd1 sz_36 (S.rd 2 rfl) (by assumption) rfl)) ?_ | refine WO.q (Y.load rfl (loadRd1 sz_36 (S.rd 3 rfl) (by assumption) rfl)) ?_ | refine WO.q (Y.load rfl (loadRd1 sz_36 (S.reads 4 rfl (Reads.mix hnk hm2)) (by assumption) rfl)) ?_ | refine WO.q (Y.load rfl (loadRd1 sz_36 (S.reads 4 rfl (Reads.mix hnk hown)) (by assumption) rfl)) ?_ | refine WO.q (Y.load rfl (loadRd1 sz_36 (S.reads 4 rfl (Reads.mix hnk ho2)) (by assumption) rfl)) ?_
           refine WO.q (Y.move (v := .int .i64 _) rfl) ?_
           first | refine WO.q (Y.ixN sl_36 rfl rfl (by (first | assumption | rfl)) (by (first | assumption | omega))) ?_ | refine WO.q (Y.ix sl_36 rfl rfl (by (first | assumption | rfl)) (by (first | assumption | omega)) (by (first | assumption | omega))) ?_
           first | refine WO.q (Y.load rfl (loadRd1 (c := .slice pa (N n) pc) sz_27 (S.rd 1 rfl) hp rfl)) ?_ | refine WO.q (Y.load rfl (loadRd1 (c := .slice oa2 (N n + 1) oc2) sz_27 (S.rd 2 rfl) ho1 rfl)) ?_ | refine WO.q (Y.load rfl (loadRd1 (c := .slice ma2 (N n + 70) mc2) sz_27 (S.rd 3 rfl) hm1 rfl)) ?_ | refine WO.q (Y.load rfl (loadRd1 sz_27 (S.rd 1 rfl) (by assumption) rfl)) ?_ | refine WO.q (Y.load rfl (loadRd1 sz_27 (S.rd 2 rfl) (by assumption) rfl)) ?_ | refine WO.q (Y.load rfl (loadRd1 sz_27 (S.rd 3 rfl) (by assumption) rfl)) ?_ | refine WO.q (Y.load rfl (loadRd1 sz_27 (S.reads 4 rfl (Reads.mix hnk hm2)) (by assumption) rfl)) ?_ | refine WO.q (Y.load rfl (loadRd1 sz_27 (S.reads 4 rfl (Reads.mix hnk hown)) (by assumption) rfl)) ?_ | refine WO.q (Y.load rfl (loadRd1 sz_27 (S.reads 4 rfl (Reads.mix hnk ho2)) (by assumption) rfl)) ?_
           refine WO.q (Y.move (v := .int .i64 _) rfl) ?_
           first | refine WO.q (Y.ixN sl_27 rfl rfl (by (first | assumption | rfl)) (by (first | assumption | omega))) ?_ | refine WO.q (Y.ix sl_27 rfl rfl (by (first | assumption | rfl)) (by (first | assumption | omega)) (by (first | assumption | omega))) ?_
           first | refine WO.q (Y.load rfl (loadRd1 sz_3 (S.rd 1 rfl) (by assumption) rfl)) ?_ | refine WO.q (Y.load rfl (loadRd1 sz_3 (S.rd 2 rfl) (by assumption) rfl)) ?_ | refine WO.q (Y.load rfl (loadRd1 sz_3 (S.rd 3 rfl) (by assumption) rfl)) ?_ | refine WO.q (Y.load rfl (loadRd1 sz_3 (S.reads 4 rfl (Reads.mix hnk hm2)) (by assumption) rfl)) ?_ | refine WO.q (Y.load rfl (loadRd1 sz_3 (S.reads 4 rfl (Reads.mix hnk hown)) (by assumption) rfl)) ?_ | refine WO.q (Y.load rfl (loadRd1 sz_3 (S.reads 4 rfl (Reads.mix hnk ho2)) (by assumption) rfl)) ?_
           refine WO.q (Y.assign (v := .int .i64 _) rfl) ?_
           refine WO.nil ?_
           refine Then.nx ⟨?_, ?_⟩
           ·
            (repeat (first | exact Out.hav _ _ _ | exact Out.refl _ _ | refine Out.up rfl ?_ | refine Out.sub rfl ?_))
           ·
            exact ⟨rfl, S⟩
          ·
           have rh8 := h8
           (try simp only [Q1, Q2, Q3, Q4, Q5, Q6, Q7, Q8, Q9, Qa] at h8)
           refine W.skip ?_
           refine Then.nx ⟨?_, ?_⟩
           ·
            (repeat (first | exact Out.hav _ _ _ | exact Out.refl _ _ | refine Out.up rfl ?_ | refine Out.sub rfl ?_))
           ·
            exact ⟨rfl, S⟩
         ·
          rintro gj513 v12 w ⟨rfl, S⟩
          refine W.cut1 [12, 144, 145, 146, 147, 148, 149, 150, 151, 152, 153, 154, 155, 156, 157, 158, 159, 160] 12 (fun v12 w => v12 = .int .i64 (numM n i) ∧ Sat w0 w (Cel bg hdr 50 :: Own tSl 27 ga gc ps :: Own tSl 27 oa oc one :: Own tSl 27 ma mc more :: Rws (AMix Z (AM (tI .i64) 3 ps mkInts N) ps.length) ps.length :: L)) ?_ ?_
          ·
           refine W.seq ?_
           refine W.region rfl ?_
           refine WO.q (Y.move (v := .int .i64 _) rfl) ?_
           first | refine WO.q (Y.move (v := .pointer (some _)) rfl) ?_ | refine WO.q (Y.move (v := .pointer _) rfl) ?_
           refine WO.q (Y.nilP rfl) ?_
           first | refine WO.q (Y.fieldB fo_50_1 rfl) ?_ | refine WO.q (Y.fieldE fo_50_1 rfl) ?_
           first | refine WO.q (Y.load rfl (loadS1 sz_36 S 0 rfl hh)) ?_ | refine WO.q (Y.load rfl (loadS1 sz_36 S 1 rfl hh)) ?_ | refine WO.q (Y.load rfl (loadS1 sz_36 S 0 rfl rfl)) ?_ | refine WO.q (Y.load rfl (loadRdF sz_36 (S.rd 1 rfl) (by assumption) rfl)) ?_ | refine WO.q (Y.load rfl (loadRdF sz_36 (S.rd 2 rfl) (by assumption) rfl)) ?_ | refine WO.q (Y.load rfl (loadRdF sz_36 (S.rd 3 rfl) (by assumption) rfl)) ?_ | refine WO.q (Y.load rfl (loadRdF sz_36 (S.reads 4 rfl (Reads.mix hnk hm2)) (by assumption) rfl)) ?_ | refine WO.q (Y.load rfl (loadRdF sz_36 (S.reads 4 rfl (Reads.mix hnk hown)) (by assumption) rfl)) ?_ | refine WO.q (Y.load rfl (loadRdF sz_36 (S.reads 4 rfl (Reads.mix hnk ho2)) (by assumption) rfl)) ?_ | refine WO.q (Y.load rfl (loadRd1 sz_36 (S.rd 1 rfl) (by assumption) rfl)) ?_ | refine WO.q (Y.load rfl (loadRd1 sz_36 (S.rd 2 rfl) (by assumption) rfl)) ?_ | refine WO.q (Y.load rfl (loadRd1 sz_36 (S.rd 3 rfl) (by assumption) rfl)) ?_ | refine WO.q (Y.load rfl (loadRd1 sz_36 (S.reads 4 rfl (Reads.mix hnk hm2)) (by assumption) rfl)) ?_ | refine WO.q (Y.load rfl (loadRd1 sz_36 (S.reads 4 rfl (Reads.mix hnk hown)) (by assumption) rfl)) ?_ | refine WO.q (Y.load rfl (loadRd1 sz_36 (S.reads 4 rfl (Reads.mix hnk ho2)) (by assumption) rfl)) ?_
           refine WO.q (Y.move (v := .int .i64 _) rfl) ?_
           first | refine WO.q (Y.ixN sl_36 rfl rfl (by (first | assumption | rfl)) (by (first | assumption | omega))) ?_ | refine WO.q (Y.ix sl_36 rfl rfl (by (first | assumption | rfl)) (by (first | assumption | omega)) (by (first | assumption | omega))) ?_
           first | refine WO.q (Y.load rfl (loadRd1 (c := .slice pa (N n) pc) sz_27 (S.rd 1 rfl) hp rfl)) ?_ | refine WO.q (Y.load rfl (loadRd1 (c := .slice oa2 (N n + 1) oc2) sz_27 (S.rd 2 rfl) ho1 rfl)) ?_ | refine WO.q (Y.load rfl (loadRd1 (c := .slice ma2 (N n + 70) mc2) sz_27 (S.rd 3 rfl) hm1 rfl)) ?_ | refine WO.q (Y.load rfl (loadRd1 sz_27 (S.rd 1 rfl) (by assumption) rfl)) ?_ | refine WO.q (Y.load rfl (loadRd1 sz_27 (S.rd 2 rfl) (by assumption) rfl)) ?_ | refine WO.q (Y.load rfl (loadRd1 sz_27 (S.rd 3 rfl) (by assumption) rfl)) ?_ | refine WO.q (Y.load rfl (loadRd1 sz_27 (S.reads 4 rfl (Reads.mix hnk hm2)) (by assumption) rfl)) ?_ | refine WO.q (Y.load rfl (loadRd1 sz_27 (S.reads 4 rfl (Reads.mix hnk hown)) (by assumption) rfl)) ?_ | refine WO.q (Y.load rfl (loadRd1 sz_27 (S.reads 4 rfl (Reads.mix hnk ho2)) (by assumption) rfl)) ?_
           refine WO.q (Y.len (t' := 0) Tryd.underlying27 rfl) ?_
           refine WO.q (Y.eql rfl rfl) ?_
           refine WO.nil ?_
           refine Then.nx ?_
           refine W.cond rfl (fun h9 => ?_) (fun h9 => ?_) -- cond 8
           ·
            have rh9 := h9
            (try simp only [Q1, Q2, Q3, Q4, Q5, Q6, Q7, Q8, Q9, Qa] at h9)
            have hxo := mks_at0 (mk := mkInts n) (m := N n + 1) (j := i) (by omega)
            have hao := (S.reads 4 rfl (Reads.mix hnk ho2)).1 (by (rw [mks_len]; omega))
            refine W.region rfl ?_
            refine WO.q (Y.move (v := .slice _ _ _) rfl) ?_
            refine WO.q (Y.move (v := .int .i64 _) rfl) ?_
            first | refine WO.q (Y.ixN sl_36 rfl rfl (by (first | assumption | rfl)) (by (first | assumption | omega))) ?_ | refine WO.q (Y.ix sl_36 rfl rfl (by (first | assumption | rfl)) (by (first | assumption | omega)) (by (first | assumption | omega))) ?_
            first | refine WO.q (Y.load rfl (loadRd1 (c := .slice pa (N n) pc) sz_27 (S.rd 1 rfl) hp rfl)) ?_ | refine WO.q (Y.load rfl (loadRd1 (c := .slice oa2 (N n + 1) oc2) sz_27 (S.rd 2 rfl) ho1 rfl)) ?_ | refine WO.q (Y.load rfl (loadRd1 (c := .slice ma2 (N n + 70) mc2) sz_27 (S.rd 3 rfl) hm1 rfl)) ?_ | refine WO.q (Y.load rfl (loadRd1 sz_27 (S.rd 1 rfl) (by assumption) rfl)) ?_ | refine WO.q (Y.load rfl (loadRd1 sz_27 (S.rd 2 rfl) (by assumption) rfl)) ?_ | refine WO.q (Y.load rfl (loadRd1 sz_27 (S.rd 3 rfl) (by assumption) rfl)) ?_ | refine WO.q (Y.load rfl (loadRd1 sz_27 (S.reads 4 rfl (Reads.mix hnk hm2)) (by assumption) rfl)) ?_ | refine WO.q (Y.load rfl (loadRd1 sz_27 (S.reads 4 rfl (Reads.mix hnk hown)) (by assumption) rfl)) ?_ | refine WO.q (Y.load rfl (loadRd1 sz_27 (S.reads 4 rfl (Reads.mix hnk ho2)) (by assumption) rfl)) ?_
            refine WO.q (Y.move (v := .int .i64 _) rfl) ?_
            first | refine WO.q (Y.ixN sl_27 rfl rfl (by (first | assumption | rfl)) (by (first | assumption | omega))) ?_ | refine WO.q (Y.ix sl_27 rfl rfl (by (first | assumption | rfl)) (by (first | assumption | omega)) (by (first | assumption | omega))) ?_
            first | refine WO.q (Y.load rfl (loadRd1 sz_3 (S.rd 1 rfl) (by assumption) rfl)) ?_ | refine WO.q (Y.load rfl (loadRd1 sz_3 (S.rd 2 rfl) (by assumption) rfl)) ?_ | refine WO.q (Y.load rfl (loadRd1 sz_3 (S.rd 3 rfl) (by assumption) rfl)) ?_ | refine WO.q (Y.load rfl (loadRd1 sz_3 (S.reads 4 rfl (Reads.mix hnk hm2)) (by assumption) rfl)) ?_ | refine WO.q (Y.load rfl (loadRd1 sz_3 (S.reads 4 rfl (Reads.mix hnk hown)) (by assumption) rfl)) ?_ | refine WO.q (Y.load rfl (loadRd1 sz_3 (S.reads 4 rfl (Reads.mix hnk ho2)) (by assumption) rfl)) ?_
            refine WO.q (Y.assign (v := .int .i64 _) rfl) ?_
            refine WO.nil ?_
            refine Then.nx ⟨?_, ?_⟩
            ·
             (repeat (first | exact Out.hav _ _ _ | exact Out.refl _ _ | refine Out.up rfl ?_ | refine Out.sub rfl ?_))
            ·
             exact ⟨rfl, S⟩
           ·
            have rh9 := h9
            (try simp only [Q1, Q2, Q3, Q4, Q5, Q6, Q7, Q8, Q9, Qa] at h9)
            refine W.skip ?_
            refine Then.nx ⟨?_, ?_⟩
            ·
             (repeat (first | exact Out.hav _ _ _ | exact Out.refl _ _ | refine Out.up rfl ?_ | refine Out.sub rfl ?_))
            ·
             exact ⟨rfl, S⟩
          ·
           rintro gj561 v12 w ⟨rfl, S⟩
           refine W.seq ?_
           refine W.region rfl ?_
           refine WO.q (Y.move (v := .int .i64 _) rfl) ?_
           refine WO.q (Y.move (v := .int .i64 _) rfl) ?_
           refine WO.q (Y.move (v := .int .i64 _) rfl) ?_
           refine WO.e (O.call cf_40 rfl (num_spec _ n i (by omega) (by omega)) ?_)
           rintro _ w ⟨rfl, E⟩
           replace S := S.keep E
           refine ⟨_, rfl, ?_⟩
           refine WO.q (Y.eql rfl rfl) ?_
           refine WO.q (Y.assign (v := .bool _) rfl) ?_
           refine WO.nil ?_
           refine Then.nx ?_
           refine W.seq ?_
           refine W.region rfl ?_
           refine WO.q (Y.move (v := .slice _ _ _) rfl) ?_
           refine WO.q (Y.move (v := .int .i64 _) rfl) ?_
           first | refine WO.q (Y.ixN sl_36 rfl rfl (by (first | assumption | rfl)) (by (first | assumption | omega))) ?_ | refine WO.q (Y.ix sl_36 rfl rfl (by (first | assumption | rfl)) (by (first | assumption | omega)) (by (first | assumption | omega))) ?_
           first | refine WO.q (Y.load rfl (loadRd1 (c := .slice pa (N n) pc) sz_27 (S.rd 1 rfl) hp rfl)) ?_ | refine WO.q (Y.load rfl (loadRd1 (c := .slice oa2 (N n + 1) oc2) sz_27 (S.rd 2 rfl) ho1 rfl)) ?_ | refine WO.q (Y.load rfl (loadRd1 (c := .slice ma2 (N n + 70) mc2) sz_27 (S.rd 3 rfl) hm1 rfl)) ?_ | refine WO.q (Y.load rfl (loadRd1 sz_27 (S.rd 1 rfl) (by assumption) rfl)) ?_ | refine WO.q (Y.load rfl (loadRd1 sz_27 (S.rd 2 rfl) (by assumption) rfl)) ?_ | refine WO.q (Y.load rfl (loadRd1 sz_27 (S.rd 3 rfl) (by assumption) rfl)) ?_ | refine WO.q (Y.load rfl (loadRd1 sz_27 (S.reads 4 rfl (Reads.mix hnk hm2)) (by assumption) rfl)) ?_ | refine WO.q (Y.load rfl (loadRd1 sz_27 (S.reads 4 rfl (Reads.mix hnk hown)) (by assumption) rfl)) ?_ | refine WO.q (Y.load rfl (loadRd1 sz_27 (S.reads 4 rfl (Reads.mix hnk ho2)) (by assumption) rfl)) ?_
           refine WO.q (Y.move (v := .int .i64 _) rfl) ?_
           first | refine WO.q (Y.ixN sl_27 rfl rfl (by (first | assumption | rfl)) (by (first | assumption | omega))) ?_ | refine WO.q (Y.ix sl_27 rfl rfl (by (first | assumption | rfl)) (by (first | assumption | omega)) (by (first | assumption | omega))) ?_
           first | refine WO.q (Y.load rfl (loadRd1 sz_3 (S.rd 1 rfl) (by assumption) rfl)) ?_ | refine WO.q (Y.load rfl (loadRd1 sz_3 (S.rd 2 rfl) (by assumption) rfl)) ?_ | refine WO.q (Y.load rfl (loadRd1 sz_3 (S.rd 3 rfl) (by assumption) rfl)) ?_ | refine WO.q (Y.load rfl (loadRd1 sz_3 (S.reads 4 rfl (Reads.mix hnk hm2)) (by assumption) rfl)) ?_ | refine WO.q (Y.load rfl (loadRd1 sz_3 (S.reads 4 rfl (Reads.mix hnk hown)) (by assumption) rfl)) ?_ | refine WO.q (Y.load rfl (loadRd1 sz_3 (S.reads 4 rfl (Reads.mix hnk ho2)) (by assumption) rfl)) ?_
           refine WO.q (Y.assign (v := .int .i64 _) rfl) ?_
           refine WO.nil ?_
           refine Then.nx ?_
           refine W.seq ?_
           refine W.region rfl ?_
           refine WO.q (Y.move (v := .bool _) rfl) ?_
           refine WO.q (Y.not rfl) ?_
           refine WO.q (Y.move (v := .bool _) rfl) ?_
           refine WO.splitB (fun h10 => ?_) (fun h10 => ?_)
           ·
            (try simp only [Q1, Q2, Q3, Q4, Q5, Q6, Q7, Q8, Q9, Qa] at h10)
            refine WO.qF rfl ?_
            refine WO.qF rfl ?_
            refine WO.qF rfl ?_
            refine WO.qF rfl ?_
            refine WO.qF rfl ?_
            refine WO.qF rfl ?_
            refine WO.q (Y.pickT (u := .bool _) rfl rfl) ?_
            refine WO.nil ?_
            refine Then.nx ?_
            first | refine W.condT rfl ?_ | refine W.condT (congrArg Value.bool (by assumption)) ?_
            refine W.seq ?_
            refine W.region rfl ?_
            refine WO.q (Y.assign (v := .bool _) rfl) ?_
            refine WO.nil ?_
            refine Then.nx ?_
            refine W.ret ?_
            refine InB.r ?_
            refine Then.r ?_
            refine Then.r ?_
            refine InB.r ?_
            refine InB.r ?_
            refine Then.r ?_
            refine Then.r ?_
            refine InB.r ?_
            refine Then.r ?_
            refine BodyQ.ret1 Tryd.results50 (ResV.tmp _ rfl) ?_
            first | exact ⟨rfl, S.pk (.cons 0 rfl (.drop (.drop (.drop (.drop (.refl _))))))⟩ | contradiction | (exfalso; omega) | (exfalso; simp_all; done)
           ·
            (try simp only [Q1, Q2, Q3, Q4, Q5, Q6, Q7, Q8, Q9, Qa] at h10)
            refine WO.qT rfl (Y.move (v := .int .i64 _) rfl) ?_
            refine WO.qT rfl (Y.move (v := .int .i64 _) rfl) ?_
            refine WO.qT rfl (Y.move (v := .int .i64 _) rfl) ?_
            refine WO.eT rfl (O.call cf_40 rfl (num_spec _ n i (by omega) (by omega)) ?_)
            rintro _ w ⟨rfl, E⟩
            replace S := S.keep E
            refine ⟨_, rfl, ?_⟩
            refine WO.qT rfl (Y.eql rfl rfl) ?_
            refine WO.qT rfl (Y.not rfl) ?_
            refine WO.q (Y.pickF (u := .bool _) rfl rfl) ?_
            refine WO.nil ?_
            refine Then.nx ?_
            refine W.cond rfl (fun h11 => ?_) (fun h11 => ?_) -- cond 9
            ·
             have rh11 := h11
             (try simp only [Q1, Q2, Q3, Q4, Q5, Q6, Q7, Q8, Q9, Qa] at h11)
             refine W.seq ?_
             refine W.region rfl ?_
             refine WO.q (Y.assign (v := .bool _) rfl) ?_
             refine WO.nil ?_
             refine Then.nx ?_
             refine W.ret ?_
             refine InB.r ?_
             refine Then.r ?_
             refine Then.r ?_
             refine InB.r ?_
             refine InB.r ?_
             refine Then.r ?_
             refine Then.r ?_
             refine InB.r ?_
             refine Then.r ?_
             refine BodyQ.ret1 Tryd.results50 (ResV.tmp _ rfl) ?_
             first | exact ⟨rfl, S.pk (.cons 0 rfl (.drop (.drop (.drop (.drop (.refl _))))))⟩ | contradiction | (exfalso; omega) | (exfalso; simp_all; done)
            ·
             have rh11 := h11
             (try simp only [Q1, Q2, Q3, Q4, Q5, Q6, Q7, Q8, Q9, Qa] at h11)
             refine W.skip ?_
             refine InB.nx ?_
             refine Then.nx ?_
             refine W.region rfl ?_
             refine WO.q (Y.move (v := .int .i64 _) rfl) ?_
             first | refine WO.q (Y.addI rfl rfl (by omega)) ?_ | refine WO.q (Y.add rfl rfl) ?_
             refine WO.q (Y.assign (v := .int .i64 _) rfl) ?_
             refine WO.nil ?_
             refine Then.nx ⟨?_, ?_, ?_⟩
             ·
              (repeat (first | exact Out.hav _ _ _ | exact Out.refl _ _ | refine Out.up rfl ?_ | refine Out.sub rfl ?_))
             ·
              exact ⟨i + 1, rfl, by omega, S⟩
             ·
              (show N n + 70 - (i + 1) < N n + 70 - i; omega)
        ·
         have rh7 := h7
         (try simp only [Q1, Q2, Q3, Q4, Q5, Q6, Q7, Q8, Q9, Qa] at h7)
         refine W.exit ?_
         refine Then.x ?_
         refine Then.x ?_
         refine InB.e ?_
         refine InB.nx ?_
         refine Then.nx ?_
         refine W.region rfl ?_
         refine WO.q (Y.move (v := .int .i64 _) rfl) ?_
         first | refine WO.q (Y.addI rfl rfl (by omega)) ?_ | refine WO.q (Y.add rfl rfl) ?_
         refine WO.q (Y.assign (v := .int .i64 _) rfl) ?_
         refine WO.nil ?_
         refine Then.nx ⟨?_, ?_, ?_⟩
         ·
          (repeat (first | exact Out.hav _ _ _ | exact Out.refl _ _ | refine Out.up rfl ?_ | refine Out.sub rfl ?_))
         ·
          exact ⟨n + 1, rfl, by omega, S⟩
         ·
          (show ps.length - (n + 1) < ps.length - n; omega)
      ·
       have rh6 := h6
       (try simp only [Q1, Q2, Q3, Q4, Q5, Q6, Q7, Q8, Q9, Qa] at h6)
       refine W.exit ?_
       refine Then.x ?_
       refine Then.x ?_
       refine InB.e ?_
       refine Then.nx ?_
       refine W.seq ?_
       refine W.region rfl ?_
       refine WO.q (Y.assign (v := .bool _) rfl) ?_
       refine WO.nil ?_
       refine Then.nx ?_
       refine W.ret ?_
       refine BodyQ.ret1 Tryd.results50 (ResV.tmp _ rfl) ?_
       first | exact ⟨rfl, S.pk (.cons 0 rfl (.drop (.drop (.drop (.drop (.refl _))))))⟩ | contradiction | (exfalso; omega) | (exfalso; simp_all; done)
end Go.Proofs
