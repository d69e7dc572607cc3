/-
  Walks of All.
-/
import Derived.Test.YticopppiogophaaDoorTv
import Derived.Test.YticopppiogophaaDoorTp
import Derived.Test.YticopppiogophaaDoorSx
import Derived.Test.YticopppiogophaaDoorFa
import Derived.Test.YticopppiogophaaDoorFb
import Derived.Test.YticopppiogophaaDoorFc
import Derived.Test.YticopppiogophaaDoorUa
set_option linter.unusedVariables false
set_option linter.unusedSimpArgs false
set_option maxRecDepth 100000
set_option maxHeartbeats 1000000
namespace Go.Proofs
open Go Go.TL Go.RowKit
theorem All_spec (w0 : World) (a : Option Addr) (c : Nat) (l : List Access) (R1 : Rd tAccess w0 a l) (hx : l.length ≤ 4096) (hok : mayOk l = true) :
    Calls Tryd.prog 67 [.slice a l.length c].toArray w0 (fun e w => ∃ (a' : Option Addr) (c' : Nat) (outs : List SlV) (P : HA), e = .returned (.slice a' outs.length c') ∧ outs.length = l.length ∧ (∀ j q, outs[j]? = some q → HasRow P q (rowN (mayN l).toNat (clkAt l j))) ∧ Sat w0 w [Own tSl 27 a' c' outs, P]) := by
 have S := Sat.refl w0
 obtain ⟨hn0, hn64, hnt⟩ := mayN_bd hok
 obtain ⟨n, hn⟩ := Int.eq_ofNat_of_zero_le hn0
 have hnn : (mayN l).toNat = n := by omega
 refine calls_of_W (args := [.slice a l.length c]) 120 Tryd.func67 rfl Tryd.ntmps67 rfl ?_
 refine W.seq ?_
 refine W.region rfl ?_
 refine WO.q (Y.assign (v := .slice _ _ _) rfl) ?_
 refine WO.nil ?_
 refine Then.nx ?_
 refine W.seq ?_
 refine W.region rfl ?_
 refine WO.q (Y.move (v := .slice _ _ _) rfl) ?_
 refine WO.e (O.call cf_81 rfl (Threads_spec _ a c l (R1.ext S.ext) hx hok) ?_)
 rintro e w ⟨he, E⟩
 rw [hn] at he
 subst he
 replace S := S.keep E
 refine ⟨_, rfl, ?_⟩
 refine WO.q (Y.assign (v := .int .i64 _) rfl) ?_
 refine WO.nil ?_
 refine Then.nx ?_
 refine W.seq ?_
 refine W.region rfl ?_
 refine WO.q (Y.move (v := .int .i64 _) rfl) ?_
 refine WO.e (O.makeSlice (T := tSl) (l := n) (c := n) sl0 sl_36 ⟨_, _, rfl, rfl, rfl⟩ S rfl rfl (Nat.le_refl _) (by omega) (by (simp only [maxLen]; omega)) (fun b14 w S => ?_))
 refine WO.q (Y.assign (v := .slice _ _ _) rfl) ?_
 refine WO.nil ?_
 refine Then.nx ?_
 refine W.seq ?_
 refine W.seq ?_
 replace S := (S.bun (M := []))
 refine W.region rfl ?_
 refine WO.q (Y.assign (v := .int .i64 _) rfl) ?_
 refine WO.nil ?_
 refine Then.nx ?_
 refine W.block ?_
 -- loop 0 carries 5:i
 refine W.loop1 [5, 15, 16, 17, 18, 19, 20, 21, 22, 23, 24] 5 (fun v5 w => ∃ (i : Nat) (ths : List SlV) (P : HA), v5 = .int .i64 (i : Int) ∧ i ≤ n ∧ ths.length = n ∧ (∀ t q, t < i → ths[t]? = some q → HasRow P q (rowN n clock0)) ∧ Sat w0 w [P, Own tSl 27 (some ⟨b14, 0, none⟩) n ths]) (fun v5 w => n - (intOf v5).toNat) ?_ ?_
 ·
  exact ⟨0, List.replicate n sl0, Bun [], rfl, Nat.zero_le _, by simp, fun t q h => by omega, S⟩
 ·
  rintro g0 v5 w ⟨i, ths, P, rfl, hi, htl, hth, S⟩
  refine W.seq ?_
  refine W.seq ?_
  refine W.region rfl ?_
  refine WO.q (Y.move (v := .int .i64 _) rfl) ?_
  refine WO.q (Y.move (v := .int .i64 _) rfl) ?_
  refine WO.q (Y.lss rfl rfl) ?_
  refine WO.nil ?_
  refine Then.nx ?_
  refine W.cond rfl (fun h1 => ?_) (fun h1 => ?_) -- cond 0
  ·
   have rh1 := h1
   (try simp only [Q1, Q2, Q3, Q4, Q5, Q6, Q7, Q8, Q9, Qa] at h1)
   refine W.skip ?_
   refine Then.nx ?_
   refine W.seq ?_
   refine W.block ?_
   refine W.region rfl ?_
   refine WO.q (Y.move (v := .slice _ _ _) rfl) ?_
   refine WO.q (Y.move (v := .int .i64 _) rfl) ?_
   refine WO.q (Y.move (v := .int .i64 _) rfl) ?_
   refine WO.e (O.makeSlice (T := tI .i64) (l := n) (c := n) 0 sl_27 ⟨_, _, rfl, rfl, rfl⟩ S rfl rfl (Nat.le_refl _) (by omega) (by (simp only [maxLen]; omega)) (fun b23 w S => ?_))
   first | refine WO.q (Y.ixN sl_36 rfl rfl (by (first | assumption | rfl)) (by (first | assumption | omega))) ?_ | refine WO.q (Y.ix sl_36 rfl rfl (by (first | assumption | rfl)) (by (first | assumption | omega)) (by (first | assumption | omega))) ?_
   refine WO.e0 (O.storeEl 2 ((some ⟨b23, 0, none⟩, n, n) : SlV) S rfl rfl (by omega) rfl sz_27 rfl (fun w S => ?_))
   refine WO.nil ?_
   refine InB.nx ?_
   refine Then.nx ?_
   refine W.region rfl ?_
   refine WO.q (Y.move (v := .int .i64 _) rfl) ?_
   first | refine WO.q (Y.addI rfl rfl (by omega)) ?_ | refine WO.q (Y.add rfl rfl) ?_
   refine WO.q (Y.assign (v := .int .i64 _) rfl) ?_
   refine WO.nil ?_
   refine Then.nx ⟨?_, ?_, ?_⟩
   ·
    (repeat (first | exact Out.hav _ _ _ | exact Out.refl _ _ | refine Out.up rfl ?_ | refine Out.sub rfl ?_))
   ·
    rw [rowN_zero] at S; exact ⟨i + 1, ths.set i (some ⟨b23, 0, none⟩, n, n), Bun [Own (tI .i64) 3 (some ⟨b23, 0, none⟩) n (rowN n clock0), P], rfl, by omega, by (rw [List.length_set]; exact htl), (fun t q h1 h2 => by (rw [List.getElem?_set] at h2; by_cases e : i = t; subst e; rw [if_pos rfl, if_pos (by omega)] at h2; cases h2; exact HasRow.own1 (rowN_len _ _); rw [if_neg e] at h2; exact (hth t q (by omega) h2).up)), (show Sat w0 w ([Own (tI .i64) 3 (some ⟨b23, 0, none⟩) n (rowN n clock0), P] ++ _) from S).bun⟩
   ·
    (show n - (i + 1) < n - i; omega)
  ·
   have rh1 := h1
   (try simp only [Q1, Q2, Q3, Q4, Q5, Q6, Q7, Q8, Q9, Qa] at h1)
   refine W.exit ?_
   refine Then.x ?_
   refine Then.x ?_
   refine InB.e ?_
   refine Then.nx ?_
   refine W.seq ?_
   refine W.region rfl ?_
   refine WO.q (Y.build rfl (bld_154_)) ?_
   refine WO.e (O.box rfl rfl S (fun b26 w S => ?_))
   first | refine WO.q (Y.assign (v := .pointer (some _)) rfl) ?_ | refine WO.q (Y.assign (v := .pointer _) rfl) ?_
   refine WO.nil ?_
   refine Then.nx ?_
   refine W.seq ?_
   have e1 : i = n := by omega
   refine W.region rfl ?_
   refine WO.q (Y.assign (v := .slice _ _ _) rfl) ?_
   refine WO.nil ?_
   refine Then.nx ?_
   refine W.seq ?_
   refine W.seq ?_
   replace S := (((S.nilOwn (tI .i64) 3).nilOwn tSl 27).nilOwn tSl 27)
   refine W.region rfl ?_
   refine WO.q (Y.assign (v := .int .i64 _) rfl) ?_
   refine WO.nil ?_
   refine Then.nx ?_
   refine W.block ?_
   -- loop 1 carries 7:out, 8:i
   refine W.loop2 [7, 8, 9, 10, 27, 28, 29, 30, 31, 32, 33, 34, 35, 36, 37, 38, 39, 40, 41, 42, 43, 44, 45, 46, 47, 48, 49, 50, 51, 52, 53, 54, 55, 56, 57, 58, 59, 60, 61, 62, 63, 64, 65, 66, 67, 68, 69, 70, 71, 72, 73, 74, 75, 76, 77, 78, 79, 80, 81, 82, 83, 84, 85, 86, 87, 88, 89, 90, 91, 92, 93, 94, 95, 96, 97, 98, 99, 100, 101, 102, 103, 104, 105, 106, 107, 108, 109, 110, 111, 112, 113, 114, 115, 116, 117, 118] 7 8 (fun v7 v8 w => ∃ (i : Nat) (P : HA) (ths outs bk : List SlV) (bc : List Int) (abc : Option Addr) (cbc : Nat) (abk : Option Addr) (cbk : Nat) (ao : Option Addr) (co : Nat), v8 = .int .i64 (i : Int) ∧ i ≤ l.length ∧ v7 = .slice ao outs.length co ∧ AllSt n P (crun (l.take i)).1 (crun (l.take i)).2 ths outs bk bc ∧ bc.length ≤ i ∧ outs.length = i ∧ Sat w0 w [P, Own tSl 27 (some ⟨b14, 0, none⟩) n ths, Cel b26 [.slice abc bc.length cbc, .slice abk bk.length cbk] 154, Own (tI .i64) 3 abc cbc bc, Own tSl 27 abk cbk bk, Own tSl 27 ao co outs]) (fun v7 v8 w => l.length - (intOf v8).toNat) ?_ ?_
   ·
    exact ⟨0, P, ths, [], [], [], none, 0, none, 0, none, 0, rfl, Nat.zero_le _, rfl, ⟨htl, fun t q hq => hth t q (by (have := at_lt hq; omega)) hq, rfl, fun j q c h => by simp at h, rfl, List.nodup_nil, fun x _ => rfl, fun j x q h => by simp at h⟩, Nat.le_refl _, rfl, S.pk (.cons 4 rfl (.cons 4 rfl (.cons 3 rfl (.cons 2 rfl (.cons 1 rfl (.cons 0 rfl (.refl _)))))))⟩
   ·
    rintro g1 v7 v8 w ⟨i, P, ths, outs, bk, bc, abc, cbc, abk, cbk, ao, co, rfl, hi, rfl, hA, hbl, hol, S⟩
    refine W.seq ?_
    refine W.seq ?_
    refine W.region rfl ?_
    refine WO.q (Y.move (v := .int .i64 _) rfl) ?_
    refine WO.q (Y.move (v := .slice _ _ _) rfl) ?_
    refine WO.q (Y.len (t' := 0) Tryd.underlying64 rfl) ?_
    refine WO.q (Y.lss rfl rfl) ?_
    refine WO.nil ?_
    refine Then.nx ?_
    refine W.cond rfl (fun h2 => ?_) (fun h2 => ?_) -- cond 1
    ·
     have rh2 := h2
     (try simp only [Q1, Q2, Q3, Q4, Q5, Q6, Q7, Q8, Q9, Qa] at h2)
     have ha := R1.1 (by omega)
     obtain ⟨x, hx1⟩ := at_ex (xs := l) (k := i) (by omega)
     have hox := (okA_iff x).1 (List.all_eq_true.1 hok x (List.mem_of_getElem? hx1))
     have hxn := hnt x (List.mem_of_getElem? hx1)
     have hxt : x.thread.toNat < n := by omega
     have htl := hA.thL
     refine W.skip ?_
     refine Then.nx ?_
     refine W.seq ?_
     refine W.block ?_
     refine W.seq ?_
     refine W.region rfl ?_
     refine WO.q (Y.move (v := .slice _ _ _) rfl) ?_
     refine WO.q (Y.move (v := .int .i64 _) rfl) ?_
     first | refine WO.q (Y.ixN sl_64 rfl rfl (by (first | assumption | rfl)) (by (first | assumption | omega))) ?_ | refine WO.q (Y.ix sl_64 rfl rfl (by (first | assumption | rfl)) (by (first | assumption | omega)) (by (first | assumption | omega))) ?_
     first | refine WO.q (Y.load rfl (loadRdN sz_71 (R1.ext S.ext) (by assumption))) ?_ | refine WO.q (Y.load rfl (loadRdN sz_71 (S.rd 0 rfl) (by assumption))) ?_
     refine WO.e (O.alloc z_71 S (fun b9 w S => ?_))
     first | refine WO.e0 (O.store (v := .agg _) 0 S rfl rfl rfl sz_71 rfl rfl rfl rfl (fun w S => ?_)) | refine WO.e0 (O.store (v := .agg _) 1 S rfl rfl rfl sz_71 rfl rfl rfl rfl (fun w S => ?_))
     refine WO.nil ?_
     refine Then.nx ?_
     refine W.seq ?_
     obtain ⟨⟨qa, qn, qc⟩, hq0⟩ := at_ex (xs := ths) (k := x.thread.toNat) (by (rw [hA.thL]; omega))
     have hqr := hA.th _ _ hq0
     obtain rfl : qn = (rowN n ((crun (l.take i)).1.T x.thread.toNat)).length := hqr.1
     refine W.region rfl ?_
     refine WO.q (Y.move (v := .slice _ _ _) rfl) ?_
     refine WO.q (Y.fieldB fo_71_0 rfl) ?_
     first | refine WO.q (Y.load rfl (loadS1 sz_3 S 0 rfl rfl)) ?_ | refine WO.q (Y.load rfl (loadS1 sz_3 S 1 rfl rfl)) ?_
     first | refine WO.q (Y.ixN sl_36 rfl rfl (by (first | assumption | rfl)) (by (first | assumption | omega))) ?_ | refine WO.q (Y.ix sl_36 rfl rfl (by (first | assumption | rfl)) (by (first | assumption | omega)) (by (first | assumption | omega))) ?_
     refine WO.q (Y.load rfl (loadRd1 (c := .slice qa (rowN n ((crun (l.take i)).1.T x.thread.toNat)).length qc) sz_27 (S.rd 2 rfl) hq0 rfl)) ?_
     refine WO.e (O.call cf_82 rfl (take_spec _ qa none qc 0 (rowN n ((crun (l.take i)).1.T x.thread.toNat)) [] (S.reads 1 rfl hqr.2) (Rd.nil _ _ _) (by (rw [rowN_len]; omega)) (by simp)) ?_)
     rintro _ w ⟨a42, c42, rfl, S2⟩
     rw [takeM_nil] at S2
     replace S := S.trans S2
     refine ⟨_, rfl, ?_⟩
     refine WO.q (Y.assign (v := .slice _ _ _) rfl) ?_
     refine WO.nil ?_
     refine Then.nx ?_
     have hbd := crun_bd (l.take i)
     have hb1 := hbd.t1 (by omega) x x.thread.toNat x.thread.toNat
     rw [show (l.take i).length = i by (rw [List.length_take]; omega)] at hb1
     refine W.cut1 [10, 43, 44, 45, 46, 47, 48, 49, 50, 51, 52, 53, 54, 55, 56] 10 (fun v10 w => ∃ (a1 : Option Addr) (c1 : Nat), v10 = .slice a1 n c1 ∧ Sat w0 w [Own (tI .i64) 3 a1 c1 (rowN n (cT1 (crun (l.take i)).1 x x.thread.toNat)), Cel b9 (tAccess.enc x) 71, P, Own tSl 27 (some ⟨b14, 0, none⟩) n ths, Cel b26 [.slice abc bc.length cbc, .slice abk bk.length cbk] 154, Own (tI .i64) 3 abc cbc bc, Own tSl 27 abk cbk bk, Own tSl 27 ao co outs]) ?_ ?_
     ·
      refine W.seq ?_
      replace S : Sat w0 w [Own (tI .i64) 3 a42 c42 (rowN n ((crun (l.take i)).1.T x.thread.toNat)), Cel b9 (tAccess.enc x) 71, P, Own tSl 27 (some ⟨b14, 0, none⟩) n ths, Cel b26 [.slice abc bc.length cbc, .slice abk bk.length cbk] 154, Own (tI .i64) 3 abc cbc bc, Own tSl 27 abk cbk bk, Own tSl 27 ao co outs] := S
      refine W.region rfl ?_
      refine WO.q (Y.fieldB fo_71_1 rfl) ?_
      first | refine WO.q (Y.load rfl (loadS1 sz_56 S 0 rfl rfl)) ?_ | refine WO.q (Y.load rfl (loadS1 sz_56 S 1 rfl rfl)) ?_
      refine WO.nil ?_
      refine Then.nx ?_
      refine W.block ?_
      refine W.seq ?_
      refine W.seq ?_
      refine W.region rfl ?_
      refine WO.q (Y.eql rfl rfl) ?_
      refine WO.q (Y.assign (v := .bool _) rfl) ?_
      refine WO.nil ?_
      refine Then.nx ?_
      refine W.cond rfl (fun h3 => ?_) (fun h3 => ?_) -- cond 2
      ·
       have rh3 := h3
       (try simp only [Q1, Q2, Q3, Q4, Q5, Q6, Q7, Q8, Q9, Qa] at h3)
       refine W.skip ?_
       refine Then.nx ?_
       first | refine W.condT rfl ?_ | refine W.condT (congrArg Value.bool (by assumption)) ?_
       refine W.region rfl ?_
       refine WO.q (Y.move (v := .slice _ _ _) rfl) ?_
       first | refine WO.q (Y.move (v := .pointer (some _)) rfl) ?_ | refine WO.q (Y.move (v := .pointer _) rfl) ?_
       refine WO.q (Y.fieldB fo_71_2 rfl) ?_
       first | refine WO.q (Y.load rfl (loadS1 sz_3 S 0 rfl rfl)) ?_ | refine WO.q (Y.load rfl (loadS1 sz_3 S 1 rfl rfl)) ?_
       have htb : takesB x.op = true := (by (simp only [takesB]; rw [decide_eq_true_eq]; omega))
       refine WO.e (O.call cf_83 rfl (bof_spec w0 _ b26 bc bk abc abk cbc cbk x.cell _ hA.bL (by omega) (S.pk (.cons 4 rfl (.cons 4 rfl (.cons 4 rfl (.refl _)))))) ?_)
       rintro _ w ⟨⟨ba, bn, bcc⟩, rfl, hbo, S⟩
       obtain ⟨ys, hyr0, hyt⟩ := hA.of hbo
       obtain rfl : bn = ys.length := hyr0.1
       have hyr := hyr0.2
       have htk := take_own (n := n) (P := P) (o := (crun (l.take i)).2) (ths := ths) (outs := outs) (bk := bk) (bc := bc) htb (fun i j => (hbd.1 i j).1) hyt
       have hyl : ys.length ≤ 4096 := (hA.ofLen hbo hyr0 (by omega))
       replace S := S.pk (.cons 3 rfl (.cons 3 rfl (.cons 3 rfl (.cons 3 rfl (.cons 0 rfl (.cons 0 rfl (.cons 0 rfl (.refl _))))))))
       refine ⟨_, rfl, ?_⟩
       refine WO.e (O.call cf_82 rfl (take_spec _ a42 ba c42 bcc (rowN n ((crun (l.take i)).1.T x.thread.toNat)) ys (S.rd 0 rfl) (S.reads 2 rfl hyr) (by (rw [rowN_len]; omega)) hyl) ?_)
       rintro _ w ⟨a1, c1, rfl, S2⟩
       rw [htk] at S2
       replace S := S.trans S2
       refine ⟨_, rfl, ?_⟩
       refine WO.q (Y.assign (v := .slice _ _ _) rfl) ?_
       refine WO.nil ?_
       refine InB.nx ?_
       refine Then.nx ⟨?_, ?_⟩
       ·
        (repeat (first | exact Out.hav _ _ _ | exact Out.refl _ _ | refine Out.up rfl ?_ | refine Out.sub rfl ?_))
       ·
        first | (exact ⟨a1, c1, by (show Value.slice _ _ _ = _; rw [rowN_len]), S.pk (.cons 0 rfl (.drop (.refl _)))⟩) | (have hno : takesB x.op = false := (by (simp only [takesB]; rw [decide_eq_false_iff_not]; omega)); exact ⟨a42, c42, by (show Value.slice _ _ _ = _; rw [rowN_len]), by (rw [cT1_no hno]; exact S)⟩)
      ·
       have rh3 := h3
       (try simp only [Q1, Q2, Q3, Q4, Q5, Q6, Q7, Q8, Q9, Qa] at h3)
       refine W.seq ?_
       refine W.region rfl ?_
       refine WO.q (Y.eql rfl rfl) ?_
       refine WO.q (Y.assign (v := .bool _) rfl) ?_
       refine WO.nil ?_
       refine Then.nx ?_
       refine W.cond rfl (fun h4 => ?_) (fun h4 => ?_) -- cond 3
       ·
        have rh4 := h4
        (try simp only [Q1, Q2, Q3, Q4, Q5, Q6, Q7, Q8, Q9, Qa] at h4)
        refine W.skip ?_
        refine Then.nx ?_
        first | refine W.condT rfl ?_ | refine W.condT (congrArg Value.bool (by assumption)) ?_
        refine W.region rfl ?_
        refine WO.q (Y.move (v := .slice _ _ _) rfl) ?_
        first | refine WO.q (Y.move (v := .pointer (some _)) rfl) ?_ | refine WO.q (Y.move (v := .pointer _) rfl) ?_
        refine WO.q (Y.fieldB fo_71_2 rfl) ?_
        first | refine WO.q (Y.load rfl (loadS1 sz_3 S 0 rfl rfl)) ?_ | refine WO.q (Y.load rfl (loadS1 sz_3 S 1 rfl rfl)) ?_
        have htb : takesB x.op = true := (by (simp only [takesB]; rw [decide_eq_true_eq]; omega))
        refine WO.e (O.call cf_83 rfl (bof_spec w0 _ b26 bc bk abc abk cbc cbk x.cell _ hA.bL (by omega) (S.pk (.cons 4 rfl (.cons 4 rfl (.cons 4 rfl (.refl _)))))) ?_)
        rintro _ w ⟨⟨ba, bn, bcc⟩, rfl, hbo, S⟩
        obtain ⟨ys, hyr0, hyt⟩ := hA.of hbo
        obtain rfl : bn = ys.length := hyr0.1
        have hyr := hyr0.2
        have htk := take_own (n := n) (P := P) (o := (crun (l.take i)).2) (ths := ths) (outs := outs) (bk := bk) (bc := bc) htb (fun i j => (hbd.1 i j).1) hyt
        have hyl : ys.length ≤ 4096 := (hA.ofLen hbo hyr0 (by omega))
        replace S := S.pk (.cons 3 rfl (.cons 3 rfl (.cons 3 rfl (.cons 3 rfl (.cons 0 rfl (.cons 0 rfl (.cons 0 rfl (.refl _))))))))
        refine ⟨_, rfl, ?_⟩
        refine WO.e (O.call cf_82 rfl (take_spec _ a42 ba c42 bcc (rowN n ((crun (l.take i)).1.T x.thread.toNat)) ys (S.rd 0 rfl) (S.reads 2 rfl hyr) (by (rw [rowN_len]; omega)) hyl) ?_)
        rintro _ w ⟨a1, c1, rfl, S2⟩
        rw [htk] at S2
        replace S := S.trans S2
        refine ⟨_, rfl, ?_⟩
        refine WO.q (Y.assign (v := .slice _ _ _) rfl) ?_
        refine WO.nil ?_
        refine InB.nx ?_
        refine Then.nx ⟨?_, ?_⟩
        ·
         (repeat (first | exact Out.hav _ _ _ | exact Out.refl _ _ | refine Out.up rfl ?_ | refine Out.sub rfl ?_))
        ·
         first | (exact ⟨a1, c1, by (show Value.slice _ _ _ = _; rw [rowN_len]), S.pk (.cons 0 rfl (.drop (.refl _)))⟩) | (have hno : takesB x.op = false := (by (simp only [takesB]; rw [decide_eq_false_iff_not]; omega)); exact ⟨a42, c42, by (show Value.slice _ _ _ = _; rw [rowN_len]), by (rw [cT1_no hno]; exact S)⟩)
       ·
        have rh4 := h4
        (try simp only [Q1, Q2, Q3, Q4, Q5, Q6, Q7, Q8, Q9, Qa] at h4)
        refine W.seq ?_
        refine W.region rfl ?_
        refine WO.q (Y.eql rfl rfl) ?_
        refine WO.q (Y.assign (v := .bool _) rfl) ?_
        refine WO.nil ?_
        refine Then.nx ?_
        refine W.cond rfl (fun h5 => ?_) (fun h5 => ?_) -- cond 4
        ·
         have rh5 := h5
         (try simp only [Q1, Q2, Q3, Q4, Q5, Q6, Q7, Q8, Q9, Qa] at h5)
         refine W.skip ?_
         refine Then.nx ?_
         first | refine W.condT rfl ?_ | refine W.condT (congrArg Value.bool (by assumption)) ?_
         refine W.region rfl ?_
         refine WO.q (Y.move (v := .slice _ _ _) rfl) ?_
         first | refine WO.q (Y.move (v := .pointer (some _)) rfl) ?_ | refine WO.q (Y.move (v := .pointer _) rfl) ?_
         refine WO.q (Y.fieldB fo_71_2 rfl) ?_
         first | refine WO.q (Y.load rfl (loadS1 sz_3 S 0 rfl rfl)) ?_ | refine WO.q (Y.load rfl (loadS1 sz_3 S 1 rfl rfl)) ?_
         have htb : takesB x.op = true := (by (simp only [takesB]; rw [decide_eq_true_eq]; omega))
         refine WO.e (O.call cf_83 rfl (bof_spec w0 _ b26 bc bk abc abk cbc cbk x.cell _ hA.bL (by omega) (S.pk (.cons 4 rfl (.cons 4 rfl (.cons 4 rfl (.refl _)))))) ?_)
         rintro _ w ⟨⟨ba, bn, bcc⟩, rfl, hbo, S⟩
         obtain ⟨ys, hyr0, hyt⟩ := hA.of hbo
         obtain rfl : bn = ys.length := hyr0.1
         have hyr := hyr0.2
         have htk := take_own (n := n) (P := P) (o := (crun (l.take i)).2) (ths := ths) (outs := outs) (bk := bk) (bc := bc) htb (fun i j => (hbd.1 i j).1) hyt
         have hyl : ys.length ≤ 4096 := (hA.ofLen hbo hyr0 (by omega))
         replace S := S.pk (.cons 3 rfl (.cons 3 rfl (.cons 3 rfl (.cons 3 rfl (.cons 0 rfl (.cons 0 rfl (.cons 0 rfl (.refl _))))))))
         refine ⟨_, rfl, ?_⟩
         refine WO.e (O.call cf_82 rfl (take_spec _ a42 ba c42 bcc (rowN n ((crun (l.take i)).1.T x.thread.toNat)) ys (S.rd 0 rfl) (S.reads 2 rfl hyr) (by (rw [rowN_len]; omega)) hyl) ?_)
         rintro _ w ⟨a1, c1, rfl, S2⟩
         rw [htk] at S2
         replace S := S.trans S2
         refine ⟨_, rfl, ?_⟩
         refine WO.q (Y.assign (v := .slice _ _ _) rfl) ?_
         refine WO.nil ?_
         refine InB.nx ?_
         refine Then.nx ⟨?_, ?_⟩
         ·
          (repeat (first | exact Out.hav _ _ _ | exact Out.refl _ _ | refine Out.up rfl ?_ | refine Out.sub rfl ?_))
         ·
          first | (exact ⟨a1, c1, by (show Value.slice _ _ _ = _; rw [rowN_len]), S.pk (.cons 0 rfl (.drop (.refl _)))⟩) | (have hno : takesB x.op = false := (by (simp only [takesB]; rw [decide_eq_false_iff_not]; omega)); exact ⟨a42, c42, by (show Value.slice _ _ _ = _; rw [rowN_len]), by (rw [cT1_no hno]; exact S)⟩)
        ·
         have rh5 := h5
         (try simp only [Q1, Q2, Q3, Q4, Q5, Q6, Q7, Q8, Q9, Qa] at h5)
         refine W.seq ?_
         refine W.region rfl ?_
         refine WO.q (Y.eql rfl rfl) ?_
         refine WO.q (Y.assign (v := .bool _) rfl) ?_
         refine WO.nil ?_
         refine Then.nx ?_
         refine W.cond rfl (fun h6 => ?_) (fun h6 => ?_) -- cond 5
         ·
          have rh6 := h6
          (try simp only [Q1, Q2, Q3, Q4, Q5, Q6, Q7, Q8, Q9, Qa] at h6)
          refine W.skip ?_
          refine Then.nx ?_
          first | refine W.condT rfl ?_ | refine W.condT (congrArg Value.bool (by assumption)) ?_
          refine W.region rfl ?_
          refine WO.q (Y.move (v := .slice _ _ _) rfl) ?_
          first | refine WO.q (Y.move (v := .pointer (some _)) rfl) ?_ | refine WO.q (Y.move (v := .pointer _) rfl) ?_
          refine WO.q (Y.fieldB fo_71_2 rfl) ?_
          first | refine WO.q (Y.load rfl (loadS1 sz_3 S 0 rfl rfl)) ?_ | refine WO.q (Y.load rfl (loadS1 sz_3 S 1 rfl rfl)) ?_
          have htb : takesB x.op = true := (by (simp only [takesB]; rw [decide_eq_true_eq]; omega))
          refine WO.e (O.call cf_83 rfl (bof_spec w0 _ b26 bc bk abc abk cbc cbk x.cell _ hA.bL (by omega) (S.pk (.cons 4 rfl (.cons 4 rfl (.cons 4 rfl (.refl _)))))) ?_)
          rintro _ w ⟨⟨ba, bn, bcc⟩, rfl, hbo, S⟩
          obtain ⟨ys, hyr0, hyt⟩ := hA.of hbo
          obtain rfl : bn = ys.length := hyr0.1
          have hyr := hyr0.2
          have htk := take_own (n := n) (P := P) (o := (crun (l.take i)).2) (ths := ths) (outs := outs) (bk := bk) (bc := bc) htb (fun i j => (hbd.1 i j).1) hyt
          have hyl : ys.length ≤ 4096 := (hA.ofLen hbo hyr0 (by omega))
          replace S := S.pk (.cons 3 rfl (.cons 3 rfl (.cons 3 rfl (.cons 3 rfl (.cons 0 rfl (.cons 0 rfl (.cons 0 rfl (.refl _))))))))
          refine ⟨_, rfl, ?_⟩
          refine WO.e (O.call cf_82 rfl (take_spec _ a42 ba c42 bcc (rowN n ((crun (l.take i)).1.T x.thread.toNat)) ys (S.rd 0 rfl) (S.reads 2 rfl hyr) (by (rw [rowN_len]; omega)) hyl) ?_)
          rintro _ w ⟨a1, c1, rfl, S2⟩
          rw [htk] at S2
          replace S := S.trans S2
          refine ⟨_, rfl, ?_⟩
          refine WO.q (Y.assign (v := .slice _ _ _) rfl) ?_
          refine WO.nil ?_
          refine InB.nx ?_
          refine Then.nx ⟨?_, ?_⟩
          ·
           (repeat (first | exact Out.hav _ _ _ | exact Out.refl _ _ | refine Out.up rfl ?_ | refine Out.sub rfl ?_))
          ·
           first | (exact ⟨a1, c1, by (show Value.slice _ _ _ = _; rw [rowN_len]), S.pk (.cons 0 rfl (.drop (.refl _)))⟩) | (have hno : takesB x.op = false := (by (simp only [takesB]; rw [decide_eq_false_iff_not]; omega)); exact ⟨a42, c42, by (show Value.slice _ _ _ = _; rw [rowN_len]), by (rw [cT1_no hno]; exact S)⟩)
         ·
          have rh6 := h6
          (try simp only [Q1, Q2, Q3, Q4, Q5, Q6, Q7, Q8, Q9, Qa] at h6)
          refine W.region rfl ?_
          refine WO.q (Y.eql rfl rfl) ?_
          refine WO.q (Y.assign (v := .bool _) rfl) ?_
          refine WO.nil ?_
          refine Then.nx ?_
          refine W.cond rfl (fun h7 => ?_) (fun h7 => ?_) -- cond 6
          ·
           have rh7 := h7
           (try simp only [Q1, Q2, Q3, Q4, Q5, Q6, Q7, Q8, Q9, Qa] at h7)
           refine W.region rfl ?_
           refine WO.q (Y.move (v := .slice _ _ _) rfl) ?_
           first | refine WO.q (Y.move (v := .pointer (some _)) rfl) ?_ | refine WO.q (Y.move (v := .pointer _) rfl) ?_
           refine WO.q (Y.fieldB fo_71_2 rfl) ?_
           first | refine WO.q (Y.load rfl (loadS1 sz_3 S 0 rfl rfl)) ?_ | refine WO.q (Y.load rfl (loadS1 sz_3 S 1 rfl rfl)) ?_
           have htb : takesB x.op = true := (by (simp only [takesB]; rw [decide_eq_true_eq]; omega))
           refine WO.e (O.call cf_83 rfl (bof_spec w0 _ b26 bc bk abc abk cbc cbk x.cell _ hA.bL (by omega) (S.pk (.cons 4 rfl (.cons 4 rfl (.cons 4 rfl (.refl _)))))) ?_)
           rintro _ w ⟨⟨ba, bn, bcc⟩, rfl, hbo, S⟩
           obtain ⟨ys, hyr0, hyt⟩ := hA.of hbo
           obtain rfl : bn = ys.length := hyr0.1
           have hyr := hyr0.2
           have htk := take_own (n := n) (P := P) (o := (crun (l.take i)).2) (ths := ths) (outs := outs) (bk := bk) (bc := bc) htb (fun i j => (hbd.1 i j).1) hyt
           have hyl : ys.length ≤ 4096 := (hA.ofLen hbo hyr0 (by omega))
           replace S := S.pk (.cons 3 rfl (.cons 3 rfl (.cons 3 rfl (.cons 3 rfl (.cons 0 rfl (.cons 0 rfl (.cons 0 rfl (.refl _))))))))
           refine ⟨_, rfl, ?_⟩
           refine WO.e (O.call cf_82 rfl (take_spec _ a42 ba c42 bcc (rowN n ((crun (l.take i)).1.T x.thread.toNat)) ys (S.rd 0 rfl) (S.reads 2 rfl hyr) (by (rw [rowN_len]; omega)) hyl) ?_)
           rintro _ w ⟨a1, c1, rfl, S2⟩
           rw [htk] at S2
           replace S := S.trans S2
           refine ⟨_, rfl, ?_⟩
           refine WO.q (Y.assign (v := .slice _ _ _) rfl) ?_
           refine WO.nil ?_
           refine InB.nx ?_
           refine Then.nx ⟨?_, ?_⟩
           ·
            (repeat (first | exact Out.hav _ _ _ | exact Out.refl _ _ | refine Out.up rfl ?_ | refine Out.sub rfl ?_))
           ·
            first | (exact ⟨a1, c1, by (show Value.slice _ _ _ = _; rw [rowN_len]), S.pk (.cons 0 rfl (.drop (.refl _)))⟩) | (have hno : takesB x.op = false := (by (simp only [takesB]; rw [decide_eq_false_iff_not]; omega)); exact ⟨a42, c42, by (show Value.slice _ _ _ = _; rw [rowN_len]), by (rw [cT1_no hno]; exact S)⟩)
          ·
           have rh7 := h7
           (try simp only [Q1, Q2, Q3, Q4, Q5, Q6, Q7, Q8, Q9, Qa] at h7)
           refine W.skip ?_
           refine InB.nx ?_
           refine Then.nx ⟨?_, ?_⟩
           ·
            (repeat (first | exact Out.hav _ _ _ | exact Out.refl _ _ | refine Out.up rfl ?_ | refine Out.sub rfl ?_))
           ·
            first | (exact ⟨a1, c1, by (show Value.slice _ _ _ = _; rw [rowN_len]), S.pk (.cons 0 rfl (.drop (.refl _)))⟩) | (have hno : takesB x.op = false := (by (simp only [takesB]; rw [decide_eq_false_iff_not]; omega)); exact ⟨a42, c42, by (show Value.slice _ _ _ = _; rw [rowN_len]), by (rw [cT1_no hno]; exact S)⟩)
     ·
      rintro gj405 v10 w ⟨a1, c1, rfl, S⟩
      refine W.seq ?_
      have ha1 := (S.rd 0 rfl).1 (by (rw [rowN_len]; omega))
      refine W.region rfl ?_
      refine WO.q (Y.move (v := .slice _ _ _) rfl) ?_
      refine WO.q (Y.fieldB fo_71_0 rfl) ?_
      first | refine WO.q (Y.load rfl (loadS1 sz_3 S 0 rfl rfl)) ?_ | refine WO.q (Y.load rfl (loadS1 sz_3 S 1 rfl rfl)) ?_
      first | refine WO.q (Y.ixN sl_27 rfl rfl (by (first | assumption | rfl)) (by (first | assumption | omega))) ?_ | refine WO.q (Y.ix sl_27 rfl rfl (by (first | assumption | rfl)) (by (first | assumption | omega)) (by (first | assumption | omega))) ?_
      refine WO.q (Y.load rfl (loadRd1 sz_3 (S.rd 0 rfl) (rowN_at (cT1 (crun (l.take i)).1 x x.thread.toNat) hxt) rfl)) ?_
      first | refine WO.q (Y.addI rfl rfl (by omega)) ?_ | refine WO.q (Y.add rfl rfl) ?_
      first | refine WO.q (Y.ixN sl_27 rfl rfl (by (first | assumption | rfl)) (by (first | assumption | omega))) ?_ | refine WO.q (Y.ix sl_27 rfl rfl (by (first | assumption | rfl)) (by (first | assumption | omega)) (by (first | assumption | omega))) ?_
      refine WO.e0 (O.storeEl 0 (cT1 (crun (l.take i)).1 x x.thread.toNat x.thread.toNat + 1) S rfl rfl (by (rw [rowN_len]; exact hxt)) rfl sz_3 rfl (fun w S => ?_))
      refine WO.nil ?_
      refine Then.nx ?_
      refine W.seq ?_
      rw [rowN_set _ hxt, ← cOut_eq] at S
      refine W.region rfl ?_
      refine WO.q (Y.move (v := .slice _ _ _) rfl) ?_
      refine WO.q (Y.fieldB fo_71_0 rfl) ?_
      first | refine WO.q (Y.load rfl (loadS1 sz_3 S 0 rfl rfl)) ?_ | refine WO.q (Y.load rfl (loadS1 sz_3 S 1 rfl rfl)) ?_
      refine WO.q (Y.move (v := .slice _ _ _) rfl) ?_
      first | refine WO.q (Y.ixN sl_36 rfl rfl (by (first | assumption | rfl)) (by (first | assumption | omega))) ?_ | refine WO.q (Y.ix sl_36 rfl rfl (by (first | assumption | rfl)) (by (first | assumption | omega)) (by (first | assumption | omega))) ?_
      refine WO.e0 (O.storeEl 3 ((a1, n, c1) : SlV) S rfl rfl (by (rw [hA.thL]; exact hxt)) rfl sz_27 rfl (fun w S => ?_))
      refine WO.nil ?_
      refine Then.nx ?_
      refine W.seq ?_
      replace S : Sat w0 w [Own (tI .i64) 3 a1 c1 (rowN n (cOut (crun (l.take i)).1 x)), Cel b9 (tAccess.enc x) 71, P, Own tSl 27 (some ⟨b14, 0, none⟩) n (ths.set x.thread.toNat (a1, n, c1)), Cel b26 [.slice abc bc.length cbc, .slice abk bk.length cbk] 154, Own (tI .i64) 3 abc cbc bc, Own tSl 27 abk cbk bk, Own tSl 27 ao co outs] := S
      refine W.region rfl ?_
      refine WO.q (Y.move (v := .slice _ _ _) rfl) ?_
      refine WO.q (Y.move (v := .slice _ _ _) rfl) ?_
      first | refine WO.e (O.buildSlice rfl (buildOne sl_36 (by decide) rfl rfl) S (fun b71 w S => ?_)) | refine WO.e (O.buildSlice rfl (buildOne sl_36 (by decide) rfl (by simp)) S (fun b71 w S => ?_)) | refine WO.e (O.buildSlice rfl (bs_36_1_0) S (fun b71 w S => ?_))
      refine WO.e (O.append (T := tSl) (ys := [((a1, n, c1) : SlV)]) 8 sl_36 S rfl rfl rfl rfl (S.rd1 (T := tSl) (x := ((a1, n, c1) : SlV)) 0 rfl) rfl (by (simp only [List.length_singleton]; omega)) (by (simp only [List.length_singleton, maxLen]; omega)) (fun a72 c72 w S hn72 => ?_))
      refine WO.q (Y.assign (v := .slice _ _ _) rfl) ?_
      refine WO.nil ?_
      refine Then.nx ?_
      refine W.cut0 [73, 74, 75, 76, 77, 78, 79, 80, 81, 82, 83, 84, 85, 86, 87, 88, 89, 90, 91, 92, 93, 94, 95, 96, 97, 98, 99]  (fun w => ∃ (bc2 : List Int) (bk2 : List SlV) (abc2 : Option Addr) (cbc2 : Nat) (abk2 : Option Addr) (cbk2 : Nat), AllSt n (Bun [Own (tI .i64) 3 a1 c1 (rowN n (cOut (crun (l.take i)).1 x)), P]) ⟨cT2 (crun (l.take i)).1 x, cM (crun (l.take i)).1 x⟩ ((crun (l.take i)).2 ++ [cOut (crun (l.take i)).1 x]) (ths.set x.thread.toNat (a1, n, c1)) (outs ++ [((a1, n, c1) : SlV)]) bk2 bc2 ∧ bc2.length ≤ i + 1 ∧ Sat w0 w [Cel b9 (tAccess.enc x) 71, (Bun [Own (tI .i64) 3 a1 c1 (rowN n (cOut (crun (l.take i)).1 x)), P]), Own tSl 27 (some ⟨b14, 0, none⟩) n (ths.set x.thread.toNat (a1, n, c1)), Cel b26 [.slice abc2 bc2.length cbc2, .slice abk2 bk2.length cbk2] 154, Own (tI .i64) 3 abc2 cbc2 bc2, Own tSl 27 abk2 cbk2 bk2, Own tSl 27 a72 c72 (outs ++ [((a1, n, c1) : SlV)])]) ?_ ?_
      ·
       refine W.seq ?_
       replace S : Sat w0 w [Cel b9 (tAccess.enc x) 71, (Bun [Own (tI .i64) 3 a1 c1 (rowN n (cOut (crun (l.take i)).1 x)), P]), Own tSl 27 (some ⟨b14, 0, none⟩) n (ths.set x.thread.toNat (a1, n, c1)), Cel b26 [.slice abc bc.length cbc, .slice abk bk.length cbk] 154, Own (tI .i64) 3 abc cbc bc, Own tSl 27 abk cbk bk, Own tSl 27 a72 c72 (outs ++ [((a1, n, c1) : SlV)])] := ((S.tl.pk (.cons 0 rfl (.cons 1 rfl (.refl _))) : Sat w0 w ([Own (tI .i64) 3 a1 c1 (rowN n (cOut (crun (l.take i)).1 x)), P] ++ _)).bun).pk (.cons 1 rfl (.cons 0 rfl (.refl _)))
       have hnr : HasRow (Bun [Own (tI .i64) 3 a1 c1 (rowN n (cOut (crun (l.take i)).1 x)), P]) (a1, n, c1) (rowN n (cOut (crun (l.take i)).1 x)) := HasRow.own1 (rowN_len _ _)
       have hA2 := (hA.up (X := Own (tI .i64) 3 a1 c1 (rowN n (cOut (crun (l.take i)).1 x)))).own (t := x.thread.toNat) hnr (cT2 (crun (l.take i)).1 x) rfl (fun i hi => cT2_ne hi)
       refine W.region rfl ?_
       refine WO.q (Y.fieldB fo_71_1 rfl) ?_
       first | refine WO.q (Y.load rfl (loadS1 sz_56 S 0 rfl rfl)) ?_ | refine WO.q (Y.load rfl (loadS1 sz_56 S 1 rfl rfl)) ?_
       refine WO.q (Y.eql rfl rfl) ?_
       refine WO.q (Y.move (v := .bool _) rfl) ?_
       refine WO.splitB (fun h8 => ?_) (fun h8 => ?_)
       ·
        (try simp only [Q1, Q2, Q3, Q4, Q5, Q6, Q7, Q8, Q9, Qa] at h8)
        refine WO.qF rfl ?_
        refine WO.qF rfl ?_
        refine WO.qF rfl ?_
        refine WO.q (Y.pickT (u := .bool _) rfl rfl) ?_
        refine WO.q (Y.move (v := .bool _) rfl) ?_
        refine WO.qF rfl ?_
        refine WO.qF rfl ?_
        refine WO.qF rfl ?_
        refine WO.q (Y.pickT (u := .bool _) rfl rfl) ?_
        refine WO.q (Y.move (v := .bool _) rfl) ?_
        refine WO.qF rfl ?_
        refine WO.qF rfl ?_
        refine WO.qF rfl ?_
        refine WO.qF rfl ?_
        refine WO.qF rfl ?_
        refine WO.qF rfl ?_
        refine WO.qF rfl ?_
        refine WO.q (Y.pickT (u := .bool _) rfl rfl) ?_
        refine WO.nil ?_
        refine Then.nx ?_
        first | refine W.condT rfl ?_ | refine W.condT (congrArg Value.bool (by assumption)) ?_
        refine W.region rfl ?_
        first | refine WO.q (Y.move (v := .pointer (some _)) rfl) ?_ | refine WO.q (Y.move (v := .pointer _) rfl) ?_
        refine WO.q (Y.fieldB fo_71_2 rfl) ?_
        first | refine WO.q (Y.load rfl (loadS1 sz_3 S 0 rfl rfl)) ?_ | refine WO.q (Y.load rfl (loadS1 sz_3 S 1 rfl rfl)) ?_
        refine WO.q (Y.move (v := .slice _ _ _) rfl) ?_
        refine WO.e (O.call cf_84 rfl (bset_spec w0 _ b26 bc bk abc abk cbc cbk x.cell (a1, n, c1) _ hA2.bL (by omega) (S.pk (.cons 3 rfl (.cons 3 rfl (.cons 3 rfl (.refl _)))))) ?_)
        rintro _ w ⟨bc2, bk2, abc2, abk2, cbc2, cbk2, rfl, hbs, hbl2, S⟩
        have hA3 := hA2.cell (c := cOut (crun (l.take i)).1 x) (HasRow.own0 hnr) hbs
        replace S := S.pk (.cons 3 rfl (.cons 3 rfl (.cons 3 rfl (.cons 0 rfl (.cons 0 rfl (.cons 0 rfl (.refl _)))))))
        refine ⟨_, rfl, ?_⟩
        refine WO.nil ?_
        refine Then.nx ⟨?_, ?_⟩
        ·
         (repeat (first | exact Out.hav _ _ _ | exact Out.refl _ _ | refine Out.up rfl ?_ | refine Out.sub rfl ?_))
        ·
         first | (rw [cM1 _ _ (by omega)]; exact ⟨bc2, bk2, abc2, cbc2, abk2, cbk2, hA3, by omega, S⟩) | (rw [cM2 _ _ (by omega) (by assumption)]; exact ⟨bc2, bk2, abc2, cbc2, abk2, cbk2, hA3, by omega, S⟩) | (rw [cM3 _ _ (by omega) (by assumption)]; exact ⟨bc, bk, abc, cbc, abk, cbk, hA2, by omega, S⟩) | (rw [cM4 _ _ (by omega) (by omega)]; exact ⟨bc, bk, abc, cbc, abk, cbk, hA2, by omega, S⟩)
       ·
        (try simp only [Q1, Q2, Q3, Q4, Q5, Q6, Q7, Q8, Q9, Qa] at h8)
        refine WO.qT rfl (Y.fieldB fo_71_1 rfl) ?_
        first | refine WO.qT rfl (Y.load rfl (loadS1 sz_56 S 0 rfl rfl)) ?_ | refine WO.qT rfl (Y.load rfl (loadS1 sz_56 S 1 rfl rfl)) ?_
        refine WO.qT rfl (Y.eql rfl rfl) ?_
        refine WO.q (Y.pickF (u := .bool _) rfl rfl) ?_
        refine WO.q (Y.move (v := .bool _) rfl) ?_
        refine WO.splitB (fun h9 => ?_) (fun h9 => ?_)
        ·
         (try simp only [Q1, Q2, Q3, Q4, Q5, Q6, Q7, Q8, Q9, Qa] at h9)
         refine WO.qF rfl ?_
         refine WO.qF rfl ?_
         refine WO.qF rfl ?_
         refine WO.q (Y.pickT (u := .bool _) rfl rfl) ?_
         refine WO.q (Y.move (v := .bool _) rfl) ?_
         refine WO.qF rfl ?_
         refine WO.qF rfl ?_
         refine WO.qF rfl ?_
         refine WO.qF rfl ?_
         refine WO.qF rfl ?_
         refine WO.qF rfl ?_
         refine WO.qF rfl ?_
         refine WO.q (Y.pickT (u := .bool _) rfl rfl) ?_
         refine WO.nil ?_
         refine Then.nx ?_
         first | refine W.condT rfl ?_ | refine W.condT (congrArg Value.bool (by assumption)) ?_
         refine W.region rfl ?_
         first | refine WO.q (Y.move (v := .pointer (some _)) rfl) ?_ | refine WO.q (Y.move (v := .pointer _) rfl) ?_
         refine WO.q (Y.fieldB fo_71_2 rfl) ?_
         first | refine WO.q (Y.load rfl (loadS1 sz_3 S 0 rfl rfl)) ?_ | refine WO.q (Y.load rfl (loadS1 sz_3 S 1 rfl rfl)) ?_
         refine WO.q (Y.move (v := .slice _ _ _) rfl) ?_
         refine WO.e (O.call cf_84 rfl (bset_spec w0 _ b26 bc bk abc abk cbc cbk x.cell (a1, n, c1) _ hA2.bL (by omega) (S.pk (.cons 3 rfl (.cons 3 rfl (.cons 3 rfl (.refl _)))))) ?_)
         rintro _ w ⟨bc2, bk2, abc2, abk2, cbc2, cbk2, rfl, hbs, hbl2, S⟩
         have hA3 := hA2.cell (c := cOut (crun (l.take i)).1 x) (HasRow.own0 hnr) hbs
         replace S := S.pk (.cons 3 rfl (.cons 3 rfl (.cons 3 rfl (.cons 0 rfl (.cons 0 rfl (.cons 0 rfl (.refl _)))))))
         refine ⟨_, rfl, ?_⟩
         refine WO.nil ?_
         refine Then.nx ⟨?_, ?_⟩
         ·
          (repeat (first | exact Out.hav _ _ _ | exact Out.refl _ _ | refine Out.up rfl ?_ | refine Out.sub rfl ?_))
         ·
          first | (rw [cM1 _ _ (by omega)]; exact ⟨bc2, bk2, abc2, cbc2, abk2, cbk2, hA3, by omega, S⟩) | (rw [cM2 _ _ (by omega) (by assumption)]; exact ⟨bc2, bk2, abc2, cbc2, abk2, cbk2, hA3, by omega, S⟩) | (rw [cM3 _ _ (by omega) (by assumption)]; exact ⟨bc, bk, abc, cbc, abk, cbk, hA2, by omega, S⟩) | (rw [cM4 _ _ (by omega) (by omega)]; exact ⟨bc, bk, abc, cbc, abk, cbk, hA2, by omega, S⟩)
        ·
         (try simp only [Q1, Q2, Q3, Q4, Q5, Q6, Q7, Q8, Q9, Qa] at h9)
         refine WO.qT rfl (Y.fieldB fo_71_1 rfl) ?_
         first | refine WO.qT rfl (Y.load rfl (loadS1 sz_56 S 0 rfl rfl)) ?_ | refine WO.qT rfl (Y.load rfl (loadS1 sz_56 S 1 rfl rfl)) ?_
         refine WO.qT rfl (Y.eql rfl rfl) ?_
         refine WO.q (Y.pickF (u := .bool _) rfl rfl) ?_
         refine WO.q (Y.move (v := .bool _) rfl) ?_
         refine WO.splitB (fun h10 => ?_) (fun h10 => ?_)
         ·
          (try simp only [Q1, Q2, Q3, Q4, Q5, Q6, Q7, Q8, Q9, Qa] at h10)
          refine WO.qF rfl ?_
          refine WO.qF rfl ?_
          refine WO.qF rfl ?_
          refine WO.qF rfl ?_
          refine WO.qF rfl ?_
          refine WO.qF rfl ?_
          refine WO.qF rfl ?_
          refine WO.q (Y.pickT (u := .bool _) rfl rfl) ?_
          refine WO.nil ?_
          refine Then.nx ?_
          first | refine W.condT rfl ?_ | refine W.condT (congrArg Value.bool (by assumption)) ?_
          refine W.region rfl ?_
          first | refine WO.q (Y.move (v := .pointer (some _)) rfl) ?_ | refine WO.q (Y.move (v := .pointer _) rfl) ?_
          refine WO.q (Y.fieldB fo_71_2 rfl) ?_
          first | refine WO.q (Y.load rfl (loadS1 sz_3 S 0 rfl rfl)) ?_ | refine WO.q (Y.load rfl (loadS1 sz_3 S 1 rfl rfl)) ?_
          refine WO.q (Y.move (v := .slice _ _ _) rfl) ?_
          refine WO.e (O.call cf_84 rfl (bset_spec w0 _ b26 bc bk abc abk cbc cbk x.cell (a1, n, c1) _ hA2.bL (by omega) (S.pk (.cons 3 rfl (.cons 3 rfl (.cons 3 rfl (.refl _)))))) ?_)
          rintro _ w ⟨bc2, bk2, abc2, abk2, cbc2, cbk2, rfl, hbs, hbl2, S⟩
          have hA3 := hA2.cell (c := cOut (crun (l.take i)).1 x) (HasRow.own0 hnr) hbs
          replace S := S.pk (.cons 3 rfl (.cons 3 rfl (.cons 3 rfl (.cons 0 rfl (.cons 0 rfl (.cons 0 rfl (.refl _)))))))
          refine ⟨_, rfl, ?_⟩
          refine WO.nil ?_
          refine Then.nx ⟨?_, ?_⟩
          ·
           (repeat (first | exact Out.hav _ _ _ | exact Out.refl _ _ | refine Out.up rfl ?_ | refine Out.sub rfl ?_))
          ·
           first | (rw [cM1 _ _ (by omega)]; exact ⟨bc2, bk2, abc2, cbc2, abk2, cbk2, hA3, by omega, S⟩) | (rw [cM2 _ _ (by omega) (by assumption)]; exact ⟨bc2, bk2, abc2, cbc2, abk2, cbk2, hA3, by omega, S⟩) | (rw [cM3 _ _ (by omega) (by assumption)]; exact ⟨bc, bk, abc, cbc, abk, cbk, hA2, by omega, S⟩) | (rw [cM4 _ _ (by omega) (by omega)]; exact ⟨bc, bk, abc, cbc, abk, cbk, hA2, by omega, S⟩)
         ·
          (try simp only [Q1, Q2, Q3, Q4, Q5, Q6, Q7, Q8, Q9, Qa] at h10)
          refine WO.qT rfl (Y.fieldB fo_71_1 rfl) ?_
          first | refine WO.qT rfl (Y.load rfl (loadS1 sz_56 S 0 rfl rfl)) ?_ | refine WO.qT rfl (Y.load rfl (loadS1 sz_56 S 1 rfl rfl)) ?_
          refine WO.qT rfl (Y.eql rfl rfl) ?_
          refine WO.qT rfl (Y.move (v := .bool _) rfl) ?_
          refine WO.splitB (fun h11 => ?_) (fun h11 => ?_)
          ·
           (try simp only [Q1, Q2, Q3, Q4, Q5, Q6, Q7, Q8, Q9, Qa] at h11)
           refine WO.qT rfl (Y.fieldB fo_71_7 rfl) ?_
           first | refine WO.qT rfl (Y.load rfl (loadS1 sz_4 S 0 rfl rfl)) ?_ | refine WO.qT rfl (Y.load rfl (loadS1 sz_4 S 1 rfl rfl)) ?_
           refine WO.qT rfl (Y.pickT (u := .bool _) rfl rfl) ?_
           refine WO.q (Y.pickF (u := .bool _) rfl rfl) ?_
           refine WO.nil ?_
           refine Then.nx ?_
           refine W.cond rfl (fun h12 => ?_) (fun h12 => ?_) -- cond 7
           ·
            have rh12 := h12
            (try simp only [Q1, Q2, Q3, Q4, Q5, Q6, Q7, Q8, Q9, Qa] at h12)
            refine W.region rfl ?_
            first | refine WO.q (Y.move (v := .pointer (some _)) rfl) ?_ | refine WO.q (Y.move (v := .pointer _) rfl) ?_
            refine WO.q (Y.fieldB fo_71_2 rfl) ?_
            first | refine WO.q (Y.load rfl (loadS1 sz_3 S 0 rfl rfl)) ?_ | refine WO.q (Y.load rfl (loadS1 sz_3 S 1 rfl rfl)) ?_
            refine WO.q (Y.move (v := .slice _ _ _) rfl) ?_
            refine WO.e (O.call cf_84 rfl (bset_spec w0 _ b26 bc bk abc abk cbc cbk x.cell (a1, n, c1) _ hA2.bL (by omega) (S.pk (.cons 3 rfl (.cons 3 rfl (.cons 3 rfl (.refl _)))))) ?_)
            rintro _ w ⟨bc2, bk2, abc2, abk2, cbc2, cbk2, rfl, hbs, hbl2, S⟩
            have hA3 := hA2.cell (c := cOut (crun (l.take i)).1 x) (HasRow.own0 hnr) hbs
            replace S := S.pk (.cons 3 rfl (.cons 3 rfl (.cons 3 rfl (.cons 0 rfl (.cons 0 rfl (.cons 0 rfl (.refl _)))))))
            refine ⟨_, rfl, ?_⟩
            refine WO.nil ?_
            refine Then.nx ⟨?_, ?_⟩
            ·
             (repeat (first | exact Out.hav _ _ _ | exact Out.refl _ _ | refine Out.up rfl ?_ | refine Out.sub rfl ?_))
            ·
             first | (rw [cM1 _ _ (by omega)]; exact ⟨bc2, bk2, abc2, cbc2, abk2, cbk2, hA3, by omega, S⟩) | (rw [cM2 _ _ (by omega) (by assumption)]; exact ⟨bc2, bk2, abc2, cbc2, abk2, cbk2, hA3, by omega, S⟩) | (rw [cM3 _ _ (by omega) (by assumption)]; exact ⟨bc, bk, abc, cbc, abk, cbk, hA2, by omega, S⟩) | (rw [cM4 _ _ (by omega) (by omega)]; exact ⟨bc, bk, abc, cbc, abk, cbk, hA2, by omega, S⟩)
           ·
            have rh12 := h12
            (try simp only [Q1, Q2, Q3, Q4, Q5, Q6, Q7, Q8, Q9, Qa] at h12)
            refine W.skip ?_
            refine Then.nx ⟨?_, ?_⟩
            ·
             (repeat (first | exact Out.hav _ _ _ | exact Out.refl _ _ | refine Out.up rfl ?_ | refine Out.sub rfl ?_))
            ·
             first | (rw [cM1 _ _ (by omega)]; exact ⟨bc2, bk2, abc2, cbc2, abk2, cbk2, hA3, by omega, S⟩) | (rw [cM2 _ _ (by omega) (by assumption)]; exact ⟨bc2, bk2, abc2, cbc2, abk2, cbk2, hA3, by omega, S⟩) | (rw [cM3 _ _ (by omega) (by assumption)]; exact ⟨bc, bk, abc, cbc, abk, cbk, hA2, by omega, S⟩) | (rw [cM4 _ _ (by omega) (by omega)]; exact ⟨bc, bk, abc, cbc, abk, cbk, hA2, by omega, S⟩)
          ·
           (try simp only [Q1, Q2, Q3, Q4, Q5, Q6, Q7, Q8, Q9, Qa] at h11)
           refine WO.qF rfl ?_
           refine WO.qF rfl ?_
           refine WO.qT rfl (Y.pickF (u := .bool _) rfl rfl) ?_
           refine WO.q (Y.pickF (u := .bool _) rfl rfl) ?_
           refine WO.nil ?_
           refine Then.nx ?_
           first | refine W.condF rfl ?_ | refine W.condF (congrArg Value.bool (by assumption)) ?_
           refine W.skip ?_
           refine Then.nx ⟨?_, ?_⟩
           ·
            (repeat (first | exact Out.hav _ _ _ | exact Out.refl _ _ | refine Out.up rfl ?_ | refine Out.sub rfl ?_))
           ·
            first | (rw [cM1 _ _ (by omega)]; exact ⟨bc2, bk2, abc2, cbc2, abk2, cbk2, hA3, by omega, S⟩) | (rw [cM2 _ _ (by omega) (by assumption)]; exact ⟨bc2, bk2, abc2, cbc2, abk2, cbk2, hA3, by omega, S⟩) | (rw [cM3 _ _ (by omega) (by assumption)]; exact ⟨bc, bk, abc, cbc, abk, cbk, hA2, by omega, S⟩) | (rw [cM4 _ _ (by omega) (by omega)]; exact ⟨bc, bk, abc, cbc, abk, cbk, hA2, by omega, S⟩)
      ·
       rintro gj630 w ⟨bc2, bk2, abc2, cbc2, abk2, cbk2, hA3, hbl3, S⟩
       refine W.seq ?_
       refine W.region rfl ?_
       refine WO.q (Y.fieldB fo_71_1 rfl) ?_
       first | refine WO.q (Y.load rfl (loadS1 sz_56 S 0 rfl rfl)) ?_ | refine WO.q (Y.load rfl (loadS1 sz_56 S 1 rfl rfl)) ?_
       refine WO.q (Y.eql rfl rfl) ?_
       refine WO.q (Y.move (v := .bool _) rfl) ?_
       refine WO.splitB (fun h13 => ?_) (fun h13 => ?_)
       ·
        (try simp only [Q1, Q2, Q3, Q4, Q5, Q6, Q7, Q8, Q9, Qa] at h13)
        refine WO.qT rfl (Y.fieldB fo_71_6 rfl) ?_
        first | refine WO.qT rfl (Y.load rfl (loadS1 sz_2 S 0 rfl rfl)) ?_ | refine WO.qT rfl (Y.load rfl (loadS1 sz_2 S 1 rfl rfl)) ?_
        refine WO.qT rfl (Y.geq rfl rfl) ?_
        refine WO.q (Y.pickT (u := .bool _) rfl rfl) ?_
        refine WO.nil ?_
        refine Then.nx ?_
        refine W.cond rfl (fun h14 => ?_) (fun h14 => ?_) -- cond 8
        ·
         have rh14 := h14
         (try simp only [Q1, Q2, Q3, Q4, Q5, Q6, Q7, Q8, Q9, Qa] at h14)
         have hnw : x.now.toNat < n := by omega
         obtain ⟨⟨qa2, qn2, qc2⟩, hq2⟩ := at_ex (xs := (ths.set x.thread.toNat (a1, n, c1))) (k := x.now.toNat) (by (rw [hA3.thL]; omega))
         have hqr2 := hA3.th _ _ hq2
         obtain rfl : qn2 = (rowN n (cT2 (crun (l.take i)).1 x x.now.toNat)).length := hqr2.1
         refine W.draw (.q 0 (.q 1 (.q 2 (.q 3 (.q 4 (.q 5 (.q 6 (.q 7 (.q 8 (.e 9 (.q 10 (.e 11 .nil)))))))))))) (fun w => Sat _ w _) rfl rfl (by kernel_rfl) rfl (by kernel_rfl) (by repeat (first | exact BodyQ.noFrame | refine Then.noFrame ?_ | refine InB.noFrame ?_)) S.drew ?_
         clear S
         refine Plan.q rfl (fun w S => Y.move (v := .slice _ _ _) rfl) ?_
         refine Plan.q rfl (fun w S => Y.fieldB fo_71_6 rfl) ?_
         first | refine Plan.q rfl (fun w S => Y.load rfl (loadS1 sz_2 S 0 rfl rfl)) ?_ | refine Plan.q rfl (fun w S => Y.load rfl (loadS1 sz_2 S 1 rfl rfl)) ?_
         refine Plan.q rfl (fun w S => Y.move (v := .slice _ _ _) rfl) ?_
         refine Plan.q rfl (fun w S => Y.fieldB fo_71_6 rfl) ?_
         first | refine Plan.q rfl (fun w S => Y.load rfl (loadS1 sz_2 S 0 rfl rfl)) ?_ | refine Plan.q rfl (fun w S => Y.load rfl (loadS1 sz_2 S 1 rfl rfl)) ?_
         first | refine Plan.q rfl (fun w S => Y.ixN sl_36 rfl rfl (by (first | assumption | rfl)) (by (first | assumption | omega))) ?_ | refine Plan.q rfl (fun w S => Y.ix sl_36 rfl rfl (by (first | assumption | rfl)) (by (first | assumption | omega)) (by (first | assumption | omega))) ?_
         refine Plan.q rfl (fun w S => Y.load rfl (loadRd1 (c := .slice qa2 (rowN n (cT2 (crun (l.take i)).1 x x.now.toNat)).length qc2) sz_27 (S.rd 2 rfl) hq2 rfl)) ?_
         refine Plan.q rfl (fun w S => Y.move (v := .slice _ _ _) rfl) ?_
         refine Plan.e1 rfl (fun w S => O.call cf_82 rfl (Calls_args (by (rw [show (rowN n (cOut (crun (l.take i)).1 x)).length = n from rowN_len _ _]; rfl)) (take_spec _ qa2 a1 qc2 c1 (rowN n (cT2 (crun (l.take i)).1 x x.now.toNat)) (rowN n (cOut (crun (l.take i)).1 x)) (S.reads 1 rfl hqr2.2) (S.reads 1 rfl ((Reads.own _ _ _ _ _).bun 0 rfl)) (by (rw [rowN_len]; omega)) (by (rw [rowN_len]; omega)))) ?_)
         rintro _ w ⟨a7, c7, rfl, S2⟩
         rw [takeM_row] at S2
         replace S := S.trans S2
         refine ⟨_, rfl, ?_⟩
         refine ⟨(fun w => Sat _ w _), S, (.inr (fun w S => S.pk (by repeat (first | exact Pk.nil _ | exact Pk.refl _ | refine Pk.cons 0 rfl ?_ | refine Pk.cons 1 rfl ?_ | refine Pk.cons 2 rfl ?_ | refine Pk.cons 3 rfl ?_ | refine Pk.cons 4 rfl ?_ | refine Pk.cons 5 rfl ?_ | refine Pk.cons 6 rfl ?_ | refine Pk.cons 7 rfl ?_ | refine Pk.cons 8 rfl ?_ | refine Pk.cons 9 rfl ?_ | refine Pk.cons 10 rfl ?_ | refine Pk.cons 11 rfl ?_ | refine Pk.cons 12 rfl ?_ | refine Pk.cons 13 rfl ?_ | refine Pk.drop ?_)))), ?_⟩
         clear S
         first | refine Plan.q rfl (fun w S => Y.ixN sl_36 rfl rfl (by (first | assumption | rfl)) (by (first | assumption | omega))) ?_ | refine Plan.q rfl (fun w S => Y.ix sl_36 rfl rfl (by (first | assumption | rfl)) (by (first | assumption | omega)) (by (first | assumption | omega))) ?_
         refine Plan.e0 rfl (fun w S => O.storeEl 3 ((a7, (rowN n (cT2 (crun (l.take i)).1 x x.now.toNat)).length, c7) : SlV) S rfl rfl (by (rw [hA3.thL]; omega)) rfl sz_27 rfl (fun w S => ?_))
         refine ⟨(fun w => Sat _ w _), S, (.inl (by kernel_rfl)), ?_⟩
         clear S
         refine Plan.nil (fun w S => ?_)
         replace S : Sat _ _ _ := S
         refine InB.nx ?_
         refine Then.nx ?_
         refine W.region rfl ?_
         refine WO.q (Y.move (v := .int .i64 _) rfl) ?_
         first | refine WO.q (Y.addI rfl rfl (by omega)) ?_ | refine WO.q (Y.add rfl rfl) ?_
         refine WO.q (Y.assign (v := .int .i64 _) rfl) ?_
         refine WO.nil ?_
         refine Then.nx ⟨?_, ?_, ?_⟩
         ·
          (repeat (first | exact Out.hav _ _ _ | exact Out.refl _ _ | refine Out.up rfl ?_ | refine Out.sub rfl ?_))
         ·
          (have hts := take_succ_at hx1); first | (have hA4 := (hA3.up (X := Own (tI .i64) 3 a7 c7 (rowN n (cmax (cT2 (crun (l.take i)).1 x x.now.toNat) (cOut (crun (l.take i)).1 x))))).thr (t := x.now.toNat) (q := ((a7, (rowN n (cT2 (crun (l.take i)).1 x x.now.toNat)).length, c7) : SlV)) (c := cmax (cT2 (crun (l.take i)).1 x x.now.toNat) (cOut (crun (l.take i)).1 x)) (HasRow.own1 (by (rw [rowN_len, rowN_len]))); exact ⟨i + 1, Bun [Own (tI .i64) 3 a7 c7 (rowN n (cmax (cT2 (crun (l.take i)).1 x x.now.toNat) (cOut (crun (l.take i)).1 x))), (Bun [Own (tI .i64) 3 a1 c1 (rowN n (cOut (crun (l.take i)).1 x)), P])], (ths.set x.thread.toNat (a1, n, c1)).set x.now.toNat ((a7, (rowN n (cT2 (crun (l.take i)).1 x x.now.toNat)).length, c7) : SlV), (outs ++ [((a1, n, c1) : SlV)]), bk2, bc2, abc2, cbc2, abk2, cbk2, a72, c72, rfl, by omega, rfl, (by (rw [hts, crun_snoc]; show AllSt _ _ ⟨cT3 _ _, _⟩ _ _ _ _ _; rw [cTa _ _ (by omega)]; exact hA4)), hbl3, by (simp [hol]), (show Sat w0 w ([_, _] ++ _) from (S.pk (.cons 0 rfl (.cons 1 rfl (.drop (.refl _)))))).bun⟩) | (exact ⟨i + 1, (Bun [Own (tI .i64) 3 a1 c1 (rowN n (cOut (crun (l.take i)).1 x)), P]), (ths.set x.thread.toNat (a1, n, c1)), (outs ++ [((a1, n, c1) : SlV)]), bk2, bc2, abc2, cbc2, abk2, cbk2, a72, c72, rfl, by omega, rfl, (by (rw [hts, crun_snoc]; show AllSt _ _ ⟨cT3 _ _, _⟩ _ _ _ _ _; rw [cTb _ _ (by omega)]; exact hA3)), hbl3, by (simp [hol]), S.tl⟩)
         ·
          (show l.length - (i + 1) < l.length - i; omega)
        ·
         have rh14 := h14
         (try simp only [Q1, Q2, Q3, Q4, Q5, Q6, Q7, Q8, Q9, Qa] at h14)
         refine W.skip ?_
         refine InB.nx ?_
         refine Then.nx ?_
         refine W.region rfl ?_
         refine WO.q (Y.move (v := .int .i64 _) rfl) ?_
         first | refine WO.q (Y.addI rfl rfl (by omega)) ?_ | refine WO.q (Y.add rfl rfl) ?_
         refine WO.q (Y.assign (v := .int .i64 _) rfl) ?_
         refine WO.nil ?_
         refine Then.nx ⟨?_, ?_, ?_⟩
         ·
          (repeat (first | exact Out.hav _ _ _ | exact Out.refl _ _ | refine Out.up rfl ?_ | refine Out.sub rfl ?_))
         ·
          (have hts := take_succ_at hx1); first | (have hA4 := (hA3.up (X := Own (tI .i64) 3 a7 c7 (rowN n (cmax (cT2 (crun (l.take i)).1 x x.now.toNat) (cOut (crun (l.take i)).1 x))))).thr (t := x.now.toNat) (q := ((a7, (rowN n (cT2 (crun (l.take i)).1 x x.now.toNat)).length, c7) : SlV)) (c := cmax (cT2 (crun (l.take i)).1 x x.now.toNat) (cOut (crun (l.take i)).1 x)) (HasRow.own1 (by (rw [rowN_len, rowN_len]))); exact ⟨i + 1, Bun [Own (tI .i64) 3 a7 c7 (rowN n (cmax (cT2 (crun (l.take i)).1 x x.now.toNat) (cOut (crun (l.take i)).1 x))), (Bun [Own (tI .i64) 3 a1 c1 (rowN n (cOut (crun (l.take i)).1 x)), P])], (ths.set x.thread.toNat (a1, n, c1)).set x.now.toNat ((a7, (rowN n (cT2 (crun (l.take i)).1 x x.now.toNat)).length, c7) : SlV), (outs ++ [((a1, n, c1) : SlV)]), bk2, bc2, abc2, cbc2, abk2, cbk2, a72, c72, rfl, by omega, rfl, (by (rw [hts, crun_snoc]; show AllSt _ _ ⟨cT3 _ _, _⟩ _ _ _ _ _; rw [cTa _ _ (by omega)]; exact hA4)), hbl3, by (simp [hol]), (show Sat w0 w ([_, _] ++ _) from (S.pk (.cons 0 rfl (.cons 1 rfl (.drop (.refl _)))))).bun⟩) | (exact ⟨i + 1, (Bun [Own (tI .i64) 3 a1 c1 (rowN n (cOut (crun (l.take i)).1 x)), P]), (ths.set x.thread.toNat (a1, n, c1)), (outs ++ [((a1, n, c1) : SlV)]), bk2, bc2, abc2, cbc2, abk2, cbk2, a72, c72, rfl, by omega, rfl, (by (rw [hts, crun_snoc]; show AllSt _ _ ⟨cT3 _ _, _⟩ _ _ _ _ _; rw [cTb _ _ (by omega)]; exact hA3)), hbl3, by (simp [hol]), S.tl⟩)
         ·
          (show l.length - (i + 1) < l.length - i; omega)
       ·
        (try simp only [Q1, Q2, Q3, Q4, Q5, Q6, Q7, Q8, Q9, Qa] at h13)
        refine WO.qF rfl ?_
        refine WO.qF rfl ?_
        refine WO.qF rfl ?_
        refine WO.q (Y.pickF (u := .bool _) rfl rfl) ?_
        refine WO.nil ?_
        refine Then.nx ?_
        first | refine W.condF rfl ?_ | refine W.condF (congrArg Value.bool (by assumption)) ?_
        refine W.skip ?_
        refine InB.nx ?_
        refine Then.nx ?_
        refine W.region rfl ?_
        refine WO.q (Y.move (v := .int .i64 _) rfl) ?_
        first | refine WO.q (Y.addI rfl rfl (by omega)) ?_ | refine WO.q (Y.add rfl rfl) ?_
        refine WO.q (Y.assign (v := .int .i64 _) rfl) ?_
        refine WO.nil ?_
        refine Then.nx ⟨?_, ?_, ?_⟩
        ·
         (repeat (first | exact Out.hav _ _ _ | exact Out.refl _ _ | refine Out.up rfl ?_ | refine Out.sub rfl ?_))
        ·
         (have hts := take_succ_at hx1); first | (have hA4 := (hA3.up (X := Own (tI .i64) 3 a7 c7 (rowN n (cmax (cT2 (crun (l.take i)).1 x x.now.toNat) (cOut (crun (l.take i)).1 x))))).thr (t := x.now.toNat) (q := ((a7, (rowN n (cT2 (crun (l.take i)).1 x x.now.toNat)).length, c7) : SlV)) (c := cmax (cT2 (crun (l.take i)).1 x x.now.toNat) (cOut (crun (l.take i)).1 x)) (HasRow.own1 (by (rw [rowN_len, rowN_len]))); exact ⟨i + 1, Bun [Own (tI .i64) 3 a7 c7 (rowN n (cmax (cT2 (crun (l.take i)).1 x x.now.toNat) (cOut (crun (l.take i)).1 x))), (Bun [Own (tI .i64) 3 a1 c1 (rowN n (cOut (crun (l.take i)).1 x)), P])], (ths.set x.thread.toNat (a1, n, c1)).set x.now.toNat ((a7, (rowN n (cT2 (crun (l.take i)).1 x x.now.toNat)).length, c7) : SlV), (outs ++ [((a1, n, c1) : SlV)]), bk2, bc2, abc2, cbc2, abk2, cbk2, a72, c72, rfl, by omega, rfl, (by (rw [hts, crun_snoc]; show AllSt _ _ ⟨cT3 _ _, _⟩ _ _ _ _ _; rw [cTa _ _ (by omega)]; exact hA4)), hbl3, by (simp [hol]), (show Sat w0 w ([_, _] ++ _) from (S.pk (.cons 0 rfl (.cons 1 rfl (.drop (.refl _)))))).bun⟩) | (exact ⟨i + 1, (Bun [Own (tI .i64) 3 a1 c1 (rowN n (cOut (crun (l.take i)).1 x)), P]), (ths.set x.thread.toNat (a1, n, c1)), (outs ++ [((a1, n, c1) : SlV)]), bk2, bc2, abc2, cbc2, abk2, cbk2, a72, c72, rfl, by omega, rfl, (by (rw [hts, crun_snoc]; show AllSt _ _ ⟨cT3 _ _, _⟩ _ _ _ _ _; rw [cTb _ _ (by omega)]; exact hA3)), hbl3, by (simp [hol]), S.tl⟩)
        ·
         (show l.length - (i + 1) < l.length - i; omega)
    ·
     have rh2 := h2
     (try simp only [Q1, Q2, Q3, Q4, Q5, Q6, Q7, Q8, Q9, Qa] at h2)
     refine W.exit ?_
     refine Then.x ?_
     refine Then.x ?_
     refine InB.e ?_
     refine Then.nx ?_
     refine W.seq ?_
     refine W.region rfl ?_
     refine WO.q (Y.move (v := .slice _ _ _) rfl) ?_
     refine WO.q (Y.assign (v := .slice _ _ _) rfl) ?_
     refine WO.nil ?_
     refine Then.nx ?_
     refine W.ret ?_
     refine BodyQ.ret1 Tryd.results67 (ResV.tmp _ rfl) ?_
     have ei : i = l.length := (by omega); subst ei; rw [List.take_of_length_le (Nat.le_refl _)] at hA; rw [hnn]; exact ⟨ao, co, outs, P, rfl, hol, (fun j q hq => by (have hj := at_lt hq; exact hA.out j q _ hq (clks_at (l := l) (by omega)))), S.pk (.cons 5 rfl (.cons 0 rfl (.nil _)))⟩
end Go.Proofs
