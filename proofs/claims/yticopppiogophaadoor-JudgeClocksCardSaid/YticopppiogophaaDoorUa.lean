/-
  Walks of take, bof, bset, Threads, rMay.
-/
import Derived.Test.YticopppiogophaaDoorTv
import Derived.Test.YticopppiogophaaDoorTp
import Derived.Test.YticopppiogophaaDoorSx
import Derived.Test.YticopppiogophaaDoorFa
import Derived.Test.YticopppiogophaaDoorFb
import Derived.Test.YticopppiogophaaDoorFc
set_option linter.unusedVariables false
set_option linter.unusedSimpArgs false
set_option maxRecDepth 100000
set_option maxHeartbeats 1000000
namespace Go.Proofs
open Go Go.TL Go.RowKit
theorem take_spec (w0 : World) (a b : Option Addr) (ca cb : Nat) (xs ys : List Int) (R1 : Rd (tI .i64) w0 a xs) (R2 : Rd (tI .i64) w0 b ys) (hx : xs.length ≤ 4096) (hy : ys.length ≤ 4096) :
    Calls Tryd.prog 82 [.slice a xs.length ca, .slice b ys.length cb].toArray w0 (fun e w => ∃ a' c', e = .returned (.slice a' xs.length c') ∧ Sat w0 w [Own (tI .i64) 3 a' c' (takeM xs ys)]) := by
 have S := Sat.refl w0
 refine calls_of_W (args := [.slice a xs.length ca, .slice b ys.length cb]) 33 Tryd.func82 rfl Tryd.ntmps82 rfl ?_
 refine W.seq ?_
 refine W.region rfl ?_
 refine WO.q (Y.assign (v := .slice _ _ _) rfl) ?_
 refine WO.nil ?_
 refine Then.nx ?_
 refine W.seq ?_
 refine W.region rfl ?_
 refine WO.q (Y.assign (v := .slice _ _ _) rfl) ?_
 refine WO.nil ?_
 refine Then.nx ?_
 refine W.seq ?_
 refine W.seq ?_
 refine W.region rfl ?_
 refine WO.q (Y.assign (v := .int .i64 _) rfl) ?_
 refine WO.nil ?_
 refine Then.nx ?_
 refine W.block ?_
 -- loop 0 carries 5:out, 6:i
 refine W.loop2 [5, 6, 7, 8, 9, 10, 11, 12, 13, 14, 15, 16, 17, 18, 19, 20, 21, 22, 23, 24, 25, 26, 27, 28, 29, 30, 31] 5 6 (fun v5 v6 w => ∃ (i : Nat) (ao : Option Addr) (co : Nat), v6 = .int .i64 (i : Int) ∧ i ≤ xs.length ∧ v5 = .slice ao ((takeM xs ys).take i).length co ∧ Sat w0 w [Own (tI .i64) 3 ao co ((takeM xs ys).take i)]) (fun v5 v6 w => xs.length - (intOf v6).toNat) ?_ ?_
 ·
  exact ⟨0, none, 0, rfl, Nat.zero_le _, rfl, S.nilOwn (tI .i64) 3⟩
 ·
  rintro g0 v5 v6 w ⟨i, ao, co, rfl, hi, rfl, S⟩
  refine W.seq ?_
  refine W.seq ?_
  refine W.region rfl ?_
  refine WO.q (Y.move (v := .int .i64 _) rfl) ?_
  refine WO.q (Y.move (v := .slice _ _ _) rfl) ?_
  refine WO.q (Y.len (t' := 0) Tryd.underlying27 rfl) ?_
  refine WO.q (Y.lss rfl rfl) ?_
  refine WO.nil ?_
  refine Then.nx ?_
  refine W.cond rfl (fun h1 => ?_) (fun h1 => ?_) -- cond 0
  ·
   have rh1 := h1
   (try simp only [Q1, Q2, Q3, Q4, Q5, Q6, Q7, Q8, Q9, Qa] at h1)
   have ha := R1.1 (by omega)
   obtain ⟨x, hx1⟩ := at_ex (xs := xs) (k := i) (by omega)
   refine W.skip ?_
   refine Then.nx ?_
   refine W.seq ?_
   refine W.block ?_
   refine W.seq ?_
   refine W.region rfl ?_
   refine WO.q (Y.move (v := .slice _ _ _) rfl) ?_
   refine WO.q (Y.move (v := .int .i64 _) rfl) ?_
   first | refine WO.q (Y.ixN sl_27 rfl rfl (by (first | assumption | rfl)) (by (first | assumption | omega))) ?_ | refine WO.q (Y.ix sl_27 rfl rfl (by (first | assumption | rfl)) (by (first | assumption | omega)) (by (first | assumption | omega))) ?_
   first | refine WO.q (Y.load rfl (loadRd1 sz_3 (R1.ext S.ext) (by assumption) rfl)) ?_ | refine WO.q (Y.load rfl (loadRd1 sz_3 (R2.ext S.ext) (by assumption) rfl)) ?_
   refine WO.q (Y.assign (v := .int .i64 _) rfl) ?_
   refine WO.nil ?_
   refine Then.nx ?_
   refine W.cut1 [7, 18, 19, 20, 21, 22, 23, 24, 25, 26, 27] 7 (fun v7 w => ∃ z : Int, v7 = .int .i64 z ∧ (takeM xs ys)[i]? = some z ∧ Sat w0 w [Own (tI .i64) 3 ao co ((takeM xs ys).take i)]) ?_ ?_
   ·
    refine W.seq ?_
    refine W.region rfl ?_
    refine WO.q (Y.move (v := .int .i64 _) rfl) ?_
    refine WO.q (Y.move (v := .slice _ _ _) rfl) ?_
    refine WO.q (Y.len (t' := 0) Tryd.underlying27 rfl) ?_
    refine WO.q (Y.lss rfl rfl) ?_
    refine WO.nil ?_
    refine Then.nx ?_
    refine W.cond rfl (fun h2 => ?_) (fun h2 => ?_) -- cond 1
    ·
     have rh2 := h2
     (try simp only [Q1, Q2, Q3, Q4, Q5, Q6, Q7, Q8, Q9, Qa] at h2)
     have hb := R2.1 (by omega)
     obtain ⟨y, hy1⟩ := at_ex (xs := ys) (k := i) (by omega)
     refine W.region rfl ?_
     refine WO.q (Y.move (v := .int .i64 _) rfl) ?_
     refine WO.q (Y.move (v := .slice _ _ _) rfl) ?_
     refine WO.q (Y.move (v := .int .i64 _) rfl) ?_
     first | refine WO.q (Y.ixN sl_27 rfl rfl (by (first | assumption | rfl)) (by (first | assumption | omega))) ?_ | refine WO.q (Y.ix sl_27 rfl rfl (by (first | assumption | rfl)) (by (first | assumption | omega)) (by (first | assumption | omega))) ?_
     first | refine WO.q (Y.load rfl (loadRd1 sz_3 (R1.ext S.ext) (by assumption) rfl)) ?_ | refine WO.q (Y.load rfl (loadRd1 sz_3 (R2.ext S.ext) (by assumption) rfl)) ?_
     refine WO.q (Y.max2 rfl rfl) ?_
     refine WO.q (Y.assign (v := .int .i64 _) rfl) ?_
     refine WO.nil ?_
     refine Then.nx ⟨?_, ?_⟩
     ·
      (repeat (first | exact Out.hav _ _ _ | exact Out.refl _ _ | refine Out.up rfl ?_ | refine Out.sub rfl ?_))
     ·
      first | exact ⟨_, rfl, takeM_in hx1 hy1, S⟩ | exact ⟨_, rfl, takeM_out hx1 (by omega), S⟩
    ·
     have rh2 := h2
     (try simp only [Q1, Q2, Q3, Q4, Q5, Q6, Q7, Q8, Q9, Qa] at h2)
     refine W.skip ?_
     refine Then.nx ⟨?_, ?_⟩
     ·
      (repeat (first | exact Out.hav _ _ _ | exact Out.refl _ _ | refine Out.up rfl ?_ | refine Out.sub rfl ?_))
     ·
      first | exact ⟨_, rfl, takeM_in hx1 hy1, S⟩ | exact ⟨_, rfl, takeM_out hx1 (by omega), S⟩
   ·
    rintro gj93 v7 w ⟨z, rfl, hz, S⟩
    refine W.region rfl ?_
    refine WO.q (Y.move (v := .slice _ _ _) rfl) ?_
    refine WO.q (Y.move (v := .int .i64 _) rfl) ?_
    first | refine WO.e (O.buildSlice rfl (buildOne sl_27 (by decide) rfl rfl) S (fun b30 w S => ?_)) | refine WO.e (O.buildSlice rfl (buildOne sl_27 (by decide) rfl (by simp)) S (fun b30 w S => ?_)) | refine WO.e (O.buildSlice rfl (bs_27_1_0) S (fun b30 w S => ?_))
    refine WO.e (O.append (T := tI .i64) (ys := [z]) 1 sl_27 S rfl rfl rfl rfl (S.rd1 (T := tI .i64) (x := z) 0 rfl) rfl (by (simp only [List.length_take, takeM_len, List.length_singleton]; omega)) (by (simp only [List.length_take, takeM_len, List.length_singleton, maxLen]; omega)) (fun a31 c31 w S hn31 => ?_))
    refine WO.q (Y.assign (v := .slice _ _ _) rfl) ?_
    refine WO.nil ?_
    refine InB.nx ?_
    refine Then.nx ?_
    refine W.region rfl ?_
    refine WO.q (Y.move (v := .int .i64 _) rfl) ?_
    first | refine WO.q (Y.addI rfl rfl (by omega)) ?_ | refine WO.q (Y.add rfl rfl) ?_
    refine WO.q (Y.assign (v := .int .i64 _) rfl) ?_
    refine WO.nil ?_
    refine Then.nx ⟨?_, ?_, ?_⟩
    ·
     (repeat (first | exact Out.hav _ _ _ | exact Out.refl _ _ | refine Out.up rfl ?_ | refine Out.sub rfl ?_))
    ·
     exact ⟨i + 1, a31, c31, rfl, by omega, by (show Value.slice _ _ _ = _; rw [take_succ_at hz]), by (rw [take_succ_at hz]; exact S.tl)⟩
    ·
     (show xs.length - (i + 1) < xs.length - i; omega)
  ·
   have rh1 := h1
   (try simp only [Q1, Q2, Q3, Q4, Q5, Q6, Q7, Q8, Q9, Qa] at h1)
   refine W.exit ?_
   refine Then.x ?_
   refine Then.x ?_
   refine InB.e ?_
   refine Then.nx ?_
   refine W.seq ?_
   refine W.region rfl ?_
   refine WO.q (Y.move (v := .slice _ _ _) rfl) ?_
   refine WO.q (Y.assign (v := .slice _ _ _) rfl) ?_
   refine WO.nil ?_
   refine Then.nx ?_
   refine W.ret ?_
   refine BodyQ.ret1 Tryd.results82 (ResV.tmp _ rfl) ?_
   have ei : i = xs.length := (by omega); subst ei; rw [List.take_of_length_le (by rw [takeM_len]; exact Nat.le_refl _)] at S ⊢; exact ⟨ao, co, by (rw [takeM_len]; rfl), S⟩
theorem bof_spec (w0 w : World) (bb : Nat) (bc : List Int) (bk : List SlV) (abc abk : Option Addr) (cbc cbk : Nat) (x : Int) (L : List HA) (hl : bk.length = bc.length) (hb : bc.length ≤ 4096) (S : Sat w0 w (Cel bb [.slice abc bc.length cbc, .slice abk bk.length cbk] 154 :: Own (tI .i64) 3 abc cbc bc :: Own tSl 27 abk cbk bk :: L)) :
    Calls Tryd.prog 83 [.pointer (some ⟨bb, 0, none⟩), .int .i64 x].toArray w (fun e w' => ∃ q : SlV, e = .returned (vSl q) ∧ ((q = sl0 ∧ x ∉ bc) ∨ ∃ j : Nat, bc[j]? = some x ∧ bk[j]? = some q) ∧ Sat w0 w' (Cel bb [.slice abc bc.length cbc, .slice abk bk.length cbk] 154 :: Own (tI .i64) 3 abc cbc bc :: Own tSl 27 abk cbk bk :: L)) := by
 refine calls_of_W (args := [.pointer (some ⟨bb, 0, none⟩), .int .i64 x]) 31 Tryd.func83 rfl Tryd.ntmps83 rfl ?_
 refine W.seq ?_
 refine W.region rfl ?_
 refine WO.q (Y.assign (v := .slice _ _ _) rfl) ?_
 refine WO.nil ?_
 refine Then.nx ?_
 refine W.seq ?_
 refine W.seq ?_
 refine W.region rfl ?_
 refine WO.q (Y.assign (v := .int .i64 _) rfl) ?_
 refine WO.nil ?_
 refine Then.nx ?_
 refine W.block ?_
 -- loop 0 carries 5:i
 refine W.loop1 [4, 5, 6, 7, 8, 9, 10, 11, 12, 13, 14, 15, 16, 17, 18, 19, 20, 21, 22, 23, 24, 25, 26, 27, 28, 29, 30] 5 (fun v5 w => ∃ i : Nat, v5 = .int .i64 (i : Int) ∧ i ≤ bc.length ∧ (∀ j, j < i → ¬ bc[j]? = some x) ∧ Sat w0 w (Cel bb [.slice abc bc.length cbc, .slice abk bk.length cbk] 154 :: Own (tI .i64) 3 abc cbc bc :: Own tSl 27 abk cbk bk :: L)) (fun v5 w => bc.length - (intOf v5).toNat) ?_ ?_
 ·
  exact ⟨0, rfl, Nat.zero_le _, fun j h => by omega, S⟩
 ·
  rintro g0 v5 w ⟨i, rfl, hi, hnot, S⟩
  refine W.seq ?_
  refine W.seq ?_
  refine W.region rfl ?_
  refine WO.q (Y.move (v := .int .i64 _) rfl) ?_
  first | refine WO.q (Y.move (v := .pointer (some _)) rfl) ?_ | refine WO.q (Y.move (v := .pointer _) rfl) ?_
  refine WO.q (Y.nilP rfl) ?_
  first | refine WO.q (Y.fieldB fo_154_0 rfl) ?_ | refine WO.q (Y.fieldE fo_154_0 rfl) ?_
  first | refine WO.q (Y.load rfl (loadRd1 (c := .slice qa qn qc) sz_27 (S.rd 2 rfl) hq1 rfl)) ?_ | refine WO.q (Y.load rfl (loadS1 sz_27 S 0 rfl rfl)) ?_ | refine WO.q (Y.load rfl (loadRdF sz_27 (S.rd 1 rfl) (by assumption) rfl)) ?_ | refine WO.q (Y.load rfl (loadRd1 sz_27 (S.rd 1 rfl) (by assumption) rfl)) ?_
  refine WO.q (Y.len (t' := 0) Tryd.underlying27 rfl) ?_
  refine WO.q (Y.lss rfl rfl) ?_
  refine WO.nil ?_
  refine Then.nx ?_
  refine W.cond rfl (fun h1 => ?_) (fun h1 => ?_) -- cond 0
  ·
   have rh1 := h1
   (try simp only [Q1, Q2, Q3, Q4, Q5, Q6, Q7, Q8, Q9, Qa] at h1)
   obtain ⟨y, hy1⟩ := at_ex (xs := bc) (k := i) (by omega)
   obtain ⟨⟨qa, qn, qc⟩, hq1⟩ := at_ex (xs := bk) (k := i) (by omega)
   have hab := (S.rd 1 rfl).1 (by omega)
   have hak := (S.rd 2 rfl).1 (by omega)
   refine W.skip ?_
   refine Then.nx ?_
   refine W.seq ?_
   refine W.block ?_
   refine W.seq ?_
   refine W.region rfl ?_
   first | refine WO.q (Y.move (v := .pointer (some _)) rfl) ?_ | refine WO.q (Y.move (v := .pointer _) rfl) ?_
   refine WO.q (Y.nilP rfl) ?_
   first | refine WO.q (Y.fieldB fo_154_0 rfl) ?_ | refine WO.q (Y.fieldE fo_154_0 rfl) ?_
   first | refine WO.q (Y.load rfl (loadRd1 (c := .slice qa qn qc) sz_27 (S.rd 2 rfl) hq1 rfl)) ?_ | refine WO.q (Y.load rfl (loadS1 sz_27 S 0 rfl rfl)) ?_ | refine WO.q (Y.load rfl (loadRdF sz_27 (S.rd 1 rfl) (by assumption) rfl)) ?_ | refine WO.q (Y.load rfl (loadRd1 sz_27 (S.rd 1 rfl) (by assumption) rfl)) ?_
   refine WO.q (Y.move (v := .int .i64 _) rfl) ?_
   first | refine WO.q (Y.ixN sl_27 rfl rfl (by (first | assumption | rfl)) (by (first | assumption | omega))) ?_ | refine WO.q (Y.ix sl_27 rfl rfl (by (first | assumption | rfl)) (by (first | assumption | omega)) (by (first | assumption | omega))) ?_
   refine WO.q (Y.load rfl (loadRd1 sz_3 (S.rd 1 rfl) (by assumption) rfl)) ?_
   refine WO.q (Y.move (v := .int .i64 _) rfl) ?_
   refine WO.q (Y.eql rfl rfl) ?_
   refine WO.nil ?_
   refine Then.nx ?_
   refine W.cond rfl (fun h2 => ?_) (fun h2 => ?_) -- cond 1
   ·
    have rh2 := h2
    (try simp only [Q1, Q2, Q3, Q4, Q5, Q6, Q7, Q8, Q9, Qa] at h2)
    refine W.seq ?_
    refine W.region rfl ?_
    first | refine WO.q (Y.move (v := .pointer (some _)) rfl) ?_ | refine WO.q (Y.move (v := .pointer _) rfl) ?_
    refine WO.q (Y.nilP rfl) ?_
    first | refine WO.q (Y.fieldB fo_154_1 rfl) ?_ | refine WO.q (Y.fieldE fo_154_1 rfl) ?_
    first | refine WO.q (Y.load rfl (loadS1 sz_36 S 0 rfl rfl)) ?_ | refine WO.q (Y.load rfl (loadRdF sz_36 (S.rd 1 rfl) (by assumption) rfl)) ?_ | refine WO.q (Y.load rfl (loadRd1 sz_36 (S.rd 1 rfl) (by assumption) rfl)) ?_
    refine WO.q (Y.move (v := .int .i64 _) rfl) ?_
    first | refine WO.q (Y.ixN sl_36 rfl rfl (by (first | assumption | rfl)) (by (first | assumption | omega))) ?_ | refine WO.q (Y.ix sl_36 rfl rfl (by (first | assumption | rfl)) (by (first | assumption | omega)) (by (first | assumption | omega))) ?_
    first | refine WO.q (Y.load rfl (loadRd1 (c := .slice qa qn qc) sz_27 (S.rd 2 rfl) hq1 rfl)) ?_ | refine WO.q (Y.load rfl (loadRd1 sz_27 (S.rd 1 rfl) (by assumption) rfl)) ?_
    refine WO.q (Y.assign (v := .slice _ _ _) rfl) ?_
    refine WO.nil ?_
    refine Then.nx ?_
    refine W.ret ?_
    refine InB.r ?_
    refine Then.r ?_
    refine Then.r ?_
    refine InB.r ?_
    refine Then.r ?_
    refine BodyQ.ret1 Tryd.results83 (ResV.tmp _ rfl) ?_
    first | exact ⟨(qa, qn, qc), rfl, .inr ⟨i, by (rw [hy1]; congr 1), hq1⟩, S⟩ | exact ⟨sl0, rfl, .inl ⟨rfl, fun hm => (by (obtain ⟨j, hj⟩ := List.getElem?_of_mem hm; exact hnot j (by (have := at_lt hj; omega)) hj))⟩, S⟩
   ·
    have rh2 := h2
    (try simp only [Q1, Q2, Q3, Q4, Q5, Q6, Q7, Q8, Q9, Qa] at h2)
    refine W.skip ?_
    refine InB.nx ?_
    refine Then.nx ?_
    refine W.region rfl ?_
    refine WO.q (Y.move (v := .int .i64 _) rfl) ?_
    first | refine WO.q (Y.addI rfl rfl (by omega)) ?_ | refine WO.q (Y.add rfl rfl) ?_
    refine WO.q (Y.assign (v := .int .i64 _) rfl) ?_
    refine WO.nil ?_
    refine Then.nx ⟨?_, ?_, ?_⟩
    ·
     (repeat (first | exact Out.hav _ _ _ | exact Out.refl _ _ | refine Out.up rfl ?_ | refine Out.sub rfl ?_))
    ·
     exact ⟨i + 1, rfl, by omega, fun j hj => by (rcases Nat.lt_succ_iff_lt_or_eq.1 hj with hj | rfl; exact hnot j hj; rw [hy1]; intro e; exact absurd (Option.some.inj e) (by assumption)), S⟩
    ·
     (show bc.length - (i + 1) < bc.length - i; omega)
  ·
   have rh1 := h1
   (try simp only [Q1, Q2, Q3, Q4, Q5, Q6, Q7, Q8, Q9, Qa] at h1)
   refine W.exit ?_
   refine Then.x ?_
   refine Then.x ?_
   refine InB.e ?_
   refine Then.nx ?_
   refine W.seq ?_
   refine W.region rfl ?_
   refine WO.q (Y.assign (v := .slice _ _ _) rfl) ?_
   refine WO.nil ?_
   refine Then.nx ?_
   refine W.ret ?_
   refine BodyQ.ret1 Tryd.results83 (ResV.tmp _ rfl) ?_
   first | exact ⟨(qa, qn, qc), rfl, .inr ⟨i, by (rw [hy1]; congr 1), hq1⟩, S⟩ | exact ⟨sl0, rfl, .inl ⟨rfl, fun hm => (by (obtain ⟨j, hj⟩ := List.getElem?_of_mem hm; exact hnot j (by (have := at_lt hj; omega)) hj))⟩, S⟩
theorem bset_spec (w0 w : World) (bb : Nat) (bc : List Int) (bk : List SlV) (abc abk : Option Addr) (cbc cbk : Nat) (x : Int) (q : SlV) (L : List HA) (hl : bk.length = bc.length) (hb : bc.length ≤ 4096) (S : Sat w0 w (Cel bb [.slice abc bc.length cbc, .slice abk bk.length cbk] 154 :: Own (tI .i64) 3 abc cbc bc :: Own tSl 27 abk cbk bk :: L)) :
    Calls Tryd.prog 84 [.pointer (some ⟨bb, 0, none⟩), .int .i64 x, .slice q.1 q.2.1 q.2.2].toArray w (fun e w' => ∃ (bc' : List Int) (bk' : List SlV) (abc' abk' : Option Addr) (cbc' cbk' : Nat), e = .returned (.tuple #[]) ∧ BookSet bc bc' bk bk' x q ∧ bc'.length ≤ bc.length + 1 ∧ Sat w0 w' (Cel bb [.slice abc' bc'.length cbc', .slice abk' bk'.length cbk'] 154 :: Own (tI .i64) 3 abc' cbc' bc' :: Own tSl 27 abk' cbk' bk' :: L)) := by
 refine calls_of_W (args := [.pointer (some ⟨bb, 0, none⟩), .int .i64 x, .slice q.1 q.2.1 q.2.2]) 52 Tryd.func84 rfl Tryd.ntmps84 rfl ?_
 refine W.seq ?_
 refine W.seq ?_
 refine W.region rfl ?_
 refine WO.q (Y.assign (v := .int .i64 _) rfl) ?_
 refine WO.nil ?_
 refine Then.nx ?_
 refine W.block ?_
 -- loop 0 carries 6:i
 refine W.loop1 [6, 7, 8, 9, 10, 11, 12, 13, 14, 15, 16, 17, 18, 19, 20, 21, 22, 23, 24, 25, 26, 27, 28, 29, 30, 31] 6 (fun v6 w => ∃ i : Nat, v6 = .int .i64 (i : Int) ∧ i ≤ bc.length ∧ (∀ j, j < i → ¬ bc[j]? = some x) ∧ Sat w0 w (Cel bb [.slice abc bc.length cbc, .slice abk bk.length cbk] 154 :: Own (tI .i64) 3 abc cbc bc :: Own tSl 27 abk cbk bk :: L)) (fun v6 w => bc.length - (intOf v6).toNat) ?_ ?_
 ·
  exact ⟨0, rfl, Nat.zero_le _, fun j h => by omega, S⟩
 ·
  rintro g0 v6 w ⟨i, rfl, hi, hnot, S⟩
  refine W.seq ?_
  refine W.seq ?_
  refine W.region rfl ?_
  refine WO.q (Y.move (v := .int .i64 _) rfl) ?_
  first | refine WO.q (Y.move (v := .pointer (some _)) rfl) ?_ | refine WO.q (Y.move (v := .pointer _) rfl) ?_
  refine WO.q (Y.nilP rfl) ?_
  first | refine WO.q (Y.fieldB fo_154_0 rfl) ?_ | refine WO.q (Y.fieldE fo_154_0 rfl) ?_
  first | refine WO.q (Y.load rfl (loadS1 sz_27 S 0 rfl rfl)) ?_ | refine WO.q (Y.load rfl (loadS1 sz_27 S 1 rfl rfl)) ?_ | refine WO.q (Y.load rfl (loadRdF sz_27 (S.rd 1 rfl) (by assumption) rfl)) ?_ | refine WO.q (Y.load rfl (loadRd1 sz_27 (S.rd 1 rfl) (by assumption) rfl)) ?_
  refine WO.q (Y.len (t' := 0) Tryd.underlying27 rfl) ?_
  refine WO.q (Y.lss rfl rfl) ?_
  refine WO.nil ?_
  refine Then.nx ?_
  refine W.cond rfl (fun h1 => ?_) (fun h1 => ?_) -- cond 0
  ·
   have rh1 := h1
   (try simp only [Q1, Q2, Q3, Q4, Q5, Q6, Q7, Q8, Q9, Qa] at h1)
   obtain ⟨y, hy1⟩ := at_ex (xs := bc) (k := i) (by omega)
   obtain ⟨⟨qa, qn, qc⟩, hq1⟩ := at_ex (xs := bk) (k := i) (by omega)
   have hab := (S.rd 1 rfl).1 (by omega)
   have hak := (S.rd 2 rfl).1 (by omega)
   refine W.skip ?_
   refine Then.nx ?_
   refine W.seq ?_
   refine W.block ?_
   refine W.seq ?_
   refine W.region rfl ?_
   first | refine WO.q (Y.move (v := .pointer (some _)) rfl) ?_ | refine WO.q (Y.move (v := .pointer _) rfl) ?_
   refine WO.q (Y.nilP rfl) ?_
   first | refine WO.q (Y.fieldB fo_154_0 rfl) ?_ | refine WO.q (Y.fieldE fo_154_0 rfl) ?_
   first | refine WO.q (Y.load rfl (loadS1 sz_27 S 0 rfl rfl)) ?_ | refine WO.q (Y.load rfl (loadS1 sz_27 S 1 rfl rfl)) ?_ | refine WO.q (Y.load rfl (loadRdF sz_27 (S.rd 1 rfl) (by assumption) rfl)) ?_ | refine WO.q (Y.load rfl (loadRd1 sz_27 (S.rd 1 rfl) (by assumption) rfl)) ?_
   refine WO.q (Y.move (v := .int .i64 _) rfl) ?_
   first | refine WO.q (Y.ixN sl_27 rfl rfl (by (first | assumption | rfl)) (by (first | assumption | omega))) ?_ | refine WO.q (Y.ix sl_27 rfl rfl (by (first | assumption | rfl)) (by (first | assumption | omega)) (by (first | assumption | omega))) ?_
   refine WO.q (Y.load rfl (loadRd1 sz_3 (S.rd 1 rfl) (by assumption) rfl)) ?_
   refine WO.q (Y.move (v := .int .i64 _) rfl) ?_
   refine WO.q (Y.eql rfl rfl) ?_
   refine WO.nil ?_
   refine Then.nx ?_
   refine W.cond rfl (fun h2 => ?_) (fun h2 => ?_) -- cond 1
   ·
    have rh2 := h2
    (try simp only [Q1, Q2, Q3, Q4, Q5, Q6, Q7, Q8, Q9, Qa] at h2)
    refine W.seq ?_
    refine W.region rfl ?_
    first | refine WO.q (Y.move (v := .pointer (some _)) rfl) ?_ | refine WO.q (Y.move (v := .pointer _) rfl) ?_
    refine WO.q (Y.nilP rfl) ?_
    first | refine WO.q (Y.fieldB fo_154_1 rfl) ?_ | refine WO.q (Y.fieldE fo_154_1 rfl) ?_
    first | refine WO.q (Y.load rfl (loadS1 sz_36 S 0 rfl rfl)) ?_ | refine WO.q (Y.load rfl (loadS1 sz_36 S 1 rfl rfl)) ?_ | refine WO.q (Y.load rfl (loadRdF sz_36 (S.rd 1 rfl) (by assumption) rfl)) ?_ | refine WO.q (Y.load rfl (loadRd1 sz_36 (S.rd 1 rfl) (by assumption) rfl)) ?_
    refine WO.q (Y.move (v := .int .i64 _) rfl) ?_
    refine WO.q (Y.move (v := .slice _ _ _) rfl) ?_
    first | refine WO.q (Y.ixN sl_36 rfl rfl (by (first | assumption | rfl)) (by (first | assumption | omega))) ?_ | refine WO.q (Y.ix sl_36 rfl rfl (by (first | assumption | rfl)) (by (first | assumption | omega)) (by (first | assumption | omega))) ?_
    refine WO.e0 (O.storeEl 2 q S rfl rfl (by omega) rfl sz_27 rfl (fun w S => ?_))
    refine WO.nil ?_
    refine Then.nx ?_
    refine W.ret ?_
    refine InB.r ?_
    refine Then.r ?_
    refine Then.r ?_
    refine InB.r ?_
    refine Then.r ?_
    refine BodyQ.ret0 Tryd.results84 ?_
    first | exact ⟨bc, bk.set i q, abc, abk, cbc, cbk, rfl, .inl ⟨i, by (rw [hy1]; congr 1), rfl, rfl⟩, by omega, by (rw [List.length_set]; exact S)⟩ | exact ⟨bc ++ [x], bk ++ [q], a39, a49, c39, c49, rfl, .inr ⟨fun hm => (by (obtain ⟨j, hj⟩ := List.getElem?_of_mem hm; exact hnot j (by (have := at_lt hj; omega)) hj)), rfl, rfl⟩, by (simp), S⟩
   ·
    have rh2 := h2
    (try simp only [Q1, Q2, Q3, Q4, Q5, Q6, Q7, Q8, Q9, Qa] at h2)
    refine W.skip ?_
    refine InB.nx ?_
    refine Then.nx ?_
    refine W.region rfl ?_
    refine WO.q (Y.move (v := .int .i64 _) rfl) ?_
    first | refine WO.q (Y.addI rfl rfl (by omega)) ?_ | refine WO.q (Y.add rfl rfl) ?_
    refine WO.q (Y.assign (v := .int .i64 _) rfl) ?_
    refine WO.nil ?_
    refine Then.nx ⟨?_, ?_, ?_⟩
    ·
     (repeat (first | exact Out.hav _ _ _ | exact Out.refl _ _ | refine Out.up rfl ?_ | refine Out.sub rfl ?_))
    ·
     exact ⟨i + 1, rfl, by omega, fun j hj => by (rcases Nat.lt_succ_iff_lt_or_eq.1 hj with hj | rfl; exact hnot j hj; rw [hy1]; intro e; exact absurd (Option.some.inj e) (by assumption)), S⟩
    ·
     (show bc.length - (i + 1) < bc.length - i; omega)
  ·
   have rh1 := h1
   (try simp only [Q1, Q2, Q3, Q4, Q5, Q6, Q7, Q8, Q9, Qa] at h1)
   refine W.exit ?_
   refine Then.x ?_
   refine Then.x ?_
   refine InB.e ?_
   refine Then.nx ?_
   refine W.seq ?_
   refine W.region rfl ?_
   first | refine WO.q (Y.move (v := .pointer (some _)) rfl) ?_ | refine WO.q (Y.move (v := .pointer _) rfl) ?_
   first | refine WO.q (Y.move (v := .pointer (some _)) rfl) ?_ | refine WO.q (Y.move (v := .pointer _) rfl) ?_
   refine WO.q (Y.nilP rfl) ?_
   first | refine WO.q (Y.fieldB fo_154_0 rfl) ?_ | refine WO.q (Y.fieldE fo_154_0 rfl) ?_
   first | refine WO.q (Y.load rfl (loadS1 sz_27 S 0 rfl rfl)) ?_ | refine WO.q (Y.load rfl (loadS1 sz_27 S 1 rfl rfl)) ?_ | refine WO.q (Y.load rfl (loadRdF sz_27 (S.rd 1 rfl) (by assumption) rfl)) ?_ | refine WO.q (Y.load rfl (loadRd1 sz_27 (S.rd 1 rfl) (by assumption) rfl)) ?_
   refine WO.q (Y.move (v := .int .i64 _) rfl) ?_
   first | refine WO.e (O.buildSlice rfl (buildOne sl_27 (by decide) rfl rfl) S (fun b38 w S => ?_)) | refine WO.e (O.buildSlice rfl (buildOne sl_27 (by decide) rfl (by simp)) S (fun b38 w S => ?_)) | refine WO.e (O.buildSlice rfl (bs_27_1_0) S (fun b38 w S => ?_))
   refine WO.e (O.append (T := tI .i64) (ys := [x]) 2 sl_27 S rfl rfl rfl rfl (S.rd1 (T := tI .i64) (x := x) 0 rfl) rfl (by (simp only [List.length_singleton]; omega)) (by (simp only [List.length_singleton, maxLen]; omega)) (fun a39 c39 w S hn39 => ?_))
   refine WO.q (Y.nilP rfl) ?_
   first | refine WO.q (Y.fieldB fo_154_0 rfl) ?_ | refine WO.q (Y.fieldE fo_154_0 rfl) ?_
   refine WO.e0 (O.store (v := .slice _ _ _) 1 S rfl rfl rfl sz_27 rfl rfl rfl rfl (fun w S => ?_))
   replace S := S.tl
   refine WO.nil ?_
   refine Then.nx ?_
   refine W.region rfl ?_
   first | refine WO.q (Y.move (v := .pointer (some _)) rfl) ?_ | refine WO.q (Y.move (v := .pointer _) rfl) ?_
   first | refine WO.q (Y.move (v := .pointer (some _)) rfl) ?_ | refine WO.q (Y.move (v := .pointer _) rfl) ?_
   refine WO.q (Y.nilP rfl) ?_
   first | refine WO.q (Y.fieldB fo_154_1 rfl) ?_ | refine WO.q (Y.fieldE fo_154_1 rfl) ?_
   first | refine WO.q (Y.load rfl (loadS1 sz_36 S 0 rfl rfl)) ?_ | refine WO.q (Y.load rfl (loadS1 sz_36 S 1 rfl rfl)) ?_ | refine WO.q (Y.load rfl (loadRdF sz_36 (S.rd 1 rfl) (by assumption) rfl)) ?_ | refine WO.q (Y.load rfl (loadRd1 sz_36 (S.rd 1 rfl) (by assumption) rfl)) ?_
   refine WO.q (Y.move (v := .slice _ _ _) rfl) ?_
   first | refine WO.e (O.buildSlice rfl (buildOne sl_36 (by decide) rfl rfl) S (fun b48 w S => ?_)) | refine WO.e (O.buildSlice rfl (buildOne sl_36 (by decide) rfl (by simp)) S (fun b48 w S => ?_)) | refine WO.e (O.buildSlice rfl (bs_36_1_0) S (fun b48 w S => ?_))
   refine WO.e (O.append (T := tSl) (ys := [q]) 3 sl_36 S rfl rfl rfl rfl (S.rd1 (T := tSl) (x := q) 0 rfl) rfl (by (simp only [List.length_singleton]; omega)) (by (simp only [List.length_singleton, maxLen]; omega)) (fun a49 c49 w S hn49 => ?_))
   refine WO.q (Y.nilP rfl) ?_
   first | refine WO.q (Y.fieldB fo_154_1 rfl) ?_ | refine WO.q (Y.fieldE fo_154_1 rfl) ?_
   refine WO.e0 (O.store (v := .slice _ _ _) 1 S rfl rfl rfl sz_36 rfl rfl rfl rfl (fun w S => ?_))
   replace S := S.tl
   refine WO.nil ?_
   refine BodyQ.end0 Tryd.results84 ?_
   first | exact ⟨bc, bk.set i q, abc, abk, cbc, cbk, rfl, .inl ⟨i, by (rw [hy1]; congr 1), rfl, rfl⟩, by omega, by (rw [List.length_set]; exact S)⟩ | exact ⟨bc ++ [x], bk ++ [q], a39, a49, c39, c49, rfl, .inr ⟨fun hm => (by (obtain ⟨j, hj⟩ := List.getElem?_of_mem hm; exact hnot j (by (have := at_lt hj; omega)) hj)), rfl, rfl⟩, by (simp), S⟩
theorem Threads_spec (w0 : World) (a : Option Addr) (c : Nat) (l : List Access) (R1 : Rd tAccess w0 a l) (hx : l.length ≤ 4096) (hok : mayOk l = true) :
    Calls Tryd.prog 81 [.slice a l.length c].toArray w0 (fun e w => e = .returned (.int .i64 (mayN l)) ∧ Ext w0 w) := by
 have S := Sat.refl w0
 refine calls_of_W (args := [.slice a l.length c]) 34 Tryd.func81 rfl Tryd.ntmps81 rfl ?_
 refine W.seq ?_
 refine W.region rfl ?_
 refine WO.q (Y.assign (v := .int .i64 _) rfl) ?_
 refine WO.nil ?_
 refine Then.nx ?_
 refine W.seq ?_
 refine W.region rfl ?_
 refine WO.q (Y.assign (v := .int .i64 _) rfl) ?_
 refine WO.nil ?_
 refine Then.nx ?_
 refine W.seq ?_
 refine W.seq ?_
 refine W.region rfl ?_
 refine WO.q (Y.assign (v := .int .i64 _) rfl) ?_
 refine WO.nil ?_
 refine Then.nx ?_
 refine W.block ?_
 -- loop 0 carries 3:n, 4:i
 refine W.loop2 [3, 4, 5, 6, 7, 8, 9, 10, 11, 12, 13, 14, 15, 16, 17, 18, 19, 20, 21, 22, 23, 24, 25, 26, 27, 28, 29, 30, 31, 32] 3 4 (fun v3 v4 w => ∃ (i : Nat) (n : Int), v4 = .int .i64 (i : Int) ∧ i ≤ l.length ∧ v3 = .int .i64 n ∧ (l.take i).foldl thr 0 = n ∧ (0 ≤ n ∧ n ≤ 64) ∧ Sat w0 w []) (fun v3 v4 w => l.length - (intOf v4).toNat) ?_ ?_
 ·
  exact ⟨0, 0, rfl, Nat.zero_le _, rfl, rfl, by omega, S⟩
 ·
  rintro g0 v3 v4 w ⟨i, n, rfl, hi, rfl, hn, hnb, S⟩
  refine W.seq ?_
  refine W.seq ?_
  refine W.region rfl ?_
  refine WO.q (Y.move (v := .int .i64 _) rfl) ?_
  refine WO.q (Y.move (v := .slice _ _ _) rfl) ?_
  refine WO.q (Y.len (t' := 0) Tryd.underlying64 rfl) ?_
  refine WO.q (Y.lss rfl rfl) ?_
  refine WO.nil ?_
  refine Then.nx ?_
  refine W.cond rfl (fun h1 => ?_) (fun h1 => ?_) -- cond 0
  ·
   have rh1 := h1
   (try simp only [Q1, Q2, Q3, Q4, Q5, Q6, Q7, Q8, Q9, Qa] at h1)
   have ha := R1.1 (by omega)
   obtain ⟨x, hx1⟩ := at_ex (xs := l) (k := i) (by omega)
   have hox := (okA_iff x).1 (List.all_eq_true.1 hok x (List.mem_of_getElem? hx1))
   refine W.skip ?_
   refine Then.nx ?_
   refine W.seq ?_
   refine W.block ?_
   refine W.seq ?_
   refine W.region rfl ?_
   refine WO.q (Y.move (v := .int .i64 _) rfl) ?_
   refine WO.q (Y.move (v := .slice _ _ _) rfl) ?_
   refine WO.q (Y.move (v := .int .i64 _) rfl) ?_
   first | refine WO.q (Y.ixN sl_64 rfl rfl (by (first | assumption | rfl)) (by (first | assumption | omega))) ?_ | refine WO.q (Y.ix sl_64 rfl rfl (by (first | assumption | rfl)) (by (first | assumption | omega)) (by (first | assumption | omega))) ?_
   refine WO.q (Y.fieldE fo_71_0 rfl) ?_
   refine WO.q (Y.load rfl (loadRdF sz_3 (R1.ext S.ext) (by assumption) rfl)) ?_
   first | refine WO.q (Y.addI rfl rfl (by omega)) ?_ | refine WO.q (Y.add rfl rfl) ?_
   refine WO.q (Y.max2 rfl rfl) ?_
   refine WO.q (Y.assign (v := .int .i64 _) rfl) ?_
   refine WO.nil ?_
   refine Then.nx ?_
   refine W.seq ?_
   refine W.region rfl ?_
   refine WO.q (Y.move (v := .slice _ _ _) rfl) ?_
   refine WO.q (Y.move (v := .int .i64 _) rfl) ?_
   first | refine WO.q (Y.ixN sl_64 rfl rfl (by (first | assumption | rfl)) (by (first | assumption | omega))) ?_ | refine WO.q (Y.ix sl_64 rfl rfl (by (first | assumption | rfl)) (by (first | assumption | omega)) (by (first | assumption | omega))) ?_
   refine WO.q (Y.fieldE fo_71_1 rfl) ?_
   refine WO.q (Y.load rfl (loadRdF sz_56 (R1.ext S.ext) (by assumption) rfl)) ?_
   refine WO.q (Y.eql rfl rfl) ?_
   refine WO.nil ?_
   refine Then.nx ?_
   refine W.cond rfl (fun h2 => ?_) (fun h2 => ?_) -- cond 1
   ·
    have rh2 := h2
    (try simp only [Q1, Q2, Q3, Q4, Q5, Q6, Q7, Q8, Q9, Qa] at h2)
    refine W.region rfl ?_
    refine WO.q (Y.move (v := .int .i64 _) rfl) ?_
    refine WO.q (Y.move (v := .slice _ _ _) rfl) ?_
    refine WO.q (Y.move (v := .int .i64 _) rfl) ?_
    first | refine WO.q (Y.ixN sl_64 rfl rfl (by (first | assumption | rfl)) (by (first | assumption | omega))) ?_ | refine WO.q (Y.ix sl_64 rfl rfl (by (first | assumption | rfl)) (by (first | assumption | omega)) (by (first | assumption | omega))) ?_
    refine WO.q (Y.fieldE fo_71_6 rfl) ?_
    refine WO.q (Y.load rfl (loadRdF sz_2 (R1.ext S.ext) (by assumption) rfl)) ?_
    first | refine WO.q (Y.addI rfl rfl (by omega)) ?_ | refine WO.q (Y.add rfl rfl) ?_
    refine WO.q (Y.max2 rfl rfl) ?_
    refine WO.q (Y.assign (v := .int .i64 _) rfl) ?_
    refine WO.nil ?_
    refine InB.nx ?_
    refine Then.nx ?_
    refine W.region rfl ?_
    refine WO.q (Y.move (v := .int .i64 _) rfl) ?_
    first | refine WO.q (Y.addI rfl rfl (by omega)) ?_ | refine WO.q (Y.add rfl rfl) ?_
    refine WO.q (Y.assign (v := .int .i64 _) rfl) ?_
    refine WO.nil ?_
    refine Then.nx ⟨?_, ?_, ?_⟩
    ·
     (repeat (first | exact Out.hav _ _ _ | exact Out.refl _ _ | refine Out.up rfl ?_ | refine Out.sub rfl ?_))
    ·
     (have ht := take_succ_at hx1); exact ⟨i + 1, thr n x, rfl, by omega, by (show Value.int .i64 _ = Value.int .i64 _; unfold thr; first | rw [if_pos (by omega)] | rw [if_neg (by omega)]), by (rw [ht, List.foldl_append, hn]; rfl), by (unfold thr; split <;> omega), S⟩
    ·
     (show l.length - (i + 1) < l.length - i; omega)
   ·
    have rh2 := h2
    (try simp only [Q1, Q2, Q3, Q4, Q5, Q6, Q7, Q8, Q9, Qa] at h2)
    refine W.skip ?_
    refine InB.nx ?_
    refine Then.nx ?_
    refine W.region rfl ?_
    refine WO.q (Y.move (v := .int .i64 _) rfl) ?_
    first | refine WO.q (Y.addI rfl rfl (by omega)) ?_ | refine WO.q (Y.add rfl rfl) ?_
    refine WO.q (Y.assign (v := .int .i64 _) rfl) ?_
    refine WO.nil ?_
    refine Then.nx ⟨?_, ?_, ?_⟩
    ·
     (repeat (first | exact Out.hav _ _ _ | exact Out.refl _ _ | refine Out.up rfl ?_ | refine Out.sub rfl ?_))
    ·
     (have ht := take_succ_at hx1); exact ⟨i + 1, thr n x, rfl, by omega, by (show Value.int .i64 _ = Value.int .i64 _; unfold thr; first | rw [if_pos (by omega)] | rw [if_neg (by omega)]), by (rw [ht, List.foldl_append, hn]; rfl), by (unfold thr; split <;> omega), S⟩
    ·
     (show l.length - (i + 1) < l.length - i; omega)
  ·
   have rh1 := h1
   (try simp only [Q1, Q2, Q3, Q4, Q5, Q6, Q7, Q8, Q9, Qa] at h1)
   refine W.exit ?_
   refine Then.x ?_
   refine Then.x ?_
   refine InB.e ?_
   refine Then.nx ?_
   refine W.seq ?_
   refine W.region rfl ?_
   refine WO.q (Y.move (v := .int .i64 _) rfl) ?_
   refine WO.q (Y.assign (v := .int .i64 _) rfl) ?_
   refine WO.nil ?_
   refine Then.nx ?_
   refine W.ret ?_
   refine BodyQ.ret1 Tryd.results81 (ResV.tmp _ rfl) ?_
   have e : l.take i = l := List.take_of_length_le (by omega); rw [e] at hn; exact ⟨by (rw [mayN_eq hok, hn]; rfl), S.ext⟩
theorem rMay_spec (w0 : World) (a : Option Addr) (c : Nat) (l : List Access) (R1 : Rd tAccess w0 a l) (hx : l.length ≤ 9223372036854775807) :
    Calls Tryd.prog 66 [.slice a l.length c].toArray w0 (fun e w => e = .returned (.bool (mayOk l)) ∧ Ext w0 w) := by
 have S := Sat.refl w0
 refine calls_of_W (args := [.slice a l.length c]) 67 Tryd.func66 rfl Tryd.ntmps66 rfl ?_
 refine W.seq ?_
 refine W.region rfl ?_
 refine WO.q (Y.assign (v := .bool _) rfl) ?_
 refine WO.nil ?_
 refine Then.nx ?_
 refine W.seq ?_
 refine W.seq ?_
 refine W.region rfl ?_
 refine WO.q (Y.assign (v := .int .i64 _) rfl) ?_
 refine WO.nil ?_
 refine Then.nx ?_
 refine W.block ?_
 -- loop 0 carries 3:i
 refine W.loop1 [2, 3, 4, 5, 6, 7, 8, 9, 10, 11, 12, 13, 14, 15, 16, 17, 18, 19, 20, 21, 22, 23, 24, 25, 26, 27, 28, 29, 30, 31, 32, 33, 34, 35, 36, 37, 38, 39, 40, 41, 42, 43, 44, 45, 46, 47, 48, 49, 50, 51, 52, 53, 54, 55, 56, 57, 58, 59, 60, 61, 62, 63, 64, 65, 66] 3 (fun v3 w => ∃ i : Nat, v3 = .int .i64 (i : Int) ∧ i ≤ l.length ∧ (∀ x ∈ l.take i, okA x = true) ∧ Sat w0 w []) (fun v3 w => l.length - (intOf v3).toNat) ?_ ?_
 ·
  exact ⟨0, rfl, Nat.zero_le _, by simp, S⟩
 ·
  rintro g0 v3 w ⟨i, rfl, hi, hall, S⟩
  refine W.seq ?_
  refine W.seq ?_
  refine W.region rfl ?_
  refine WO.q (Y.move (v := .int .i64 _) rfl) ?_
  refine WO.q (Y.move (v := .slice _ _ _) rfl) ?_
  refine WO.q (Y.len (t' := 0) Tryd.underlying64 rfl) ?_
  refine WO.q (Y.lss rfl rfl) ?_
  refine WO.nil ?_
  refine Then.nx ?_
  refine W.cond rfl (fun h1 => ?_) (fun h1 => ?_) -- cond 0
  ·
   have rh1 := h1
   (try simp only [Q1, Q2, Q3, Q4, Q5, Q6, Q7, Q8, Q9, Qa] at h1)
   have ha := R1.1 (by omega)
   obtain ⟨x, hx1⟩ := at_ex (xs := l) (k := i) (by omega)
   refine W.skip ?_
   refine Then.nx ?_
   refine W.seq ?_
   refine W.block ?_
   refine W.seq ?_
   refine W.region rfl ?_
   refine WO.q (Y.move (v := .slice _ _ _) rfl) ?_
   refine WO.q (Y.move (v := .int .i64 _) rfl) ?_
   first | refine WO.q (Y.ixN sl_64 rfl rfl (by (first | assumption | rfl)) (by (first | assumption | omega))) ?_ | refine WO.q (Y.ix sl_64 rfl rfl (by (first | assumption | rfl)) (by (first | assumption | omega)) (by (first | assumption | omega))) ?_
   refine WO.q (Y.load rfl (loadRdN sz_71 (R1.ext S.ext) (by assumption))) ?_
   refine WO.e (O.alloc z_71 S (fun b4 w S => ?_))
   refine WO.e0 (O.store (v := .agg _) 0 S rfl rfl rfl sz_71 rfl rfl rfl rfl (fun w S => ?_))
   refine WO.nil ?_
   refine Then.nx ?_
   refine W.seq ?_
   refine W.seq ?_
   refine W.region rfl ?_
   refine WO.q (Y.fieldB fo_71_0 rfl) ?_
   refine WO.q (Y.load rfl (loadS1 sz_3 S 0 rfl rfl)) ?_
   refine WO.q (Y.lss rfl rfl) ?_
   refine WO.q (Y.move (v := .bool _) rfl) ?_
   refine WO.splitB (fun h2 => ?_) (fun h2 => ?_)
   ·
    (try simp only [Q1, Q2, Q3, Q4, Q5, Q6, Q7, Q8, Q9, Qa] at h2)
    refine WO.qF rfl ?_
    refine WO.qF rfl ?_
    refine WO.qF rfl ?_
    refine WO.q (Y.pickT (u := .bool _) rfl rfl) ?_
    refine WO.q (Y.move (v := .bool _) rfl) ?_
    refine WO.qF rfl ?_
    refine WO.qF rfl ?_
    refine WO.qF rfl ?_
    refine WO.q (Y.pickT (u := .bool _) rfl rfl) ?_
    refine WO.q (Y.move (v := .bool _) rfl) ?_
    refine WO.qF rfl ?_
    refine WO.qF rfl ?_
    refine WO.qF rfl ?_
    refine WO.q (Y.pickT (u := .bool _) rfl rfl) ?_
    refine WO.nil ?_
    refine Then.nx ?_
    first | refine W.condT rfl ?_ | refine W.condT (congrArg Value.bool (by assumption)) ?_
    refine W.seq ?_
    refine W.region rfl ?_
    refine WO.q (Y.assign (v := .bool _) rfl) ?_
    refine WO.nil ?_
    refine Then.nx ?_
    refine W.ret ?_
    refine Then.r ?_
    refine InB.r ?_
    refine Then.r ?_
    refine Then.r ?_
    refine InB.r ?_
    refine Then.r ?_
    refine BodyQ.ret1 Tryd.results66 (ResV.tmp _ rfl) ?_
    first | exact ⟨retB (by (symm; exact List.all_eq_false.2 ⟨x, List.mem_of_getElem? hx1, by (rw [okA_iff]; omega)⟩)), S.ext⟩ | (have e : l.take i = l := List.take_of_length_le (by omega); rw [e] at hall; exact ⟨retB (List.all_eq_true.2 hall).symm, S.ext⟩)
   ·
    (try simp only [Q1, Q2, Q3, Q4, Q5, Q6, Q7, Q8, Q9, Qa] at h2)
    refine WO.qT rfl (Y.fieldB fo_71_0 rfl) ?_
    refine WO.qT rfl (Y.load rfl (loadS1 sz_3 S 0 rfl rfl)) ?_
    refine WO.qT rfl (Y.geq rfl rfl) ?_
    refine WO.q (Y.pickF (u := .bool _) rfl rfl) ?_
    refine WO.q (Y.move (v := .bool _) rfl) ?_
    refine WO.splitB (fun h3 => ?_) (fun h3 => ?_)
    ·
     (try simp only [Q1, Q2, Q3, Q4, Q5, Q6, Q7, Q8, Q9, Qa] at h3)
     refine WO.qF rfl ?_
     refine WO.qF rfl ?_
     refine WO.qF rfl ?_
     refine WO.q (Y.pickT (u := .bool _) rfl rfl) ?_
     refine WO.q (Y.move (v := .bool _) rfl) ?_
     refine WO.qF rfl ?_
     refine WO.qF rfl ?_
     refine WO.qF rfl ?_
     refine WO.q (Y.pickT (u := .bool _) rfl rfl) ?_
     refine WO.nil ?_
     refine Then.nx ?_
     first | refine W.condT rfl ?_ | refine W.condT (congrArg Value.bool (by assumption)) ?_
     refine W.seq ?_
     refine W.region rfl ?_
     refine WO.q (Y.assign (v := .bool _) rfl) ?_
     refine WO.nil ?_
     refine Then.nx ?_
     refine W.ret ?_
     refine Then.r ?_
     refine InB.r ?_
     refine Then.r ?_
     refine Then.r ?_
     refine InB.r ?_
     refine Then.r ?_
     refine BodyQ.ret1 Tryd.results66 (ResV.tmp _ rfl) ?_
     first | exact ⟨retB (by (symm; exact List.all_eq_false.2 ⟨x, List.mem_of_getElem? hx1, by (rw [okA_iff]; omega)⟩)), S.ext⟩ | (have e : l.take i = l := List.take_of_length_le (by omega); rw [e] at hall; exact ⟨retB (List.all_eq_true.2 hall).symm, S.ext⟩)
    ·
     (try simp only [Q1, Q2, Q3, Q4, Q5, Q6, Q7, Q8, Q9, Qa] at h3)
     refine WO.qT rfl (Y.fieldB fo_71_1 rfl) ?_
     refine WO.qT rfl (Y.load rfl (loadS1 sz_56 S 0 rfl rfl)) ?_
     refine WO.qT rfl (Y.lss rfl rfl) ?_
     refine WO.q (Y.pickF (u := .bool _) rfl rfl) ?_
     refine WO.q (Y.move (v := .bool _) rfl) ?_
     refine WO.splitB (fun h4 => ?_) (fun h4 => ?_)
     ·
      (try simp only [Q1, Q2, Q3, Q4, Q5, Q6, Q7, Q8, Q9, Qa] at h4)
      refine WO.qF rfl ?_
      refine WO.qF rfl ?_
      refine WO.qF rfl ?_
      refine WO.q (Y.pickT (u := .bool _) rfl rfl) ?_
      refine WO.nil ?_
      refine Then.nx ?_
      first | refine W.condT rfl ?_ | refine W.condT (congrArg Value.bool (by assumption)) ?_
      refine W.seq ?_
      refine W.region rfl ?_
      refine WO.q (Y.assign (v := .bool _) rfl) ?_
      refine WO.nil ?_
      refine Then.nx ?_
      refine W.ret ?_
      refine Then.r ?_
      refine InB.r ?_
      refine Then.r ?_
      refine Then.r ?_
      refine InB.r ?_
      refine Then.r ?_
      refine BodyQ.ret1 Tryd.results66 (ResV.tmp _ rfl) ?_
      first | exact ⟨retB (by (symm; exact List.all_eq_false.2 ⟨x, List.mem_of_getElem? hx1, by (rw [okA_iff]; omega)⟩)), S.ext⟩ | (have e : l.take i = l := List.take_of_length_le (by omega); rw [e] at hall; exact ⟨retB (List.all_eq_true.2 hall).symm, S.ext⟩)
     ·
      (try simp only [Q1, Q2, Q3, Q4, Q5, Q6, Q7, Q8, Q9, Qa] at h4)
      refine WO.qT rfl (Y.fieldB fo_71_1 rfl) ?_
      refine WO.qT rfl (Y.load rfl (loadS1 sz_56 S 0 rfl rfl)) ?_
      refine WO.qT rfl (Y.gtr rfl rfl) ?_
      refine WO.q (Y.pickF (u := .bool _) rfl rfl) ?_
      refine WO.nil ?_
      refine Then.nx ?_
      refine W.cond rfl (fun h5 => ?_) (fun h5 => ?_) -- cond 1
      ·
       have rh5 := h5
       (try simp only [Q1, Q2, Q3, Q4, Q5, Q6, Q7, Q8, Q9, Qa] at h5)
       refine W.seq ?_
       refine W.region rfl ?_
       refine WO.q (Y.assign (v := .bool _) rfl) ?_
       refine WO.nil ?_
       refine Then.nx ?_
       refine W.ret ?_
       refine Then.r ?_
       refine InB.r ?_
       refine Then.r ?_
       refine Then.r ?_
       refine InB.r ?_
       refine Then.r ?_
       refine BodyQ.ret1 Tryd.results66 (ResV.tmp _ rfl) ?_
       first | exact ⟨retB (by (symm; exact List.all_eq_false.2 ⟨x, List.mem_of_getElem? hx1, by (rw [okA_iff]; omega)⟩)), S.ext⟩ | (have e : l.take i = l := List.take_of_length_le (by omega); rw [e] at hall; exact ⟨retB (List.all_eq_true.2 hall).symm, S.ext⟩)
      ·
       have rh5 := h5
       (try simp only [Q1, Q2, Q3, Q4, Q5, Q6, Q7, Q8, Q9, Qa] at h5)
       refine W.skip ?_
       refine Then.nx ?_
       refine W.seq ?_
       refine W.seq ?_
       refine W.region rfl ?_
       refine WO.q (Y.fieldB fo_71_1 rfl) ?_
       refine WO.q (Y.load rfl (loadS1 sz_56 S 0 rfl rfl)) ?_
       refine WO.q (Y.eql rfl rfl) ?_
       refine WO.q (Y.move (v := .bool _) rfl) ?_
       refine WO.splitB (fun h6 => ?_) (fun h6 => ?_)
       ·
        (try simp only [Q1, Q2, Q3, Q4, Q5, Q6, Q7, Q8, Q9, Qa] at h6)
        refine WO.qF rfl ?_
        refine WO.qF rfl ?_
        refine WO.qF rfl ?_
        refine WO.q (Y.pickT (u := .bool _) rfl rfl) ?_
        refine WO.nil ?_
        refine Then.nx ?_
        first | refine W.condT rfl ?_ | refine W.condT (congrArg Value.bool (by assumption)) ?_
        refine W.seq ?_
        refine W.seq ?_
        refine W.region rfl ?_
        refine WO.q (Y.fieldB fo_71_2 rfl) ?_
        refine WO.q (Y.load rfl (loadS1 sz_3 S 0 rfl rfl)) ?_
        refine WO.q (Y.neq rfl rfl) ?_
        refine WO.q (Y.move (v := .bool _) rfl) ?_
        refine WO.splitB (fun h7 => ?_) (fun h7 => ?_)
        ·
         (try simp only [Q1, Q2, Q3, Q4, Q5, Q6, Q7, Q8, Q9, Qa] at h7)
         refine WO.qF rfl ?_
         refine WO.qF rfl ?_
         refine WO.qF rfl ?_
         refine WO.qF rfl ?_
         refine WO.qF rfl ?_
         refine WO.qF rfl ?_
         refine WO.qF rfl ?_
         refine WO.qF rfl ?_
         refine WO.qF rfl ?_
         refine WO.qF rfl ?_
         refine WO.qF rfl ?_
         refine WO.qF rfl ?_
         refine WO.qF rfl ?_
         refine WO.q (Y.pickT (u := .bool _) rfl rfl) ?_
         refine WO.nil ?_
         refine Then.nx ?_
         first | refine W.condT rfl ?_ | refine W.condT (congrArg Value.bool (by assumption)) ?_
         refine W.seq ?_
         refine W.region rfl ?_
         refine WO.q (Y.assign (v := .bool _) rfl) ?_
         refine WO.nil ?_
         refine Then.nx ?_
         refine W.ret ?_
         refine Then.r ?_
         refine Then.r ?_
         refine InB.r ?_
         refine Then.r ?_
         refine Then.r ?_
         refine InB.r ?_
         refine Then.r ?_
         refine BodyQ.ret1 Tryd.results66 (ResV.tmp _ rfl) ?_
         first | exact ⟨retB (by (symm; exact List.all_eq_false.2 ⟨x, List.mem_of_getElem? hx1, by (rw [okA_iff]; omega)⟩)), S.ext⟩ | (have e : l.take i = l := List.take_of_length_le (by omega); rw [e] at hall; exact ⟨retB (List.all_eq_true.2 hall).symm, S.ext⟩)
        ·
         (try simp only [Q1, Q2, Q3, Q4, Q5, Q6, Q7, Q8, Q9, Qa] at h7)
         refine WO.qT rfl (Y.fieldB fo_71_1 rfl) ?_
         refine WO.qT rfl (Y.load rfl (loadS1 sz_56 S 0 rfl rfl)) ?_
         refine WO.qT rfl (Y.eql rfl rfl) ?_
         refine WO.qT rfl (Y.move (v := .bool _) rfl) ?_
         refine WO.splitB (fun h8 => ?_) (fun h8 => ?_)
         ·
          (try simp only [Q1, Q2, Q3, Q4, Q5, Q6, Q7, Q8, Q9, Qa] at h8)
          refine WO.qT rfl (Y.fieldB fo_71_6 rfl) ?_
          refine WO.qT rfl (Y.load rfl (loadS1 sz_2 S 0 rfl rfl)) ?_
          refine WO.qT rfl (Y.lss rfl rfl) ?_
          refine WO.qT rfl (Y.move (v := .bool _) rfl) ?_
          refine WO.splitB (fun h9 => ?_) (fun h9 => ?_)
          ·
           (try simp only [Q1, Q2, Q3, Q4, Q5, Q6, Q7, Q8, Q9, Qa] at h9)
           refine WO.qF rfl ?_
           refine WO.qF rfl ?_
           refine WO.qF rfl ?_
           refine WO.qT rfl (Y.pickT (u := .bool _) rfl rfl) ?_
           refine WO.qT rfl (Y.pickT (u := .bool _) rfl rfl) ?_
           refine WO.q (Y.pickF (u := .bool _) rfl rfl) ?_
           refine WO.nil ?_
           refine Then.nx ?_
           first | refine W.condT rfl ?_ | refine W.condT (congrArg Value.bool (by assumption)) ?_
           refine W.seq ?_
           refine W.region rfl ?_
           refine WO.q (Y.assign (v := .bool _) rfl) ?_
           refine WO.nil ?_
           refine Then.nx ?_
           refine W.ret ?_
           refine Then.r ?_
           refine Then.r ?_
           refine InB.r ?_
           refine Then.r ?_
           refine Then.r ?_
           refine InB.r ?_
           refine Then.r ?_
           refine BodyQ.ret1 Tryd.results66 (ResV.tmp _ rfl) ?_
           first | exact ⟨retB (by (symm; exact List.all_eq_false.2 ⟨x, List.mem_of_getElem? hx1, by (rw [okA_iff]; omega)⟩)), S.ext⟩ | (have e : l.take i = l := List.take_of_length_le (by omega); rw [e] at hall; exact ⟨retB (List.all_eq_true.2 hall).symm, S.ext⟩)
          ·
           (try simp only [Q1, Q2, Q3, Q4, Q5, Q6, Q7, Q8, Q9, Qa] at h9)
           refine WO.qT rfl (Y.fieldB fo_71_6 rfl) ?_
           refine WO.qT rfl (Y.load rfl (loadS1 sz_2 S 0 rfl rfl)) ?_
           refine WO.qT rfl (Y.geq rfl rfl) ?_
           refine WO.qT rfl (Y.pickF (u := .bool _) rfl rfl) ?_
           refine WO.qT rfl (Y.pickT (u := .bool _) rfl rfl) ?_
           refine WO.q (Y.pickF (u := .bool _) rfl rfl) ?_
           refine WO.nil ?_
           refine Then.nx ?_
           refine W.cond rfl (fun h10 => ?_) (fun h10 => ?_) -- cond 2
           ·
            have rh10 := h10
            (try simp only [Q1, Q2, Q3, Q4, Q5, Q6, Q7, Q8, Q9, Qa] at h10)
            refine W.seq ?_
            refine W.region rfl ?_
            refine WO.q (Y.assign (v := .bool _) rfl) ?_
            refine WO.nil ?_
            refine Then.nx ?_
            refine W.ret ?_
            refine Then.r ?_
            refine Then.r ?_
            refine InB.r ?_
            refine Then.r ?_
            refine Then.r ?_
            refine InB.r ?_
            refine Then.r ?_
            refine BodyQ.ret1 Tryd.results66 (ResV.tmp _ rfl) ?_
            first | exact ⟨retB (by (symm; exact List.all_eq_false.2 ⟨x, List.mem_of_getElem? hx1, by (rw [okA_iff]; omega)⟩)), S.ext⟩ | (have e : l.take i = l := List.take_of_length_le (by omega); rw [e] at hall; exact ⟨retB (List.all_eq_true.2 hall).symm, S.ext⟩)
           ·
            have rh10 := h10
            (try simp only [Q1, Q2, Q3, Q4, Q5, Q6, Q7, Q8, Q9, Qa] at h10)
            refine W.skip ?_
            refine Then.nx ?_
            refine W.exit ?_
            refine Then.x ?_
            refine InB.e ?_
            refine Then.nx ?_
            refine W.region rfl ?_
            refine WO.q (Y.move (v := .int .i64 _) rfl) ?_
            first | refine WO.q (Y.addI rfl rfl (by omega)) ?_ | refine WO.q (Y.add rfl rfl) ?_
            refine WO.q (Y.assign (v := .int .i64 _) rfl) ?_
            refine WO.nil ?_
            refine Then.nx ⟨?_, ?_, ?_⟩
            ·
             (repeat (first | exact Out.hav _ _ _ | exact Out.refl _ _ | refine Out.up rfl ?_ | refine Out.sub rfl ?_))
            ·
             (have hok : okA x = true := by (rw [okA_iff]; omega)); (have ht := take_succ_at hx1); exact ⟨i + 1, rfl, by omega, by (intro y hy; rw [ht] at hy; rcases List.mem_append.1 hy with hy | hy; exact hall y hy; simp at hy; subst hy; exact hok), S.nil⟩
            ·
             (show l.length - (i + 1) < l.length - i; omega)
         ·
          (try simp only [Q1, Q2, Q3, Q4, Q5, Q6, Q7, Q8, Q9, Qa] at h8)
          refine WO.qF rfl ?_
          refine WO.qF rfl ?_
          refine WO.qF rfl ?_
          refine WO.qF rfl ?_
          refine WO.qF rfl ?_
          refine WO.qF rfl ?_
          refine WO.qF rfl ?_
          refine WO.qF rfl ?_
          refine WO.qT rfl (Y.pickF (u := .bool _) rfl rfl) ?_
          refine WO.q (Y.pickF (u := .bool _) rfl rfl) ?_
          refine WO.nil ?_
          refine Then.nx ?_
          first | refine W.condF rfl ?_ | refine W.condF (congrArg Value.bool (by assumption)) ?_
          refine W.skip ?_
          refine Then.nx ?_
          refine W.exit ?_
          refine Then.x ?_
          refine InB.e ?_
          refine Then.nx ?_
          refine W.region rfl ?_
          refine WO.q (Y.move (v := .int .i64 _) rfl) ?_
          first | refine WO.q (Y.addI rfl rfl (by omega)) ?_ | refine WO.q (Y.add rfl rfl) ?_
          refine WO.q (Y.assign (v := .int .i64 _) rfl) ?_
          refine WO.nil ?_
          refine Then.nx ⟨?_, ?_, ?_⟩
          ·
           (repeat (first | exact Out.hav _ _ _ | exact Out.refl _ _ | refine Out.up rfl ?_ | refine Out.sub rfl ?_))
          ·
           (have hok : okA x = true := by (rw [okA_iff]; omega)); (have ht := take_succ_at hx1); exact ⟨i + 1, rfl, by omega, by (intro y hy; rw [ht] at hy; rcases List.mem_append.1 hy with hy | hy; exact hall y hy; simp at hy; subst hy; exact hok), S.nil⟩
          ·
           (show l.length - (i + 1) < l.length - i; omega)
       ·
        (try simp only [Q1, Q2, Q3, Q4, Q5, Q6, Q7, Q8, Q9, Qa] at h6)
        refine WO.qT rfl (Y.fieldB fo_71_1 rfl) ?_
        refine WO.qT rfl (Y.load rfl (loadS1 sz_56 S 0 rfl rfl)) ?_
        refine WO.qT rfl (Y.eql rfl rfl) ?_
        refine WO.q (Y.pickF (u := .bool _) rfl rfl) ?_
        refine WO.nil ?_
        refine Then.nx ?_
        refine W.cond rfl (fun h11 => ?_) (fun h11 => ?_) -- cond 3
        ·
         have rh11 := h11
         (try simp only [Q1, Q2, Q3, Q4, Q5, Q6, Q7, Q8, Q9, Qa] at h11)
         refine W.seq ?_
         refine W.seq ?_
         refine W.region rfl ?_
         refine WO.q (Y.fieldB fo_71_2 rfl) ?_
         refine WO.q (Y.load rfl (loadS1 sz_3 S 0 rfl rfl)) ?_
         refine WO.q (Y.neq rfl rfl) ?_
         refine WO.q (Y.move (v := .bool _) rfl) ?_
         refine WO.splitB (fun h12 => ?_) (fun h12 => ?_)
         ·
          (try simp only [Q1, Q2, Q3, Q4, Q5, Q6, Q7, Q8, Q9, Qa] at h12)
          refine WO.qF rfl ?_
          refine WO.qF rfl ?_
          refine WO.qF rfl ?_
          refine WO.qF rfl ?_
          refine WO.qF rfl ?_
          refine WO.qF rfl ?_
          refine WO.qF rfl ?_
          refine WO.qF rfl ?_
          refine WO.qF rfl ?_
          refine WO.qF rfl ?_
          refine WO.qF rfl ?_
          refine WO.qF rfl ?_
          refine WO.qF rfl ?_
          refine WO.q (Y.pickT (u := .bool _) rfl rfl) ?_
          refine WO.nil ?_
          refine Then.nx ?_
          first | refine W.condT rfl ?_ | refine W.condT (congrArg Value.bool (by assumption)) ?_
          refine W.seq ?_
          refine W.region rfl ?_
          refine WO.q (Y.assign (v := .bool _) rfl) ?_
          refine WO.nil ?_
          refine Then.nx ?_
          refine W.ret ?_
          refine Then.r ?_
          refine Then.r ?_
          refine InB.r ?_
          refine Then.r ?_
          refine Then.r ?_
          refine InB.r ?_
          refine Then.r ?_
          refine BodyQ.ret1 Tryd.results66 (ResV.tmp _ rfl) ?_
          first | exact ⟨retB (by (symm; exact List.all_eq_false.2 ⟨x, List.mem_of_getElem? hx1, by (rw [okA_iff]; omega)⟩)), S.ext⟩ | (have e : l.take i = l := List.take_of_length_le (by omega); rw [e] at hall; exact ⟨retB (List.all_eq_true.2 hall).symm, S.ext⟩)
         ·
          (try simp only [Q1, Q2, Q3, Q4, Q5, Q6, Q7, Q8, Q9, Qa] at h12)
          refine WO.qT rfl (Y.fieldB fo_71_1 rfl) ?_
          refine WO.qT rfl (Y.load rfl (loadS1 sz_56 S 0 rfl rfl)) ?_
          refine WO.qT rfl (Y.eql rfl rfl) ?_
          refine WO.qT rfl (Y.move (v := .bool _) rfl) ?_
          refine WO.splitB (fun h13 => ?_) (fun h13 => ?_)
          ·
           (try simp only [Q1, Q2, Q3, Q4, Q5, Q6, Q7, Q8, Q9, Qa] at h13)
           refine WO.qT rfl (Y.fieldB fo_71_6 rfl) ?_
           refine WO.qT rfl (Y.load rfl (loadS1 sz_2 S 0 rfl rfl)) ?_
           refine WO.qT rfl (Y.lss rfl rfl) ?_
           refine WO.qT rfl (Y.move (v := .bool _) rfl) ?_
           refine WO.splitB (fun h14 => ?_) (fun h14 => ?_)
           ·
            (try simp only [Q1, Q2, Q3, Q4, Q5, Q6, Q7, Q8, Q9, Qa] at h14)
            refine WO.qF rfl ?_
            refine WO.qF rfl ?_
            refine WO.qF rfl ?_
            refine WO.qT rfl (Y.pickT (u := .bool _) rfl rfl) ?_
            refine WO.qT rfl (Y.pickT (u := .bool _) rfl rfl) ?_
            refine WO.q (Y.pickF (u := .bool _) rfl rfl) ?_
            refine WO.nil ?_
            refine Then.nx ?_
            first | refine W.condT rfl ?_ | refine W.condT (congrArg Value.bool (by assumption)) ?_
            refine W.seq ?_
            refine W.region rfl ?_
            refine WO.q (Y.assign (v := .bool _) rfl) ?_
            refine WO.nil ?_
            refine Then.nx ?_
            refine W.ret ?_
            refine Then.r ?_
            refine Then.r ?_
            refine InB.r ?_
            refine Then.r ?_
            refine Then.r ?_
            refine InB.r ?_
            refine Then.r ?_
            refine BodyQ.ret1 Tryd.results66 (ResV.tmp _ rfl) ?_
            first | exact ⟨retB (by (symm; exact List.all_eq_false.2 ⟨x, List.mem_of_getElem? hx1, by (rw [okA_iff]; omega)⟩)), S.ext⟩ | (have e : l.take i = l := List.take_of_length_le (by omega); rw [e] at hall; exact ⟨retB (List.all_eq_true.2 hall).symm, S.ext⟩)
           ·
            (try simp only [Q1, Q2, Q3, Q4, Q5, Q6, Q7, Q8, Q9, Qa] at h14)
            refine WO.qT rfl (Y.fieldB fo_71_6 rfl) ?_
            refine WO.qT rfl (Y.load rfl (loadS1 sz_2 S 0 rfl rfl)) ?_
            refine WO.qT rfl (Y.geq rfl rfl) ?_
            refine WO.qT rfl (Y.pickF (u := .bool _) rfl rfl) ?_
            refine WO.qT rfl (Y.pickT (u := .bool _) rfl rfl) ?_
            refine WO.q (Y.pickF (u := .bool _) rfl rfl) ?_
            refine WO.nil ?_
            refine Then.nx ?_
            refine W.cond rfl (fun h15 => ?_) (fun h15 => ?_) -- cond 4
            ·
             have rh15 := h15
             (try simp only [Q1, Q2, Q3, Q4, Q5, Q6, Q7, Q8, Q9, Qa] at h15)
             refine W.seq ?_
             refine W.region rfl ?_
             refine WO.q (Y.assign (v := .bool _) rfl) ?_
             refine WO.nil ?_
             refine Then.nx ?_
             refine W.ret ?_
             refine Then.r ?_
             refine Then.r ?_
             refine InB.r ?_
             refine Then.r ?_
             refine Then.r ?_
             refine InB.r ?_
             refine Then.r ?_
             refine BodyQ.ret1 Tryd.results66 (ResV.tmp _ rfl) ?_
             first | exact ⟨retB (by (symm; exact List.all_eq_false.2 ⟨x, List.mem_of_getElem? hx1, by (rw [okA_iff]; omega)⟩)), S.ext⟩ | (have e : l.take i = l := List.take_of_length_le (by omega); rw [e] at hall; exact ⟨retB (List.all_eq_true.2 hall).symm, S.ext⟩)
            ·
             have rh15 := h15
             (try simp only [Q1, Q2, Q3, Q4, Q5, Q6, Q7, Q8, Q9, Qa] at h15)
             refine W.skip ?_
             refine Then.nx ?_
             refine W.exit ?_
             refine Then.x ?_
             refine InB.e ?_
             refine Then.nx ?_
             refine W.region rfl ?_
             refine WO.q (Y.move (v := .int .i64 _) rfl) ?_
             first | refine WO.q (Y.addI rfl rfl (by omega)) ?_ | refine WO.q (Y.add rfl rfl) ?_
             refine WO.q (Y.assign (v := .int .i64 _) rfl) ?_
             refine WO.nil ?_
             refine Then.nx ⟨?_, ?_, ?_⟩
             ·
              (repeat (first | exact Out.hav _ _ _ | exact Out.refl _ _ | refine Out.up rfl ?_ | refine Out.sub rfl ?_))
             ·
              (have hok : okA x = true := by (rw [okA_iff]; omega)); (have ht := take_succ_at hx1); exact ⟨i + 1, rfl, by omega, by (intro y hy; rw [ht] at hy; rcases List.mem_append.1 hy with hy | hy; exact hall y hy; simp at hy; subst hy; exact hok), S.nil⟩
             ·
              (show l.length - (i + 1) < l.length - i; omega)
          ·
           (try simp only [Q1, Q2, Q3, Q4, Q5, Q6, Q7, Q8, Q9, Qa] at h13)
           refine WO.qF rfl ?_
           refine WO.qF rfl ?_
           refine WO.qF rfl ?_
           refine WO.qF rfl ?_
           refine WO.qF rfl ?_
           refine WO.qF rfl ?_
           refine WO.qF rfl ?_
           refine WO.qF rfl ?_
           refine WO.qT rfl (Y.pickF (u := .bool _) rfl rfl) ?_
           refine WO.q (Y.pickF (u := .bool _) rfl rfl) ?_
           refine WO.nil ?_
           refine Then.nx ?_
           first | refine W.condF rfl ?_ | refine W.condF (congrArg Value.bool (by assumption)) ?_
           refine W.skip ?_
           refine Then.nx ?_
           refine W.exit ?_
           refine Then.x ?_
           refine InB.e ?_
           refine Then.nx ?_
           refine W.region rfl ?_
           refine WO.q (Y.move (v := .int .i64 _) rfl) ?_
           first | refine WO.q (Y.addI rfl rfl (by omega)) ?_ | refine WO.q (Y.add rfl rfl) ?_
           refine WO.q (Y.assign (v := .int .i64 _) rfl) ?_
           refine WO.nil ?_
           refine Then.nx ⟨?_, ?_, ?_⟩
           ·
            (repeat (first | exact Out.hav _ _ _ | exact Out.refl _ _ | refine Out.up rfl ?_ | refine Out.sub rfl ?_))
           ·
            (have hok : okA x = true := by (rw [okA_iff]; omega)); (have ht := take_succ_at hx1); exact ⟨i + 1, rfl, by omega, by (intro y hy; rw [ht] at hy; rcases List.mem_append.1 hy with hy | hy; exact hall y hy; simp at hy; subst hy; exact hok), S.nil⟩
           ·
            (show l.length - (i + 1) < l.length - i; omega)
        ·
         have rh11 := h11
         (try simp only [Q1, Q2, Q3, Q4, Q5, Q6, Q7, Q8, Q9, Qa] at h11)
         refine W.skip ?_
         refine Then.nx ?_
         refine W.seq ?_
         refine W.region rfl ?_
         refine WO.q (Y.fieldB fo_71_2 rfl) ?_
         refine WO.q (Y.load rfl (loadS1 sz_3 S 0 rfl rfl)) ?_
         refine WO.q (Y.lss rfl rfl) ?_
         refine WO.q (Y.move (v := .bool _) rfl) ?_
         refine WO.splitB (fun h16 => ?_) (fun h16 => ?_)
         ·
          (try simp only [Q1, Q2, Q3, Q4, Q5, Q6, Q7, Q8, Q9, Qa] at h16)
          refine WO.qF rfl ?_
          refine WO.qF rfl ?_
          refine WO.qF rfl ?_
          refine WO.q (Y.pickT (u := .bool _) rfl rfl) ?_
          refine WO.nil ?_
          refine Then.nx ?_
          first | refine W.condT rfl ?_ | refine W.condT (congrArg Value.bool (by assumption)) ?_
          refine W.seq ?_
          refine W.region rfl ?_
          refine WO.q (Y.assign (v := .bool _) rfl) ?_
          refine WO.nil ?_
          refine Then.nx ?_
          refine W.ret ?_
          refine InB.r ?_
          refine Then.r ?_
          refine Then.r ?_
          refine InB.r ?_
          refine Then.r ?_
          refine BodyQ.ret1 Tryd.results66 (ResV.tmp _ rfl) ?_
          first | exact ⟨retB (by (symm; exact List.all_eq_false.2 ⟨x, List.mem_of_getElem? hx1, by (rw [okA_iff]; omega)⟩)), S.ext⟩ | (have e : l.take i = l := List.take_of_length_le (by omega); rw [e] at hall; exact ⟨retB (List.all_eq_true.2 hall).symm, S.ext⟩)
         ·
          (try simp only [Q1, Q2, Q3, Q4, Q5, Q6, Q7, Q8, Q9, Qa] at h16)
          refine WO.qT rfl (Y.fieldB fo_71_2 rfl) ?_
          refine WO.qT rfl (Y.load rfl (loadS1 sz_3 S 0 rfl rfl)) ?_
          refine WO.qT rfl (Y.geq rfl rfl) ?_
          refine WO.q (Y.pickF (u := .bool _) rfl rfl) ?_
          refine WO.nil ?_
          refine Then.nx ?_
          refine W.cond rfl (fun h17 => ?_) (fun h17 => ?_) -- cond 5
          ·
           have rh17 := h17
           (try simp only [Q1, Q2, Q3, Q4, Q5, Q6, Q7, Q8, Q9, Qa] at h17)
           refine W.seq ?_
           refine W.region rfl ?_
           refine WO.q (Y.assign (v := .bool _) rfl) ?_
           refine WO.nil ?_
           refine Then.nx ?_
           refine W.ret ?_
           refine InB.r ?_
           refine Then.r ?_
           refine Then.r ?_
           refine InB.r ?_
           refine Then.r ?_
           refine BodyQ.ret1 Tryd.results66 (ResV.tmp _ rfl) ?_
           first | exact ⟨retB (by (symm; exact List.all_eq_false.2 ⟨x, List.mem_of_getElem? hx1, by (rw [okA_iff]; omega)⟩)), S.ext⟩ | (have e : l.take i = l := List.take_of_length_le (by omega); rw [e] at hall; exact ⟨retB (List.all_eq_true.2 hall).symm, S.ext⟩)
          ·
           have rh17 := h17
           (try simp only [Q1, Q2, Q3, Q4, Q5, Q6, Q7, Q8, Q9, Qa] at h17)
           refine W.skip ?_
           refine InB.nx ?_
           refine Then.nx ?_
           refine W.region rfl ?_
           refine WO.q (Y.move (v := .int .i64 _) rfl) ?_
           first | refine WO.q (Y.addI rfl rfl (by omega)) ?_ | refine WO.q (Y.add rfl rfl) ?_
           refine WO.q (Y.assign (v := .int .i64 _) rfl) ?_
           refine WO.nil ?_
           refine Then.nx ⟨?_, ?_, ?_⟩
           ·
            (repeat (first | exact Out.hav _ _ _ | exact Out.refl _ _ | refine Out.up rfl ?_ | refine Out.sub rfl ?_))
           ·
            (have hok : okA x = true := by (rw [okA_iff]; omega)); (have ht := take_succ_at hx1); exact ⟨i + 1, rfl, by omega, by (intro y hy; rw [ht] at hy; rcases List.mem_append.1 hy with hy | hy; exact hall y hy; simp at hy; subst hy; exact hok), S.nil⟩
           ·
            (show l.length - (i + 1) < l.length - i; omega)
  ·
   have rh1 := h1
   (try simp only [Q1, Q2, Q3, Q4, Q5, Q6, Q7, Q8, Q9, Qa] at h1)
   refine W.exit ?_
   refine Then.x ?_
   refine Then.x ?_
   refine InB.e ?_
   refine Then.nx ?_
   refine W.seq ?_
   refine W.region rfl ?_
   refine WO.q (Y.assign (v := .bool _) rfl) ?_
   refine WO.nil ?_
   refine Then.nx ?_
   refine W.ret ?_
   refine BodyQ.ret1 Tryd.results66 (ResV.tmp _ rfl) ?_
   first | exact ⟨retB (by (symm; exact List.all_eq_false.2 ⟨x, List.mem_of_getElem? hx1, by (rw [okA_iff]; omega)⟩)), S.ext⟩ | (have e : l.take i = l := List.take_of_length_le (by omega); rw [e] at hall; exact ⟨retB (List.all_eq_true.2 hall).symm, S.ext⟩)
end Go.Proofs
