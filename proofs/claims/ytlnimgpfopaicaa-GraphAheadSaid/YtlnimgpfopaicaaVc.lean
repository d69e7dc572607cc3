/-
  Walks of node.
-/
import Derived.Test.YtlnimgpfopaicaaGc
import Derived.Test.YtlnimgpfopaicaaFa
import Derived.Test.YtlnimgpfopaicaaFb
import Derived.Test.YtlnimgpfopaicaaVb
set_option linter.unusedVariables false
set_option linter.unusedSimpArgs false
set_option maxRecDepth 100000
set_option maxHeartbeats 1000000
namespace Go.Proofs
open Go Go.TL Go.RowKit
theorem node_spec : ∀ (B : Nat) (w0 : World) (b : Nat) (v : WIn) (l : List GNode) (es : List GEnd) (m : GMaker) (p : Nat) (t : Tr) (post : List GNode), (flat t).length < B → RdWalk 61 w0 b v l es m → l.drop p = flat t ++ post → okT es.length t → fitT t →
    Calls Try.prog 23 [.pointer (some ⟨b, 0, none⟩), .int .i64 (p : Int)].toArray w0 (fun r w => r = .returned (outV 79 82 (evalT es m t)) ∧ Ext w0 w) := by
 intro B
 induction B
 case zero => (intro w0 b v l es m p t post hB; omega)
 rename_i B ih0
 intro w0 b v l es m p t post hB Wk hp hok0 hf0
 obtain ⟨n, ks⟩ := t
 have hsm := Wk.small
 have hf1 := hf0
 rw [fitT] at hf1
 obtain ⟨hnk, hfk⟩ := hf1
 rw [okT] at hok0
 obtain ⟨hnm, h1k, h12, hok⟩ := hok0
 have ih : ∀ (w : World) (q : Nat) (k : Tr) (post' : List GNode), (flat k).length < B → RdWalk 61 w b v l es m → l.drop q = flat k ++ post' → okT es.length k → fitT k → Calls Try.prog 23 [.pointer (some ⟨b, 0, none⟩), .int .i64 (q : Int)].toArray w (fun r w' => r = .returned (outV 79 82 (evalT es m k)) ∧ Ext w w') := fun w q k post' => ih0 w b v l es m q k post'
 have hl0 : l[p]? = some n := drop_at (r := flats ks ++ post) (by (rw [hp]; simp [flat]))
 have hil := at_lt hl0
 have hta := Wk.tree.1 (by omega)
 have hkl := kidPl_len (p + 1) ks
 have hfg := flats_ge ks
 have hpl : p + (flats ks).length ≤ l.length := by (have h1 := congrArg List.length hp; rw [List.length_drop, List.length_append] at h1; simp only [flat, List.length_cons] at h1; omega)
 have S := Sat.refl w0
 refine calls_of_W (args := [.pointer (some ⟨b, 0, none⟩), .int .i64 (p : Int)]) 83 Try.func23 rfl Try.ntmps23 rfl ?_
 refine W.seq ?_
 refine W.region rfl ?_
 first | refine WO.q (Y.assign (v := .iface _ _) rfl) ?_ | refine WO.q (Y.assign (v := .nilIface) rfl) ?_ | refine WO.q (Y.assign (v := outV _ _ _) rfl) ?_
 refine WO.nil ?_
 refine Then.nx ?_
 refine W.seq ?_
 refine W.region rfl ?_
 first | refine WO.q (Y.move (v := .pointer (some _)) rfl) ?_ | refine WO.q (Y.move (v := .pointer _) rfl) ?_
 refine WO.q (Y.nilP rfl) ?_
 first | refine WO.q (Y.fieldB fo_61_0 rfl) ?_ | refine WO.q (Y.fieldE fo_61_0 rfl) ?_
 first | refine WO.q (Y.load rfl (loadB1 sz_49 (S.ext.heap Wk.blk) rfl)) ?_ | refine WO.q (Y.load rfl (loadS1 sz_49 S 0 rfl rfl)) ?_ | refine WO.q (Y.load rfl (loadS1 sz_49 S 1 rfl rfl)) ?_ | refine WO.q (Y.load rfl (loadRdF sz_49 (Wk.tree.ext S.ext) (by assumption) rfl)) ?_ | refine WO.q (Y.load rfl (loadRdF sz_49 (Wk.ends.ext S.ext) (by assumption) rfl)) ?_ | refine WO.q (Y.load rfl (loadRdF sz_49 (S.rd 0 rfl) (by assumption) rfl)) ?_ | refine WO.q (Y.load rfl (loadRdF sz_49 (S.rd 1 rfl) (by assumption) rfl)) ?_ | refine WO.q (Y.load rfl (loadRd1 sz_49 (Wk.tree.ext S.ext) (by assumption) rfl)) ?_ | refine WO.q (Y.load rfl (loadRd1 sz_49 (Wk.ends.ext S.ext) (by assumption) rfl)) ?_ | refine WO.q (Y.load rfl (loadRd1 sz_49 (S.rd 0 rfl) (by assumption) rfl)) ?_ | refine WO.q (Y.load rfl (loadRd1 sz_49 (S.rd 1 rfl) (by assumption) rfl)) ?_
 refine WO.q (Y.move (v := .int .i64 _) rfl) ?_
 first | refine WO.q (Y.ixN sl_49 rfl rfl (by (first | assumption | rfl)) (by (first | assumption | omega))) ?_ | refine WO.q (Y.ix sl_49 rfl rfl (by (first | assumption | rfl)) (by (first | assumption | omega)) (by (first | assumption | omega))) ?_
 first | refine WO.q (Y.load rfl (loadRdN sz_75 (Wk.tree.ext S.ext) (by assumption))) ?_ | refine WO.q (Y.load rfl (loadRdN sz_75 (Wk.ends.ext S.ext) (by assumption))) ?_ | refine WO.q (Y.load rfl (loadRdN sz_75 (S.rd 0 rfl) (by assumption))) ?_ | refine WO.q (Y.load rfl (loadRdN sz_75 (S.rd 1 rfl) (by assumption))) ?_
 refine WO.e (O.alloc z_75 S (fun b5 w S => ?_))
 first | refine WO.e0 (O.store (v := .agg _) 0 S rfl rfl rfl sz_75 rfl rfl rfl rfl (fun w S => ?_)) | refine WO.e0 (O.store (v := .agg _) 1 S rfl rfl rfl sz_75 rfl rfl rfl rfl (fun w S => ?_))
 refine WO.nil ?_
 refine Then.nx ?_
 refine W.seq ?_
 refine W.region rfl ?_
 first | refine WO.q (Y.move (v := .pointer (some _)) rfl) ?_ | refine WO.q (Y.move (v := .pointer _) rfl) ?_
 refine WO.q (Y.move (v := .int .i64 _) rfl) ?_
 refine WO.e (O.call cf_32 rfl (kids_spec w0 _ _ b v l es m p n ks post Wk hp hf0 S) ?_)
 rintro _ w ⟨a22, c22, rfl, S⟩
 refine ⟨_, rfl, ?_⟩
 refine WO.q (Y.assign (v := .slice _ _ _) rfl) ?_
 refine WO.nil ?_
 refine Then.nx ?_
 refine W.seq ?_
 refine W.seq ?_
 refine W.region rfl ?_
 refine WO.q (Y.fieldB fo_75_0 rfl) ?_
 first | refine WO.q (Y.load rfl (loadS1 sz_28 S 0 rfl rfl)) ?_ | refine WO.q (Y.load rfl (loadS1 sz_28 S 1 rfl rfl)) ?_
 refine WO.nil ?_
 refine Then.nx ?_
 refine W.block ?_
 refine W.seq ?_
 refine W.region rfl ?_
 refine WO.q (Y.eql rfl rfl) ?_
 refine WO.q (Y.assign (v := .bool _) rfl) ?_
 refine WO.nil ?_
 refine Then.nx ?_
 refine W.cond rfl (fun h1 => ?_) (fun h1 => ?_) -- cond 0
 ·
  have rh1 := h1
  (try simp only [Q1, Q2, Q3, Q4, Q5, Q6, Q7, Q8, Q9, Qa] at h1)
  refine W.seq ?_
  refine W.region rfl ?_
  refine WO.q (Y.fieldB fo_75_1 rfl) ?_
  first | refine WO.q (Y.load rfl (loadS1 sz_2 S 0 rfl rfl)) ?_ | refine WO.q (Y.load rfl (loadS1 sz_2 S 1 rfl rfl)) ?_
  refine WO.q (Y.mkI (v := .int .i64 _) Try.underlying79 (fun _ hh => by cases hh) rfl) ?_
  first | refine WO.q (Y.assign (v := .iface _ _) rfl) ?_ | refine WO.q (Y.assign (v := .nilIface) rfl) ?_ | refine WO.q (Y.assign (v := outV _ _ _) rfl) ?_
  refine WO.nil ?_
  refine Then.nx ?_
  refine W.ret ?_
  refine InB.r ?_
  refine Then.r ?_
  refine BodyQ.ret1 Try.results23 (ResV.tmp _ rfl) ?_
  refine ⟨?_, S.ext⟩; show Ending.returned _ = Ending.returned _; congr 1; first | (exfalso; simp_all; done) | (rw [evalT, evalN, if_pos (by omega)]; rfl) | (rw [evalT, evalN, if_neg (by omega), if_pos (by omega), List.getD_eq_getElem?_getD, hen]; rfl) | (rw [evalT, evalN_first (by omega), firstM_at (evalTs_at hk) (by assumption) (fun j u hj hu => by (obtain ⟨k2, hk2, rfl⟩ := evalTs_inv hu; exact hall j k2 hj hk2))]; conv => { rhs; rw [Oc.of_val (o := evalT es m k) (by assumption)] }; rfl) | (rw [evalT, evalN_first (by omega), firstM_no (fun j u hu => by (obtain ⟨k2, hk2, rfl⟩ := evalTs_inv hu; exact hall j k2 (by (have := at_lt hk2; omega)) hk2)), evalTs_getD hk0]; rfl) | (rw [evalT, evalN_bad (by omega) (by omega) (by omega) hg0 (by assumption)]; rfl) | (rw [evalT, evalN_with (by omega) (by omega) (by omega) hg0 (by assumption)]; rfl)
 ·
  have rh1 := h1
  (try simp only [Q1, Q2, Q3, Q4, Q5, Q6, Q7, Q8, Q9, Qa] at h1)
  refine W.seq ?_
  refine W.region rfl ?_
  refine WO.q (Y.eql rfl rfl) ?_
  refine WO.q (Y.assign (v := .bool _) rfl) ?_
  refine WO.nil ?_
  refine Then.nx ?_
  refine W.cond rfl (fun h2 => ?_) (fun h2 => ?_) -- cond 1
  ·
   have rh2 := h2
   (try simp only [Q1, Q2, Q3, Q4, Q5, Q6, Q7, Q8, Q9, Qa] at h2)
   refine W.seq ?_
   have hnr := hnm (by assumption)
   obtain ⟨en, hen⟩ := at_ex (xs := es) (k := n.n.toNat) (by omega)
   have hea := Wk.ends.1 (by omega)
   refine W.draw (.q 0 (.q 1 (.q 2 (.q 3 (.q 4 (.q 5 (.q 6 (.q 7 (.e 8 (.q 9 .nil)))))))))) (fun w => Sat _ w _) rfl rfl (by kernel_rfl) rfl (by kernel_rfl) (by repeat (first | exact BodyQ.noFrame | refine Then.noFrame ?_ | refine InB.noFrame ?_)) S.drew ?_
   clear S
   first | refine Plan.q rfl (fun w S => Y.move (v := .pointer (some _)) rfl) ?_ | refine Plan.q rfl (fun w S => Y.move (v := .pointer _) rfl) ?_
   refine Plan.q rfl (fun w S => Y.nilP rfl) ?_
   first | refine Plan.q rfl (fun w S => Y.fieldB fo_61_1 rfl) ?_ | refine Plan.q rfl (fun w S => Y.fieldE fo_61_1 rfl) ?_
   first | refine Plan.q rfl (fun w S => Y.load rfl (loadB1 sz_33 (S.ext.heap Wk.blk) rfl)) ?_ | refine Plan.q rfl (fun w S => Y.load rfl (loadS1 sz_33 S 0 rfl rfl)) ?_ | refine Plan.q rfl (fun w S => Y.load rfl (loadS1 sz_33 S 1 rfl rfl)) ?_ | refine Plan.q rfl (fun w S => Y.load rfl (loadRdF sz_33 (Wk.tree.ext S.ext) (by assumption) rfl)) ?_ | refine Plan.q rfl (fun w S => Y.load rfl (loadRdF sz_33 (Wk.ends.ext S.ext) (by assumption) rfl)) ?_ | refine Plan.q rfl (fun w S => Y.load rfl (loadRdF sz_33 (S.rd 0 rfl) (by assumption) rfl)) ?_ | refine Plan.q rfl (fun w S => Y.load rfl (loadRdF sz_33 (S.rd 1 rfl) (by assumption) rfl)) ?_ | refine Plan.q rfl (fun w S => Y.load rfl (loadRd1 sz_33 (Wk.tree.ext S.ext) (by assumption) rfl)) ?_ | refine Plan.q rfl (fun w S => Y.load rfl (loadRd1 sz_33 (Wk.ends.ext S.ext) (by assumption) rfl)) ?_ | refine Plan.q rfl (fun w S => Y.load rfl (loadRd1 sz_33 (S.rd 0 rfl) (by assumption) rfl)) ?_ | refine Plan.q rfl (fun w S => Y.load rfl (loadRd1 sz_33 (S.rd 1 rfl) (by assumption) rfl)) ?_
   refine Plan.q rfl (fun w S => Y.fieldB fo_75_1 rfl) ?_
   first | refine Plan.q rfl (fun w S => Y.load rfl (loadS1 sz_2 S 0 rfl rfl)) ?_ | refine Plan.q rfl (fun w S => Y.load rfl (loadS1 sz_2 S 1 rfl rfl)) ?_
   first | refine Plan.q rfl (fun w S => Y.ixN sl_33 rfl rfl (by (first | assumption | rfl)) (by (first | assumption | omega))) ?_ | refine Plan.q rfl (fun w S => Y.ix sl_33 rfl rfl (by (first | assumption | rfl)) (by (first | assumption | omega)) (by (first | assumption | omega))) ?_
   refine Plan.q rfl (fun w S => Y.load rfl (loadRdN sz_30 (Wk.ends.ext S.ext) hen)) ?_
   refine Plan.e1 rfl (fun w S => O.call cf_33 rfl (of_spec _ en) ?_)
   rintro _ w ⟨rfl, E⟩
   replace S := S.keep E
   refine ⟨_, rfl, ?_⟩
   refine ⟨(fun w => Sat _ w _), S, (.inr (fun w S => S.pk (by repeat (first | exact Pk.nil _ | exact Pk.refl _ | refine Pk.cons 0 rfl ?_ | refine Pk.cons 1 rfl ?_ | refine Pk.cons 2 rfl ?_ | refine Pk.cons 3 rfl ?_ | refine Pk.cons 4 rfl ?_ | refine Pk.cons 5 rfl ?_ | refine Pk.cons 6 rfl ?_ | refine Pk.cons 7 rfl ?_ | refine Pk.cons 8 rfl ?_ | refine Pk.cons 9 rfl ?_ | refine Pk.cons 10 rfl ?_ | refine Pk.cons 11 rfl ?_ | refine Pk.cons 12 rfl ?_ | refine Pk.cons 13 rfl ?_ | refine Pk.drop ?_)))), ?_⟩
   clear S
   first | refine Plan.q rfl (fun w S => Y.assign (v := .iface _ _) rfl) ?_ | refine Plan.q rfl (fun w S => Y.assign (v := .nilIface) rfl) ?_ | refine Plan.q rfl (fun w S => Y.assign (v := outV _ _ _) rfl) ?_
   refine Plan.nil (fun w S => ?_)
   replace S : Sat _ _ _ := S
   refine Then.nx ?_
   refine W.ret ?_
   refine InB.r ?_
   refine Then.r ?_
   refine BodyQ.ret1 Try.results23 (ResV.tmp _ rfl) ?_
   refine ⟨?_, S.ext⟩; show Ending.returned _ = Ending.returned _; congr 1; first | (exfalso; simp_all; done) | (rw [evalT, evalN, if_pos (by omega)]; rfl) | (rw [evalT, evalN, if_neg (by omega), if_pos (by omega), List.getD_eq_getElem?_getD, hen]; rfl) | (rw [evalT, evalN_first (by omega), firstM_at (evalTs_at hk) (by assumption) (fun j u hj hu => by (obtain ⟨k2, hk2, rfl⟩ := evalTs_inv hu; exact hall j k2 hj hk2))]; conv => { rhs; rw [Oc.of_val (o := evalT es m k) (by assumption)] }; rfl) | (rw [evalT, evalN_first (by omega), firstM_no (fun j u hu => by (obtain ⟨k2, hk2, rfl⟩ := evalTs_inv hu; exact hall j k2 (by (have := at_lt hk2; omega)) hk2)), evalTs_getD hk0]; rfl) | (rw [evalT, evalN_bad (by omega) (by omega) (by omega) hg0 (by assumption)]; rfl) | (rw [evalT, evalN_with (by omega) (by omega) (by omega) hg0 (by assumption)]; rfl)
  ·
   have rh2 := h2
   (try simp only [Q1, Q2, Q3, Q4, Q5, Q6, Q7, Q8, Q9, Qa] at h2)
   refine W.seq ?_
   refine W.region rfl ?_
   refine WO.q (Y.eql rfl rfl) ?_
   refine WO.q (Y.assign (v := .bool _) rfl) ?_
   refine WO.nil ?_
   refine Then.nx ?_
   refine W.cond rfl (fun h3 => ?_) (fun h3 => ?_) -- cond 2
   ·
    have rh3 := h3
    (try simp only [Q1, Q2, Q3, Q4, Q5, Q6, Q7, Q8, Q9, Qa] at h3)
    refine W.seq ?_
    refine W.seq ?_
    have hk1 := h1k (by omega) (by omega)
    have hka := (S.rd 0 rfl).1 (by omega)
    refine W.region rfl ?_
    refine WO.q (Y.move (v := .slice _ _ _) rfl) ?_
    refine WO.q (Y.len (t' := 0) Try.underlying23 rfl) ?_
    refine WO.q (Y.move (v := .int .i64 _) rfl) ?_
    refine WO.nil ?_
    refine Then.nx ?_
    refine W.block ?_
    -- loop 0 carries 45
    refine W.loop1 [4, 8, 9, 10, 45, 46, 47, 48, 49, 50, 51, 52, 53, 54, 55, 56, 57, 58, 59] 45 (fun v45 w => ∃ i : Nat, v45 = .int .i64 (i : Int) ∧ i ≤ ks.length ∧ (∀ (j : Nat) u, j < i → ks[j]? = some u → (evalT es m u).isVal = false) ∧ Sat w0 w [Own (tI .i64) 3 a22 c22 (kidPl (p + 1) ks), Cel b5 (tNode.enc n) 75]) (fun v45 w => ks.length - (intOf v45).toNat) ?_ ?_
    ·
     exact ⟨0, rfl, Nat.zero_le _, fun j u hj _ => absurd hj (by omega), S⟩
    ·
     rintro g0 v45 w ⟨i, rfl, hi, hall, S⟩
     refine W.seq ?_
     refine W.region rfl ?_
     refine WO.q (Y.lss rfl rfl) ?_
     refine WO.nil ?_
     refine Then.nx ?_
     refine W.seq ?_
     refine W.cond rfl (fun h4 => ?_) (fun h4 => ?_) -- cond 3
     ·
      have rh4 := h4
      (try simp only [Q1, Q2, Q3, Q4, Q5, Q6, Q7, Q8, Q9, Qa] at h4)
      refine W.skip ?_
      refine Then.nx ?_
      refine W.seq ?_
      refine W.block ?_
      refine W.seq ?_
      obtain ⟨k, hk⟩ := at_ex (xs := ks) (k := i) (by omega)
      obtain ⟨postk, hpk⟩ := kid_place hp hk
      have hqk := kidPl_at (p + 1) hk
      refine W.region rfl ?_
      first | refine WO.q (Y.ixN sl_23 rfl rfl (by (first | assumption | rfl)) (by (first | assumption | omega))) ?_ | refine WO.q (Y.ix sl_23 rfl rfl (by (first | assumption | rfl)) (by (first | assumption | omega)) (by (first | assumption | omega))) ?_
      first | refine WO.q (Y.load rfl (loadRd1 sz_3 (Wk.tree.ext S.ext) (by assumption) rfl)) ?_ | refine WO.q (Y.load rfl (loadRd1 sz_3 (Wk.ends.ext S.ext) (by assumption) rfl)) ?_ | refine WO.q (Y.load rfl (loadRd1 sz_3 (S.rd 0 rfl) (by assumption) rfl)) ?_ | refine WO.q (Y.load rfl (loadRd1 sz_3 (S.rd 1 rfl) (by assumption) rfl)) ?_
      refine WO.q (Y.assign (v := .int .i64 _) rfl) ?_
      refine WO.nil ?_
      refine Then.nx ?_
      refine W.seq ?_
      refine W.region rfl ?_
      first | refine WO.q (Y.move (v := .pointer (some _)) rfl) ?_ | refine WO.q (Y.move (v := .pointer _) rfl) ?_
      refine WO.q (Y.move (v := .int .i64 _) rfl) ?_
      refine WO.e (O.call cf_23 rfl (ih _ (p + 1 + (flats (ks.take i)).length) k postk (by (have := kid_lt (n := n) hk; omega)) (Wk.ext S.ext) hpk (okTs_at hok hk) (fitTs_at hfk hk)) ?_)
      rintro _ w ⟨rfl, E⟩
      replace S := S.keep E
      refine ⟨_, rfl, ?_⟩
      refine WO.q (Y.asrtV (o := (evalT es m k)) Try.underlying79 (fun w => by kernel_rfl) (by decide) rfl) ?_
      refine WO.q (Y.move (v := .tuple _) rfl) ?_
      refine WO.q (Y.extract (v := .int .i64 _) rfl rfl) ?_
      refine WO.q (Y.extract (v := .bool _) rfl rfl) ?_
      refine WO.q (Y.assign (v := .int .i64 _) rfl) ?_
      refine WO.q (Y.assign (v := .bool _) rfl) ?_
      refine WO.nil ?_
      refine Then.nx ?_
      refine W.seq ?_
      refine W.region rfl ?_
      refine WO.q (Y.move (v := .bool _) rfl) ?_
      refine WO.nil ?_
      refine Then.nx ?_
      refine W.cond rfl (fun h5 => ?_) (fun h5 => ?_) -- cond 4
      ·
       have rh5 := h5
       (try simp only [Q1, Q2, Q3, Q4, Q5, Q6, Q7, Q8, Q9, Qa] at h5)
       refine W.seq ?_
       refine W.region rfl ?_
       refine WO.q (Y.move (v := .int .i64 _) rfl) ?_
       refine WO.q (Y.mkI (v := .int .i64 _) Try.underlying79 (fun _ hh => by cases hh) rfl) ?_
       first | refine WO.q (Y.assign (v := .iface _ _) rfl) ?_ | refine WO.q (Y.assign (v := .nilIface) rfl) ?_ | refine WO.q (Y.assign (v := outV _ _ _) rfl) ?_
       refine WO.nil ?_
       refine Then.nx ?_
       refine W.ret ?_
       refine InB.r ?_
       refine Then.r ?_
       refine Then.r ?_
       refine InB.r ?_
       refine Then.r ?_
       refine InB.r ?_
       refine Then.r ?_
       refine BodyQ.ret1 Try.results23 (ResV.tmp _ rfl) ?_
       refine ⟨?_, S.ext⟩; show Ending.returned _ = Ending.returned _; congr 1; first | (exfalso; simp_all; done) | (rw [evalT, evalN, if_pos (by omega)]; rfl) | (rw [evalT, evalN, if_neg (by omega), if_pos (by omega), List.getD_eq_getElem?_getD, hen]; rfl) | (rw [evalT, evalN_first (by omega), firstM_at (evalTs_at hk) (by assumption) (fun j u hj hu => by (obtain ⟨k2, hk2, rfl⟩ := evalTs_inv hu; exact hall j k2 hj hk2))]; conv => { rhs; rw [Oc.of_val (o := evalT es m k) (by assumption)] }; rfl) | (rw [evalT, evalN_first (by omega), firstM_no (fun j u hu => by (obtain ⟨k2, hk2, rfl⟩ := evalTs_inv hu; exact hall j k2 (by (have := at_lt hk2; omega)) hk2)), evalTs_getD hk0]; rfl) | (rw [evalT, evalN_bad (by omega) (by omega) (by omega) hg0 (by assumption)]; rfl) | (rw [evalT, evalN_with (by omega) (by omega) (by omega) hg0 (by assumption)]; rfl)
      ·
       have rh5 := h5
       (try simp only [Q1, Q2, Q3, Q4, Q5, Q6, Q7, Q8, Q9, Qa] at h5)
       refine W.skip ?_
       refine InB.nx ?_
       refine Then.nx ?_
       refine W.region rfl ?_
       first | refine WO.q (Y.addI rfl rfl (by omega)) ?_ | refine WO.q (Y.add rfl rfl) ?_
       refine WO.q (Y.move (v := .int .i64 _) rfl) ?_
       refine WO.nil ?_
       refine Then.nx ⟨?_, ?_, ?_⟩
       ·
        (repeat (first | exact Out.hav _ _ _ | exact Out.refl _ _ | refine Out.up rfl ?_ | refine Out.sub rfl ?_))
       ·
        exact ⟨i + 1, rfl, by omega, fun j u hj hu => by (by_cases hji : j < i; exact hall j u hji hu; (have e : j = i := by omega); subst e; rw [hk] at hu; obtain rfl := Option.some.inj hu; assumption), S⟩
       ·
        (show ks.length - (i + 1) < ks.length - i; omega)
     ·
      have rh4 := h4
      (try simp only [Q1, Q2, Q3, Q4, Q5, Q6, Q7, Q8, Q9, Qa] at h4)
      refine W.exit ?_
      refine Then.x ?_
      refine Then.x ?_
      refine InB.e ?_
      refine Then.nx ?_
      refine W.seq ?_
      obtain ⟨k0, hk0⟩ := at_ex (xs := ks) (k := 0) (by omega)
      obtain ⟨postk0, hpk0⟩ := kid_place hp hk0
      have hqk0 := kidPl_at (p + 1) hk0
      refine W.region rfl ?_
      first | refine WO.q (Y.move (v := .pointer (some _)) rfl) ?_ | refine WO.q (Y.move (v := .pointer _) rfl) ?_
      refine WO.q (Y.move (v := .slice _ _ _) rfl) ?_
      first | refine WO.q (Y.ixN sl_23 rfl rfl (by (first | assumption | rfl)) (by (first | assumption | omega))) ?_ | refine WO.q (Y.ix sl_23 rfl rfl (by (first | assumption | rfl)) (by (first | assumption | omega)) (by (first | assumption | omega))) ?_
      first | refine WO.q (Y.load rfl (loadRd1 sz_3 (Wk.tree.ext S.ext) (by assumption) rfl)) ?_ | refine WO.q (Y.load rfl (loadRd1 sz_3 (Wk.ends.ext S.ext) (by assumption) rfl)) ?_ | refine WO.q (Y.load rfl (loadRd1 sz_3 (S.rd 0 rfl) (by assumption) rfl)) ?_ | refine WO.q (Y.load rfl (loadRd1 sz_3 (S.rd 1 rfl) (by assumption) rfl)) ?_
      refine WO.e (O.call cf_23 rfl (ih _ (p + 1 + (flats (ks.take 0)).length) k0 postk0 (by (have := kid_lt (n := n) hk0; omega)) (Wk.ext S.ext) hpk0 (okTs_at hok hk0) (fitTs_at hfk hk0)) ?_)
      rintro _ w ⟨rfl, E⟩
      replace S := S.keep E
      refine ⟨_, rfl, ?_⟩
      first | refine WO.q (Y.assign (v := .iface _ _) rfl) ?_ | refine WO.q (Y.assign (v := .nilIface) rfl) ?_ | refine WO.q (Y.assign (v := outV _ _ _) rfl) ?_
      refine WO.nil ?_
      refine Then.nx ?_
      refine W.ret ?_
      refine InB.r ?_
      refine Then.r ?_
      refine BodyQ.ret1 Try.results23 (ResV.tmp _ rfl) ?_
      refine ⟨?_, S.ext⟩; show Ending.returned _ = Ending.returned _; congr 1; first | (exfalso; simp_all; done) | (rw [evalT, evalN, if_pos (by omega)]; rfl) | (rw [evalT, evalN, if_neg (by omega), if_pos (by omega), List.getD_eq_getElem?_getD, hen]; rfl) | (rw [evalT, evalN_first (by omega), firstM_at (evalTs_at hk) (by assumption) (fun j u hj hu => by (obtain ⟨k2, hk2, rfl⟩ := evalTs_inv hu; exact hall j k2 hj hk2))]; conv => { rhs; rw [Oc.of_val (o := evalT es m k) (by assumption)] }; rfl) | (rw [evalT, evalN_first (by omega), firstM_no (fun j u hu => by (obtain ⟨k2, hk2, rfl⟩ := evalTs_inv hu; exact hall j k2 (by (have := at_lt hk2; omega)) hk2)), evalTs_getD hk0]; rfl) | (rw [evalT, evalN_bad (by omega) (by omega) (by omega) hg0 (by assumption)]; rfl) | (rw [evalT, evalN_with (by omega) (by omega) (by omega) hg0 (by assumption)]; rfl)
   ·
    have rh3 := h3
    (try simp only [Q1, Q2, Q3, Q4, Q5, Q6, Q7, Q8, Q9, Qa] at h3)
    refine W.skip ?_
    refine InB.nx ?_
    refine Then.nx ?_
    refine W.seq ?_
    refine W.seq ?_
    have hk1 := h1k (by omega) (by omega)
    have hka := (S.rd 0 rfl).1 (by omega)
    obtain ⟨k0, hk0⟩ := at_ex (xs := ks) (k := 0) (by omega)
    obtain ⟨postk0, hpk0⟩ := kid_place hp hk0
    have hqk0 := kidPl_at (p + 1) hk0
    have hc6 := (S.ownLen 0 rfl).1
    have hg0 := evalTs_getD (es := es) (m := m) hk0
    refine W.region rfl ?_
    first | refine WO.q (Y.move (v := .pointer (some _)) rfl) ?_ | refine WO.q (Y.move (v := .pointer _) rfl) ?_
    refine WO.q (Y.move (v := .slice _ _ _) rfl) ?_
    first | refine WO.q (Y.ixN sl_23 rfl rfl (by (first | assumption | rfl)) (by (first | assumption | omega))) ?_ | refine WO.q (Y.ix sl_23 rfl rfl (by (first | assumption | rfl)) (by (first | assumption | omega)) (by (first | assumption | omega))) ?_
    first | refine WO.q (Y.load rfl (loadRd1 sz_3 (Wk.tree.ext S.ext) (by assumption) rfl)) ?_ | refine WO.q (Y.load rfl (loadRd1 sz_3 (Wk.ends.ext S.ext) (by assumption) rfl)) ?_ | refine WO.q (Y.load rfl (loadRd1 sz_3 (S.rd 0 rfl) (by assumption) rfl)) ?_ | refine WO.q (Y.load rfl (loadRd1 sz_3 (S.rd 1 rfl) (by assumption) rfl)) ?_
    refine WO.e (O.call cf_23 rfl (ih _ (p + 1 + (flats (ks.take 0)).length) k0 postk0 (by (have := kid_lt (n := n) hk0; omega)) (Wk.ext S.ext) hpk0 (okTs_at hok hk0) (fitTs_at hfk hk0)) ?_)
    rintro _ w ⟨rfl, E⟩
    replace S := S.keep E
    refine ⟨_, rfl, ?_⟩
    refine WO.nil ?_
    refine Then.nx ?_
    refine W.block ?_
    refine W.seq ?_
    refine W.region rfl ?_
    refine WO.q (Y.asrtB (o := (evalT es m k0)) Try.underlying82 (fun w => by kernel_rfl) (by decide) rfl) ?_
    refine WO.q (Y.extract (v := .bool _) rfl rfl) ?_
    refine WO.q (Y.extract (v := .agg _) rfl rfl) ?_
    refine WO.nil ?_
    refine Then.nx ?_
    refine W.cond rfl (fun h6 => ?_) (fun h6 => ?_) -- cond 5
    ·
     have rh6 := h6
     (try simp only [Q1, Q2, Q3, Q4, Q5, Q6, Q7, Q8, Q9, Qa] at h6)
     refine W.seq ?_
     refine W.region rfl ?_
     refine WO.e (O.alloc z_82 S (fun b11 w S => ?_))
     first | refine WO.e0 (O.store (v := .agg _) 0 S rfl rfl rfl sz_82 rfl rfl rfl rfl (fun w S => ?_)) | refine WO.e0 (O.store (v := .agg _) 1 S rfl rfl rfl sz_82 rfl rfl rfl rfl (fun w S => ?_))
     refine WO.nil ?_
     refine Then.nx ?_
     refine W.seq ?_
     refine W.region rfl ?_
     first | refine WO.q (Y.load rfl (loadSN sz_82 S 0 rfl rfl rfl)) ?_ | refine WO.q (Y.load rfl (loadSN sz_82 S 1 rfl rfl rfl)) ?_
     refine WO.q (Y.mkI (v := .agg _) Try.underlying82 (fun _ hh => by cases hh) rfl) ?_
     first | refine WO.q (Y.assign (v := .iface _ _) rfl) ?_ | refine WO.q (Y.assign (v := .nilIface) rfl) ?_ | refine WO.q (Y.assign (v := outV _ _ _) rfl) ?_
     refine WO.nil ?_
     refine Then.nx ?_
     refine W.ret ?_
     refine InB.r ?_
     refine Then.r ?_
     refine BodyQ.ret1 Try.results23 (ResV.tmp _ rfl) ?_
     refine ⟨?_, S.ext⟩; show Ending.returned _ = Ending.returned _; congr 1; first | (exfalso; simp_all; done) | (rw [evalT, evalN, if_pos (by omega)]; rfl) | (rw [evalT, evalN, if_neg (by omega), if_pos (by omega), List.getD_eq_getElem?_getD, hen]; rfl) | (rw [evalT, evalN_first (by omega), firstM_at (evalTs_at hk) (by assumption) (fun j u hj hu => by (obtain ⟨k2, hk2, rfl⟩ := evalTs_inv hu; exact hall j k2 hj hk2))]; conv => { rhs; rw [Oc.of_val (o := evalT es m k) (by assumption)] }; rfl) | (rw [evalT, evalN_first (by omega), firstM_no (fun j u hu => by (obtain ⟨k2, hk2, rfl⟩ := evalTs_inv hu; exact hall j k2 (by (have := at_lt hk2; omega)) hk2)), evalTs_getD hk0]; rfl) | (rw [evalT, evalN_bad (by omega) (by omega) (by omega) hg0 (by assumption)]; rfl) | (rw [evalT, evalN_with (by omega) (by omega) (by omega) hg0 (by assumption)]; rfl)
    ·
     have rh6 := h6
     (try simp only [Q1, Q2, Q3, Q4, Q5, Q6, Q7, Q8, Q9, Qa] at h6)
     refine W.seq ?_
     refine W.region rfl ?_
     refine WO.q (Y.asrtV (o := (evalT es m k0)) Try.underlying79 (fun w => by kernel_rfl) (by decide) rfl) ?_
     refine WO.q (Y.extract (v := .bool _) rfl rfl) ?_
     refine WO.q (Y.extract (v := .int .i64 _) rfl rfl) ?_
     refine WO.nil ?_
     refine Then.nx ?_
     refine W.cond rfl (fun h7 => ?_) (fun h7 => ?_) -- cond 6
     ·
      have rh7 := h7
      (try simp only [Q1, Q2, Q3, Q4, Q5, Q6, Q7, Q8, Q9, Qa] at h7)
      refine W.seq ?_
      refine W.region rfl ?_
      refine WO.q (Y.assign (v := .int .i64 _) rfl) ?_
      refine WO.nil ?_
      refine Then.nx ?_
      refine W.seq ?_
      refine W.region rfl ?_
      first | refine WO.q (Y.move (v := .pointer (some _)) rfl) ?_ | refine WO.q (Y.move (v := .pointer _) rfl) ?_
      first | refine WO.q (Y.load rfl (loadSN sz_75 S 0 rfl rfl rfl)) ?_ | refine WO.q (Y.load rfl (loadSN sz_75 S 1 rfl rfl rfl)) ?_
      refine WO.q (Y.move (v := .slice _ _ _) rfl) ?_
      refine WO.q (Y.move (v := .int .i64 _) rfl) ?_
      refine WO.e (O.call cf_34 rfl (with_spec B _ b v l es m p n ks post a22 c22 (evalT es m k0).num (Wk.ext S.ext) hp hfk hok h12 hk1 (by omega) ih (S.rd 0 rfl) hc6) ?_)
      rintro _ w ⟨rfl, E⟩
      replace S := S.keep E
      refine ⟨_, rfl, ?_⟩
      first | refine WO.q (Y.assign (v := .iface _ _) rfl) ?_ | refine WO.q (Y.assign (v := .nilIface) rfl) ?_ | refine WO.q (Y.assign (v := outV _ _ _) rfl) ?_
      refine WO.nil ?_
      refine Then.nx ?_
      refine W.ret ?_
      refine InB.r ?_
      refine Then.r ?_
      refine BodyQ.ret1 Try.results23 (ResV.tmp _ rfl) ?_
      refine ⟨?_, S.ext⟩; show Ending.returned _ = Ending.returned _; congr 1; first | (exfalso; simp_all; done) | (rw [evalT, evalN, if_pos (by omega)]; rfl) | (rw [evalT, evalN, if_neg (by omega), if_pos (by omega), List.getD_eq_getElem?_getD, hen]; rfl) | (rw [evalT, evalN_first (by omega), firstM_at (evalTs_at hk) (by assumption) (fun j u hj hu => by (obtain ⟨k2, hk2, rfl⟩ := evalTs_inv hu; exact hall j k2 hj hk2))]; conv => { rhs; rw [Oc.of_val (o := evalT es m k) (by assumption)] }; rfl) | (rw [evalT, evalN_first (by omega), firstM_no (fun j u hu => by (obtain ⟨k2, hk2, rfl⟩ := evalTs_inv hu; exact hall j k2 (by (have := at_lt hk2; omega)) hk2)), evalTs_getD hk0]; rfl) | (rw [evalT, evalN_bad (by omega) (by omega) (by omega) hg0 (by assumption)]; rfl) | (rw [evalT, evalN_with (by omega) (by omega) (by omega) hg0 (by assumption)]; rfl)
     ·
      have rh7 := h7
      (try simp only [Q1, Q2, Q3, Q4, Q5, Q6, Q7, Q8, Q9, Qa] at h7)
      refine W.skip ?_
      refine InB.nx ?_
      refine Then.nx ?_
      refine W.seq ?_
      refine W.region rfl ?_
      first | refine WO.q (Y.assign (v := .iface _ _) rfl) ?_ | refine WO.q (Y.assign (v := .nilIface) rfl) ?_ | refine WO.q (Y.assign (v := outV _ _ _) rfl) ?_
      refine WO.nil ?_
      refine Then.nx ?_
      refine W.ret ?_
      refine BodyQ.ret1 Try.results23 (ResV.tmp _ rfl) ?_
      refine ⟨?_, S.ext⟩; show Ending.returned _ = Ending.returned _; congr 1; first | (exfalso; simp_all; done) | (rw [evalT, evalN, if_pos (by omega)]; rfl) | (rw [evalT, evalN, if_neg (by omega), if_pos (by omega), List.getD_eq_getElem?_getD, hen]; rfl) | (rw [evalT, evalN_first (by omega), firstM_at (evalTs_at hk) (by assumption) (fun j u hj hu => by (obtain ⟨k2, hk2, rfl⟩ := evalTs_inv hu; exact hall j k2 hj hk2))]; conv => { rhs; rw [Oc.of_val (o := evalT es m k) (by assumption)] }; rfl) | (rw [evalT, evalN_first (by omega), firstM_no (fun j u hu => by (obtain ⟨k2, hk2, rfl⟩ := evalTs_inv hu; exact hall j k2 (by (have := at_lt hk2; omega)) hk2)), evalTs_getD hk0]; rfl) | (rw [evalT, evalN_bad (by omega) (by omega) (by omega) hg0 (by assumption)]; rfl) | (rw [evalT, evalN_with (by omega) (by omega) (by omega) hg0 (by assumption)]; rfl)
end Go.Proofs
