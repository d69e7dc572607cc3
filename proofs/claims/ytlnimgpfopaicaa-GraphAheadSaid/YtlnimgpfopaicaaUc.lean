/-
  Walks of grown.
-/
import Derived.Test.YtlnimgpfopaicaaGb
import Derived.Test.YtlnimgpfopaicaaFa
import Derived.Test.YtlnimgpfopaicaaFb
set_option linter.unusedVariables false
set_option linter.unusedSimpArgs false
set_option maxRecDepth 100000
set_option maxHeartbeats 1000000
namespace Go.Proofs
open Go Go.TL Go.RowKit
theorem grown_spec (w0 : World) : ∀ (fuel : Nat) (w : World) (L : List HA) (l : List GNode) (a : Option Addr) (c : Nat) (root : Bool), l.length < fuel → l.length ≤ c → l.length ≤ 1048576 → Rd tNode w0 a l → Sat w0 w L →
    Calls Try.prog 45 [.slice a l.length c, .bool root].toArray w (fun e w' => ∃ (p ra : Option Addr) (rn rc : Nat) (M : HA), e = .returned (.tuple #[.pointer p, .slice ra rn rc]) ∧ Sat w0 w' (M :: L) ∧ GrowR w0 107 M p ra rn rc (growF fuel l root)) := by
 intro fuel
 induction fuel
 case zero => (intro w L l a c root hm; omega)
 rename_i fuel ih
 intro w L l a c root hf hc hx R1 S
 refine calls_of_W (args := [.slice a l.length c, .bool root]) 135 Try.func45 rfl Try.ntmps45 rfl ?_
 refine W.seq ?_
 refine W.region rfl ?_
 first | refine WO.q (Y.assign (v := .pointer (some _)) rfl) ?_ | refine WO.q (Y.assign (v := .pointer _) rfl) ?_
 refine WO.q (Y.assign (v := .slice _ _ _) rfl) ?_
 refine WO.nil ?_
 refine Then.nx ?_
 refine W.seq ?_
 refine W.seq ?_
 refine W.region rfl ?_
 refine WO.q (Y.move (v := .slice _ _ _) rfl) ?_
 refine WO.q (Y.len (t' := 0) Try.underlying49 rfl) ?_
 refine WO.q (Y.eql rfl rfl) ?_
 refine WO.nil ?_
 refine Then.nx ?_
 refine W.cond rfl (fun h1 => ?_) (fun h1 => ?_) -- cond 0
 ·
  have rh1 := h1
  (try simp only [Q1, Q2, Q3, Q4, Q5, Q6, Q7, Q8, Q9, Qa] at h1)
  refine W.seq ?_
  obtain rfl : l = [] := List.eq_nil_of_length_eq_zero (by omega)
  refine W.region rfl ?_
  first | refine WO.q (Y.assign (v := .pointer (some _)) rfl) ?_ | refine WO.q (Y.assign (v := .pointer _) rfl) ?_
  refine WO.q (Y.assign (v := .slice _ _ _) rfl) ?_
  refine WO.nil ?_
  refine Then.nx ?_
  refine W.ret ?_
  refine Then.r ?_
  refine BodyQ.ret2 Try.results45 (ResV.tmp _ rfl) (ResV.tmp _ rfl) ?_
  first | exact ⟨none, none, 0, 0, Bun [], rfl, Sat.bun (M := []) (S.pk (by repeat (first | exact Pk.nil _ | exact Pk.refl _ | refine Pk.cons 0 rfl ?_ | refine Pk.cons 1 rfl ?_ | refine Pk.cons 2 rfl ?_ | refine Pk.cons 3 rfl ?_ | refine Pk.cons 4 rfl ?_ | refine Pk.cons 5 rfl ?_ | refine Pk.cons 6 rfl ?_ | refine Pk.cons 7 rfl ?_ | refine Pk.cons 8 rfl ?_ | refine Pk.cons 9 rfl ?_ | refine Pk.cons 10 rfl ?_ | refine Pk.cons 11 rfl ?_ | refine Pk.cons 12 rfl ?_ | refine Pk.cons 13 rfl ?_ | refine Pk.drop ?_))), by (rw [growF]; exact ⟨rfl, rfl, rfl, rfl⟩)⟩ | exact ⟨none, none, 0, 0, Bun [], rfl, Sat.bun (M := []) (S.pk (by repeat (first | exact Pk.nil _ | exact Pk.refl _ | refine Pk.cons 0 rfl ?_ | refine Pk.cons 1 rfl ?_ | refine Pk.cons 2 rfl ?_ | refine Pk.cons 3 rfl ?_ | refine Pk.cons 4 rfl ?_ | refine Pk.cons 5 rfl ?_ | refine Pk.cons 6 rfl ?_ | refine Pk.cons 7 rfl ?_ | refine Pk.cons 8 rfl ?_ | refine Pk.cons 9 rfl ?_ | refine Pk.cons 10 rfl ?_ | refine Pk.cons 11 rfl ?_ | refine Pk.cons 12 rfl ?_ | refine Pk.cons 13 rfl ?_ | refine Pk.drop ?_))), by (rw [growF_lim (lim_none (by omega))]; exact ⟨rfl, rfl, rfl, rfl⟩)⟩ | exact ⟨none, none, 0, 0, Bun [], rfl, Sat.bun (M := []) (S.pk (by repeat (first | exact Pk.nil _ | exact Pk.refl _ | refine Pk.cons 0 rfl ?_ | refine Pk.cons 1 rfl ?_ | refine Pk.cons 2 rfl ?_ | refine Pk.cons 3 rfl ?_ | refine Pk.cons 4 rfl ?_ | refine Pk.cons 5 rfl ?_ | refine Pk.cons 6 rfl ?_ | refine Pk.cons 7 rfl ?_ | refine Pk.cons 8 rfl ?_ | refine Pk.cons 9 rfl ?_ | refine Pk.cons 10 rfl ?_ | refine Pk.cons 11 rfl ?_ | refine Pk.cons 12 rfl ?_ | refine Pk.cons 13 rfl ?_ | refine Pk.drop ?_))), by (rw [growF_bad hlim (by assumption)]; exact ⟨rfl, rfl, rfl, rfl⟩)⟩ | exact ⟨none, none, 0, 0, Bun [], rfl, Sat.bun (M := []) (S.pk (by repeat (first | exact Pk.nil _ | exact Pk.refl _ | refine Pk.cons 0 rfl ?_ | refine Pk.cons 1 rfl ?_ | refine Pk.cons 2 rfl ?_ | refine Pk.cons 3 rfl ?_ | refine Pk.cons 4 rfl ?_ | refine Pk.cons 5 rfl ?_ | refine Pk.cons 6 rfl ?_ | refine Pk.cons 7 rfl ?_ | refine Pk.cons 8 rfl ?_ | refine Pk.cons 9 rfl ?_ | refine Pk.cons 10 rfl ?_ | refine Pk.cons 11 rfl ?_ | refine Pk.cons 12 rfl ?_ | refine Pk.cons 13 rfl ?_ | refine Pk.drop ?_))), by (rw [growF_go hlim (by assumption), hK.none hnk (hG.none (by assumption))]; exact ⟨rfl, rfl, rfl, rfl⟩)⟩ | exact ⟨none, none, 0, 0, Bun [], rfl, Sat.bun (M := []) (S.pk (by repeat (first | exact Pk.nil _ | exact Pk.refl _ | refine Pk.cons 0 rfl ?_ | refine Pk.cons 1 rfl ?_ | refine Pk.cons 2 rfl ?_ | refine Pk.cons 3 rfl ?_ | refine Pk.cons 4 rfl ?_ | refine Pk.cons 5 rfl ?_ | refine Pk.cons 6 rfl ?_ | refine Pk.cons 7 rfl ?_ | refine Pk.cons 8 rfl ?_ | refine Pk.cons 9 rfl ?_ | refine Pk.cons 10 rfl ?_ | refine Pk.cons 11 rfl ?_ | refine Pk.cons 12 rfl ?_ | refine Pk.cons 13 rfl ?_ | refine Pk.drop ?_))), by (rw [growF_go hlim (by assumption), hK.bad hnk hg (by assumption) (by assumption)]; exact ⟨rfl, rfl, rfl, rfl⟩)⟩ | (have hfin := hK.fin (by omega); refine ⟨_, _, _, _, Bun [K, Cel b97 (treeL n bs.length ka kc) 107, Own tPtr 91 ka kc bs], rfl, Sat.bun (M := [K, Cel b97 (treeL n bs.length ka kc) 107, Own tPtr 91 ka kc bs]) (S.pk (by repeat (first | exact Pk.nil _ | exact Pk.refl _ | refine Pk.cons 0 rfl ?_ | refine Pk.cons 1 rfl ?_ | refine Pk.cons 2 rfl ?_ | refine Pk.cons 3 rfl ?_ | refine Pk.cons 4 rfl ?_ | refine Pk.cons 5 rfl ?_ | refine Pk.cons 6 rfl ?_ | refine Pk.cons 7 rfl ?_ | refine Pk.cons 8 rfl ?_ | refine Pk.cons 9 rfl ?_ | refine Pk.cons 10 rfl ?_ | refine Pk.cons 11 rfl ?_ | refine Pk.cons 12 rfl ?_ | refine Pk.cons 13 rfl ?_ | refine Pk.drop ?_))), ?_⟩; rw [growF_go hlim (by assumption), hfin]; exact ⟨b97, rfl, rfl, by (rw [HasTree]; exact ⟨ka, kc, bs, by (rw [← hbl]; exact HasBlk.bun (HasBlk.cel _ _ _) 1 rfl), Reads.bun (Reads.own _ _ _ _ _) 2 rfl, HasTrees.bun 0 rfl hT⟩), R3, hlc⟩)
 ·
  have rh1 := h1
  (try simp only [Q1, Q2, Q3, Q4, Q5, Q6, Q7, Q8, Q9, Qa] at h1)
  refine W.skip ?_
  refine Then.nx ?_
  refine W.seq ?_
  obtain ⟨n, r, rfl⟩ : ∃ n r, l = n :: r := by (cases l; (exact absurd rfl (by assumption)); exact ⟨_, _, rfl⟩)
  have hlen : (n :: r).length = r.length + 1 := rfl
  have hx0 : (n :: r)[0]? = some n := rfl
  have ha := R1.1 (by omega)
  refine W.region rfl ?_
  refine WO.q (Y.move (v := .slice _ _ _) rfl) ?_
  first | refine WO.q (Y.ixN sl_49 rfl rfl (by (first | assumption | rfl)) (by (first | assumption | omega))) ?_ | refine WO.q (Y.ix sl_49 rfl rfl (by (first | assumption | rfl)) (by (first | assumption | omega)) (by (first | assumption | omega))) ?_
  refine WO.q (Y.load rfl (loadRdN sz_75 (R1.ext S.ext) (by assumption))) ?_
  refine WO.e (O.alloc z_75 S (fun b6 w S => ?_))
  first | refine WO.e0 (O.store (v := .agg _) 0 S rfl rfl rfl sz_75 rfl rfl rfl rfl (fun w S => ?_)) | refine WO.e0 (O.store (v := .agg _) 1 S rfl rfl rfl sz_75 rfl rfl rfl rfl (fun w S => ?_)) | refine WO.e0 (O.store (v := .agg _) 2 S rfl rfl rfl sz_75 rfl rfl rfl rfl (fun w S => ?_)) | refine WO.e0 (O.store (v := .agg _) 3 S rfl rfl rfl sz_75 rfl rfl rfl rfl (fun w S => ?_))
  refine WO.nil ?_
  refine Then.nx ?_
  refine W.seq ?_
  refine W.region rfl ?_
  refine WO.q (Y.assign (v := .int .i64 _) rfl) ?_
  refine WO.q (Y.assign (v := .int .i64 _) rfl) ?_
  refine WO.q (Y.assign (v := .bool _) rfl) ?_
  refine WO.nil ?_
  refine Then.nx ?_
  refine W.cut3 [4, 5, 7, 8, 9, 19, 20, 21, 22, 23, 24, 25, 26, 27, 28, 29, 30, 31, 32, 33, 34, 35, 36, 37, 38, 39, 40, 41, 42, 43] 7 8 9 (fun v7 v8 v9 w => ∃ (lo hi : Int) (nm : Bool), v7 = .int .i64 lo ∧ v8 = .int .i64 hi ∧ v9 = .bool nm ∧ lim n.op (r.length + 1) = some (lo, hi, nm) ∧ Sat w0 w (Cel b6 (tNode.enc n) 75 :: L)) ?_ ?_
  ·
   refine W.seq ?_
   refine W.region rfl ?_
   refine WO.q (Y.fieldB fo_75_0 rfl) ?_
   first | refine WO.q (Y.load rfl (loadB1 sz_28 (S.ext.heap hcb) rfl)) ?_ | refine WO.q (Y.load rfl (loadS1 sz_28 S 0 rfl rfl)) ?_ | refine WO.q (Y.load rfl (loadS1 sz_28 S 1 rfl rfl)) ?_ | refine WO.q (Y.load rfl (loadS1 sz_28 S 2 rfl rfl)) ?_ | refine WO.q (Y.load rfl (loadS1 sz_28 S 3 rfl rfl)) ?_
   refine WO.nil ?_
   refine Then.nx ?_
   refine W.block ?_
   refine W.seq ?_
   refine W.seq ?_
   refine W.region rfl ?_
   refine WO.q (Y.eql rfl rfl) ?_
   refine WO.q (Y.assign (v := .bool _) rfl) ?_
   refine WO.nil ?_
   refine Then.nx ?_
   refine W.cond rfl (fun h2 => ?_) (fun h2 => ?_) -- cond 1
   ·
    have rh2 := h2
    (try simp only [Q1, Q2, Q3, Q4, Q5, Q6, Q7, Q8, Q9, Qa] at h2)
    refine W.skip ?_
    refine Then.nx ?_
    first | refine W.condT rfl ?_ | refine W.condT (congrArg Value.bool (by assumption)) ?_
    refine W.skip ?_
    refine InB.nx ?_
    refine Then.nx ⟨?_, ?_⟩
    ·
     (repeat (first | exact Out.hav _ _ _ | exact Out.refl _ _ | refine Out.up rfl ?_ | refine Out.sub rfl ?_))
    ·
     exact ⟨_, _, _, rfl, rfl, rfl, by (unfold lim; (repeat' split) <;> first | rfl | (exfalso; omega)), S⟩
   ·
    have rh2 := h2
    (try simp only [Q1, Q2, Q3, Q4, Q5, Q6, Q7, Q8, Q9, Qa] at h2)
    refine W.region rfl ?_
    refine WO.q (Y.eql rfl rfl) ?_
    refine WO.q (Y.assign (v := .bool _) rfl) ?_
    refine WO.nil ?_
    refine Then.nx ?_
    refine W.cond rfl (fun h3 => ?_) (fun h3 => ?_) -- cond 2
    ·
     have rh3 := h3
     (try simp only [Q1, Q2, Q3, Q4, Q5, Q6, Q7, Q8, Q9, Qa] at h3)
     refine W.skip ?_
     refine InB.nx ?_
     refine Then.nx ⟨?_, ?_⟩
     ·
      (repeat (first | exact Out.hav _ _ _ | exact Out.refl _ _ | refine Out.up rfl ?_ | refine Out.sub rfl ?_))
     ·
      exact ⟨_, _, _, rfl, rfl, rfl, by (unfold lim; (repeat' split) <;> first | rfl | (exfalso; omega)), S⟩
    ·
     have rh3 := h3
     (try simp only [Q1, Q2, Q3, Q4, Q5, Q6, Q7, Q8, Q9, Qa] at h3)
     refine W.seq ?_
     refine W.seq ?_
     refine W.region rfl ?_
     refine WO.q (Y.eql rfl rfl) ?_
     refine WO.q (Y.assign (v := .bool _) rfl) ?_
     refine WO.nil ?_
     refine Then.nx ?_
     refine W.cond rfl (fun h4 => ?_) (fun h4 => ?_) -- cond 3
     ·
      have rh4 := h4
      (try simp only [Q1, Q2, Q3, Q4, Q5, Q6, Q7, Q8, Q9, Qa] at h4)
      refine W.skip ?_
      refine Then.nx ?_
      first | refine W.condT rfl ?_ | refine W.condT (congrArg Value.bool (by assumption)) ?_
      refine W.region rfl ?_
      refine WO.q (Y.assign (v := .int .i64 _) rfl) ?_
      refine WO.q (Y.assign (v := .int .i64 _) rfl) ?_
      refine WO.nil ?_
      refine InB.nx ?_
      refine Then.nx ⟨?_, ?_⟩
      ·
       (repeat (first | exact Out.hav _ _ _ | exact Out.refl _ _ | refine Out.up rfl ?_ | refine Out.sub rfl ?_))
      ·
       exact ⟨_, _, _, rfl, rfl, rfl, by (unfold lim; (repeat' split) <;> first | rfl | (exfalso; omega)), S⟩
     ·
      have rh4 := h4
      (try simp only [Q1, Q2, Q3, Q4, Q5, Q6, Q7, Q8, Q9, Qa] at h4)
      refine W.seq ?_
      refine W.region rfl ?_
      refine WO.q (Y.eql rfl rfl) ?_
      refine WO.q (Y.assign (v := .bool _) rfl) ?_
      refine WO.nil ?_
      refine Then.nx ?_
      refine W.cond rfl (fun h5 => ?_) (fun h5 => ?_) -- cond 4
      ·
       have rh5 := h5
       (try simp only [Q1, Q2, Q3, Q4, Q5, Q6, Q7, Q8, Q9, Qa] at h5)
       refine W.skip ?_
       refine Then.nx ?_
       first | refine W.condT rfl ?_ | refine W.condT (congrArg Value.bool (by assumption)) ?_
       refine W.region rfl ?_
       refine WO.q (Y.assign (v := .int .i64 _) rfl) ?_
       refine WO.q (Y.assign (v := .int .i64 _) rfl) ?_
       refine WO.nil ?_
       refine InB.nx ?_
       refine Then.nx ⟨?_, ?_⟩
       ·
        (repeat (first | exact Out.hav _ _ _ | exact Out.refl _ _ | refine Out.up rfl ?_ | refine Out.sub rfl ?_))
       ·
        exact ⟨_, _, _, rfl, rfl, rfl, by (unfold lim; (repeat' split) <;> first | rfl | (exfalso; omega)), S⟩
      ·
       have rh5 := h5
       (try simp only [Q1, Q2, Q3, Q4, Q5, Q6, Q7, Q8, Q9, Qa] at h5)
       refine W.seq ?_
       refine W.region rfl ?_
       refine WO.q (Y.eql rfl rfl) ?_
       refine WO.q (Y.assign (v := .bool _) rfl) ?_
       refine WO.nil ?_
       refine Then.nx ?_
       refine W.cond rfl (fun h6 => ?_) (fun h6 => ?_) -- cond 5
       ·
        have rh6 := h6
        (try simp only [Q1, Q2, Q3, Q4, Q5, Q6, Q7, Q8, Q9, Qa] at h6)
        refine W.skip ?_
        refine Then.nx ?_
        first | refine W.condT rfl ?_ | refine W.condT (congrArg Value.bool (by assumption)) ?_
        refine W.region rfl ?_
        refine WO.q (Y.assign (v := .int .i64 _) rfl) ?_
        refine WO.q (Y.assign (v := .int .i64 _) rfl) ?_
        refine WO.nil ?_
        refine InB.nx ?_
        refine Then.nx ⟨?_, ?_⟩
        ·
         (repeat (first | exact Out.hav _ _ _ | exact Out.refl _ _ | refine Out.up rfl ?_ | refine Out.sub rfl ?_))
        ·
         exact ⟨_, _, _, rfl, rfl, rfl, by (unfold lim; (repeat' split) <;> first | rfl | (exfalso; omega)), S⟩
       ·
        have rh6 := h6
        (try simp only [Q1, Q2, Q3, Q4, Q5, Q6, Q7, Q8, Q9, Qa] at h6)
        refine W.seq ?_
        refine W.region rfl ?_
        refine WO.q (Y.eql rfl rfl) ?_
        refine WO.q (Y.assign (v := .bool _) rfl) ?_
        refine WO.nil ?_
        refine Then.nx ?_
        refine W.cond rfl (fun h7 => ?_) (fun h7 => ?_) -- cond 6
        ·
         have rh7 := h7
         (try simp only [Q1, Q2, Q3, Q4, Q5, Q6, Q7, Q8, Q9, Qa] at h7)
         refine W.skip ?_
         refine Then.nx ?_
         first | refine W.condT rfl ?_ | refine W.condT (congrArg Value.bool (by assumption)) ?_
         refine W.region rfl ?_
         refine WO.q (Y.assign (v := .int .i64 _) rfl) ?_
         refine WO.q (Y.assign (v := .int .i64 _) rfl) ?_
         refine WO.nil ?_
         refine InB.nx ?_
         refine Then.nx ⟨?_, ?_⟩
         ·
          (repeat (first | exact Out.hav _ _ _ | exact Out.refl _ _ | refine Out.up rfl ?_ | refine Out.sub rfl ?_))
         ·
          exact ⟨_, _, _, rfl, rfl, rfl, by (unfold lim; (repeat' split) <;> first | rfl | (exfalso; omega)), S⟩
        ·
         have rh7 := h7
         (try simp only [Q1, Q2, Q3, Q4, Q5, Q6, Q7, Q8, Q9, Qa] at h7)
         refine W.region rfl ?_
         refine WO.q (Y.eql rfl rfl) ?_
         refine WO.q (Y.assign (v := .bool _) rfl) ?_
         refine WO.nil ?_
         refine Then.nx ?_
         refine W.cond rfl (fun h8 => ?_) (fun h8 => ?_) -- cond 7
         ·
          have rh8 := h8
          (try simp only [Q1, Q2, Q3, Q4, Q5, Q6, Q7, Q8, Q9, Qa] at h8)
          refine W.region rfl ?_
          refine WO.q (Y.assign (v := .int .i64 _) rfl) ?_
          refine WO.q (Y.assign (v := .int .i64 _) rfl) ?_
          refine WO.nil ?_
          refine InB.nx ?_
          refine Then.nx ⟨?_, ?_⟩
          ·
           (repeat (first | exact Out.hav _ _ _ | exact Out.refl _ _ | refine Out.up rfl ?_ | refine Out.sub rfl ?_))
          ·
           exact ⟨_, _, _, rfl, rfl, rfl, by (unfold lim; (repeat' split) <;> first | rfl | (exfalso; omega)), S⟩
         ·
          have rh8 := h8
          (try simp only [Q1, Q2, Q3, Q4, Q5, Q6, Q7, Q8, Q9, Qa] at h8)
          refine W.seq ?_
          refine W.region rfl ?_
          refine WO.q (Y.eql rfl rfl) ?_
          refine WO.q (Y.assign (v := .bool _) rfl) ?_
          refine WO.nil ?_
          refine Then.nx ?_
          refine W.cond rfl (fun h9 => ?_) (fun h9 => ?_) -- cond 8
          ·
           have rh9 := h9
           (try simp only [Q1, Q2, Q3, Q4, Q5, Q6, Q7, Q8, Q9, Qa] at h9)
           refine W.region rfl ?_
           refine WO.q (Y.assign (v := .int .i64 _) rfl) ?_
           refine WO.q (Y.assign (v := .int .i64 _) rfl) ?_
           refine WO.q (Y.assign (v := .bool _) rfl) ?_
           refine WO.nil ?_
           refine InB.nx ?_
           refine Then.nx ⟨?_, ?_⟩
           ·
            (repeat (first | exact Out.hav _ _ _ | exact Out.refl _ _ | refine Out.up rfl ?_ | refine Out.sub rfl ?_))
           ·
            exact ⟨_, _, _, rfl, rfl, rfl, by (unfold lim; (repeat' split) <;> first | rfl | (exfalso; omega)), S⟩
          ·
           have rh9 := h9
           (try simp only [Q1, Q2, Q3, Q4, Q5, Q6, Q7, Q8, Q9, Qa] at h9)
           refine W.seq ?_
           refine W.seq ?_
           refine W.region rfl ?_
           refine WO.q (Y.eql rfl rfl) ?_
           refine WO.q (Y.assign (v := .bool _) rfl) ?_
           refine WO.nil ?_
           refine Then.nx ?_
           refine W.cond rfl (fun h10 => ?_) (fun h10 => ?_) -- cond 9
           ·
            have rh10 := h10
            (try simp only [Q1, Q2, Q3, Q4, Q5, Q6, Q7, Q8, Q9, Qa] at h10)
            refine W.skip ?_
            refine Then.nx ?_
            first | refine W.condT rfl ?_ | refine W.condT (congrArg Value.bool (by assumption)) ?_
            refine W.region rfl ?_
            refine WO.q (Y.assign (v := .int .i64 _) rfl) ?_
            refine WO.q (Y.assign (v := .int .i64 _) rfl) ?_
            refine WO.nil ?_
            refine InB.nx ?_
            refine Then.nx ⟨?_, ?_⟩
            ·
             (repeat (first | exact Out.hav _ _ _ | exact Out.refl _ _ | refine Out.up rfl ?_ | refine Out.sub rfl ?_))
            ·
             exact ⟨_, _, _, rfl, rfl, rfl, by (unfold lim; (repeat' split) <;> first | rfl | (exfalso; omega)), S⟩
           ·
            have rh10 := h10
            (try simp only [Q1, Q2, Q3, Q4, Q5, Q6, Q7, Q8, Q9, Qa] at h10)
            refine W.seq ?_
            refine W.region rfl ?_
            refine WO.q (Y.eql rfl rfl) ?_
            refine WO.q (Y.assign (v := .bool _) rfl) ?_
            refine WO.nil ?_
            refine Then.nx ?_
            refine W.cond rfl (fun h11 => ?_) (fun h11 => ?_) -- cond 10
            ·
             have rh11 := h11
             (try simp only [Q1, Q2, Q3, Q4, Q5, Q6, Q7, Q8, Q9, Qa] at h11)
             refine W.skip ?_
             refine Then.nx ?_
             first | refine W.condT rfl ?_ | refine W.condT (congrArg Value.bool (by assumption)) ?_
             refine W.region rfl ?_
             refine WO.q (Y.assign (v := .int .i64 _) rfl) ?_
             refine WO.q (Y.assign (v := .int .i64 _) rfl) ?_
             refine WO.nil ?_
             refine InB.nx ?_
             refine Then.nx ⟨?_, ?_⟩
             ·
              (repeat (first | exact Out.hav _ _ _ | exact Out.refl _ _ | refine Out.up rfl ?_ | refine Out.sub rfl ?_))
             ·
              exact ⟨_, _, _, rfl, rfl, rfl, by (unfold lim; (repeat' split) <;> first | rfl | (exfalso; omega)), S⟩
            ·
             have rh11 := h11
             (try simp only [Q1, Q2, Q3, Q4, Q5, Q6, Q7, Q8, Q9, Qa] at h11)
             refine W.region rfl ?_
             refine WO.q (Y.eql rfl rfl) ?_
             refine WO.q (Y.assign (v := .bool _) rfl) ?_
             refine WO.nil ?_
             refine Then.nx ?_
             refine W.cond rfl (fun h12 => ?_) (fun h12 => ?_) -- cond 11
             ·
              have rh12 := h12
              (try simp only [Q1, Q2, Q3, Q4, Q5, Q6, Q7, Q8, Q9, Qa] at h12)
              refine W.region rfl ?_
              refine WO.q (Y.assign (v := .int .i64 _) rfl) ?_
              refine WO.q (Y.assign (v := .int .i64 _) rfl) ?_
              refine WO.nil ?_
              refine InB.nx ?_
              refine Then.nx ⟨?_, ?_⟩
              ·
               (repeat (first | exact Out.hav _ _ _ | exact Out.refl _ _ | refine Out.up rfl ?_ | refine Out.sub rfl ?_))
              ·
               exact ⟨_, _, _, rfl, rfl, rfl, by (unfold lim; (repeat' split) <;> first | rfl | (exfalso; omega)), S⟩
             ·
              have rh12 := h12
              (try simp only [Q1, Q2, Q3, Q4, Q5, Q6, Q7, Q8, Q9, Qa] at h12)
              refine W.seq ?_
              refine W.region rfl ?_
              refine WO.q (Y.eql rfl rfl) ?_
              refine WO.q (Y.assign (v := .bool _) rfl) ?_
              refine WO.nil ?_
              refine Then.nx ?_
              refine W.cond rfl (fun h13 => ?_) (fun h13 => ?_) -- cond 12
              ·
               have rh13 := h13
               (try simp only [Q1, Q2, Q3, Q4, Q5, Q6, Q7, Q8, Q9, Qa] at h13)
               refine W.region rfl ?_
               refine WO.q (Y.assign (v := .int .i64 _) rfl) ?_
               refine WO.q (Y.assign (v := .int .i64 _) rfl) ?_
               refine WO.nil ?_
               refine InB.nx ?_
               refine Then.nx ⟨?_, ?_⟩
               ·
                (repeat (first | exact Out.hav _ _ _ | exact Out.refl _ _ | refine Out.up rfl ?_ | refine Out.sub rfl ?_))
               ·
                exact ⟨_, _, _, rfl, rfl, rfl, by (unfold lim; (repeat' split) <;> first | rfl | (exfalso; omega)), S⟩
              ·
               have rh13 := h13
               (try simp only [Q1, Q2, Q3, Q4, Q5, Q6, Q7, Q8, Q9, Qa] at h13)
               refine W.seq ?_
               refine W.seq ?_
               refine W.region rfl ?_
               refine WO.q (Y.eql rfl rfl) ?_
               refine WO.q (Y.assign (v := .bool _) rfl) ?_
               refine WO.nil ?_
               refine Then.nx ?_
               refine W.cond rfl (fun h14 => ?_) (fun h14 => ?_) -- cond 13
               ·
                have rh14 := h14
                (try simp only [Q1, Q2, Q3, Q4, Q5, Q6, Q7, Q8, Q9, Qa] at h14)
                refine W.skip ?_
                refine Then.nx ?_
                first | refine W.condT rfl ?_ | refine W.condT (congrArg Value.bool (by assumption)) ?_
                refine W.region rfl ?_
                refine WO.q (Y.move (v := .slice _ _ _) rfl) ?_
                refine WO.q (Y.len (t' := 0) Try.underlying49 rfl) ?_
                refine WO.q (Y.assign (v := .int .i64 _) rfl) ?_
                refine WO.q (Y.assign (v := .int .i64 _) rfl) ?_
                refine WO.q (Y.assign (v := .bool _) rfl) ?_
                refine WO.nil ?_
                refine InB.nx ?_
                refine Then.nx ⟨?_, ?_⟩
                ·
                 (repeat (first | exact Out.hav _ _ _ | exact Out.refl _ _ | refine Out.up rfl ?_ | refine Out.sub rfl ?_))
                ·
                 exact ⟨_, _, _, rfl, rfl, rfl, by (unfold lim; (repeat' split) <;> first | rfl | (exfalso; omega)), S⟩
               ·
                have rh14 := h14
                (try simp only [Q1, Q2, Q3, Q4, Q5, Q6, Q7, Q8, Q9, Qa] at h14)
                refine W.seq ?_
                refine W.region rfl ?_
                refine WO.q (Y.eql rfl rfl) ?_
                refine WO.q (Y.assign (v := .bool _) rfl) ?_
                refine WO.nil ?_
                refine Then.nx ?_
                refine W.cond rfl (fun h15 => ?_) (fun h15 => ?_) -- cond 14
                ·
                 have rh15 := h15
                 (try simp only [Q1, Q2, Q3, Q4, Q5, Q6, Q7, Q8, Q9, Qa] at h15)
                 refine W.skip ?_
                 refine Then.nx ?_
                 first | refine W.condT rfl ?_ | refine W.condT (congrArg Value.bool (by assumption)) ?_
                 refine W.region rfl ?_
                 refine WO.q (Y.move (v := .slice _ _ _) rfl) ?_
                 refine WO.q (Y.len (t' := 0) Try.underlying49 rfl) ?_
                 refine WO.q (Y.assign (v := .int .i64 _) rfl) ?_
                 refine WO.q (Y.assign (v := .int .i64 _) rfl) ?_
                 refine WO.q (Y.assign (v := .bool _) rfl) ?_
                 refine WO.nil ?_
                 refine InB.nx ?_
                 refine Then.nx ⟨?_, ?_⟩
                 ·
                  (repeat (first | exact Out.hav _ _ _ | exact Out.refl _ _ | refine Out.up rfl ?_ | refine Out.sub rfl ?_))
                 ·
                  exact ⟨_, _, _, rfl, rfl, rfl, by (unfold lim; (repeat' split) <;> first | rfl | (exfalso; omega)), S⟩
                ·
                 have rh15 := h15
                 (try simp only [Q1, Q2, Q3, Q4, Q5, Q6, Q7, Q8, Q9, Qa] at h15)
                 refine W.region rfl ?_
                 refine WO.q (Y.eql rfl rfl) ?_
                 refine WO.q (Y.assign (v := .bool _) rfl) ?_
                 refine WO.nil ?_
                 refine Then.nx ?_
                 refine W.cond rfl (fun h16 => ?_) (fun h16 => ?_) -- cond 15
                 ·
                  have rh16 := h16
                  (try simp only [Q1, Q2, Q3, Q4, Q5, Q6, Q7, Q8, Q9, Qa] at h16)
                  refine W.region rfl ?_
                  refine WO.q (Y.move (v := .slice _ _ _) rfl) ?_
                  refine WO.q (Y.len (t' := 0) Try.underlying49 rfl) ?_
                  refine WO.q (Y.assign (v := .int .i64 _) rfl) ?_
                  refine WO.q (Y.assign (v := .int .i64 _) rfl) ?_
                  refine WO.q (Y.assign (v := .bool _) rfl) ?_
                  refine WO.nil ?_
                  refine InB.nx ?_
                  refine Then.nx ⟨?_, ?_⟩
                  ·
                   (repeat (first | exact Out.hav _ _ _ | exact Out.refl _ _ | refine Out.up rfl ?_ | refine Out.sub rfl ?_))
                  ·
                   exact ⟨_, _, _, rfl, rfl, rfl, by (unfold lim; (repeat' split) <;> first | rfl | (exfalso; omega)), S⟩
                 ·
                  have rh16 := h16
                  (try simp only [Q1, Q2, Q3, Q4, Q5, Q6, Q7, Q8, Q9, Qa] at h16)
                  refine W.seq ?_
                  refine W.region rfl ?_
                  first | refine WO.q (Y.assign (v := .pointer (some _)) rfl) ?_ | refine WO.q (Y.assign (v := .pointer _) rfl) ?_
                  refine WO.q (Y.assign (v := .slice _ _ _) rfl) ?_
                  refine WO.nil ?_
                  refine Then.nx ?_
                  refine W.ret ?_
                  refine InB.r ?_
                  refine Then.r ?_
                  refine BodyQ.ret2 Try.results45 (ResV.tmp _ rfl) (ResV.tmp _ rfl) ?_
                  first | exact ⟨none, none, 0, 0, Bun [], rfl, Sat.bun (M := []) (S.pk (by repeat (first | exact Pk.nil _ | exact Pk.refl _ | refine Pk.cons 0 rfl ?_ | refine Pk.cons 1 rfl ?_ | refine Pk.cons 2 rfl ?_ | refine Pk.cons 3 rfl ?_ | refine Pk.cons 4 rfl ?_ | refine Pk.cons 5 rfl ?_ | refine Pk.cons 6 rfl ?_ | refine Pk.cons 7 rfl ?_ | refine Pk.cons 8 rfl ?_ | refine Pk.cons 9 rfl ?_ | refine Pk.cons 10 rfl ?_ | refine Pk.cons 11 rfl ?_ | refine Pk.cons 12 rfl ?_ | refine Pk.cons 13 rfl ?_ | refine Pk.drop ?_))), by (rw [growF]; exact ⟨rfl, rfl, rfl, rfl⟩)⟩ | exact ⟨none, none, 0, 0, Bun [], rfl, Sat.bun (M := []) (S.pk (by repeat (first | exact Pk.nil _ | exact Pk.refl _ | refine Pk.cons 0 rfl ?_ | refine Pk.cons 1 rfl ?_ | refine Pk.cons 2 rfl ?_ | refine Pk.cons 3 rfl ?_ | refine Pk.cons 4 rfl ?_ | refine Pk.cons 5 rfl ?_ | refine Pk.cons 6 rfl ?_ | refine Pk.cons 7 rfl ?_ | refine Pk.cons 8 rfl ?_ | refine Pk.cons 9 rfl ?_ | refine Pk.cons 10 rfl ?_ | refine Pk.cons 11 rfl ?_ | refine Pk.cons 12 rfl ?_ | refine Pk.cons 13 rfl ?_ | refine Pk.drop ?_))), by (rw [growF_lim (lim_none (by omega))]; exact ⟨rfl, rfl, rfl, rfl⟩)⟩ | exact ⟨none, none, 0, 0, Bun [], rfl, Sat.bun (M := []) (S.pk (by repeat (first | exact Pk.nil _ | exact Pk.refl _ | refine Pk.cons 0 rfl ?_ | refine Pk.cons 1 rfl ?_ | refine Pk.cons 2 rfl ?_ | refine Pk.cons 3 rfl ?_ | refine Pk.cons 4 rfl ?_ | refine Pk.cons 5 rfl ?_ | refine Pk.cons 6 rfl ?_ | refine Pk.cons 7 rfl ?_ | refine Pk.cons 8 rfl ?_ | refine Pk.cons 9 rfl ?_ | refine Pk.cons 10 rfl ?_ | refine Pk.cons 11 rfl ?_ | refine Pk.cons 12 rfl ?_ | refine Pk.cons 13 rfl ?_ | refine Pk.drop ?_))), by (rw [growF_bad hlim (by assumption)]; exact ⟨rfl, rfl, rfl, rfl⟩)⟩ | exact ⟨none, none, 0, 0, Bun [], rfl, Sat.bun (M := []) (S.pk (by repeat (first | exact Pk.nil _ | exact Pk.refl _ | refine Pk.cons 0 rfl ?_ | refine Pk.cons 1 rfl ?_ | refine Pk.cons 2 rfl ?_ | refine Pk.cons 3 rfl ?_ | refine Pk.cons 4 rfl ?_ | refine Pk.cons 5 rfl ?_ | refine Pk.cons 6 rfl ?_ | refine Pk.cons 7 rfl ?_ | refine Pk.cons 8 rfl ?_ | refine Pk.cons 9 rfl ?_ | refine Pk.cons 10 rfl ?_ | refine Pk.cons 11 rfl ?_ | refine Pk.cons 12 rfl ?_ | refine Pk.cons 13 rfl ?_ | refine Pk.drop ?_))), by (rw [growF_go hlim (by assumption), hK.none hnk (hG.none (by assumption))]; exact ⟨rfl, rfl, rfl, rfl⟩)⟩ | exact ⟨none, none, 0, 0, Bun [], rfl, Sat.bun (M := []) (S.pk (by repeat (first | exact Pk.nil _ | exact Pk.refl _ | refine Pk.cons 0 rfl ?_ | refine Pk.cons 1 rfl ?_ | refine Pk.cons 2 rfl ?_ | refine Pk.cons 3 rfl ?_ | refine Pk.cons 4 rfl ?_ | refine Pk.cons 5 rfl ?_ | refine Pk.cons 6 rfl ?_ | refine Pk.cons 7 rfl ?_ | refine Pk.cons 8 rfl ?_ | refine Pk.cons 9 rfl ?_ | refine Pk.cons 10 rfl ?_ | refine Pk.cons 11 rfl ?_ | refine Pk.cons 12 rfl ?_ | refine Pk.cons 13 rfl ?_ | refine Pk.drop ?_))), by (rw [growF_go hlim (by assumption), hK.bad hnk hg (by assumption) (by assumption)]; exact ⟨rfl, rfl, rfl, rfl⟩)⟩ | (have hfin := hK.fin (by omega); refine ⟨_, _, _, _, Bun [K, Cel b97 (treeL n bs.length ka kc) 107, Own tPtr 91 ka kc bs], rfl, Sat.bun (M := [K, Cel b97 (treeL n bs.length ka kc) 107, Own tPtr 91 ka kc bs]) (S.pk (by repeat (first | exact Pk.nil _ | exact Pk.refl _ | refine Pk.cons 0 rfl ?_ | refine Pk.cons 1 rfl ?_ | refine Pk.cons 2 rfl ?_ | refine Pk.cons 3 rfl ?_ | refine Pk.cons 4 rfl ?_ | refine Pk.cons 5 rfl ?_ | refine Pk.cons 6 rfl ?_ | refine Pk.cons 7 rfl ?_ | refine Pk.cons 8 rfl ?_ | refine Pk.cons 9 rfl ?_ | refine Pk.cons 10 rfl ?_ | refine Pk.cons 11 rfl ?_ | refine Pk.cons 12 rfl ?_ | refine Pk.cons 13 rfl ?_ | refine Pk.drop ?_))), ?_⟩; rw [growF_go hlim (by assumption), hfin]; exact ⟨b97, rfl, rfl, by (rw [HasTree]; exact ⟨ka, kc, bs, by (rw [← hbl]; exact HasBlk.bun (HasBlk.cel _ _ _) 1 rfl), Reads.bun (Reads.own _ _ _ _ _) 2 rfl, HasTrees.bun 0 rfl hT⟩), R3, hlc⟩)
  ·
   rintro gj457 v7 v8 v9 w ⟨lo, hi, nm, rfl, rfl, rfl, hlim, S⟩
   have hlb := lim_bd hlim (by omega)
   refine W.cut1 [10, 44, 45, 46, 47, 48, 49, 50, 51, 52, 53, 54, 55, 56, 57, 58, 59, 60, 61] 10 (fun v10 w => v10 = .bool (bareB n) ∧ Sat w0 w (Cel b6 (tNode.enc n) 75 :: L)) ?_ ?_
   ·
    refine W.region rfl ?_
    refine WO.q (Y.fieldB fo_75_1 rfl) ?_
    first | refine WO.q (Y.load rfl (loadS1 sz_2 S 0 rfl rfl)) ?_ | refine WO.q (Y.load rfl (loadS1 sz_2 S 1 rfl rfl)) ?_ | refine WO.q (Y.load rfl (loadS1 sz_2 S 2 rfl rfl)) ?_ | refine WO.q (Y.load rfl (loadS1 sz_2 S 3 rfl rfl)) ?_
    refine WO.q (Y.eql rfl rfl) ?_
    refine WO.q (Y.move (v := .bool _) rfl) ?_
    refine WO.splitB (fun h17 => ?_) (fun h17 => ?_)
    ·
     (try simp only [Q1, Q2, Q3, Q4, Q5, Q6, Q7, Q8, Q9, Qa] at h17)
     refine WO.qF rfl ?_
     refine WO.qF rfl ?_
     refine WO.qF rfl ?_
     refine WO.q (Y.pickT (u := .bool _) rfl rfl) ?_
     refine WO.q (Y.move (v := .bool _) rfl) ?_
     refine WO.qF rfl ?_
     refine WO.qF rfl ?_
     refine WO.qF rfl ?_
     refine WO.qF rfl ?_
     refine WO.qF rfl ?_
     refine WO.qF rfl ?_
     refine WO.qF rfl ?_
     refine WO.qF rfl ?_
     refine WO.q (Y.pickT (u := .bool _) rfl rfl) ?_
     refine WO.q (Y.assign (v := .bool _) rfl) ?_
     refine WO.nil ?_
     refine Then.nx ⟨?_, ?_⟩
     ·
      (repeat (first | exact Out.hav _ _ _ | exact Out.refl _ _ | refine Out.up rfl ?_ | refine Out.sub rfl ?_))
     ·
      exact ⟨by (show Value.bool _ = Value.bool _; congr 1; unfold bareB; first | (symm; rw [decide_eq_true_eq]; omega) | (symm; rw [decide_eq_false_iff_not]; omega) | (rw [Bool.eq_iff_iff]; simp only [decide_eq_true_eq]; omega)), S⟩
    ·
     (try simp only [Q1, Q2, Q3, Q4, Q5, Q6, Q7, Q8, Q9, Qa] at h17)
     refine WO.qT rfl (Y.fieldB fo_75_0 rfl) ?_
     first | refine WO.qT rfl (Y.load rfl (loadB1 sz_28 (S.ext.heap hcb) rfl)) ?_ | refine WO.qT rfl (Y.load rfl (loadS1 sz_28 S 0 rfl rfl)) ?_ | refine WO.qT rfl (Y.load rfl (loadS1 sz_28 S 1 rfl rfl)) ?_ | refine WO.qT rfl (Y.load rfl (loadS1 sz_28 S 2 rfl rfl)) ?_ | refine WO.qT rfl (Y.load rfl (loadS1 sz_28 S 3 rfl rfl)) ?_
     refine WO.qT rfl (Y.eql rfl rfl) ?_
     refine WO.q (Y.pickF (u := .bool _) rfl rfl) ?_
     refine WO.q (Y.move (v := .bool _) rfl) ?_
     refine WO.splitB (fun h18 => ?_) (fun h18 => ?_)
     ·
      (try simp only [Q1, Q2, Q3, Q4, Q5, Q6, Q7, Q8, Q9, Qa] at h18)
      refine WO.qF rfl ?_
      refine WO.qF rfl ?_
      refine WO.qF rfl ?_
      refine WO.qF rfl ?_
      refine WO.qF rfl ?_
      refine WO.qF rfl ?_
      refine WO.qF rfl ?_
      refine WO.qF rfl ?_
      refine WO.q (Y.pickT (u := .bool _) rfl rfl) ?_
      refine WO.q (Y.assign (v := .bool _) rfl) ?_
      refine WO.nil ?_
      refine Then.nx ⟨?_, ?_⟩
      ·
       (repeat (first | exact Out.hav _ _ _ | exact Out.refl _ _ | refine Out.up rfl ?_ | refine Out.sub rfl ?_))
      ·
       exact ⟨by (show Value.bool _ = Value.bool _; congr 1; unfold bareB; first | (symm; rw [decide_eq_true_eq]; omega) | (symm; rw [decide_eq_false_iff_not]; omega) | (rw [Bool.eq_iff_iff]; simp only [decide_eq_true_eq]; omega)), S⟩
     ·
      (try simp only [Q1, Q2, Q3, Q4, Q5, Q6, Q7, Q8, Q9, Qa] at h18)
      refine WO.qT rfl (Y.fieldB fo_75_0 rfl) ?_
      first | refine WO.qT rfl (Y.load rfl (loadB1 sz_28 (S.ext.heap hcb) rfl)) ?_ | refine WO.qT rfl (Y.load rfl (loadS1 sz_28 S 0 rfl rfl)) ?_ | refine WO.qT rfl (Y.load rfl (loadS1 sz_28 S 1 rfl rfl)) ?_ | refine WO.qT rfl (Y.load rfl (loadS1 sz_28 S 2 rfl rfl)) ?_ | refine WO.qT rfl (Y.load rfl (loadS1 sz_28 S 3 rfl rfl)) ?_
      refine WO.qT rfl (Y.eql rfl rfl) ?_
      refine WO.qT rfl (Y.move (v := .bool _) rfl) ?_
      refine WO.splitB (fun h19 => ?_) (fun h19 => ?_)
      ·
       (try simp only [Q1, Q2, Q3, Q4, Q5, Q6, Q7, Q8, Q9, Qa] at h19)
       refine WO.qT rfl (Y.fieldB fo_75_1 rfl) ?_
       first | refine WO.qT rfl (Y.load rfl (loadS1 sz_2 S 0 rfl rfl)) ?_ | refine WO.qT rfl (Y.load rfl (loadS1 sz_2 S 1 rfl rfl)) ?_ | refine WO.qT rfl (Y.load rfl (loadS1 sz_2 S 2 rfl rfl)) ?_ | refine WO.qT rfl (Y.load rfl (loadS1 sz_2 S 3 rfl rfl)) ?_
       refine WO.qT rfl (Y.gtr rfl rfl) ?_
       refine WO.qT rfl (Y.pickT (u := .bool _) rfl rfl) ?_
       refine WO.q (Y.pickF (u := .bool _) rfl rfl) ?_
       refine WO.q (Y.assign (v := .bool _) rfl) ?_
       refine WO.nil ?_
       refine Then.nx ⟨?_, ?_⟩
       ·
        (repeat (first | exact Out.hav _ _ _ | exact Out.refl _ _ | refine Out.up rfl ?_ | refine Out.sub rfl ?_))
       ·
        exact ⟨by (show Value.bool _ = Value.bool _; congr 1; unfold bareB; first | (symm; rw [decide_eq_true_eq]; omega) | (symm; rw [decide_eq_false_iff_not]; omega) | (rw [Bool.eq_iff_iff]; simp only [decide_eq_true_eq]; omega)), S⟩
      ·
       (try simp only [Q1, Q2, Q3, Q4, Q5, Q6, Q7, Q8, Q9, Qa] at h19)
       refine WO.qF rfl ?_
       refine WO.qF rfl ?_
       refine WO.qF rfl ?_
       refine WO.qT rfl (Y.pickF (u := .bool _) rfl rfl) ?_
       refine WO.q (Y.pickF (u := .bool _) rfl rfl) ?_
       refine WO.q (Y.assign (v := .bool _) rfl) ?_
       refine WO.nil ?_
       refine Then.nx ⟨?_, ?_⟩
       ·
        (repeat (first | exact Out.hav _ _ _ | exact Out.refl _ _ | refine Out.up rfl ?_ | refine Out.sub rfl ?_))
       ·
        exact ⟨by (show Value.bool _ = Value.bool _; congr 1; unfold bareB; first | (symm; rw [decide_eq_true_eq]; omega) | (symm; rw [decide_eq_false_iff_not]; omega) | (rw [Bool.eq_iff_iff]; simp only [decide_eq_true_eq]; omega)), S⟩
   ·
    rintro gj552 v10 w ⟨rfl, S⟩
    refine W.seq ?_
    refine W.cut1 [62, 63, 64, 65, 66, 67, 68, 69, 70, 71, 72, 73, 74, 75, 76, 77, 78, 79, 80, 81, 82, 83, 84, 85, 86, 87, 88, 89, 90, 91, 92, 93, 94] 94 (fun v94 w => v94 = .bool (decide (okC n lo hi root)) ∧ Sat w0 w (Cel b6 (tNode.enc n) 75 :: L)) ?_ ?_
    ·
     refine W.region rfl ?_
     refine WO.q (Y.fieldB fo_75_2 rfl) ?_
     first | refine WO.q (Y.load rfl (loadS1 sz_3 S 0 rfl rfl)) ?_ | refine WO.q (Y.load rfl (loadS1 sz_3 S 1 rfl rfl)) ?_ | refine WO.q (Y.load rfl (loadS1 sz_3 S 2 rfl rfl)) ?_ | refine WO.q (Y.load rfl (loadS1 sz_3 S 3 rfl rfl)) ?_
     refine WO.q (Y.move (v := .int .i64 _) rfl) ?_
     refine WO.q (Y.lss rfl rfl) ?_
     refine WO.q (Y.move (v := .bool _) rfl) ?_
     refine WO.splitB (fun h20 => ?_) (fun h20 => ?_)
     ·
      (try simp only [Q1, Q2, Q3, Q4, Q5, Q6, Q7, Q8, Q9, Qa] at h20)
      refine WO.qF rfl ?_
      refine WO.qF rfl ?_
      refine WO.qF rfl ?_
      refine WO.qF rfl ?_
      refine WO.q (Y.pickT (u := .bool _) rfl rfl) ?_
      refine WO.q (Y.move (v := .bool _) rfl) ?_
      refine WO.qF rfl ?_
      refine WO.qF rfl ?_
      refine WO.qF rfl ?_
      refine WO.q (Y.pickT (u := .bool _) rfl rfl) ?_
      refine WO.q (Y.move (v := .bool _) rfl) ?_
      refine WO.qF rfl ?_
      refine WO.qF rfl ?_
      refine WO.q (Y.pickT (u := .bool _) rfl rfl) ?_
      refine WO.q (Y.move (v := .bool _) rfl) ?_
      refine WO.qF rfl ?_
      refine WO.qF rfl ?_
      refine WO.qF rfl ?_
      refine WO.qF rfl ?_
      refine WO.qF rfl ?_
      refine WO.qF rfl ?_
      refine WO.qF rfl ?_
      refine WO.qF rfl ?_
      refine WO.qF rfl ?_
      refine WO.qF rfl ?_
      refine WO.qF rfl ?_
      refine WO.qF rfl ?_
      refine WO.q (Y.pickT (u := .bool _) rfl rfl) ?_
      refine WO.nil ?_
      refine Then.nx ⟨?_, ?_⟩
      ·
       (repeat (first | exact Out.hav _ _ _ | exact Out.refl _ _ | refine Out.up rfl ?_ | refine Out.sub rfl ?_))
      ·
       exact ⟨by (show Value.bool _ = Value.bool _; congr 1; first | exact (decide_eq_true (p := okC n lo hi root) (Or.inl (by omega))).symm | exact (decide_eq_true (p := okC n lo hi root) (Or.inr (Or.inl (by omega)))).symm | exact (decide_eq_true (p := okC n lo hi root) (Or.inr (Or.inr (Or.inl (by omega))))).symm | exact (decide_eq_true (p := okC n lo hi root) (Or.inr (Or.inr (Or.inr (Or.inl (by assumption)))))).symm | exact (decide_eq_true (p := okC n lo hi root) (Or.inr (Or.inr (Or.inr (Or.inr ⟨by assumption, by omega⟩))))).symm | exact (decide_eq_false (p := okC n lo hi root) (by (unfold okC; rintro (hh | hh | hh | hh | ⟨hh, hh2⟩) <;> first | omega | simp_all))).symm | (rw [Bool.eq_iff_iff]; simp only [decide_eq_true_eq]; constructor; (intro hh; exact Or.inr (Or.inr (Or.inr (Or.inr ⟨by assumption, Or.inr hh⟩)))); (rintro (hh | hh | hh | hh | ⟨hh, hh2⟩) <;> first | omega | simp_all))), S⟩
     ·
      (try simp only [Q1, Q2, Q3, Q4, Q5, Q6, Q7, Q8, Q9, Qa] at h20)
      refine WO.qT rfl (Y.fieldB fo_75_2 rfl) ?_
      first | refine WO.qT rfl (Y.load rfl (loadS1 sz_3 S 0 rfl rfl)) ?_ | refine WO.qT rfl (Y.load rfl (loadS1 sz_3 S 1 rfl rfl)) ?_ | refine WO.qT rfl (Y.load rfl (loadS1 sz_3 S 2 rfl rfl)) ?_ | refine WO.qT rfl (Y.load rfl (loadS1 sz_3 S 3 rfl rfl)) ?_
      refine WO.qT rfl (Y.move (v := .int .i64 _) rfl) ?_
      refine WO.qT rfl (Y.gtr rfl rfl) ?_
      refine WO.q (Y.pickF (u := .bool _) rfl rfl) ?_
      refine WO.q (Y.move (v := .bool _) rfl) ?_
      refine WO.splitB (fun h21 => ?_) (fun h21 => ?_)
      ·
       (try simp only [Q1, Q2, Q3, Q4, Q5, Q6, Q7, Q8, Q9, Qa] at h21)
       refine WO.qF rfl ?_
       refine WO.qF rfl ?_
       refine WO.qF rfl ?_
       refine WO.q (Y.pickT (u := .bool _) rfl rfl) ?_
       refine WO.q (Y.move (v := .bool _) rfl) ?_
       refine WO.qF rfl ?_
       refine WO.qF rfl ?_
       refine WO.q (Y.pickT (u := .bool _) rfl rfl) ?_
       refine WO.q (Y.move (v := .bool _) rfl) ?_
       refine WO.qF rfl ?_
       refine WO.qF rfl ?_
       refine WO.qF rfl ?_
       refine WO.qF rfl ?_
       refine WO.qF rfl ?_
       refine WO.qF rfl ?_
       refine WO.qF rfl ?_
       refine WO.qF rfl ?_
       refine WO.qF rfl ?_
       refine WO.qF rfl ?_
       refine WO.qF rfl ?_
       refine WO.qF rfl ?_
       refine WO.q (Y.pickT (u := .bool _) rfl rfl) ?_
       refine WO.nil ?_
       refine Then.nx ⟨?_, ?_⟩
       ·
        (repeat (first | exact Out.hav _ _ _ | exact Out.refl _ _ | refine Out.up rfl ?_ | refine Out.sub rfl ?_))
       ·
        exact ⟨by (show Value.bool _ = Value.bool _; congr 1; first | exact (decide_eq_true (p := okC n lo hi root) (Or.inl (by omega))).symm | exact (decide_eq_true (p := okC n lo hi root) (Or.inr (Or.inl (by omega)))).symm | exact (decide_eq_true (p := okC n lo hi root) (Or.inr (Or.inr (Or.inl (by omega))))).symm | exact (decide_eq_true (p := okC n lo hi root) (Or.inr (Or.inr (Or.inr (Or.inl (by assumption)))))).symm | exact (decide_eq_true (p := okC n lo hi root) (Or.inr (Or.inr (Or.inr (Or.inr ⟨by assumption, by omega⟩))))).symm | exact (decide_eq_false (p := okC n lo hi root) (by (unfold okC; rintro (hh | hh | hh | hh | ⟨hh, hh2⟩) <;> first | omega | simp_all))).symm | (rw [Bool.eq_iff_iff]; simp only [decide_eq_true_eq]; constructor; (intro hh; exact Or.inr (Or.inr (Or.inr (Or.inr ⟨by assumption, Or.inr hh⟩)))); (rintro (hh | hh | hh | hh | ⟨hh, hh2⟩) <;> first | omega | simp_all))), S⟩
      ·
       (try simp only [Q1, Q2, Q3, Q4, Q5, Q6, Q7, Q8, Q9, Qa] at h21)
       refine WO.qT rfl (Y.fieldB fo_75_3 rfl) ?_
       first | refine WO.qT rfl (Y.load rfl (loadS1 sz_3 S 0 rfl rfl)) ?_ | refine WO.qT rfl (Y.load rfl (loadS1 sz_3 S 1 rfl rfl)) ?_ | refine WO.qT rfl (Y.load rfl (loadS1 sz_3 S 2 rfl rfl)) ?_ | refine WO.qT rfl (Y.load rfl (loadS1 sz_3 S 3 rfl rfl)) ?_
       refine WO.qT rfl (Y.lss rfl rfl) ?_
       refine WO.q (Y.pickF (u := .bool _) rfl rfl) ?_
       refine WO.q (Y.move (v := .bool _) rfl) ?_
       refine WO.splitB (fun h22 => ?_) (fun h22 => ?_)
       ·
        (try simp only [Q1, Q2, Q3, Q4, Q5, Q6, Q7, Q8, Q9, Qa] at h22)
        refine WO.qF rfl ?_
        refine WO.qF rfl ?_
        refine WO.q (Y.pickT (u := .bool _) rfl rfl) ?_
        refine WO.q (Y.move (v := .bool _) rfl) ?_
        refine WO.qF rfl ?_
        refine WO.qF rfl ?_
        refine WO.qF rfl ?_
        refine WO.qF rfl ?_
        refine WO.qF rfl ?_
        refine WO.qF rfl ?_
        refine WO.qF rfl ?_
        refine WO.qF rfl ?_
        refine WO.qF rfl ?_
        refine WO.qF rfl ?_
        refine WO.qF rfl ?_
        refine WO.qF rfl ?_
        refine WO.q (Y.pickT (u := .bool _) rfl rfl) ?_
        refine WO.nil ?_
        refine Then.nx ⟨?_, ?_⟩
        ·
         (repeat (first | exact Out.hav _ _ _ | exact Out.refl _ _ | refine Out.up rfl ?_ | refine Out.sub rfl ?_))
        ·
         exact ⟨by (show Value.bool _ = Value.bool _; congr 1; first | exact (decide_eq_true (p := okC n lo hi root) (Or.inl (by omega))).symm | exact (decide_eq_true (p := okC n lo hi root) (Or.inr (Or.inl (by omega)))).symm | exact (decide_eq_true (p := okC n lo hi root) (Or.inr (Or.inr (Or.inl (by omega))))).symm | exact (decide_eq_true (p := okC n lo hi root) (Or.inr (Or.inr (Or.inr (Or.inl (by assumption)))))).symm | exact (decide_eq_true (p := okC n lo hi root) (Or.inr (Or.inr (Or.inr (Or.inr ⟨by assumption, by omega⟩))))).symm | exact (decide_eq_false (p := okC n lo hi root) (by (unfold okC; rintro (hh | hh | hh | hh | ⟨hh, hh2⟩) <;> first | omega | simp_all))).symm | (rw [Bool.eq_iff_iff]; simp only [decide_eq_true_eq]; constructor; (intro hh; exact Or.inr (Or.inr (Or.inr (Or.inr ⟨by assumption, Or.inr hh⟩)))); (rintro (hh | hh | hh | hh | ⟨hh, hh2⟩) <;> first | omega | simp_all))), S⟩
       ·
        (try simp only [Q1, Q2, Q3, Q4, Q5, Q6, Q7, Q8, Q9, Qa] at h22)
        refine WO.qT rfl (Y.move (v := .bool _) rfl) ?_
        refine WO.qT rfl (Y.not rfl) ?_
        refine WO.q (Y.pickF (u := .bool _) rfl rfl) ?_
        refine WO.q (Y.move (v := .bool _) rfl) ?_
        refine WO.splitB (fun h23 => ?_) (fun h23 => ?_)
        ·
         (try simp only [Q1, Q2, Q3, Q4, Q5, Q6, Q7, Q8, Q9, Qa] at h23)
         refine WO.qF rfl ?_
         refine WO.qF rfl ?_
         refine WO.qF rfl ?_
         refine WO.qF rfl ?_
         refine WO.qF rfl ?_
         refine WO.qF rfl ?_
         refine WO.qF rfl ?_
         refine WO.qF rfl ?_
         refine WO.qF rfl ?_
         refine WO.qF rfl ?_
         refine WO.qF rfl ?_
         refine WO.qF rfl ?_
         refine WO.q (Y.pickT (u := .bool _) rfl rfl) ?_
         refine WO.nil ?_
         refine Then.nx ⟨?_, ?_⟩
         ·
          (repeat (first | exact Out.hav _ _ _ | exact Out.refl _ _ | refine Out.up rfl ?_ | refine Out.sub rfl ?_))
         ·
          exact ⟨by (show Value.bool _ = Value.bool _; congr 1; first | exact (decide_eq_true (p := okC n lo hi root) (Or.inl (by omega))).symm | exact (decide_eq_true (p := okC n lo hi root) (Or.inr (Or.inl (by omega)))).symm | exact (decide_eq_true (p := okC n lo hi root) (Or.inr (Or.inr (Or.inl (by omega))))).symm | exact (decide_eq_true (p := okC n lo hi root) (Or.inr (Or.inr (Or.inr (Or.inl (by assumption)))))).symm | exact (decide_eq_true (p := okC n lo hi root) (Or.inr (Or.inr (Or.inr (Or.inr ⟨by assumption, by omega⟩))))).symm | exact (decide_eq_false (p := okC n lo hi root) (by (unfold okC; rintro (hh | hh | hh | hh | ⟨hh, hh2⟩) <;> first | omega | simp_all))).symm | (rw [Bool.eq_iff_iff]; simp only [decide_eq_true_eq]; constructor; (intro hh; exact Or.inr (Or.inr (Or.inr (Or.inr ⟨by assumption, Or.inr hh⟩)))); (rintro (hh | hh | hh | hh | ⟨hh, hh2⟩) <;> first | omega | simp_all))), S⟩
        ·
         (try simp only [Q1, Q2, Q3, Q4, Q5, Q6, Q7, Q8, Q9, Qa] at h23)
         refine WO.qT rfl (Y.move (v := .bool _) rfl) ?_
         refine WO.qT rfl (Y.not rfl) ?_
         refine WO.qT rfl (Y.move (v := .bool _) rfl) ?_
         refine WO.splitB (fun h24 => ?_) (fun h24 => ?_)
         ·
          (try simp only [Q1, Q2, Q3, Q4, Q5, Q6, Q7, Q8, Q9, Qa] at h24)
          refine WO.qT rfl (Y.fieldB fo_75_0 rfl) ?_
          first | refine WO.qT rfl (Y.load rfl (loadB1 sz_28 (S.ext.heap hcb) rfl)) ?_ | refine WO.qT rfl (Y.load rfl (loadS1 sz_28 S 0 rfl rfl)) ?_ | refine WO.qT rfl (Y.load rfl (loadS1 sz_28 S 1 rfl rfl)) ?_ | refine WO.qT rfl (Y.load rfl (loadS1 sz_28 S 2 rfl rfl)) ?_ | refine WO.qT rfl (Y.load rfl (loadS1 sz_28 S 3 rfl rfl)) ?_
          refine WO.qT rfl (Y.eql rfl rfl) ?_
          refine WO.qT rfl (Y.move (v := .bool _) rfl) ?_
          refine WO.splitB (fun h25 => ?_) (fun h25 => ?_)
          ·
           (try simp only [Q1, Q2, Q3, Q4, Q5, Q6, Q7, Q8, Q9, Qa] at h25)
           refine WO.qF rfl ?_
           refine WO.qF rfl ?_
           refine WO.qF rfl ?_
           refine WO.qT rfl (Y.pickT (u := .bool _) rfl rfl) ?_
           refine WO.qT rfl (Y.pickT (u := .bool _) rfl rfl) ?_
           refine WO.q (Y.pickF (u := .bool _) rfl rfl) ?_
           refine WO.nil ?_
           refine Then.nx ⟨?_, ?_⟩
           ·
            (repeat (first | exact Out.hav _ _ _ | exact Out.refl _ _ | refine Out.up rfl ?_ | refine Out.sub rfl ?_))
           ·
            exact ⟨by (show Value.bool _ = Value.bool _; congr 1; first | exact (decide_eq_true (p := okC n lo hi root) (Or.inl (by omega))).symm | exact (decide_eq_true (p := okC n lo hi root) (Or.inr (Or.inl (by omega)))).symm | exact (decide_eq_true (p := okC n lo hi root) (Or.inr (Or.inr (Or.inl (by omega))))).symm | exact (decide_eq_true (p := okC n lo hi root) (Or.inr (Or.inr (Or.inr (Or.inl (by assumption)))))).symm | exact (decide_eq_true (p := okC n lo hi root) (Or.inr (Or.inr (Or.inr (Or.inr ⟨by assumption, by omega⟩))))).symm | exact (decide_eq_false (p := okC n lo hi root) (by (unfold okC; rintro (hh | hh | hh | hh | ⟨hh, hh2⟩) <;> first | omega | simp_all))).symm | (rw [Bool.eq_iff_iff]; simp only [decide_eq_true_eq]; constructor; (intro hh; exact Or.inr (Or.inr (Or.inr (Or.inr ⟨by assumption, Or.inr hh⟩)))); (rintro (hh | hh | hh | hh | ⟨hh, hh2⟩) <;> first | omega | simp_all))), S⟩
          ·
           (try simp only [Q1, Q2, Q3, Q4, Q5, Q6, Q7, Q8, Q9, Qa] at h25)
           refine WO.qT rfl (Y.fieldB fo_75_0 rfl) ?_
           first | refine WO.qT rfl (Y.load rfl (loadB1 sz_28 (S.ext.heap hcb) rfl)) ?_ | refine WO.qT rfl (Y.load rfl (loadS1 sz_28 S 0 rfl rfl)) ?_ | refine WO.qT rfl (Y.load rfl (loadS1 sz_28 S 1 rfl rfl)) ?_ | refine WO.qT rfl (Y.load rfl (loadS1 sz_28 S 2 rfl rfl)) ?_ | refine WO.qT rfl (Y.load rfl (loadS1 sz_28 S 3 rfl rfl)) ?_
           refine WO.qT rfl (Y.eql rfl rfl) ?_
           refine WO.qT rfl (Y.pickF (u := .bool _) rfl rfl) ?_
           refine WO.qT rfl (Y.pickT (u := .bool _) rfl rfl) ?_
           refine WO.q (Y.pickF (u := .bool _) rfl rfl) ?_
           refine WO.nil ?_
           refine Then.nx ⟨?_, ?_⟩
           ·
            (repeat (first | exact Out.hav _ _ _ | exact Out.refl _ _ | refine Out.up rfl ?_ | refine Out.sub rfl ?_))
           ·
            exact ⟨by (show Value.bool _ = Value.bool _; congr 1; first | exact (decide_eq_true (p := okC n lo hi root) (Or.inl (by omega))).symm | exact (decide_eq_true (p := okC n lo hi root) (Or.inr (Or.inl (by omega)))).symm | exact (decide_eq_true (p := okC n lo hi root) (Or.inr (Or.inr (Or.inl (by omega))))).symm | exact (decide_eq_true (p := okC n lo hi root) (Or.inr (Or.inr (Or.inr (Or.inl (by assumption)))))).symm | exact (decide_eq_true (p := okC n lo hi root) (Or.inr (Or.inr (Or.inr (Or.inr ⟨by assumption, by omega⟩))))).symm | exact (decide_eq_false (p := okC n lo hi root) (by (unfold okC; rintro (hh | hh | hh | hh | ⟨hh, hh2⟩) <;> first | omega | simp_all))).symm | (rw [Bool.eq_iff_iff]; simp only [decide_eq_true_eq]; constructor; (intro hh; exact Or.inr (Or.inr (Or.inr (Or.inr ⟨by assumption, Or.inr hh⟩)))); (rintro (hh | hh | hh | hh | ⟨hh, hh2⟩) <;> first | omega | simp_all))), S⟩
         ·
          (try simp only [Q1, Q2, Q3, Q4, Q5, Q6, Q7, Q8, Q9, Qa] at h24)
          refine WO.qF rfl ?_
          refine WO.qF rfl ?_
          refine WO.qF rfl ?_
          refine WO.qF rfl ?_
          refine WO.qF rfl ?_
          refine WO.qF rfl ?_
          refine WO.qF rfl ?_
          refine WO.qF rfl ?_
          refine WO.qT rfl (Y.pickF (u := .bool _) rfl rfl) ?_
          refine WO.q (Y.pickF (u := .bool _) rfl rfl) ?_
          refine WO.nil ?_
          refine Then.nx ⟨?_, ?_⟩
          ·
           (repeat (first | exact Out.hav _ _ _ | exact Out.refl _ _ | refine Out.up rfl ?_ | refine Out.sub rfl ?_))
          ·
           exact ⟨by (show Value.bool _ = Value.bool _; congr 1; first | exact (decide_eq_true (p := okC n lo hi root) (Or.inl (by omega))).symm | exact (decide_eq_true (p := okC n lo hi root) (Or.inr (Or.inl (by omega)))).symm | exact (decide_eq_true (p := okC n lo hi root) (Or.inr (Or.inr (Or.inl (by omega))))).symm | exact (decide_eq_true (p := okC n lo hi root) (Or.inr (Or.inr (Or.inr (Or.inl (by assumption)))))).symm | exact (decide_eq_true (p := okC n lo hi root) (Or.inr (Or.inr (Or.inr (Or.inr ⟨by assumption, by omega⟩))))).symm | exact (decide_eq_false (p := okC n lo hi root) (by (unfold okC; rintro (hh | hh | hh | hh | ⟨hh, hh2⟩) <;> first | omega | simp_all))).symm | (rw [Bool.eq_iff_iff]; simp only [decide_eq_true_eq]; constructor; (intro hh; exact Or.inr (Or.inr (Or.inr (Or.inr ⟨by assumption, Or.inr hh⟩)))); (rintro (hh | hh | hh | hh | ⟨hh, hh2⟩) <;> first | omega | simp_all))), S⟩
    ·
     rintro gj759 v94 w ⟨rfl, S⟩
     refine W.cond rfl (fun h26 => ?_) (fun h26 => ?_) -- cond 16
     ·
      have rh26 := h26
      (try simp only [Q1, Q2, Q3, Q4, Q5, Q6, Q7, Q8, Q9, Qa] at h26)
      refine W.seq ?_
      refine W.region rfl ?_
      first | refine WO.q (Y.assign (v := .pointer (some _)) rfl) ?_ | refine WO.q (Y.assign (v := .pointer _) rfl) ?_
      refine WO.q (Y.assign (v := .slice _ _ _) rfl) ?_
      refine WO.nil ?_
      refine Then.nx ?_
      refine W.ret ?_
      refine Then.r ?_
      refine BodyQ.ret2 Try.results45 (ResV.tmp _ rfl) (ResV.tmp _ rfl) ?_
      first | exact ⟨none, none, 0, 0, Bun [], rfl, Sat.bun (M := []) (S.pk (by repeat (first | exact Pk.nil _ | exact Pk.refl _ | refine Pk.cons 0 rfl ?_ | refine Pk.cons 1 rfl ?_ | refine Pk.cons 2 rfl ?_ | refine Pk.cons 3 rfl ?_ | refine Pk.cons 4 rfl ?_ | refine Pk.cons 5 rfl ?_ | refine Pk.cons 6 rfl ?_ | refine Pk.cons 7 rfl ?_ | refine Pk.cons 8 rfl ?_ | refine Pk.cons 9 rfl ?_ | refine Pk.cons 10 rfl ?_ | refine Pk.cons 11 rfl ?_ | refine Pk.cons 12 rfl ?_ | refine Pk.cons 13 rfl ?_ | refine Pk.drop ?_))), by (rw [growF]; exact ⟨rfl, rfl, rfl, rfl⟩)⟩ | exact ⟨none, none, 0, 0, Bun [], rfl, Sat.bun (M := []) (S.pk (by repeat (first | exact Pk.nil _ | exact Pk.refl _ | refine Pk.cons 0 rfl ?_ | refine Pk.cons 1 rfl ?_ | refine Pk.cons 2 rfl ?_ | refine Pk.cons 3 rfl ?_ | refine Pk.cons 4 rfl ?_ | refine Pk.cons 5 rfl ?_ | refine Pk.cons 6 rfl ?_ | refine Pk.cons 7 rfl ?_ | refine Pk.cons 8 rfl ?_ | refine Pk.cons 9 rfl ?_ | refine Pk.cons 10 rfl ?_ | refine Pk.cons 11 rfl ?_ | refine Pk.cons 12 rfl ?_ | refine Pk.cons 13 rfl ?_ | refine Pk.drop ?_))), by (rw [growF_lim (lim_none (by omega))]; exact ⟨rfl, rfl, rfl, rfl⟩)⟩ | exact ⟨none, none, 0, 0, Bun [], rfl, Sat.bun (M := []) (S.pk (by repeat (first | exact Pk.nil _ | exact Pk.refl _ | refine Pk.cons 0 rfl ?_ | refine Pk.cons 1 rfl ?_ | refine Pk.cons 2 rfl ?_ | refine Pk.cons 3 rfl ?_ | refine Pk.cons 4 rfl ?_ | refine Pk.cons 5 rfl ?_ | refine Pk.cons 6 rfl ?_ | refine Pk.cons 7 rfl ?_ | refine Pk.cons 8 rfl ?_ | refine Pk.cons 9 rfl ?_ | refine Pk.cons 10 rfl ?_ | refine Pk.cons 11 rfl ?_ | refine Pk.cons 12 rfl ?_ | refine Pk.cons 13 rfl ?_ | refine Pk.drop ?_))), by (rw [growF_bad hlim (by assumption)]; exact ⟨rfl, rfl, rfl, rfl⟩)⟩ | exact ⟨none, none, 0, 0, Bun [], rfl, Sat.bun (M := []) (S.pk (by repeat (first | exact Pk.nil _ | exact Pk.refl _ | refine Pk.cons 0 rfl ?_ | refine Pk.cons 1 rfl ?_ | refine Pk.cons 2 rfl ?_ | refine Pk.cons 3 rfl ?_ | refine Pk.cons 4 rfl ?_ | refine Pk.cons 5 rfl ?_ | refine Pk.cons 6 rfl ?_ | refine Pk.cons 7 rfl ?_ | refine Pk.cons 8 rfl ?_ | refine Pk.cons 9 rfl ?_ | refine Pk.cons 10 rfl ?_ | refine Pk.cons 11 rfl ?_ | refine Pk.cons 12 rfl ?_ | refine Pk.cons 13 rfl ?_ | refine Pk.drop ?_))), by (rw [growF_go hlim (by assumption), hK.none hnk (hG.none (by assumption))]; exact ⟨rfl, rfl, rfl, rfl⟩)⟩ | exact ⟨none, none, 0, 0, Bun [], rfl, Sat.bun (M := []) (S.pk (by repeat (first | exact Pk.nil _ | exact Pk.refl _ | refine Pk.cons 0 rfl ?_ | refine Pk.cons 1 rfl ?_ | refine Pk.cons 2 rfl ?_ | refine Pk.cons 3 rfl ?_ | refine Pk.cons 4 rfl ?_ | refine Pk.cons 5 rfl ?_ | refine Pk.cons 6 rfl ?_ | refine Pk.cons 7 rfl ?_ | refine Pk.cons 8 rfl ?_ | refine Pk.cons 9 rfl ?_ | refine Pk.cons 10 rfl ?_ | refine Pk.cons 11 rfl ?_ | refine Pk.cons 12 rfl ?_ | refine Pk.cons 13 rfl ?_ | refine Pk.drop ?_))), by (rw [growF_go hlim (by assumption), hK.bad hnk hg (by assumption) (by assumption)]; exact ⟨rfl, rfl, rfl, rfl⟩)⟩ | (have hfin := hK.fin (by omega); refine ⟨_, _, _, _, Bun [K, Cel b97 (treeL n bs.length ka kc) 107, Own tPtr 91 ka kc bs], rfl, Sat.bun (M := [K, Cel b97 (treeL n bs.length ka kc) 107, Own tPtr 91 ka kc bs]) (S.pk (by repeat (first | exact Pk.nil _ | exact Pk.refl _ | refine Pk.cons 0 rfl ?_ | refine Pk.cons 1 rfl ?_ | refine Pk.cons 2 rfl ?_ | refine Pk.cons 3 rfl ?_ | refine Pk.cons 4 rfl ?_ | refine Pk.cons 5 rfl ?_ | refine Pk.cons 6 rfl ?_ | refine Pk.cons 7 rfl ?_ | refine Pk.cons 8 rfl ?_ | refine Pk.cons 9 rfl ?_ | refine Pk.cons 10 rfl ?_ | refine Pk.cons 11 rfl ?_ | refine Pk.cons 12 rfl ?_ | refine Pk.cons 13 rfl ?_ | refine Pk.drop ?_))), ?_⟩; rw [growF_go hlim (by assumption), hfin]; exact ⟨b97, rfl, rfl, by (rw [HasTree]; exact ⟨ka, kc, bs, by (rw [← hbl]; exact HasBlk.bun (HasBlk.cel _ _ _) 1 rfl), Reads.bun (Reads.own _ _ _ _ _) 2 rfl, HasTrees.bun 0 rfl hT⟩), R3, hlc⟩)
     ·
      have rh26 := h26
      (try simp only [Q1, Q2, Q3, Q4, Q5, Q6, Q7, Q8, Q9, Qa] at h26)
      refine W.skip ?_
      refine Then.nx ?_
      refine W.seq ?_
      have hkd : n.kids ≤ hi := by (by_cases hh : hi < n.kids; exact absurd (Or.inr (Or.inl hh)) (by assumption); omega)
      refine W.region rfl ?_
      first | refine WO.q (Y.load rfl (loadSN sz_75 S 0 rfl rfl rfl)) ?_ | refine WO.q (Y.load rfl (loadSN sz_75 S 1 rfl rfl rfl)) ?_ | refine WO.q (Y.load rfl (loadSN sz_75 S 2 rfl rfl rfl)) ?_ | refine WO.q (Y.load rfl (loadSN sz_75 S 3 rfl rfl rfl)) ?_
      refine WO.q (Y.build rfl (bld_107_0)) ?_
      refine WO.e (O.box rfl rfl S (fun b97 w S => ?_))
      first | refine WO.q (Y.assign (v := .pointer (some _)) rfl) ?_ | refine WO.q (Y.assign (v := .pointer _) rfl) ?_
      refine WO.nil ?_
      refine Then.nx ?_
      refine W.seq ?_
      refine W.region rfl ?_
      refine WO.q (Y.move (v := .slice _ _ _) rfl) ?_
      refine WO.q (Y.sliceL (l := 1) sl_49 rfl rfl (by omega)) ?_
      refine WO.q (Y.assign (v := .slice _ _ _) rfl) ?_
      refine WO.nil ?_
      refine Then.nx ?_
      refine W.seq ?_
      refine W.seq ?_
      refine W.region rfl ?_
      refine WO.q (Y.fieldB fo_75_2 rfl) ?_
      first | refine WO.q (Y.load rfl (loadS1 sz_3 S 0 rfl rfl)) ?_ | refine WO.q (Y.load rfl (loadS1 sz_3 S 1 rfl rfl)) ?_ | refine WO.q (Y.load rfl (loadS1 sz_3 S 2 rfl rfl)) ?_ | refine WO.q (Y.load rfl (loadS1 sz_3 S 3 rfl rfl)) ?_
      refine WO.q (Y.move (v := .int .i64 _) rfl) ?_
      refine WO.nil ?_
      refine Then.nx ?_
      refine W.block ?_
      -- loop 0 carries 0:l, 102
      refine W.loop2 [0, 4, 5, 12, 102, 103, 104, 105, 106, 107, 108, 109, 110, 111, 112, 113, 114, 115, 116, 117, 118, 119, 120, 121, 122, 123, 124, 125, 126, 127, 128, 129, 130, 131, 132] 0 102 (fun v0 v102 w => ∃ (i : Nat) (la : Option Addr) (lc : Nat) (lr : List GNode) (ts : List Tr) (bs : List Nat) (ka : Option Addr) (kc : Nat) (K : HA), v102 = .int .i64 (i : Int) ∧ v0 = .slice la lr.length lc ∧ i ≤ n.kids.toNat ∧ KidsAt (fun l => growF fuel l false) nm n.kids.toNat r i ts lr ∧ lr.length ≤ lc ∧ Rd tNode w0 la lr ∧ HasTrees 107 K bs ts ∧ Sat w0 w (K :: Cel b97 (treeL n bs.length ka kc) 107 :: Own tPtr 91 ka kc bs :: Cel b6 (tNode.enc n) 75 :: L)) (fun v0 v102 w => n.kids.toNat - (intOf v102).toNat) ?_ ?_
      ·
       exact ⟨0, _, _, r, [], [], none, 0, Bun [], rfl, rfl, Nat.zero_le _, KidsAt.zero _ _, by omega, R1.drop 1 c hc, by (rw [HasTrees]; trivial), ((Sat.bun (M := []) (S.nilOwn tPtr 91)).pk (.cons 0 rfl (.cons 1 rfl (.refl _))))⟩
      ·
       rintro g0 v0 v102 w ⟨i, la, lc, lr, ts, bs, ka, kc, K, rfl, rfl, hi, hK, hlc, R3, hT, S⟩
       have hbl := hT.len
       have hK1 := hK.1
       have hK2 := hK.2.1
       refine W.seq ?_
       refine W.region rfl ?_
       refine WO.q (Y.lss rfl rfl) ?_
       refine WO.nil ?_
       refine Then.nx ?_
       refine W.seq ?_
       refine W.cond rfl (fun h27 => ?_) (fun h27 => ?_) -- cond 17
       ·
        have rh27 := h27
        (try simp only [Q1, Q2, Q3, Q4, Q5, Q6, Q7, Q8, Q9, Qa] at h27)
        refine W.skip ?_
        refine Then.nx ?_
        refine W.seq ?_
        refine W.block ?_
        refine W.seq ?_
        refine W.region rfl ?_
        first | refine WO.q (Y.assign (v := .pointer (some _)) rfl) ?_ | refine WO.q (Y.assign (v := .pointer _) rfl) ?_
        refine WO.nil ?_
        refine Then.nx ?_
        refine W.seq ?_
        refine W.seq ?_
        refine W.region rfl ?_
        refine WO.q (Y.move (v := .slice _ _ _) rfl) ?_
        refine WO.e (O.call cf_45 rfl (ih w _ lr la lc false (by omega) hlc (by omega) R3 S) ?_)
        rintro _ w ⟨p, ra, rn, rc, M, rfl, S, hG⟩
        refine ⟨_, rfl, ?_⟩
        refine WO.q (Y.move (v := .tuple _) rfl) ?_
        first | refine WO.q (Y.extract (v := .pointer (some _)) rfl rfl) ?_ | refine WO.q (Y.extract (v := .pointer _) rfl rfl) ?_
        refine WO.q (Y.extract (v := .slice _ _ _) rfl rfl) ?_
        first | refine WO.q (Y.assign (v := .pointer (some _)) rfl) ?_ | refine WO.q (Y.assign (v := .pointer _) rfl) ?_
        refine WO.q (Y.assign (v := .slice _ _ _) rfl) ?_
        refine WO.nil ?_
        refine Then.nx ?_
        refine W.seq ?_
        refine W.region rfl ?_
        first | refine WO.q (Y.move (v := .pointer (some _)) rfl) ?_ | refine WO.q (Y.move (v := .pointer _) rfl) ?_
        refine WO.q (Y.eqNilP Try.underlying91 rfl rfl) ?_
        refine WO.q (Y.move (v := .bool _) rfl) ?_
        refine WO.splitB (fun h28 => ?_) (fun h28 => ?_)
        ·
         (try simp only [Q1, Q2, Q3, Q4, Q5, Q6, Q7, Q8, Q9, Qa] at h28)
         refine WO.qF rfl ?_
         refine WO.qF rfl ?_
         refine WO.qF rfl ?_
         refine WO.qF rfl ?_
         refine WO.qF rfl ?_
         refine WO.qF rfl ?_
         refine WO.qF rfl ?_
         refine WO.qF rfl ?_
         refine WO.qF rfl ?_
         refine WO.q (Y.pickT (u := .bool _) rfl rfl) ?_
         refine WO.nil ?_
         refine Then.nx ?_
         first | refine W.condT rfl ?_ | refine W.condT (congrArg Value.bool (by assumption)) ?_
         refine W.seq ?_
         have hnk : i < n.kids.toNat := by omega
         refine W.region rfl ?_
         first | refine WO.q (Y.assign (v := .pointer (some _)) rfl) ?_ | refine WO.q (Y.assign (v := .pointer _) rfl) ?_
         refine WO.q (Y.assign (v := .slice _ _ _) rfl) ?_
         refine WO.nil ?_
         refine Then.nx ?_
         refine W.ret ?_
         refine Then.r ?_
         refine InB.r ?_
         refine Then.r ?_
         refine Then.r ?_
         refine InB.r ?_
         refine Then.r ?_
         refine BodyQ.ret2 Try.results45 (ResV.tmp _ rfl) (ResV.tmp _ rfl) ?_
         first | exact ⟨none, none, 0, 0, Bun [], rfl, Sat.bun (M := []) (S.pk (by repeat (first | exact Pk.nil _ | exact Pk.refl _ | refine Pk.cons 0 rfl ?_ | refine Pk.cons 1 rfl ?_ | refine Pk.cons 2 rfl ?_ | refine Pk.cons 3 rfl ?_ | refine Pk.cons 4 rfl ?_ | refine Pk.cons 5 rfl ?_ | refine Pk.cons 6 rfl ?_ | refine Pk.cons 7 rfl ?_ | refine Pk.cons 8 rfl ?_ | refine Pk.cons 9 rfl ?_ | refine Pk.cons 10 rfl ?_ | refine Pk.cons 11 rfl ?_ | refine Pk.cons 12 rfl ?_ | refine Pk.cons 13 rfl ?_ | refine Pk.drop ?_))), by (rw [growF]; exact ⟨rfl, rfl, rfl, rfl⟩)⟩ | exact ⟨none, none, 0, 0, Bun [], rfl, Sat.bun (M := []) (S.pk (by repeat (first | exact Pk.nil _ | exact Pk.refl _ | refine Pk.cons 0 rfl ?_ | refine Pk.cons 1 rfl ?_ | refine Pk.cons 2 rfl ?_ | refine Pk.cons 3 rfl ?_ | refine Pk.cons 4 rfl ?_ | refine Pk.cons 5 rfl ?_ | refine Pk.cons 6 rfl ?_ | refine Pk.cons 7 rfl ?_ | refine Pk.cons 8 rfl ?_ | refine Pk.cons 9 rfl ?_ | refine Pk.cons 10 rfl ?_ | refine Pk.cons 11 rfl ?_ | refine Pk.cons 12 rfl ?_ | refine Pk.cons 13 rfl ?_ | refine Pk.drop ?_))), by (rw [growF_lim (lim_none (by omega))]; exact ⟨rfl, rfl, rfl, rfl⟩)⟩ | exact ⟨none, none, 0, 0, Bun [], rfl, Sat.bun (M := []) (S.pk (by repeat (first | exact Pk.nil _ | exact Pk.refl _ | refine Pk.cons 0 rfl ?_ | refine Pk.cons 1 rfl ?_ | refine Pk.cons 2 rfl ?_ | refine Pk.cons 3 rfl ?_ | refine Pk.cons 4 rfl ?_ | refine Pk.cons 5 rfl ?_ | refine Pk.cons 6 rfl ?_ | refine Pk.cons 7 rfl ?_ | refine Pk.cons 8 rfl ?_ | refine Pk.cons 9 rfl ?_ | refine Pk.cons 10 rfl ?_ | refine Pk.cons 11 rfl ?_ | refine Pk.cons 12 rfl ?_ | refine Pk.cons 13 rfl ?_ | refine Pk.drop ?_))), by (rw [growF_bad hlim (by assumption)]; exact ⟨rfl, rfl, rfl, rfl⟩)⟩ | exact ⟨none, none, 0, 0, Bun [], rfl, Sat.bun (M := []) (S.pk (by repeat (first | exact Pk.nil _ | exact Pk.refl _ | refine Pk.cons 0 rfl ?_ | refine Pk.cons 1 rfl ?_ | refine Pk.cons 2 rfl ?_ | refine Pk.cons 3 rfl ?_ | refine Pk.cons 4 rfl ?_ | refine Pk.cons 5 rfl ?_ | refine Pk.cons 6 rfl ?_ | refine Pk.cons 7 rfl ?_ | refine Pk.cons 8 rfl ?_ | refine Pk.cons 9 rfl ?_ | refine Pk.cons 10 rfl ?_ | refine Pk.cons 11 rfl ?_ | refine Pk.cons 12 rfl ?_ | refine Pk.cons 13 rfl ?_ | refine Pk.drop ?_))), by (rw [growF_go hlim (by assumption), hK.none hnk (hG.none (by assumption))]; exact ⟨rfl, rfl, rfl, rfl⟩)⟩ | exact ⟨none, none, 0, 0, Bun [], rfl, Sat.bun (M := []) (S.pk (by repeat (first | exact Pk.nil _ | exact Pk.refl _ | refine Pk.cons 0 rfl ?_ | refine Pk.cons 1 rfl ?_ | refine Pk.cons 2 rfl ?_ | refine Pk.cons 3 rfl ?_ | refine Pk.cons 4 rfl ?_ | refine Pk.cons 5 rfl ?_ | refine Pk.cons 6 rfl ?_ | refine Pk.cons 7 rfl ?_ | refine Pk.cons 8 rfl ?_ | refine Pk.cons 9 rfl ?_ | refine Pk.cons 10 rfl ?_ | refine Pk.cons 11 rfl ?_ | refine Pk.cons 12 rfl ?_ | refine Pk.cons 13 rfl ?_ | refine Pk.drop ?_))), by (rw [growF_go hlim (by assumption), hK.bad hnk hg (by assumption) (by assumption)]; exact ⟨rfl, rfl, rfl, rfl⟩)⟩ | (have hfin := hK.fin (by omega); refine ⟨_, _, _, _, Bun [K, Cel b97 (treeL n bs.length ka kc) 107, Own tPtr 91 ka kc bs], rfl, Sat.bun (M := [K, Cel b97 (treeL n bs.length ka kc) 107, Own tPtr 91 ka kc bs]) (S.pk (by repeat (first | exact Pk.nil _ | exact Pk.refl _ | refine Pk.cons 0 rfl ?_ | refine Pk.cons 1 rfl ?_ | refine Pk.cons 2 rfl ?_ | refine Pk.cons 3 rfl ?_ | refine Pk.cons 4 rfl ?_ | refine Pk.cons 5 rfl ?_ | refine Pk.cons 6 rfl ?_ | refine Pk.cons 7 rfl ?_ | refine Pk.cons 8 rfl ?_ | refine Pk.cons 9 rfl ?_ | refine Pk.cons 10 rfl ?_ | refine Pk.cons 11 rfl ?_ | refine Pk.cons 12 rfl ?_ | refine Pk.cons 13 rfl ?_ | refine Pk.drop ?_))), ?_⟩; rw [growF_go hlim (by assumption), hfin]; exact ⟨b97, rfl, rfl, by (rw [HasTree]; exact ⟨ka, kc, bs, by (rw [← hbl]; exact HasBlk.bun (HasBlk.cel _ _ _) 1 rfl), Reads.bun (Reads.own _ _ _ _ _) 2 rfl, HasTrees.bun 0 rfl hT⟩), R3, hlc⟩)
        ·
         (try simp only [Q1, Q2, Q3, Q4, Q5, Q6, Q7, Q8, Q9, Qa] at h28)
         refine WO.qT rfl (Y.move (v := .bool _) rfl) ?_
         refine WO.qT rfl (Y.move (v := .bool _) rfl) ?_
         refine WO.splitB (fun h29 => ?_) (fun h29 => ?_)
         ·
          (try simp only [Q1, Q2, Q3, Q4, Q5, Q6, Q7, Q8, Q9, Qa] at h29)
          obtain ⟨t, r2, b2, hg, rfl, rfl, hM, hR2, hrc⟩ := hG.some (by assumption)
          have hrt := Sat.rdTree S 0 rfl hM
          obtain ⟨kka, kkc, hcb⟩ := hrt.blk
          first | refine WO.qT rfl (Y.move (v := .pointer (some _)) rfl) ?_ | refine WO.qT rfl (Y.move (v := .pointer _) rfl) ?_
          refine WO.qT rfl (Y.nilP rfl) ?_
          first | refine WO.qT rfl (Y.fieldB fo_107_0 rfl) ?_ | refine WO.qT rfl (Y.fieldE fo_107_0 rfl) ?_
          first | refine WO.qT rfl (Y.fieldB fo_75_0 rfl) ?_ | refine WO.qT rfl (Y.fieldE fo_75_0 rfl) ?_
          refine WO.qT rfl (Y.load rfl (loadB1 sz_28 hcb rfl)) ?_
          refine WO.qT rfl (Y.neq rfl rfl) ?_
          refine WO.qT rfl (Y.pickT (u := .bool _) rfl rfl) ?_
          refine WO.q (Y.pickF (u := .bool _) rfl rfl) ?_
          refine WO.nil ?_
          refine Then.nx ?_
          refine W.cond rfl (fun h30 => ?_) (fun h30 => ?_) -- cond 18
          ·
           have rh30 := h30
           (try simp only [Q1, Q2, Q3, Q4, Q5, Q6, Q7, Q8, Q9, Qa] at h30)
           refine W.seq ?_
           have hnk : i < n.kids.toNat := by omega
           refine W.region rfl ?_
           first | refine WO.q (Y.assign (v := .pointer (some _)) rfl) ?_ | refine WO.q (Y.assign (v := .pointer _) rfl) ?_
           refine WO.q (Y.assign (v := .slice _ _ _) rfl) ?_
           refine WO.nil ?_
           refine Then.nx ?_
           refine W.ret ?_
           refine Then.r ?_
           refine InB.r ?_
           refine Then.r ?_
           refine Then.r ?_
           refine InB.r ?_
           refine Then.r ?_
           refine BodyQ.ret2 Try.results45 (ResV.tmp _ rfl) (ResV.tmp _ rfl) ?_
           first | exact ⟨none, none, 0, 0, Bun [], rfl, Sat.bun (M := []) (S.pk (by repeat (first | exact Pk.nil _ | exact Pk.refl _ | refine Pk.cons 0 rfl ?_ | refine Pk.cons 1 rfl ?_ | refine Pk.cons 2 rfl ?_ | refine Pk.cons 3 rfl ?_ | refine Pk.cons 4 rfl ?_ | refine Pk.cons 5 rfl ?_ | refine Pk.cons 6 rfl ?_ | refine Pk.cons 7 rfl ?_ | refine Pk.cons 8 rfl ?_ | refine Pk.cons 9 rfl ?_ | refine Pk.cons 10 rfl ?_ | refine Pk.cons 11 rfl ?_ | refine Pk.cons 12 rfl ?_ | refine Pk.cons 13 rfl ?_ | refine Pk.drop ?_))), by (rw [growF]; exact ⟨rfl, rfl, rfl, rfl⟩)⟩ | exact ⟨none, none, 0, 0, Bun [], rfl, Sat.bun (M := []) (S.pk (by repeat (first | exact Pk.nil _ | exact Pk.refl _ | refine Pk.cons 0 rfl ?_ | refine Pk.cons 1 rfl ?_ | refine Pk.cons 2 rfl ?_ | refine Pk.cons 3 rfl ?_ | refine Pk.cons 4 rfl ?_ | refine Pk.cons 5 rfl ?_ | refine Pk.cons 6 rfl ?_ | refine Pk.cons 7 rfl ?_ | refine Pk.cons 8 rfl ?_ | refine Pk.cons 9 rfl ?_ | refine Pk.cons 10 rfl ?_ | refine Pk.cons 11 rfl ?_ | refine Pk.cons 12 rfl ?_ | refine Pk.cons 13 rfl ?_ | refine Pk.drop ?_))), by (rw [growF_lim (lim_none (by omega))]; exact ⟨rfl, rfl, rfl, rfl⟩)⟩ | exact ⟨none, none, 0, 0, Bun [], rfl, Sat.bun (M := []) (S.pk (by repeat (first | exact Pk.nil _ | exact Pk.refl _ | refine Pk.cons 0 rfl ?_ | refine Pk.cons 1 rfl ?_ | refine Pk.cons 2 rfl ?_ | refine Pk.cons 3 rfl ?_ | refine Pk.cons 4 rfl ?_ | refine Pk.cons 5 rfl ?_ | refine Pk.cons 6 rfl ?_ | refine Pk.cons 7 rfl ?_ | refine Pk.cons 8 rfl ?_ | refine Pk.cons 9 rfl ?_ | refine Pk.cons 10 rfl ?_ | refine Pk.cons 11 rfl ?_ | refine Pk.cons 12 rfl ?_ | refine Pk.cons 13 rfl ?_ | refine Pk.drop ?_))), by (rw [growF_bad hlim (by assumption)]; exact ⟨rfl, rfl, rfl, rfl⟩)⟩ | exact ⟨none, none, 0, 0, Bun [], rfl, Sat.bun (M := []) (S.pk (by repeat (first | exact Pk.nil _ | exact Pk.refl _ | refine Pk.cons 0 rfl ?_ | refine Pk.cons 1 rfl ?_ | refine Pk.cons 2 rfl ?_ | refine Pk.cons 3 rfl ?_ | refine Pk.cons 4 rfl ?_ | refine Pk.cons 5 rfl ?_ | refine Pk.cons 6 rfl ?_ | refine Pk.cons 7 rfl ?_ | refine Pk.cons 8 rfl ?_ | refine Pk.cons 9 rfl ?_ | refine Pk.cons 10 rfl ?_ | refine Pk.cons 11 rfl ?_ | refine Pk.cons 12 rfl ?_ | refine Pk.cons 13 rfl ?_ | refine Pk.drop ?_))), by (rw [growF_go hlim (by assumption), hK.none hnk (hG.none (by assumption))]; exact ⟨rfl, rfl, rfl, rfl⟩)⟩ | exact ⟨none, none, 0, 0, Bun [], rfl, Sat.bun (M := []) (S.pk (by repeat (first | exact Pk.nil _ | exact Pk.refl _ | refine Pk.cons 0 rfl ?_ | refine Pk.cons 1 rfl ?_ | refine Pk.cons 2 rfl ?_ | refine Pk.cons 3 rfl ?_ | refine Pk.cons 4 rfl ?_ | refine Pk.cons 5 rfl ?_ | refine Pk.cons 6 rfl ?_ | refine Pk.cons 7 rfl ?_ | refine Pk.cons 8 rfl ?_ | refine Pk.cons 9 rfl ?_ | refine Pk.cons 10 rfl ?_ | refine Pk.cons 11 rfl ?_ | refine Pk.cons 12 rfl ?_ | refine Pk.cons 13 rfl ?_ | refine Pk.drop ?_))), by (rw [growF_go hlim (by assumption), hK.bad hnk hg (by assumption) (by assumption)]; exact ⟨rfl, rfl, rfl, rfl⟩)⟩ | (have hfin := hK.fin (by omega); refine ⟨_, _, _, _, Bun [K, Cel b97 (treeL n bs.length ka kc) 107, Own tPtr 91 ka kc bs], rfl, Sat.bun (M := [K, Cel b97 (treeL n bs.length ka kc) 107, Own tPtr 91 ka kc bs]) (S.pk (by repeat (first | exact Pk.nil _ | exact Pk.refl _ | refine Pk.cons 0 rfl ?_ | refine Pk.cons 1 rfl ?_ | refine Pk.cons 2 rfl ?_ | refine Pk.cons 3 rfl ?_ | refine Pk.cons 4 rfl ?_ | refine Pk.cons 5 rfl ?_ | refine Pk.cons 6 rfl ?_ | refine Pk.cons 7 rfl ?_ | refine Pk.cons 8 rfl ?_ | refine Pk.cons 9 rfl ?_ | refine Pk.cons 10 rfl ?_ | refine Pk.cons 11 rfl ?_ | refine Pk.cons 12 rfl ?_ | refine Pk.cons 13 rfl ?_ | refine Pk.drop ?_))), ?_⟩; rw [growF_go hlim (by assumption), hfin]; exact ⟨b97, rfl, rfl, by (rw [HasTree]; exact ⟨ka, kc, bs, by (rw [← hbl]; exact HasBlk.bun (HasBlk.cel _ _ _) 1 rfl), Reads.bun (Reads.own _ _ _ _ _) 2 rfl, HasTrees.bun 0 rfl hT⟩), R3, hlc⟩)
          ·
           have rh30 := h30
           (try simp only [Q1, Q2, Q3, Q4, Q5, Q6, Q7, Q8, Q9, Qa] at h30)
           refine W.skip ?_
           refine Then.nx ?_
           first | (obtain ⟨t, r2, b2, hg, rfl, rfl, hM, hR2, hrc⟩ := hG.some (by assumption)) | skip
           replace S : Sat w0 w (Bun [M, K] :: Cel b97 (treeL n bs.length ka kc) 107 :: Own tPtr 91 ka kc bs :: Cel b6 (tNode.enc n) 75 :: L) := Sat.bun (M := [M, K]) S
           refine W.region rfl ?_
           first | refine WO.q (Y.move (v := .pointer (some _)) rfl) ?_ | refine WO.q (Y.move (v := .pointer _) rfl) ?_
           first | refine WO.q (Y.move (v := .pointer (some _)) rfl) ?_ | refine WO.q (Y.move (v := .pointer _) rfl) ?_
           refine WO.q (Y.nilP rfl) ?_
           refine WO.q (Y.fieldB fo_107_2 rfl) ?_
           first | refine WO.q (Y.load rfl (loadS1 sz_105 S 0 rfl rfl)) ?_ | refine WO.q (Y.load rfl (loadS1 sz_105 S 1 rfl rfl)) ?_ | refine WO.q (Y.load rfl (loadS1 sz_105 S 2 rfl rfl)) ?_ | refine WO.q (Y.load rfl (loadS1 sz_105 S 3 rfl rfl)) ?_
           first | refine WO.q (Y.move (v := .pointer (some _)) rfl) ?_ | refine WO.q (Y.move (v := .pointer _) rfl) ?_
           first | refine WO.e (O.buildSlice rfl (buildOne sl_105 (by decide) rfl rfl) S (fun b128 w S => ?_)) | refine WO.e (O.buildSlice rfl (buildOne sl_105 (by decide) rfl (by simp)) S (fun b128 w S => ?_)) | refine WO.e (O.buildSlice rfl (bs_105_1_0) S (fun b128 w S => ?_))
           refine WO.e (O.append (T := tPtr) (ys := [b2]) 3 sl_105 S rfl rfl rfl rfl (S.rd1 (T := tPtr) (x := b2) 0 rfl) rfl (by (simp only [List.length_singleton]; omega)) (by (simp only [List.length_singleton, maxLen]; omega)) (fun a129 c129 w S hn129 => ?_))
           refine WO.q (Y.nilP rfl) ?_
           refine WO.q (Y.fieldB fo_107_2 rfl) ?_
           first | refine WO.e0 (O.store (v := .slice _ _ _) 0 S rfl rfl rfl sz_105 rfl rfl rfl rfl (fun w S => ?_)) | refine WO.e0 (O.store (v := .slice _ _ _) 1 S rfl rfl rfl sz_105 rfl rfl rfl rfl (fun w S => ?_)) | refine WO.e0 (O.store (v := .slice _ _ _) 2 S rfl rfl rfl sz_105 rfl rfl rfl rfl (fun w S => ?_)) | refine WO.e0 (O.store (v := .slice _ _ _) 3 S rfl rfl rfl sz_105 rfl rfl rfl rfl (fun w S => ?_))
           refine WO.nil ?_
           refine InB.nx ?_
           refine Then.nx ?_
           refine W.region rfl ?_
           first | refine WO.q (Y.addI rfl rfl (by omega)) ?_ | refine WO.q (Y.add rfl rfl) ?_
           refine WO.q (Y.move (v := .int .i64 _) rfl) ?_
           refine WO.nil ?_
           refine Then.nx ⟨?_, ?_, ?_⟩
           ·
            (repeat (first | exact Out.hav _ _ _ | exact Out.refl _ _ | refine Out.up rfl ?_ | refine Out.sub rfl ?_))
           ·
            (have hfl := growF_flat _ _ _ _ _ hg); exact ⟨i + 1, _, _, r2, ts ++ [t], bs ++ [b2], _, _, Bun [M, K], rfl, rfl, by omega, hK.go (by omega) hg hfl (by (rintro ⟨hh, hh2⟩; first | (exfalso; exact hh2 (by assumption)) | exact absurd (hh.symm.trans (show nm = false by assumption)) (by decide))), hrc, hR2, (HasTrees.bun 1 rfl hT).snoc (HasTree.bun 0 rfl hM), S.tl⟩
           ·
            (show n.kids.toNat - (i + 1) < n.kids.toNat - i; omega)
         ·
          (try simp only [Q1, Q2, Q3, Q4, Q5, Q6, Q7, Q8, Q9, Qa] at h29)
          refine WO.qF rfl ?_
          refine WO.qF rfl ?_
          refine WO.qF rfl ?_
          refine WO.qF rfl ?_
          refine WO.qF rfl ?_
          refine WO.qF rfl ?_
          refine WO.qT rfl (Y.pickF (u := .bool _) rfl rfl) ?_
          refine WO.q (Y.pickF (u := .bool _) rfl rfl) ?_
          refine WO.nil ?_
          refine Then.nx ?_
          first | refine W.condF rfl ?_ | refine W.condF (congrArg Value.bool (by assumption)) ?_
          refine W.skip ?_
          refine Then.nx ?_
          first | (obtain ⟨t, r2, b2, hg, rfl, rfl, hM, hR2, hrc⟩ := hG.some (by assumption)) | skip
          replace S : Sat w0 w (Bun [M, K] :: Cel b97 (treeL n bs.length ka kc) 107 :: Own tPtr 91 ka kc bs :: Cel b6 (tNode.enc n) 75 :: L) := Sat.bun (M := [M, K]) S
          refine W.region rfl ?_
          first | refine WO.q (Y.move (v := .pointer (some _)) rfl) ?_ | refine WO.q (Y.move (v := .pointer _) rfl) ?_
          first | refine WO.q (Y.move (v := .pointer (some _)) rfl) ?_ | refine WO.q (Y.move (v := .pointer _) rfl) ?_
          refine WO.q (Y.nilP rfl) ?_
          refine WO.q (Y.fieldB fo_107_2 rfl) ?_
          first | refine WO.q (Y.load rfl (loadS1 sz_105 S 0 rfl rfl)) ?_ | refine WO.q (Y.load rfl (loadS1 sz_105 S 1 rfl rfl)) ?_ | refine WO.q (Y.load rfl (loadS1 sz_105 S 2 rfl rfl)) ?_ | refine WO.q (Y.load rfl (loadS1 sz_105 S 3 rfl rfl)) ?_
          first | refine WO.q (Y.move (v := .pointer (some _)) rfl) ?_ | refine WO.q (Y.move (v := .pointer _) rfl) ?_
          first | refine WO.e (O.buildSlice rfl (buildOne sl_105 (by decide) rfl rfl) S (fun b128 w S => ?_)) | refine WO.e (O.buildSlice rfl (buildOne sl_105 (by decide) rfl (by simp)) S (fun b128 w S => ?_)) | refine WO.e (O.buildSlice rfl (bs_105_1_0) S (fun b128 w S => ?_))
          refine WO.e (O.append (T := tPtr) (ys := [b2]) 3 sl_105 S rfl rfl rfl rfl (S.rd1 (T := tPtr) (x := b2) 0 rfl) rfl (by (simp only [List.length_singleton]; omega)) (by (simp only [List.length_singleton, maxLen]; omega)) (fun a129 c129 w S hn129 => ?_))
          refine WO.q (Y.nilP rfl) ?_
          refine WO.q (Y.fieldB fo_107_2 rfl) ?_
          first | refine WO.e0 (O.store (v := .slice _ _ _) 0 S rfl rfl rfl sz_105 rfl rfl rfl rfl (fun w S => ?_)) | refine WO.e0 (O.store (v := .slice _ _ _) 1 S rfl rfl rfl sz_105 rfl rfl rfl rfl (fun w S => ?_)) | refine WO.e0 (O.store (v := .slice _ _ _) 2 S rfl rfl rfl sz_105 rfl rfl rfl rfl (fun w S => ?_)) | refine WO.e0 (O.store (v := .slice _ _ _) 3 S rfl rfl rfl sz_105 rfl rfl rfl rfl (fun w S => ?_))
          refine WO.nil ?_
          refine InB.nx ?_
          refine Then.nx ?_
          refine W.region rfl ?_
          first | refine WO.q (Y.addI rfl rfl (by omega)) ?_ | refine WO.q (Y.add rfl rfl) ?_
          refine WO.q (Y.move (v := .int .i64 _) rfl) ?_
          refine WO.nil ?_
          refine Then.nx ⟨?_, ?_, ?_⟩
          ·
           (repeat (first | exact Out.hav _ _ _ | exact Out.refl _ _ | refine Out.up rfl ?_ | refine Out.sub rfl ?_))
          ·
           (have hfl := growF_flat _ _ _ _ _ hg); exact ⟨i + 1, _, _, r2, ts ++ [t], bs ++ [b2], _, _, Bun [M, K], rfl, rfl, by omega, hK.go (by omega) hg hfl (by (rintro ⟨hh, hh2⟩; first | (exfalso; exact hh2 (by assumption)) | exact absurd (hh.symm.trans (show nm = false by assumption)) (by decide))), hrc, hR2, (HasTrees.bun 1 rfl hT).snoc (HasTree.bun 0 rfl hM), S.tl⟩
          ·
           (show n.kids.toNat - (i + 1) < n.kids.toNat - i; omega)
       ·
        have rh27 := h27
        (try simp only [Q1, Q2, Q3, Q4, Q5, Q6, Q7, Q8, Q9, Qa] at h27)
        refine W.exit ?_
        refine Then.x ?_
        refine Then.x ?_
        refine InB.e ?_
        refine Then.nx ?_
        refine W.seq ?_
        refine W.region rfl ?_
        first | refine WO.q (Y.move (v := .pointer (some _)) rfl) ?_ | refine WO.q (Y.move (v := .pointer _) rfl) ?_
        refine WO.q (Y.move (v := .slice _ _ _) rfl) ?_
        first | refine WO.q (Y.assign (v := .pointer (some _)) rfl) ?_ | refine WO.q (Y.assign (v := .pointer _) rfl) ?_
        refine WO.q (Y.assign (v := .slice _ _ _) rfl) ?_
        refine WO.nil ?_
        refine Then.nx ?_
        refine W.ret ?_
        refine BodyQ.ret2 Try.results45 (ResV.tmp _ rfl) (ResV.tmp _ rfl) ?_
        first | exact ⟨none, none, 0, 0, Bun [], rfl, Sat.bun (M := []) (S.pk (by repeat (first | exact Pk.nil _ | exact Pk.refl _ | refine Pk.cons 0 rfl ?_ | refine Pk.cons 1 rfl ?_ | refine Pk.cons 2 rfl ?_ | refine Pk.cons 3 rfl ?_ | refine Pk.cons 4 rfl ?_ | refine Pk.cons 5 rfl ?_ | refine Pk.cons 6 rfl ?_ | refine Pk.cons 7 rfl ?_ | refine Pk.cons 8 rfl ?_ | refine Pk.cons 9 rfl ?_ | refine Pk.cons 10 rfl ?_ | refine Pk.cons 11 rfl ?_ | refine Pk.cons 12 rfl ?_ | refine Pk.cons 13 rfl ?_ | refine Pk.drop ?_))), by (rw [growF]; exact ⟨rfl, rfl, rfl, rfl⟩)⟩ | exact ⟨none, none, 0, 0, Bun [], rfl, Sat.bun (M := []) (S.pk (by repeat (first | exact Pk.nil _ | exact Pk.refl _ | refine Pk.cons 0 rfl ?_ | refine Pk.cons 1 rfl ?_ | refine Pk.cons 2 rfl ?_ | refine Pk.cons 3 rfl ?_ | refine Pk.cons 4 rfl ?_ | refine Pk.cons 5 rfl ?_ | refine Pk.cons 6 rfl ?_ | refine Pk.cons 7 rfl ?_ | refine Pk.cons 8 rfl ?_ | refine Pk.cons 9 rfl ?_ | refine Pk.cons 10 rfl ?_ | refine Pk.cons 11 rfl ?_ | refine Pk.cons 12 rfl ?_ | refine Pk.cons 13 rfl ?_ | refine Pk.drop ?_))), by (rw [growF_lim (lim_none (by omega))]; exact ⟨rfl, rfl, rfl, rfl⟩)⟩ | exact ⟨none, none, 0, 0, Bun [], rfl, Sat.bun (M := []) (S.pk (by repeat (first | exact Pk.nil _ | exact Pk.refl _ | refine Pk.cons 0 rfl ?_ | refine Pk.cons 1 rfl ?_ | refine Pk.cons 2 rfl ?_ | refine Pk.cons 3 rfl ?_ | refine Pk.cons 4 rfl ?_ | refine Pk.cons 5 rfl ?_ | refine Pk.cons 6 rfl ?_ | refine Pk.cons 7 rfl ?_ | refine Pk.cons 8 rfl ?_ | refine Pk.cons 9 rfl ?_ | refine Pk.cons 10 rfl ?_ | refine Pk.cons 11 rfl ?_ | refine Pk.cons 12 rfl ?_ | refine Pk.cons 13 rfl ?_ | refine Pk.drop ?_))), by (rw [growF_bad hlim (by assumption)]; exact ⟨rfl, rfl, rfl, rfl⟩)⟩ | exact ⟨none, none, 0, 0, Bun [], rfl, Sat.bun (M := []) (S.pk (by repeat (first | exact Pk.nil _ | exact Pk.refl _ | refine Pk.cons 0 rfl ?_ | refine Pk.cons 1 rfl ?_ | refine Pk.cons 2 rfl ?_ | refine Pk.cons 3 rfl ?_ | refine Pk.cons 4 rfl ?_ | refine Pk.cons 5 rfl ?_ | refine Pk.cons 6 rfl ?_ | refine Pk.cons 7 rfl ?_ | refine Pk.cons 8 rfl ?_ | refine Pk.cons 9 rfl ?_ | refine Pk.cons 10 rfl ?_ | refine Pk.cons 11 rfl ?_ | refine Pk.cons 12 rfl ?_ | refine Pk.cons 13 rfl ?_ | refine Pk.drop ?_))), by (rw [growF_go hlim (by assumption), hK.none hnk (hG.none (by assumption))]; exact ⟨rfl, rfl, rfl, rfl⟩)⟩ | exact ⟨none, none, 0, 0, Bun [], rfl, Sat.bun (M := []) (S.pk (by repeat (first | exact Pk.nil _ | exact Pk.refl _ | refine Pk.cons 0 rfl ?_ | refine Pk.cons 1 rfl ?_ | refine Pk.cons 2 rfl ?_ | refine Pk.cons 3 rfl ?_ | refine Pk.cons 4 rfl ?_ | refine Pk.cons 5 rfl ?_ | refine Pk.cons 6 rfl ?_ | refine Pk.cons 7 rfl ?_ | refine Pk.cons 8 rfl ?_ | refine Pk.cons 9 rfl ?_ | refine Pk.cons 10 rfl ?_ | refine Pk.cons 11 rfl ?_ | refine Pk.cons 12 rfl ?_ | refine Pk.cons 13 rfl ?_ | refine Pk.drop ?_))), by (rw [growF_go hlim (by assumption), hK.bad hnk hg (by assumption) (by assumption)]; exact ⟨rfl, rfl, rfl, rfl⟩)⟩ | (have hfin := hK.fin (by omega); refine ⟨_, _, _, _, Bun [K, Cel b97 (treeL n bs.length ka kc) 107, Own tPtr 91 ka kc bs], rfl, Sat.bun (M := [K, Cel b97 (treeL n bs.length ka kc) 107, Own tPtr 91 ka kc bs]) (S.pk (by repeat (first | exact Pk.nil _ | exact Pk.refl _ | refine Pk.cons 0 rfl ?_ | refine Pk.cons 1 rfl ?_ | refine Pk.cons 2 rfl ?_ | refine Pk.cons 3 rfl ?_ | refine Pk.cons 4 rfl ?_ | refine Pk.cons 5 rfl ?_ | refine Pk.cons 6 rfl ?_ | refine Pk.cons 7 rfl ?_ | refine Pk.cons 8 rfl ?_ | refine Pk.cons 9 rfl ?_ | refine Pk.cons 10 rfl ?_ | refine Pk.cons 11 rfl ?_ | refine Pk.cons 12 rfl ?_ | refine Pk.cons 13 rfl ?_ | refine Pk.drop ?_))), ?_⟩; rw [growF_go hlim (by assumption), hfin]; exact ⟨b97, rfl, rfl, by (rw [HasTree]; exact ⟨ka, kc, bs, by (rw [← hbl]; exact HasBlk.bun (HasBlk.cel _ _ _) 1 rfl), Reads.bun (Reads.own _ _ _ _ _) 2 rfl, HasTrees.bun 0 rfl hT⟩), R3, hlc⟩)
end Go.Proofs
