/-
  Walks of IndexI, ContainsI, clipI, has.
-/
import Derived.Test.YtlnimgpfopaicaaGh
import Derived.Test.YtlnimgpfopaicaaFa
import Derived.Test.YtlnimgpfopaicaaFb
set_option linter.unusedVariables false
set_option linter.unusedSimpArgs false
set_option maxRecDepth 100000
set_option maxHeartbeats 1000000
namespace Go.Proofs
open Go Go.TL Go.RowKit
theorem IndexI_spec (w0 : World) (a : Option Addr) (c : Nat) (xs : List Int) (v : Int) (R1 : Rd (tI .i64) w0 a xs) (hx : xs.length ≤ 9223372036854775807) :
    Calls Try.prog 42 [.slice a xs.length c, .int .i64 v].toArray w0 (fun r w => ∃ z : Int, r = .returned (.int .i64 z) ∧ decide (0 ≤ z) = xs.contains v ∧ Ext w0 w) := by
 have S := Sat.refl w0
 refine calls_of_W (args := [.slice a xs.length c, .int .i64 v]) 19 Try.func42 rfl Try.ntmps42 rfl ?_
 refine W.seq ?_
 refine W.region rfl ?_
 refine WO.q (Y.assign (v := .int .i64 _) rfl) ?_
 refine WO.nil ?_
 refine Then.nx ?_
 refine W.seq ?_
 refine W.seq ?_
 refine W.region rfl ?_
 refine WO.q (Y.move (v := .slice _ _ _) rfl) ?_
 refine WO.q (Y.len (t' := 0) Try.underlying23 rfl) ?_
 refine WO.q (Y.move (v := .int .i64 _) rfl) ?_
 refine WO.nil ?_
 refine Then.nx ?_
 refine W.block ?_
 -- loop 0 carries 8
 refine W.loop1 [4, 5, 8, 9, 10, 11, 12, 13, 14, 15, 16, 17, 18] 8 (fun v8 w => ∃ i : Nat, v8 = .int .i64 (i : Int) ∧ i ≤ xs.length ∧ (∀ (j : Nat) u, j < i → xs[j]? = some u → ¬ v = u) ∧ Sat w0 w []) (fun v8 w => xs.length - (intOf v8).toNat) ?_ ?_
 ·
  exact ⟨0, rfl, Nat.zero_le _, fun j u hj _ => absurd hj (by omega), S⟩
 ·
  rintro g0 v8 w ⟨i, rfl, hi, hall, S⟩
  refine W.seq ?_
  refine W.region rfl ?_
  refine WO.q (Y.lss rfl rfl) ?_
  refine WO.nil ?_
  refine Then.nx ?_
  refine W.seq ?_
  refine W.cond rfl (fun h1 => ?_) (fun h1 => ?_) -- cond 0
  ·
   have rh1 := h1
   (try simp only [Q1, Q2, Q3, Q4, Q5, Q6, Q7, Q8, Q9, Qa] at h1)
   refine W.skip ?_
   refine Then.nx ?_
   refine W.seq ?_
   refine W.block ?_
   refine W.seq ?_
   refine W.region rfl ?_
   refine WO.q (Y.move (v := .int .i64 _) rfl) ?_
   refine WO.q (Y.assign (v := .int .i64 _) rfl) ?_
   refine WO.nil ?_
   refine Then.nx ?_
   refine W.seq ?_
   have ha := R1.1 (by omega)
   obtain ⟨x, hx1⟩ := at_ex (xs := xs) (k := i) (by omega)
   refine W.region rfl ?_
   refine WO.q (Y.move (v := .int .i64 _) rfl) ?_
   refine WO.q (Y.move (v := .slice _ _ _) rfl) ?_
   refine WO.q (Y.move (v := .int .i64 _) rfl) ?_
   first | refine WO.q (Y.ixN sl_23 rfl rfl (by (first | assumption | rfl)) (by (first | assumption | omega))) ?_ | refine WO.q (Y.ix sl_23 rfl rfl (by (first | assumption | rfl)) (by (first | assumption | omega)) (by (first | assumption | omega))) ?_
   refine WO.q (Y.load rfl (loadRd1 sz_3 (R1.ext S.ext) (by assumption) rfl)) ?_
   refine WO.q (Y.eql rfl rfl) ?_
   refine WO.nil ?_
   refine Then.nx ?_
   refine W.cond rfl (fun h2 => ?_) (fun h2 => ?_) -- cond 1
   ·
    have rh2 := h2
    (try simp only [Q1, Q2, Q3, Q4, Q5, Q6, Q7, Q8, Q9, Qa] at h2)
    refine W.seq ?_
    refine W.region rfl ?_
    refine WO.q (Y.move (v := .int .i64 _) rfl) ?_
    refine WO.q (Y.assign (v := .int .i64 _) rfl) ?_
    refine WO.nil ?_
    refine Then.nx ?_
    refine W.ret ?_
    refine InB.r ?_
    refine Then.r ?_
    refine Then.r ?_
    refine InB.r ?_
    refine Then.r ?_
    refine BodyQ.ret1 Try.results42 (ResV.tmp _ rfl) ?_
    first | exact ⟨(i : Int), rfl, by (rw [contains_at hx1 (by omega)]; exact decide_eq_true (by omega)), S.ext⟩ | exact ⟨-1, rfl, by (rw [contains_none (fun j u hu => hall j u (by (have := at_lt hu; omega)) hu)]; rfl), S.ext⟩
   ·
    have rh2 := h2
    (try simp only [Q1, Q2, Q3, Q4, Q5, Q6, Q7, Q8, Q9, Qa] at h2)
    refine W.skip ?_
    refine InB.nx ?_
    refine Then.nx ?_
    refine W.region rfl ?_
    first | refine WO.q (Y.addI rfl rfl (by omega)) ?_ | refine WO.q (Y.add rfl rfl) ?_
    refine WO.q (Y.move (v := .int .i64 _) rfl) ?_
    refine WO.nil ?_
    refine Then.nx ⟨?_, ?_, ?_⟩
    ·
     (repeat (first | exact Out.hav _ _ _ | exact Out.refl _ _ | refine Out.up rfl ?_ | refine Out.sub rfl ?_))
    ·
     exact ⟨i + 1, rfl, by omega, fun j u hj hu => by (by_cases hji : j < i; exact hall j u hji hu; (have e : j = i := by omega); subst e; rw [hx1] at hu; obtain rfl := Option.some.inj hu; assumption), S.nil⟩
    ·
     (show xs.length - (i + 1) < xs.length - i; omega)
  ·
   have rh1 := h1
   (try simp only [Q1, Q2, Q3, Q4, Q5, Q6, Q7, Q8, Q9, Qa] at h1)
   refine W.exit ?_
   refine Then.x ?_
   refine Then.x ?_
   refine InB.e ?_
   refine Then.nx ?_
   refine W.seq ?_
   refine W.region rfl ?_
   refine WO.q (Y.assign (v := .int .i64 _) rfl) ?_
   refine WO.nil ?_
   refine Then.nx ?_
   refine W.ret ?_
   refine BodyQ.ret1 Try.results42 (ResV.tmp _ rfl) ?_
   first | exact ⟨(i : Int), rfl, by (rw [contains_at hx1 (by omega)]; exact decide_eq_true (by omega)), S.ext⟩ | exact ⟨-1, rfl, by (rw [contains_none (fun j u hu => hall j u (by (have := at_lt hu; omega)) hu)]; rfl), S.ext⟩
theorem ContainsI_spec (w0 : World) (a : Option Addr) (c : Nat) (xs : List Int) (v : Int) (R1 : Rd (tI .i64) w0 a xs) (hx : xs.length ≤ 9223372036854775807) :
    Calls Try.prog 29 [.slice a xs.length c, .int .i64 v].toArray w0 (fun r w => r = .returned (.bool (xs.contains v)) ∧ Ext w0 w) := by
 have S := Sat.refl w0
 refine calls_of_W (args := [.slice a xs.length c, .int .i64 v]) 9 Try.func29 rfl Try.ntmps29 rfl ?_
 refine W.seq ?_
 refine W.region rfl ?_
 refine WO.q (Y.assign (v := .bool _) rfl) ?_
 refine WO.nil ?_
 refine Then.nx ?_
 refine W.seq ?_
 refine W.region rfl ?_
 refine WO.q (Y.move (v := .slice _ _ _) rfl) ?_
 refine WO.q (Y.move (v := .int .i64 _) rfl) ?_
 refine WO.e (O.call cf_42 rfl (IndexI_spec _ a c xs v R1 hx) ?_)
 rintro _ w ⟨z, rfl, hz, E⟩
 replace S := S.keep E
 refine ⟨_, rfl, ?_⟩
 refine WO.q (Y.geq rfl rfl) ?_
 refine WO.q (Y.assign (v := .bool _) rfl) ?_
 refine WO.nil ?_
 refine Then.nx ?_
 refine W.ret ?_
 refine BodyQ.ret1 Try.results29 (ResV.tmp _ rfl) ?_
 exact ⟨by (rw [← hz]; rfl), S.ext⟩
theorem clipI_spec (w0 w : World) (L : List HA) (a : Option Addr) (c n : Nat) (hn : n ≤ c) (S : Sat w0 w L) :
    Calls Try.prog 40 [.slice a n c].toArray w (fun r w' => r = .returned (.slice a n n) ∧ Sat w0 w' L) := by
 refine calls_of_W (args := [.slice a n c]) 9 Try.func40 rfl Try.ntmps40 rfl ?_
 refine W.seq ?_
 refine W.region rfl ?_
 refine WO.q (Y.assign (v := .slice _ _ _) rfl) ?_
 refine WO.nil ?_
 refine Then.nx ?_
 refine W.seq ?_
 refine W.region rfl ?_
 refine WO.q (Y.move (v := .slice _ _ _) rfl) ?_
 refine WO.q (Y.move (v := .slice _ _ _) rfl) ?_
 refine WO.q (Y.len (t' := 0) Try.underlying23 rfl) ?_
 refine WO.q (Y.move (v := .slice _ _ _) rfl) ?_
 refine WO.q (Y.len (t' := 0) Try.underlying23 rfl) ?_
 refine WO.q (Y.sliceHM sl_23 rfl rfl rfl (by (first | assumption | omega)) (by (first | assumption | omega))) ?_
 refine WO.q (Y.assign (v := .slice _ _ _) rfl) ?_
 refine WO.nil ?_
 refine Then.nx ?_
 refine W.ret ?_
 refine BodyQ.ret1 Try.results40 (ResV.tmp _ rfl) ?_
 exact ⟨rfl, S⟩
theorem has_spec (w0 : World) (a : Option Addr) (c : Nat) (xs : List Int) (v : Int) (R1 : Rd (tI .i64) w0 a xs) (hx : xs.length ≤ 9223372036854775807) :
    Calls Try.prog 14 [.slice a xs.length c, .int .i64 v].toArray w0 (fun r w => r = .returned (.bool (xs.contains v)) ∧ Ext w0 w) := by
 have S := Sat.refl w0
 refine calls_of_W (args := [.slice a xs.length c, .int .i64 v]) 18 Try.func14 rfl Try.ntmps14 rfl ?_
 refine W.seq ?_
 refine W.region rfl ?_
 refine WO.q (Y.assign (v := .bool _) rfl) ?_
 refine WO.nil ?_
 refine Then.nx ?_
 refine W.seq ?_
 refine W.seq ?_
 refine W.region rfl ?_
 refine WO.q (Y.assign (v := .int .i64 _) rfl) ?_
 refine WO.nil ?_
 refine Then.nx ?_
 refine W.block ?_
 -- loop 0 carries 5:i
 refine W.loop1 [4, 5, 6, 7, 8, 9, 10, 11, 12, 13, 14, 15, 16, 17] 5 (fun v5 w => ∃ i : Nat, v5 = .int .i64 (i : Int) ∧ i ≤ xs.length ∧ (∀ (j : Nat) u, j < i → xs[j]? = some u → ¬ v = u) ∧ Sat w0 w []) (fun v5 w => xs.length - (intOf v5).toNat) ?_ ?_
 ·
  exact ⟨0, rfl, Nat.zero_le _, fun j u hj _ => absurd hj (by omega), S⟩
 ·
  rintro g0 v5 w ⟨i, rfl, hi, hall, S⟩
  refine W.seq ?_
  refine W.seq ?_
  refine W.region rfl ?_
  refine WO.q (Y.move (v := .int .i64 _) rfl) ?_
  refine WO.q (Y.move (v := .slice _ _ _) rfl) ?_
  refine WO.q (Y.len (t' := 0) Try.underlying23 rfl) ?_
  refine WO.q (Y.lss rfl rfl) ?_
  refine WO.nil ?_
  refine Then.nx ?_
  refine W.cond rfl (fun h1 => ?_) (fun h1 => ?_) -- cond 0
  ·
   have rh1 := h1
   (try simp only [Q1, Q2, Q3, Q4, Q5, Q6, Q7, Q8, Q9, Qa] at h1)
   refine W.skip ?_
   refine Then.nx ?_
   refine W.seq ?_
   refine W.block ?_
   refine W.seq ?_
   have ha := R1.1 (by omega)
   obtain ⟨x, hx1⟩ := at_ex (xs := xs) (k := i) (by omega)
   refine W.region rfl ?_
   refine WO.q (Y.move (v := .slice _ _ _) rfl) ?_
   refine WO.q (Y.move (v := .int .i64 _) rfl) ?_
   first | refine WO.q (Y.ixN sl_23 rfl rfl (by (first | assumption | rfl)) (by (first | assumption | omega))) ?_ | refine WO.q (Y.ix sl_23 rfl rfl (by (first | assumption | rfl)) (by (first | assumption | omega)) (by (first | assumption | omega))) ?_
   refine WO.q (Y.load rfl (loadRd1 sz_3 (R1.ext S.ext) (by assumption) rfl)) ?_
   refine WO.q (Y.move (v := .int .i64 _) rfl) ?_
   refine WO.q (Y.eql rfl rfl) ?_
   refine WO.nil ?_
   refine Then.nx ?_
   refine W.cond rfl (fun h2 => ?_) (fun h2 => ?_) -- cond 1
   ·
    have rh2 := h2
    (try simp only [Q1, Q2, Q3, Q4, Q5, Q6, Q7, Q8, Q9, Qa] at h2)
    refine W.seq ?_
    refine W.region rfl ?_
    refine WO.q (Y.assign (v := .bool _) rfl) ?_
    refine WO.nil ?_
    refine Then.nx ?_
    refine W.ret ?_
    refine InB.r ?_
    refine Then.r ?_
    refine Then.r ?_
    refine InB.r ?_
    refine Then.r ?_
    refine BodyQ.ret1 Try.results14 (ResV.tmp _ rfl) ?_
    first | exact ⟨by (show Ending.returned (.bool true) = _; rw [contains_at hx1 (by omega)]), S.ext⟩ | exact ⟨by (show Ending.returned (.bool false) = _; rw [contains_none (fun j u hu => hall j u (by (have := at_lt hu; omega)) hu)]), S.ext⟩
   ·
    have rh2 := h2
    (try simp only [Q1, Q2, Q3, Q4, Q5, Q6, Q7, Q8, Q9, Qa] at h2)
    refine W.skip ?_
    refine InB.nx ?_
    refine Then.nx ?_
    refine W.region rfl ?_
    refine WO.q (Y.move (v := .int .i64 _) rfl) ?_
    first | refine WO.q (Y.addI rfl rfl (by omega)) ?_ | refine WO.q (Y.add rfl rfl) ?_
    refine WO.q (Y.assign (v := .int .i64 _) rfl) ?_
    refine WO.nil ?_
    refine Then.nx ⟨?_, ?_, ?_⟩
    ·
     (repeat (first | exact Out.hav _ _ _ | exact Out.refl _ _ | refine Out.up rfl ?_ | refine Out.sub rfl ?_))
    ·
     exact ⟨i + 1, rfl, by omega, fun j u hj hu => by (by_cases hji : j < i; exact hall j u hji hu; (have e : j = i := by omega); subst e; rw [hx1] at hu; obtain rfl := Option.some.inj hu; omega), S.nil⟩
    ·
     (show xs.length - (i + 1) < xs.length - i; omega)
  ·
   have rh1 := h1
   (try simp only [Q1, Q2, Q3, Q4, Q5, Q6, Q7, Q8, Q9, Qa] at h1)
   refine W.exit ?_
   refine Then.x ?_
   refine Then.x ?_
   refine InB.e ?_
   refine Then.nx ?_
   refine W.seq ?_
   refine W.region rfl ?_
   refine WO.q (Y.assign (v := .bool _) rfl) ?_
   refine WO.nil ?_
   refine Then.nx ?_
   refine W.ret ?_
   refine BodyQ.ret1 Try.results14 (ResV.tmp _ rfl) ?_
   first | exact ⟨by (show Ending.returned (.bool true) = _; rw [contains_at hx1 (by omega)]), S.ext⟩ | exact ⟨by (show Ending.returned (.bool false) = _; rw [contains_none (fun j u hu => hall j u (by (have := at_lt hu; omega)) hu)]), S.ext⟩
end Go.Proofs
