/-
  Walks of vend, tend, endM, IndexFuncE, ContainsFuncE, IndexFuncI, ContainsFuncI, all1, all, root.
-/
import Derived.Test.YtlnimgpfopaicaaGc
import Derived.Test.YtlnimgpfopaicaaFa
import Derived.Test.YtlnimgpfopaicaaFb
set_option linter.unusedVariables false
set_option linter.unusedSimpArgs false
set_option maxRecDepth 100000
set_option maxHeartbeats 1000000
namespace Go.Proofs
open Go Go.TL Go.RowKit
theorem vend_spec (w0 : World) (x : Int) :
    Calls Try.prog 91 #[.int .i64 x] w0 (fun r w => r = .returned (endV ⟨1, x⟩) ∧ Ext w0 w) := by
 have S := Sat.refl w0
 refine calls_of_W (args := [.int .i64 x]) 5 Try.func91 rfl Try.ntmps91 rfl ?_
 refine W.seq ?_
 refine W.region rfl ?_
 refine WO.e (O.alloc z_30 S (fun b2 w S => ?_))
 refine WO.nil ?_
 refine Then.nx ?_
 refine W.seq ?_
 refine W.region rfl ?_
 refine WO.q (Y.move (v := .int .i64 _) rfl) ?_
 refine WO.q (Y.build rfl (bld_30_0_1)) ?_
 first | refine WO.e0 (O.store (v := .agg _) 0 S rfl rfl rfl sz_30 rfl rfl rfl rfl (fun w S => ?_)) | refine WO.e0 (O.store (v := .agg _) 1 S rfl rfl rfl sz_30 rfl rfl rfl rfl (fun w S => ?_))
 refine WO.nil ?_
 refine Then.nx ?_
 refine W.ret ?_
 refine BodyQ.ret1 Try.results91 (by first | exact (ResV.cell _ rfl (loadSN sz_30 S 0 rfl rfl rfl)) | exact (ResV.cell _ rfl (loadSN sz_30 S 1 rfl rfl rfl)) | exact (ResV.cell _ rfl (loadSN sz_30 S 2 rfl rfl rfl)) | exact (ResV.cell _ rfl (loadSN sz_30 S 3 rfl rfl rfl)) | exact (ResV.cell _ rfl (loadSN sz_30 S 4 rfl rfl rfl)) | exact (ResV.cell _ rfl (loadSN sz_30 S 5 rfl rfl rfl)) | exact (ResV.cell _ rfl (loadSN sz_30 S 6 rfl rfl rfl)) | exact (ResV.cell _ rfl (loadSN sz_30 S 7 rfl rfl rfl))) ?_
 exact ⟨rfl, S.ext⟩
theorem tend_spec (w0 : World) (e : GEnd) :
    Calls Try.prog 92 #[endV e] w0 (fun r w => r = .returned (endV e) ∧ Ext w0 w) := by
 have S := Sat.refl w0
 refine calls_of_W (args := [endV e]) 4 Try.func92 rfl Try.ntmps92 rfl ?_
 refine W.seq ?_
 refine W.region rfl ?_
 first | refine WO.e (O.box (v := .agg #[.int .i8 e.kind, .int .i64 e.n]) rfl rfl S (fun b1 w S => ?_)) | refine WO.e (O.box rfl rfl S (fun b1 w S => ?_))
 refine WO.e (O.alloc z_30 S (fun b2 w S => ?_))
 refine WO.nil ?_
 refine Then.nx ?_
 refine W.seq ?_
 refine W.region rfl ?_
 first | refine WO.q (Y.load rfl (loadSN sz_82 S 0 rfl rfl rfl)) ?_ | refine WO.q (Y.load rfl (loadSN sz_82 S 1 rfl rfl rfl)) ?_
 first | refine WO.e0 (O.store (v := .agg _) 0 S rfl rfl rfl sz_30 rfl rfl rfl rfl (fun w S => ?_)) | refine WO.e0 (O.store (v := .agg _) 1 S rfl rfl rfl sz_30 rfl rfl rfl rfl (fun w S => ?_))
 refine WO.nil ?_
 refine Then.nx ?_
 refine W.ret ?_
 refine BodyQ.ret1 Try.results92 (by first | exact (ResV.cell _ rfl (loadSN sz_30 S 0 rfl rfl rfl)) | exact (ResV.cell _ rfl (loadSN sz_30 S 1 rfl rfl rfl)) | exact (ResV.cell _ rfl (loadSN sz_30 S 2 rfl rfl rfl)) | exact (ResV.cell _ rfl (loadSN sz_30 S 3 rfl rfl rfl)) | exact (ResV.cell _ rfl (loadSN sz_30 S 4 rfl rfl rfl)) | exact (ResV.cell _ rfl (loadSN sz_30 S 5 rfl rfl rfl)) | exact (ResV.cell _ rfl (loadSN sz_30 S 6 rfl rfl rfl)) | exact (ResV.cell _ rfl (loadSN sz_30 S 7 rfl rfl rfl))) ?_
 exact ⟨rfl, S.ext⟩
theorem endM1 : ∀ v w, (callMethod (.iface 79 (.int .i64 v)) "treadle/graph.end" #[]).run Try.prog w = .ok (.enter 91 #[.int .i64 v]) w := fun v w => by kernel_rfl
theorem endM2 : ∀ e w, (callMethod (.iface 82 (endV e)) "treadle/graph.end" #[]).run Try.prog w = .ok (.enter 92 #[endV e]) w := fun v w => by kernel_rfl
theorem IndexFuncE_spec (w0 : World) (F : FuncId) (caps : List Value) (g : GEnd → Bool) (a : Option Addr) (c : Nat) (xs : List GEnd) (R1 : Rd tEnd w0 a xs) (hx : xs.length ≤ 9223372036854775807) (hCF : CallF Try.prog F) (hF : ∀ w x, x ∈ xs → Ext w0 w → Calls Try.prog F (([.agg (tEnd.enc x).toArray] : List Value) ++ caps).toArray w (fun r w' => r = .returned (.bool (g x)) ∧ Ext w w')) :
    Calls Try.prog 49 [.slice a xs.length c, .func (.func F) #[] caps.toArray].toArray w0 (fun r w => ∃ z : Int, r = .returned (.int .i64 z) ∧ decide (0 ≤ z) = xs.any g ∧ Ext w0 w) := by
 have S := Sat.refl w0
 refine calls_of_W (args := [.slice a xs.length c, .func (.func F) #[] caps.toArray]) 19 Try.func49 rfl Try.ntmps49 rfl ?_
 refine W.seq ?_
 refine W.region rfl ?_
 refine WO.q (Y.assign (v := .int .i64 _) rfl) ?_
 refine WO.nil ?_
 refine Then.nx ?_
 refine W.seq ?_
 refine W.seq ?_
 refine W.region rfl ?_
 refine WO.q (Y.move (v := .slice _ _ _) rfl) ?_
 refine WO.q (Y.len (t' := 0) Try.underlying33 rfl) ?_
 refine WO.q (Y.move (v := .int .i64 _) rfl) ?_
 refine WO.nil ?_
 refine Then.nx ?_
 refine W.block ?_
 -- loop 0 carries 8
 refine W.loop1 [4, 5, 8, 9, 10, 11, 12, 13, 14, 15, 16, 17, 18] 8 (fun v8 w => ∃ i : Nat, v8 = .int .i64 (i : Int) ∧ i ≤ xs.length ∧ (∀ (j : Nat) u, j < i → xs[j]? = some u → g u = false) ∧ Sat w0 w []) (fun v8 w => xs.length - (intOf v8).toNat) ?_ ?_
 ·
  exact ⟨0, rfl, Nat.zero_le _, fun j u hj _ => absurd hj (by omega), S⟩
 ·
  rintro g0 v8 w ⟨i, rfl, hi, hall, S⟩
  refine W.seq ?_
  refine W.region rfl ?_
  refine WO.q (Y.lss rfl rfl) ?_
  refine WO.nil ?_
  refine Then.nx ?_
  refine W.seq ?_
  refine W.cond rfl (fun h1 => ?_) (fun h1 => ?_) -- cond 0
  ·
   have rh1 := h1
   (try simp only [Q1, Q2, Q3, Q4, Q5, Q6, Q7, Q8, Q9, Qa] at h1)
   refine W.skip ?_
   refine Then.nx ?_
   refine W.seq ?_
   refine W.block ?_
   refine W.seq ?_
   refine W.region rfl ?_
   refine WO.q (Y.move (v := .int .i64 _) rfl) ?_
   refine WO.q (Y.assign (v := .int .i64 _) rfl) ?_
   refine WO.nil ?_
   refine Then.nx ?_
   refine W.seq ?_
   have ha := R1.1 (by omega)
   obtain ⟨x, hx1⟩ := at_ex (xs := xs) (k := i) (by omega)
   refine W.region rfl ?_
   first | refine WO.q (Y.move (v := .func _ _ _) rfl) ?_ | refine WO.q (Y.move (v := .nilFunc) rfl) ?_
   refine WO.q (Y.move (v := .slice _ _ _) rfl) ?_
   refine WO.q (Y.move (v := .int .i64 _) rfl) ?_
   first | refine WO.q (Y.ixN sl_33 rfl rfl (by (first | assumption | rfl)) (by (first | assumption | omega))) ?_ | refine WO.q (Y.ix sl_33 rfl rfl (by (first | assumption | rfl)) (by (first | assumption | omega)) (by (first | assumption | omega))) ?_
   refine WO.q (Y.load rfl (loadRdN sz_30 (R1.ext S.ext) (by assumption))) ?_
   refine WO.e (O.callV hCF rfl rfl (hF _ x (List.mem_of_getElem? hx1) S.ext) ?_)
   rintro _ w ⟨rfl, E⟩
   replace S := S.keep E
   refine ⟨_, rfl, ?_⟩
   refine WO.nil ?_
   refine Then.nx ?_
   refine W.cond rfl (fun h2 => ?_) (fun h2 => ?_) -- cond 1
   ·
    have rh2 := h2
    (try simp only [Q1, Q2, Q3, Q4, Q5, Q6, Q7, Q8, Q9, Qa] at h2)
    refine W.seq ?_
    refine W.region rfl ?_
    refine WO.q (Y.move (v := .int .i64 _) rfl) ?_
    refine WO.q (Y.assign (v := .int .i64 _) rfl) ?_
    refine WO.nil ?_
    refine Then.nx ?_
    refine W.ret ?_
    refine InB.r ?_
    refine Then.r ?_
    refine Then.r ?_
    refine InB.r ?_
    refine Then.r ?_
    refine BodyQ.ret1 Try.results49 (ResV.tmp _ rfl) ?_
    first | exact ⟨(i : Int), rfl, by (rw [any_at hx1 (by assumption)]; exact decide_eq_true (by omega)), S.ext⟩ | exact ⟨-1, rfl, by (rw [any_none (fun j u hu => hall j u (by (have := at_lt hu; omega)) hu)]; rfl), S.ext⟩
   ·
    have rh2 := h2
    (try simp only [Q1, Q2, Q3, Q4, Q5, Q6, Q7, Q8, Q9, Qa] at h2)
    refine W.skip ?_
    refine InB.nx ?_
    refine Then.nx ?_
    refine W.region rfl ?_
    first | refine WO.q (Y.addI rfl rfl (by omega)) ?_ | refine WO.q (Y.add rfl rfl) ?_
    refine WO.q (Y.move (v := .int .i64 _) rfl) ?_
    refine WO.nil ?_
    refine Then.nx ⟨?_, ?_, ?_⟩
    ·
     (repeat (first | exact Out.hav _ _ _ | exact Out.refl _ _ | refine Out.up rfl ?_ | refine Out.sub rfl ?_))
    ·
     exact ⟨i + 1, rfl, by omega, fun j u hj hu => by (by_cases hji : j < i; exact hall j u hji hu; (have e : j = i := by omega); subst e; rw [hx1] at hu; obtain rfl := Option.some.inj hu; assumption), S.nil⟩
    ·
     (show xs.length - (i + 1) < xs.length - i; omega)
  ·
   have rh1 := h1
   (try simp only [Q1, Q2, Q3, Q4, Q5, Q6, Q7, Q8, Q9, Qa] at h1)
   refine W.exit ?_
   refine Then.x ?_
   refine Then.x ?_
   refine InB.e ?_
   refine Then.nx ?_
   refine W.seq ?_
   refine W.region rfl ?_
   refine WO.q (Y.assign (v := .int .i64 _) rfl) ?_
   refine WO.nil ?_
   refine Then.nx ?_
   refine W.ret ?_
   refine BodyQ.ret1 Try.results49 (ResV.tmp _ rfl) ?_
   first | exact ⟨(i : Int), rfl, by (rw [any_at hx1 (by assumption)]; exact decide_eq_true (by omega)), S.ext⟩ | exact ⟨-1, rfl, by (rw [any_none (fun j u hu => hall j u (by (have := at_lt hu; omega)) hu)]; rfl), S.ext⟩
theorem ContainsFuncE_spec (w0 : World) (F : FuncId) (caps : List Value) (g : GEnd → Bool) (a : Option Addr) (c : Nat) (xs : List GEnd) (R1 : Rd tEnd w0 a xs) (hx : xs.length ≤ 9223372036854775807) (hCF : CallF Try.prog F) (hF : ∀ w x, x ∈ xs → Ext w0 w → Calls Try.prog F (([.agg (tEnd.enc x).toArray] : List Value) ++ caps).toArray w (fun r w' => r = .returned (.bool (g x)) ∧ Ext w w')) :
    Calls Try.prog 35 [.slice a xs.length c, .func (.func F) #[] caps.toArray].toArray w0 (fun r w => r = .returned (.bool (xs.any g)) ∧ Ext w0 w) := by
 have S := Sat.refl w0
 refine calls_of_W (args := [.slice a xs.length c, .func (.func F) #[] caps.toArray]) 9 Try.func35 rfl Try.ntmps35 rfl ?_
 refine W.seq ?_
 refine W.region rfl ?_
 refine WO.q (Y.assign (v := .bool _) rfl) ?_
 refine WO.nil ?_
 refine Then.nx ?_
 refine W.seq ?_
 refine W.region rfl ?_
 refine WO.q (Y.move (v := .slice _ _ _) rfl) ?_
 first | refine WO.q (Y.move (v := .func _ _ _) rfl) ?_ | refine WO.q (Y.move (v := .nilFunc) rfl) ?_
 refine WO.e (O.call cf_49 rfl (IndexFuncE_spec _ F caps g a c xs R1 hx hCF hF) ?_)
 rintro _ w ⟨z, rfl, hz, E⟩
 replace S := S.keep E
 refine ⟨_, rfl, ?_⟩
 refine WO.q (Y.geq rfl rfl) ?_
 refine WO.q (Y.assign (v := .bool _) rfl) ?_
 refine WO.nil ?_
 refine Then.nx ?_
 refine W.ret ?_
 refine BodyQ.ret1 Try.results35 (ResV.tmp _ rfl) ?_
 exact ⟨by (rw [← hz]; rfl), S.ext⟩
theorem IndexFuncI_spec (w0 : World) (F : FuncId) (caps : List Value) (g : Int → Bool) (a : Option Addr) (c : Nat) (xs : List Int) (R1 : Rd (tI .i64) w0 a xs) (hx : xs.length ≤ 9223372036854775807) (hCF : CallF Try.prog F) (hF : ∀ w x, x ∈ xs → Ext w0 w → Calls Try.prog F (([.int .i64 x] : List Value) ++ caps).toArray w (fun r w' => r = .returned (.bool (g x)) ∧ Ext w w')) :
    Calls Try.prog 50 [.slice a xs.length c, .func (.func F) #[] caps.toArray].toArray w0 (fun r w => ∃ z : Int, r = .returned (.int .i64 z) ∧ decide (0 ≤ z) = xs.any g ∧ Ext w0 w) := by
 have S := Sat.refl w0
 refine calls_of_W (args := [.slice a xs.length c, .func (.func F) #[] caps.toArray]) 19 Try.func50 rfl Try.ntmps50 rfl ?_
 refine W.seq ?_
 refine W.region rfl ?_
 refine WO.q (Y.assign (v := .int .i64 _) rfl) ?_
 refine WO.nil ?_
 refine Then.nx ?_
 refine W.seq ?_
 refine W.seq ?_
 refine W.region rfl ?_
 refine WO.q (Y.move (v := .slice _ _ _) rfl) ?_
 refine WO.q (Y.len (t' := 0) Try.underlying23 rfl) ?_
 refine WO.q (Y.move (v := .int .i64 _) rfl) ?_
 refine WO.nil ?_
 refine Then.nx ?_
 refine W.block ?_
 -- loop 0 carries 8
 refine W.loop1 [4, 5, 8, 9, 10, 11, 12, 13, 14, 15, 16, 17, 18] 8 (fun v8 w => ∃ i : Nat, v8 = .int .i64 (i : Int) ∧ i ≤ xs.length ∧ (∀ (j : Nat) u, j < i → xs[j]? = some u → g u = false) ∧ Sat w0 w []) (fun v8 w => xs.length - (intOf v8).toNat) ?_ ?_
 ·
  exact ⟨0, rfl, Nat.zero_le _, fun j u hj _ => absurd hj (by omega), S⟩
 ·
  rintro g0 v8 w ⟨i, rfl, hi, hall, S⟩
  refine W.seq ?_
  refine W.region rfl ?_
  refine WO.q (Y.lss rfl rfl) ?_
  refine WO.nil ?_
  refine Then.nx ?_
  refine W.seq ?_
  refine W.cond rfl (fun h1 => ?_) (fun h1 => ?_) -- cond 0
  ·
   have rh1 := h1
   (try simp only [Q1, Q2, Q3, Q4, Q5, Q6, Q7, Q8, Q9, Qa] at h1)
   refine W.skip ?_
   refine Then.nx ?_
   refine W.seq ?_
   refine W.block ?_
   refine W.seq ?_
   refine W.region rfl ?_
   refine WO.q (Y.move (v := .int .i64 _) rfl) ?_
   refine WO.q (Y.assign (v := .int .i64 _) rfl) ?_
   refine WO.nil ?_
   refine Then.nx ?_
   refine W.seq ?_
   have ha := R1.1 (by omega)
   obtain ⟨x, hx1⟩ := at_ex (xs := xs) (k := i) (by omega)
   refine W.region rfl ?_
   first | refine WO.q (Y.move (v := .func _ _ _) rfl) ?_ | refine WO.q (Y.move (v := .nilFunc) rfl) ?_
   refine WO.q (Y.move (v := .slice _ _ _) rfl) ?_
   refine WO.q (Y.move (v := .int .i64 _) rfl) ?_
   first | refine WO.q (Y.ixN sl_23 rfl rfl (by (first | assumption | rfl)) (by (first | assumption | omega))) ?_ | refine WO.q (Y.ix sl_23 rfl rfl (by (first | assumption | rfl)) (by (first | assumption | omega)) (by (first | assumption | omega))) ?_
   refine WO.q (Y.load rfl (loadRd1 sz_3 (R1.ext S.ext) (by assumption) rfl)) ?_
   refine WO.e (O.callV hCF rfl rfl (hF _ x (List.mem_of_getElem? hx1) S.ext) ?_)
   rintro _ w ⟨rfl, E⟩
   replace S := S.keep E
   refine ⟨_, rfl, ?_⟩
   refine WO.nil ?_
   refine Then.nx ?_
   refine W.cond rfl (fun h2 => ?_) (fun h2 => ?_) -- cond 1
   ·
    have rh2 := h2
    (try simp only [Q1, Q2, Q3, Q4, Q5, Q6, Q7, Q8, Q9, Qa] at h2)
    refine W.seq ?_
    refine W.region rfl ?_
    refine WO.q (Y.move (v := .int .i64 _) rfl) ?_
    refine WO.q (Y.assign (v := .int .i64 _) rfl) ?_
    refine WO.nil ?_
    refine Then.nx ?_
    refine W.ret ?_
    refine InB.r ?_
    refine Then.r ?_
    refine Then.r ?_
    refine InB.r ?_
    refine Then.r ?_
    refine BodyQ.ret1 Try.results50 (ResV.tmp _ rfl) ?_
    first | exact ⟨(i : Int), rfl, by (rw [any_at hx1 (by assumption)]; exact decide_eq_true (by omega)), S.ext⟩ | exact ⟨-1, rfl, by (rw [any_none (fun j u hu => hall j u (by (have := at_lt hu; omega)) hu)]; rfl), S.ext⟩
   ·
    have rh2 := h2
    (try simp only [Q1, Q2, Q3, Q4, Q5, Q6, Q7, Q8, Q9, Qa] at h2)
    refine W.skip ?_
    refine InB.nx ?_
    refine Then.nx ?_
    refine W.region rfl ?_
    first | refine WO.q (Y.addI rfl rfl (by omega)) ?_ | refine WO.q (Y.add rfl rfl) ?_
    refine WO.q (Y.move (v := .int .i64 _) rfl) ?_
    refine WO.nil ?_
    refine Then.nx ⟨?_, ?_, ?_⟩
    ·
     (repeat (first | exact Out.hav _ _ _ | exact Out.refl _ _ | refine Out.up rfl ?_ | refine Out.sub rfl ?_))
    ·
     exact ⟨i + 1, rfl, by omega, fun j u hj hu => by (by_cases hji : j < i; exact hall j u hji hu; (have e : j = i := by omega); subst e; rw [hx1] at hu; obtain rfl := Option.some.inj hu; assumption), S.nil⟩
    ·
     (show xs.length - (i + 1) < xs.length - i; omega)
  ·
   have rh1 := h1
   (try simp only [Q1, Q2, Q3, Q4, Q5, Q6, Q7, Q8, Q9, Qa] at h1)
   refine W.exit ?_
   refine Then.x ?_
   refine Then.x ?_
   refine InB.e ?_
   refine Then.nx ?_
   refine W.seq ?_
   refine W.region rfl ?_
   refine WO.q (Y.assign (v := .int .i64 _) rfl) ?_
   refine WO.nil ?_
   refine Then.nx ?_
   refine W.ret ?_
   refine BodyQ.ret1 Try.results50 (ResV.tmp _ rfl) ?_
   first | exact ⟨(i : Int), rfl, by (rw [any_at hx1 (by assumption)]; exact decide_eq_true (by omega)), S.ext⟩ | exact ⟨-1, rfl, by (rw [any_none (fun j u hu => hall j u (by (have := at_lt hu; omega)) hu)]; rfl), S.ext⟩
theorem ContainsFuncI_spec (w0 : World) (F : FuncId) (caps : List Value) (g : Int → Bool) (a : Option Addr) (c : Nat) (xs : List Int) (R1 : Rd (tI .i64) w0 a xs) (hx : xs.length ≤ 9223372036854775807) (hCF : CallF Try.prog F) (hF : ∀ w x, x ∈ xs → Ext w0 w → Calls Try.prog F (([.int .i64 x] : List Value) ++ caps).toArray w (fun r w' => r = .returned (.bool (g x)) ∧ Ext w w')) :
    Calls Try.prog 37 [.slice a xs.length c, .func (.func F) #[] caps.toArray].toArray w0 (fun r w => r = .returned (.bool (xs.any g)) ∧ Ext w0 w) := by
 have S := Sat.refl w0
 refine calls_of_W (args := [.slice a xs.length c, .func (.func F) #[] caps.toArray]) 9 Try.func37 rfl Try.ntmps37 rfl ?_
 refine W.seq ?_
 refine W.region rfl ?_
 refine WO.q (Y.assign (v := .bool _) rfl) ?_
 refine WO.nil ?_
 refine Then.nx ?_
 refine W.seq ?_
 refine W.region rfl ?_
 refine WO.q (Y.move (v := .slice _ _ _) rfl) ?_
 first | refine WO.q (Y.move (v := .func _ _ _) rfl) ?_ | refine WO.q (Y.move (v := .nilFunc) rfl) ?_
 refine WO.e (O.call cf_50 rfl (IndexFuncI_spec _ F caps g a c xs R1 hx hCF hF) ?_)
 rintro _ w ⟨z, rfl, hz, E⟩
 replace S := S.keep E
 refine ⟨_, rfl, ?_⟩
 refine WO.q (Y.geq rfl rfl) ?_
 refine WO.q (Y.assign (v := .bool _) rfl) ?_
 refine WO.nil ?_
 refine Then.nx ?_
 refine W.ret ?_
 refine BodyQ.ret1 Try.results37 (ResV.tmp _ rfl) ?_
 exact ⟨by (rw [← hz]; rfl), S.ext⟩
theorem all1_spec (w0 : World) (e : GEnd) :
    Calls Try.prog 36 [endV e].toArray w0 (fun r w => r = .returned (.bool (decide (e.kind < 1 ∨ 4 < e.kind))) ∧ Ext w0 w) := by
 have S := Sat.refl w0
 refine calls_of_W (args := [endV e]) 11 Try.func36 rfl Try.ntmps36 rfl ?_
 refine W.seq ?_
 refine W.region rfl ?_
 first | refine WO.e (O.box (v := .agg #[.int .i8 e.kind, .int .i64 e.n]) rfl rfl S (fun b1 w S => ?_)) | refine WO.e (O.box rfl rfl S (fun b1 w S => ?_))
 refine WO.q (Y.assign (v := .bool _) rfl) ?_
 refine WO.nil ?_
 refine Then.nx ?_
 refine W.seq ?_
 refine W.region rfl ?_
 refine WO.q (Y.fieldB fo_30_0 rfl) ?_
 first | refine WO.q (Y.load rfl (loadS1 sz_28 S 0 rfl rfl)) ?_ | refine WO.q (Y.load rfl (loadS1 sz_28 S 1 rfl rfl)) ?_
 refine WO.q (Y.lss rfl rfl) ?_
 refine WO.q (Y.move (v := .bool _) rfl) ?_
 refine WO.splitB (fun h1 => ?_) (fun h1 => ?_)
 ·
  (try simp only [Q1, Q2, Q3, Q4, Q5, Q6, Q7, Q8, Q9, Qa] at h1)
  refine WO.qF rfl ?_
  refine WO.qF rfl ?_
  refine WO.qF rfl ?_
  refine WO.q (Y.pickT (u := .bool _) rfl rfl) ?_
  refine WO.q (Y.assign (v := .bool _) rfl) ?_
  refine WO.nil ?_
  refine Then.nx ?_
  refine W.ret ?_
  refine BodyQ.ret1 Try.results36 (ResV.tmp _ rfl) ?_
  refine ⟨?_, S.ext⟩; (show Ending.returned (.bool _) = _; congr 2; (try unfold id); first | (symm; rw [decide_eq_true_eq]; omega) | (symm; rw [decide_eq_false_iff_not]; omega) | (rw [Bool.eq_iff_iff]; simp only [decide_eq_true_eq, Bool.not_eq_true', decide_eq_false_iff_not]; omega))
 ·
  (try simp only [Q1, Q2, Q3, Q4, Q5, Q6, Q7, Q8, Q9, Qa] at h1)
  refine WO.qT rfl (Y.fieldB fo_30_0 rfl) ?_
  first | refine WO.qT rfl (Y.load rfl (loadS1 sz_28 S 0 rfl rfl)) ?_ | refine WO.qT rfl (Y.load rfl (loadS1 sz_28 S 1 rfl rfl)) ?_
  refine WO.qT rfl (Y.gtr rfl rfl) ?_
  refine WO.q (Y.pickF (u := .bool _) rfl rfl) ?_
  refine WO.q (Y.assign (v := .bool _) rfl) ?_
  refine WO.nil ?_
  refine Then.nx ?_
  refine W.ret ?_
  refine BodyQ.ret1 Try.results36 (ResV.tmp _ rfl) ?_
  refine ⟨?_, S.ext⟩; (show Ending.returned (.bool _) = _; congr 2; (try unfold id); first | (symm; rw [decide_eq_true_eq]; omega) | (symm; rw [decide_eq_false_iff_not]; omega) | (rw [Bool.eq_iff_iff]; simp only [decide_eq_true_eq, Bool.not_eq_true', decide_eq_false_iff_not]; omega))
theorem all_spec (w0 : World) (a : Option Addr) (c : Nat) (es : List GEnd) (n : Nat) (R1 : Rd tEnd w0 a es) (hn : n ≤ es.length) (hc : es.length ≤ c) (hx : es.length ≤ 9223372036854775807) :
    Calls Try.prog 25 [.slice a es.length c, .int .i64 (n : Int)].toArray w0 (fun r w => r = .returned (.bool (!((es.take n).any (fun e : GEnd => decide (e.kind < 1 ∨ 4 < e.kind))))) ∧ Ext w0 w) := by
 have hl : (es.take n).length = n := List.length_take_of_le hn
 have S := Sat.refl w0
 refine calls_of_W (args := [.slice a es.length c, .int .i64 (n : Int)]) 10 Try.func25 rfl Try.ntmps25 rfl ?_
 refine W.seq ?_
 refine W.region rfl ?_
 refine WO.q (Y.assign (v := .bool _) rfl) ?_
 refine WO.nil ?_
 refine Then.nx ?_
 refine W.seq ?_
 refine W.region rfl ?_
 refine WO.q (Y.move (v := .slice _ _ _) rfl) ?_
 refine WO.q (Y.move (v := .int .i64 _) rfl) ?_
 refine WO.q (Y.sliceH (h := (es.take n).length) sl_33 rfl (by (rw [hl]; rfl)) (by omega)) ?_
 refine WO.e (O.call cf_35 rfl (ContainsFuncE_spec _ 36 [] (fun e : GEnd => decide (e.kind < 1 ∨ 4 < e.kind)) a c (es.take n) ((R1.take n).ext S.ext) (by omega) (fun args w => by kernel_rfl) (fun w x hx E => all1_spec w x)) ?_)
 rintro _ w ⟨rfl, E⟩
 replace S := S.keep E
 refine ⟨_, rfl, ?_⟩
 refine WO.q (Y.not rfl) ?_
 refine WO.q (Y.assign (v := .bool _) rfl) ?_
 refine WO.nil ?_
 refine Then.nx ?_
 refine W.ret ?_
 refine BodyQ.ret1 Try.results25 (ResV.tmp _ rfl) ?_
 exact ⟨rfl, S.ext⟩
theorem root_spec (w0 : World) (x : GLet) (a : Option Addr) (c : Nat) (n : GNode) (R1 : Rd tNode w0 a x.tree) (hn : x.tree[0]? = some n) :
    Calls Try.prog 22 [.agg (tRLet.enc ⟨x.name, (a, x.tree.length, c), x.at_⟩).toArray].toArray w0 (fun r w => r = .returned (.int .i8 n.op) ∧ Ext w0 w) := by
 have S := Sat.refl w0
 have hl := at_lt hn
 have ha := R1.1 (by omega)
 refine calls_of_W (args := [.agg (tRLet.enc ⟨x.name, (a, x.tree.length, c), x.at_⟩).toArray]) 8 Try.func22 rfl Try.ntmps22 rfl ?_
 refine W.seq ?_
 refine W.region rfl ?_
 refine WO.e (O.box rfl rfl S (fun b1 w S => ?_))
 refine WO.q (Y.assign (v := .int .i8 _) rfl) ?_
 refine WO.nil ?_
 refine Then.nx ?_
 refine W.seq ?_
 refine W.region rfl ?_
 refine WO.q (Y.fieldB fo_51_1 rfl) ?_
 first | refine WO.q (Y.load rfl (loadS1 sz_49 S 0 rfl rfl)) ?_ | refine WO.q (Y.load rfl (loadS1 sz_49 S 1 rfl rfl)) ?_
 first | refine WO.q (Y.ixN sl_49 rfl rfl (by (first | assumption | rfl)) (by (first | assumption | omega))) ?_ | refine WO.q (Y.ix sl_49 rfl rfl (by (first | assumption | rfl)) (by (first | assumption | omega)) (by (first | assumption | omega))) ?_
 refine WO.q (Y.fieldE fo_75_0 rfl) ?_
 refine WO.q (Y.load rfl (loadRdF sz_28 (R1.ext S.ext) (by assumption) rfl)) ?_
 refine WO.q (Y.assign (v := .int .i8 _) rfl) ?_
 refine WO.nil ?_
 refine Then.nx ?_
 refine W.ret ?_
 refine BodyQ.ret1 Try.results22 (ResV.tmp _ rfl) ?_
 exact ⟨rfl, S.ext⟩
end Go.Proofs
