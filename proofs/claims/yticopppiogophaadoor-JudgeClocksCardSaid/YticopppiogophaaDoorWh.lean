/-
  Walks of from.
-/
import Derived.Test.YticopppiogophaaDoorTp
import Derived.Test.YticopppiogophaaDoorTo
import Derived.Test.YticopppiogophaaDoorSx
import Derived.Test.YticopppiogophaaDoorFa
import Derived.Test.YticopppiogophaaDoorFb
import Derived.Test.YticopppiogophaaDoorFc
import Derived.Test.YticopppiogophaaDoorWf
import Derived.Test.YticopppiogophaaDoorWg
set_option linter.unusedVariables false
set_option linter.unusedSimpArgs false
set_option maxRecDepth 100000
set_option maxHeartbeats 1000000
namespace Go.Proofs
open Go Go.TL Go.RowKit
theorem from_spec (w0 : World) (htab : Lib.TabIs Tryd.prog w0 "internal/strconv.uint64pow10" .u64 Lib.pow10Tab) (k : Int) (hk : 1 ≤ k ∧ k ≤ 4) (h : List GCall) (ah : Option Addr) (ch : Nat) (R1 : Rd tCall w0 ah h) (hl : h.length ≤ 12) (hI : ∀ c ∈ h, I64 c.arg ∧ I64 c.new) (must : Nat) (hmu : must < 4096) (bm bb mb bh bk bo bf : Nat) : ∀ (fuel d : Nat) (hs : List Int) (bn : Been) (ord : List Nat) (X : HA) (a ao : Option Addr) (cap co : Nat) (w : World), undone h.length d < fuel → d < 4096 → Reads X (tI .i64) a hs → hs.length ≤ cap → hs.length + undone h.length d ≤ 13 → (2 < k → hs.length = 1) → (∀ x ∈ hs, I64 x) → ord.length + undone h.length d ≤ 12 →
    Sat w0 w [X, Cel bm [.int .i64 (must : Int)] 3, Cel bb [.map (some mb)] 91, MapF mb (fun s : ByteArray => Value.string s) (fun b : Bool => Value.bool b) (beenM bn), Cel bh [.slice ah h.length ch] 22, Cel bk [.int .i64 k] 89, Cel bo [.slice ao ord.length co] 27, Own tN 3 ao co ord, Cel bf [.func (.func 42) #[] #[.pointer (some ⟨bm, 0, none⟩), .pointer (some ⟨bb, 0, none⟩), .pointer (some ⟨bh, 0, none⟩), .pointer (some ⟨bk, 0, none⟩), .pointer (some ⟨bo, 0, none⟩), .pointer (some ⟨bf, 0, none⟩)]] 92] →
    Calls Tryd.prog 42 [.int .i64 (d : Int), .slice a hs.length cap, .pointer (some ⟨bm, 0, none⟩), .pointer (some ⟨bb, 0, none⟩), .pointer (some ⟨bh, 0, none⟩), .pointer (some ⟨bk, 0, none⟩), .pointer (some ⟨bo, 0, none⟩), .pointer (some ⟨bf, 0, none⟩)].toArray w (fun e w' => ∃ ao' co', e = .returned (.bool (linFrom k h must fuel d hs bn).1.isSome) ∧ Sat w0 w' [X, Cel bm [.int .i64 (must : Int)] 3, Cel bb [.map (some mb)] 91, MapF mb (fun s : ByteArray => Value.string s) (fun b : Bool => Value.bool b) (beenM (linFrom k h must fuel d hs bn).2), Cel bh [.slice ah h.length ch] 22, Cel bk [.int .i64 k] 89, Cel bo [.slice ao' (ord ++ (linFrom k h must fuel d hs bn).1.getD []).length co'] 27, Own tN 3 ao' co' (ord ++ (linFrom k h must fuel d hs bn).1.getD []), Cel bf [.func (.func 42) #[] #[.pointer (some ⟨bm, 0, none⟩), .pointer (some ⟨bb, 0, none⟩), .pointer (some ⟨bh, 0, none⟩), .pointer (some ⟨bk, 0, none⟩), .pointer (some ⟨bo, 0, none⟩), .pointer (some ⟨bf, 0, none⟩)]] 92]) := by
 intro fuel
 induction fuel
 case zero => (intro d hs bn ord X a ao cap co w hu; omega)
 rename_i fuel ih
 intro d hs bn ord X a ao cap co w hu hd hX hcap hlen hne hI2 hol S
 refine calls_of_W (args := [.int .i64 (d : Int), .slice a hs.length cap, .pointer (some ⟨bm, 0, none⟩), .pointer (some ⟨bb, 0, none⟩), .pointer (some ⟨bh, 0, none⟩), .pointer (some ⟨bk, 0, none⟩), .pointer (some ⟨bo, 0, none⟩), .pointer (some ⟨bf, 0, none⟩)]) 79 Tryd.func42 rfl Tryd.ntmps42 rfl ?_
 refine W.seq ?_
 refine W.region rfl ?_
 refine WO.q (Y.assign (v := .bool _) rfl) ?_
 refine WO.nil ?_
 refine Then.nx ?_
 refine W.seq ?_
 refine W.seq ?_
 refine W.region rfl ?_
 refine WO.q (Y.move (v := .int .i64 _) rfl) ?_
 first | refine WO.q (Y.load rfl (loadS1 sz_3 S 0 rfl rfl)) ?_ | refine WO.q (Y.load rfl (loadS1 sz_3 S 1 rfl rfl)) ?_ | refine WO.q (Y.load rfl (loadS1 sz_3 S 2 rfl rfl)) ?_ | refine WO.q (Y.load rfl (loadS1 sz_3 S 3 rfl rfl)) ?_ | refine WO.q (Y.load rfl (loadS1 sz_3 S 4 rfl rfl)) ?_ | refine WO.q (Y.load rfl (loadS1 sz_3 S 5 rfl rfl)) ?_ | refine WO.q (Y.load rfl (loadS1 sz_3 S 6 rfl rfl)) ?_ | refine WO.q (Y.load rfl (loadS1 sz_3 S 7 rfl rfl)) ?_ | refine WO.q (Y.load rfl (loadS1 sz_3 S 8 rfl rfl)) ?_ | refine WO.q (Y.load rfl (loadS1 sz_3 S 9 rfl rfl)) ?_ | refine WO.q (Y.load rfl (loadS1 sz_3 S 10 rfl rfl)) ?_ | refine WO.q (Y.load rfl (loadS1 sz_3 S 11 rfl rfl)) ?_ | refine WO.q (Y.load rfl (loadS1 sz_3 S 12 rfl rfl)) ?_ | refine WO.q (Y.load rfl (loadS1 sz_3 S 13 rfl rfl)) ?_ | refine WO.q (Y.load rfl (loadRdF sz_3 (R1.ext S.ext) (by assumption) rfl)) ?_ | refine WO.q (Y.load rfl (loadRd1 sz_3 (R1.ext S.ext) (by assumption) rfl)) ?_
 refine WO.q (Y.andN (x := d) (y := must) rfl rfl (by omega) (by omega)) ?_
 first | refine WO.q (Y.load rfl (loadS1 sz_3 S 0 rfl rfl)) ?_ | refine WO.q (Y.load rfl (loadS1 sz_3 S 1 rfl rfl)) ?_ | refine WO.q (Y.load rfl (loadS1 sz_3 S 2 rfl rfl)) ?_ | refine WO.q (Y.load rfl (loadS1 sz_3 S 3 rfl rfl)) ?_ | refine WO.q (Y.load rfl (loadS1 sz_3 S 4 rfl rfl)) ?_ | refine WO.q (Y.load rfl (loadS1 sz_3 S 5 rfl rfl)) ?_ | refine WO.q (Y.load rfl (loadS1 sz_3 S 6 rfl rfl)) ?_ | refine WO.q (Y.load rfl (loadS1 sz_3 S 7 rfl rfl)) ?_ | refine WO.q (Y.load rfl (loadS1 sz_3 S 8 rfl rfl)) ?_ | refine WO.q (Y.load rfl (loadS1 sz_3 S 9 rfl rfl)) ?_ | refine WO.q (Y.load rfl (loadS1 sz_3 S 10 rfl rfl)) ?_ | refine WO.q (Y.load rfl (loadS1 sz_3 S 11 rfl rfl)) ?_ | refine WO.q (Y.load rfl (loadS1 sz_3 S 12 rfl rfl)) ?_ | refine WO.q (Y.load rfl (loadS1 sz_3 S 13 rfl rfl)) ?_ | refine WO.q (Y.load rfl (loadRdF sz_3 (R1.ext S.ext) (by assumption) rfl)) ?_ | refine WO.q (Y.load rfl (loadRd1 sz_3 (R1.ext S.ext) (by assumption) rfl)) ?_
 refine WO.q (Y.eql rfl rfl) ?_
 refine WO.nil ?_
 refine Then.nx ?_
 refine W.cond rfl (fun h1 => ?_) (fun h1 => ?_) -- cond 0
 ·
  have rh1 := h1
  (try simp only [Q1, Q2, Q3, Q4, Q5, Q6, Q7, Q8, Q9, Qa] at h1)
  refine W.seq ?_
  refine W.region rfl ?_
  refine WO.q (Y.assign (v := .bool _) rfl) ?_
  refine WO.nil ?_
  refine Then.nx ?_
  refine W.ret ?_
  refine Then.r ?_
  refine BodyQ.ret1 Tryd.results42 (ResV.tmp _ rfl) ?_
  have e : linFrom k h must (fuel + 1) d hs bn = (some [], bn) := (by (rw [linFrom, if_pos (by omega)])); rw [e]; exact ⟨ao, co, rfl, by (simp only [Option.getD_some, List.append_nil]; exact S)⟩
 ·
  have rh1 := h1
  (try simp only [Q1, Q2, Q3, Q4, Q5, Q6, Q7, Q8, Q9, Qa] at h1)
  refine W.skip ?_
  refine Then.nx ?_
  refine W.seq ?_
  refine W.region rfl ?_
  refine WO.q (Y.move (v := .int .i64 _) rfl) ?_
  refine WO.q (Y.move (v := .slice _ _ _) rfl) ?_
  refine WO.e (O.call cf_43 rfl (key_spec _ (Lib.tabBelow_of_tabIs htab _ S.ext) _ _ _ _ (S.reads 0 rfl hX) ⟨by omega, by omega⟩ hI2 (by omega)) ?_)
  rintro _ w ⟨rfl, E⟩
  replace S := S.keep E
  refine ⟨_, rfl, ?_⟩
  refine WO.q (Y.assign (v := .string _) rfl) ?_
  refine WO.nil ?_
  refine Then.nx ?_
  refine W.seq ?_
  refine W.seq ?_
  refine W.region rfl ?_
  first | refine WO.q (Y.load rfl (loadS1 sz_91 S 0 rfl rfl)) ?_ | refine WO.q (Y.load rfl (loadS1 sz_91 S 1 rfl rfl)) ?_ | refine WO.q (Y.load rfl (loadS1 sz_91 S 2 rfl rfl)) ?_ | refine WO.q (Y.load rfl (loadS1 sz_91 S 3 rfl rfl)) ?_ | refine WO.q (Y.load rfl (loadS1 sz_91 S 4 rfl rfl)) ?_ | refine WO.q (Y.load rfl (loadS1 sz_91 S 5 rfl rfl)) ?_ | refine WO.q (Y.load rfl (loadS1 sz_91 S 6 rfl rfl)) ?_ | refine WO.q (Y.load rfl (loadS1 sz_91 S 7 rfl rfl)) ?_ | refine WO.q (Y.load rfl (loadS1 sz_91 S 8 rfl rfl)) ?_ | refine WO.q (Y.load rfl (loadS1 sz_91 S 9 rfl rfl)) ?_ | refine WO.q (Y.load rfl (loadS1 sz_91 S 10 rfl rfl)) ?_ | refine WO.q (Y.load rfl (loadS1 sz_91 S 11 rfl rfl)) ?_ | refine WO.q (Y.load rfl (loadS1 sz_91 S 12 rfl rfl)) ?_ | refine WO.q (Y.load rfl (loadS1 sz_91 S 13 rfl rfl)) ?_ | refine WO.q (Y.load rfl (loadRdF sz_91 (R1.ext S.ext) (by assumption) rfl)) ?_ | refine WO.q (Y.load rfl (loadRd1 sz_91 (R1.ext S.ext) (by assumption) rfl)) ?_
  refine WO.q (Y.move (v := .string _) rfl) ?_
  refine WO.q (Y.lookup (kv := (fun s : ByteArray => Value.string s)) (vv := (fun b : Bool => Value.bool b)) (z := false) ⟨(keyL (d : Int) hs).toArray⟩ Tryd.underlying91 (keyStr Tryd.underlying9) (fun w => by kernel_rfl) 3 S rfl rfl rfl) ?_
  refine WO.nil ?_
  refine Then.nx ?_
  refine W.cond rfl (fun h2 => ?_) (fun h2 => ?_) -- cond 1
  ·
   have rh2 := h2
   (try simp only [Q1, Q2, Q3, Q4, Q5, Q6, Q7, Q8, Q9, Qa] at h2)
   rw [beenM_at] at rh2
   have hin := of_decide_eq_true rh2
   refine W.seq ?_
   refine W.region rfl ?_
   refine WO.q (Y.assign (v := .bool _) rfl) ?_
   refine WO.nil ?_
   refine Then.nx ?_
   refine W.ret ?_
   refine Then.r ?_
   refine BodyQ.ret1 Tryd.results42 (ResV.tmp _ rfl) ?_
   have e : linFrom k h must (fuel + 1) d hs bn = (none, bn) := (by (rw [linFrom, if_neg (by omega), if_pos hin])); rw [e]; exact ⟨ao, co, rfl, by (simp only [Option.getD_none, List.append_nil]; exact S)⟩
  ·
   have rh2 := h2
   (try simp only [Q1, Q2, Q3, Q4, Q5, Q6, Q7, Q8, Q9, Qa] at h2)
   rw [beenM_at] at rh2
   have hin := of_decide_eq_false rh2
   refine W.skip ?_
   refine Then.nx ?_
   refine W.seq ?_
   refine W.region rfl ?_
   first | refine WO.q (Y.load rfl (loadS1 sz_91 S 0 rfl rfl)) ?_ | refine WO.q (Y.load rfl (loadS1 sz_91 S 1 rfl rfl)) ?_ | refine WO.q (Y.load rfl (loadS1 sz_91 S 2 rfl rfl)) ?_ | refine WO.q (Y.load rfl (loadS1 sz_91 S 3 rfl rfl)) ?_ | refine WO.q (Y.load rfl (loadS1 sz_91 S 4 rfl rfl)) ?_ | refine WO.q (Y.load rfl (loadS1 sz_91 S 5 rfl rfl)) ?_ | refine WO.q (Y.load rfl (loadS1 sz_91 S 6 rfl rfl)) ?_ | refine WO.q (Y.load rfl (loadS1 sz_91 S 7 rfl rfl)) ?_ | refine WO.q (Y.load rfl (loadS1 sz_91 S 8 rfl rfl)) ?_ | refine WO.q (Y.load rfl (loadS1 sz_91 S 9 rfl rfl)) ?_ | refine WO.q (Y.load rfl (loadS1 sz_91 S 10 rfl rfl)) ?_ | refine WO.q (Y.load rfl (loadS1 sz_91 S 11 rfl rfl)) ?_ | refine WO.q (Y.load rfl (loadS1 sz_91 S 12 rfl rfl)) ?_ | refine WO.q (Y.load rfl (loadS1 sz_91 S 13 rfl rfl)) ?_ | refine WO.q (Y.load rfl (loadRdF sz_91 (R1.ext S.ext) (by assumption) rfl)) ?_ | refine WO.q (Y.load rfl (loadRd1 sz_91 (R1.ext S.ext) (by assumption) rfl)) ?_
   refine WO.q (Y.move (v := .string _) rfl) ?_
   refine WO.e0 (O.mapUpdate ⟨(keyL (d : Int) hs).toArray⟩ true Tryd.underlying91 (keyStr Tryd.underlying9) 3 S rfl rfl rfl rfl (fun w S => ?_))
   rw [beenM_add] at S
   refine WO.nil ?_
   refine Then.nx ?_
   refine W.seq ?_
   refine W.seq ?_
   have hst : linFrom k h must (fuel + 1) d hs bn = linLoop (linFrom k h must fuel) k h d hs (List.range h.length) ((d, hs) :: bn) := by (rw [linFrom, if_neg (by omega), if_neg hin])
   refine W.region rfl ?_
   first | refine WO.q (Y.load rfl (loadS1 sz_22 S 0 rfl rfl)) ?_ | refine WO.q (Y.load rfl (loadS1 sz_22 S 1 rfl rfl)) ?_ | refine WO.q (Y.load rfl (loadS1 sz_22 S 2 rfl rfl)) ?_ | refine WO.q (Y.load rfl (loadS1 sz_22 S 3 rfl rfl)) ?_ | refine WO.q (Y.load rfl (loadS1 sz_22 S 4 rfl rfl)) ?_ | refine WO.q (Y.load rfl (loadS1 sz_22 S 5 rfl rfl)) ?_ | refine WO.q (Y.load rfl (loadS1 sz_22 S 6 rfl rfl)) ?_ | refine WO.q (Y.load rfl (loadS1 sz_22 S 7 rfl rfl)) ?_ | refine WO.q (Y.load rfl (loadS1 sz_22 S 8 rfl rfl)) ?_ | refine WO.q (Y.load rfl (loadS1 sz_22 S 9 rfl rfl)) ?_ | refine WO.q (Y.load rfl (loadS1 sz_22 S 10 rfl rfl)) ?_ | refine WO.q (Y.load rfl (loadS1 sz_22 S 11 rfl rfl)) ?_ | refine WO.q (Y.load rfl (loadS1 sz_22 S 12 rfl rfl)) ?_ | refine WO.q (Y.load rfl (loadS1 sz_22 S 13 rfl rfl)) ?_ | refine WO.q (Y.load rfl (loadRdF sz_22 (R1.ext S.ext) (by assumption) rfl)) ?_ | refine WO.q (Y.load rfl (loadRd1 sz_22 (R1.ext S.ext) (by assumption) rfl)) ?_
   refine WO.q (Y.len (t' := 0) Tryd.underlying22 rfl) ?_
   refine WO.q (Y.move (v := .int .i64 _) rfl) ?_
   refine WO.nil ?_
   refine Then.nx ?_
   refine W.block ?_
   -- loop 0 carries 31
   refine W.loop1 [10, 12, 13, 14, 15, 31, 32, 33, 34, 35, 36, 37, 38, 39, 40, 41, 42, 43, 44, 45, 46, 47, 48, 49, 50, 51, 52, 53, 54, 55, 56, 57, 58, 59, 60, 61, 62, 63, 64, 65, 66, 67, 68, 69, 70, 71, 72, 73, 74, 75, 76, 77, 78] 31 (fun v31 w => ∃ (i : Nat) (bn2 : Been) (ao2 : Option Addr) (co2 : Nat), v31 = .int .i64 (i : Int) ∧ i ≤ h.length ∧ linFrom k h must (fuel + 1) d hs bn = linLoop (linFrom k h must fuel) k h d hs ((List.range h.length).drop i) bn2 ∧ Sat w0 w [X, Cel bm [.int .i64 (must : Int)] 3, Cel bb [.map (some mb)] 91, MapF mb (fun s : ByteArray => Value.string s) (fun b : Bool => Value.bool b) (beenM bn2), Cel bh [.slice ah h.length ch] 22, Cel bk [.int .i64 k] 89, Cel bo [.slice ao2 ord.length co2] 27, Own tN 3 ao2 co2 ord, Cel bf [.func (.func 42) #[] #[.pointer (some ⟨bm, 0, none⟩), .pointer (some ⟨bb, 0, none⟩), .pointer (some ⟨bh, 0, none⟩), .pointer (some ⟨bk, 0, none⟩), .pointer (some ⟨bo, 0, none⟩), .pointer (some ⟨bf, 0, none⟩)]] 92]) (fun v31 w => h.length - (intOf v31).toNat) ?_ ?_
   ·
    exact ⟨0, _, ao, co, rfl, by omega, hst, S⟩
   ·
    rintro g0 v31 w ⟨i, bn2, ao2, co2, rfl, hi, hlf, S⟩
    refine W.seq ?_
    refine W.region rfl ?_
    refine WO.q (Y.lss rfl rfl) ?_
    refine WO.nil ?_
    refine Then.nx ?_
    refine W.seq ?_
    refine W.cond rfl (fun h3 => ?_) (fun h3 => ?_) -- cond 2
    ·
     have rh3 := h3
     (try simp only [Q1, Q2, Q3, Q4, Q5, Q6, Q7, Q8, Q9, Qa] at h3)
     have ha := R1.1 (by omega)
     obtain ⟨x, hx1⟩ := at_ex (xs := h) (k := i) (by omega)
     have hi2 : i < h.length := by omega
     refine W.skip ?_
     refine Then.nx ?_
     refine W.seq ?_
     refine W.block ?_
     refine W.seq ?_
     refine W.region rfl ?_
     refine WO.q (Y.move (v := .int .i64 _) rfl) ?_
     first | refine WO.q (Y.ixN sl_22 rfl rfl (by (first | assumption | rfl)) (by (first | assumption | omega))) ?_ | refine WO.q (Y.ix sl_22 rfl rfl (by (first | assumption | rfl)) (by (first | assumption | omega)) (by (first | assumption | omega))) ?_
     refine WO.q (Y.load rfl (loadRdN sz_58 (R1.ext S.ext) (by assumption))) ?_
     refine WO.e (O.alloc z_58 S (fun b13 w S => ?_))
     refine WO.q (Y.assign (v := .int .i64 _) rfl) ?_
     first | refine WO.e0 (O.store (v := .agg _) 0 S rfl rfl rfl sz_58 rfl rfl rfl rfl (fun w S => ?_)) | refine WO.e0 (O.store (v := .agg _) 1 S rfl rfl rfl sz_58 rfl rfl rfl rfl (fun w S => ?_)) | refine WO.e0 (O.store (v := .agg _) 2 S rfl rfl rfl sz_58 rfl rfl rfl rfl (fun w S => ?_)) | refine WO.e0 (O.store (v := .agg _) 3 S rfl rfl rfl sz_58 rfl rfl rfl rfl (fun w S => ?_)) | refine WO.e0 (O.store (v := .agg _) 4 S rfl rfl rfl sz_58 rfl rfl rfl rfl (fun w S => ?_)) | refine WO.e0 (O.store (v := .agg _) 5 S rfl rfl rfl sz_58 rfl rfl rfl rfl (fun w S => ?_)) | refine WO.e0 (O.store (v := .agg _) 6 S rfl rfl rfl sz_58 rfl rfl rfl rfl (fun w S => ?_)) | refine WO.e0 (O.store (v := .agg _) 7 S rfl rfl rfl sz_58 rfl rfl rfl rfl (fun w S => ?_)) | refine WO.e0 (O.store (v := .agg _) 8 S rfl rfl rfl sz_58 rfl rfl rfl rfl (fun w S => ?_)) | refine WO.e0 (O.store (v := .agg _) 9 S rfl rfl rfl sz_58 rfl rfl rfl rfl (fun w S => ?_)) | refine WO.e0 (O.store (v := .agg _) 10 S rfl rfl rfl sz_58 rfl rfl rfl rfl (fun w S => ?_)) | refine WO.e0 (O.store (v := .agg _) 11 S rfl rfl rfl sz_58 rfl rfl rfl rfl (fun w S => ?_)) | refine WO.e0 (O.store (v := .agg _) 12 S rfl rfl rfl sz_58 rfl rfl rfl rfl (fun w S => ?_)) | refine WO.e0 (O.store (v := .agg _) 13 S rfl rfl rfl sz_58 rfl rfl rfl rfl (fun w S => ?_))
     refine WO.nil ?_
     refine Then.nx ?_
     refine W.seq ?_
     refine W.seq ?_
     refine W.region rfl ?_
     refine WO.q (Y.move (v := .int .i64 _) rfl) ?_
     refine WO.q (Y.move (v := .int .i64 _) rfl) ?_
     refine WO.q (Y.shrN (x := d) (y := i) rfl rfl (by omega)) ?_
     refine WO.q (Y.andN (x := d >>> i) (y := 1) rfl rfl (Nat.lt_of_le_of_lt (Nat.shiftRight_le _ _) (by omega)) (by decide)) ?_
     refine WO.q (Y.eql rfl rfl) ?_
     refine WO.q (Y.move (v := .bool _) rfl) ?_
     refine WO.splitB (fun h4 => ?_) (fun h4 => ?_)
     ·
      (try simp only [Q1, Q2, Q3, Q4, Q5, Q6, Q7, Q8, Q9, Qa] at h4)
      refine WO.qF rfl ?_
      refine WO.qF rfl ?_
      refine WO.qF rfl ?_
      refine WO.qF rfl ?_
      refine WO.q (Y.pickT (u := .bool _) rfl rfl) ?_
      refine WO.nil ?_
      refine Then.nx ?_
      first | refine W.condT rfl ?_ | refine W.condT (congrArg Value.bool (by assumption)) ?_
      refine W.exit ?_
      refine Then.x ?_
      refine InB.e ?_
      refine Then.nx ?_
      refine W.region rfl ?_
      first | refine WO.q (Y.addI rfl rfl (by omega)) ?_ | refine WO.q (Y.add rfl rfl) ?_
      refine WO.q (Y.move (v := .int .i64 _) rfl) ?_
      refine WO.nil ?_
      refine Then.nx ⟨?_, ?_, ?_⟩
      ·
       (repeat (first | exact Out.hav _ _ _ | exact Out.refl _ _ | refine Out.up rfl ?_ | refine Out.sub rfl ?_))
      ·
       first | (exact ⟨i + 1, bn2, ao2, co2, rfl, by omega, by (rw [hlf, drop_range hi2, linLoop_bit hx1 (by (unfold bitN; omega))]), S.pk (by repeat (first | exact Pk.nil _ | exact Pk.refl _ | refine Pk.cons 0 rfl ?_ | refine Pk.cons 1 rfl ?_ | refine Pk.cons 2 rfl ?_ | refine Pk.cons 3 rfl ?_ | refine Pk.cons 4 rfl ?_ | refine Pk.cons 5 rfl ?_ | refine Pk.cons 6 rfl ?_ | refine Pk.cons 7 rfl ?_ | refine Pk.cons 8 rfl ?_ | refine Pk.cons 9 rfl ?_ | refine Pk.cons 10 rfl ?_ | refine Pk.cons 11 rfl ?_ | refine Pk.cons 12 rfl ?_ | refine Pk.cons 13 rfl ?_ | refine Pk.drop ?_))⟩) | (exact ⟨i + 1, bn2, ao2, co2, rfl, by omega, by (rw [hlf, drop_range hi2, linLoop_late hx1 hbit (by assumption)]), S.pk (by repeat (first | exact Pk.nil _ | exact Pk.refl _ | refine Pk.cons 0 rfl ?_ | refine Pk.cons 1 rfl ?_ | refine Pk.cons 2 rfl ?_ | refine Pk.cons 3 rfl ?_ | refine Pk.cons 4 rfl ?_ | refine Pk.cons 5 rfl ?_ | refine Pk.cons 6 rfl ?_ | refine Pk.cons 7 rfl ?_ | refine Pk.cons 8 rfl ?_ | refine Pk.cons 9 rfl ?_ | refine Pk.cons 10 rfl ?_ | refine Pk.cons 11 rfl ?_ | refine Pk.cons 12 rfl ?_ | refine Pk.cons 13 rfl ?_ | refine Pk.drop ?_))⟩) | (exact ⟨i + 1, bn2, ao2, co2, rfl, by omega, by (rw [hlf, drop_range hi2, linLoop_ne hx1 hbit (by assumption) (by assumption) (by assumption)]), S.pk (by repeat (first | exact Pk.nil _ | exact Pk.refl _ | refine Pk.cons 0 rfl ?_ | refine Pk.cons 1 rfl ?_ | refine Pk.cons 2 rfl ?_ | refine Pk.cons 3 rfl ?_ | refine Pk.cons 4 rfl ?_ | refine Pk.cons 5 rfl ?_ | refine Pk.cons 6 rfl ?_ | refine Pk.cons 7 rfl ?_ | refine Pk.cons 8 rfl ?_ | refine Pk.cons 9 rfl ?_ | refine Pk.cons 10 rfl ?_ | refine Pk.cons 11 rfl ?_ | refine Pk.cons 12 rfl ?_ | refine Pk.cons 13 rfl ?_ | refine Pk.drop ?_))⟩) | (exact ⟨i + 1, _, ao3, co3, rfl, by omega, by (rw [hlf, drop_range hi2, linLoop_no hx1 hbit (by assumption) (by (intro hh; first | exact hh.1 (by assumption) | exact hh.2 (by assumption))) hnone]), S⟩)
      ·
       (show h.length - (i + 1) < h.length - i; omega)
     ·
      (try simp only [Q1, Q2, Q3, Q4, Q5, Q6, Q7, Q8, Q9, Qa] at h4)
      first | refine WO.qT rfl (Y.load rfl (loadS1 sz_22 S 0 rfl rfl)) ?_ | refine WO.qT rfl (Y.load rfl (loadS1 sz_22 S 1 rfl rfl)) ?_ | refine WO.qT rfl (Y.load rfl (loadS1 sz_22 S 2 rfl rfl)) ?_ | refine WO.qT rfl (Y.load rfl (loadS1 sz_22 S 3 rfl rfl)) ?_ | refine WO.qT rfl (Y.load rfl (loadS1 sz_22 S 4 rfl rfl)) ?_ | refine WO.qT rfl (Y.load rfl (loadS1 sz_22 S 5 rfl rfl)) ?_ | refine WO.qT rfl (Y.load rfl (loadS1 sz_22 S 6 rfl rfl)) ?_ | refine WO.qT rfl (Y.load rfl (loadS1 sz_22 S 7 rfl rfl)) ?_ | refine WO.qT rfl (Y.load rfl (loadS1 sz_22 S 8 rfl rfl)) ?_ | refine WO.qT rfl (Y.load rfl (loadS1 sz_22 S 9 rfl rfl)) ?_ | refine WO.qT rfl (Y.load rfl (loadS1 sz_22 S 10 rfl rfl)) ?_ | refine WO.qT rfl (Y.load rfl (loadS1 sz_22 S 11 rfl rfl)) ?_ | refine WO.qT rfl (Y.load rfl (loadS1 sz_22 S 12 rfl rfl)) ?_ | refine WO.qT rfl (Y.load rfl (loadS1 sz_22 S 13 rfl rfl)) ?_ | refine WO.qT rfl (Y.load rfl (loadRdF sz_22 (R1.ext S.ext) (by assumption) rfl)) ?_ | refine WO.qT rfl (Y.load rfl (loadRd1 sz_22 (R1.ext S.ext) (by assumption) rfl)) ?_
      refine WO.qT rfl (Y.move (v := .int .i64 _) rfl) ?_
      first | refine WO.qT rfl (Y.load rfl (loadSN sz_58 S 0 rfl rfl rfl)) ?_ | refine WO.qT rfl (Y.load rfl (loadSN sz_58 S 1 rfl rfl rfl)) ?_ | refine WO.qT rfl (Y.load rfl (loadSN sz_58 S 2 rfl rfl rfl)) ?_ | refine WO.qT rfl (Y.load rfl (loadSN sz_58 S 3 rfl rfl rfl)) ?_ | refine WO.qT rfl (Y.load rfl (loadSN sz_58 S 4 rfl rfl rfl)) ?_ | refine WO.qT rfl (Y.load rfl (loadSN sz_58 S 5 rfl rfl rfl)) ?_ | refine WO.qT rfl (Y.load rfl (loadSN sz_58 S 6 rfl rfl rfl)) ?_ | refine WO.qT rfl (Y.load rfl (loadSN sz_58 S 7 rfl rfl rfl)) ?_ | refine WO.qT rfl (Y.load rfl (loadSN sz_58 S 8 rfl rfl rfl)) ?_ | refine WO.qT rfl (Y.load rfl (loadSN sz_58 S 9 rfl rfl rfl)) ?_ | refine WO.qT rfl (Y.load rfl (loadSN sz_58 S 10 rfl rfl rfl)) ?_ | refine WO.qT rfl (Y.load rfl (loadSN sz_58 S 11 rfl rfl rfl)) ?_ | refine WO.qT rfl (Y.load rfl (loadSN sz_58 S 12 rfl rfl rfl)) ?_ | refine WO.qT rfl (Y.load rfl (loadSN sz_58 S 13 rfl rfl rfl)) ?_
      refine WO.eT rfl (O.call cf_44 rfl (late_spec _ _ _ h d x (R1.ext S.ext) (by omega) (by omega)) ?_)
      rintro _ w ⟨rfl, E⟩
      replace S := S.keep E
      refine ⟨_, rfl, ?_⟩
      refine WO.q (Y.pickF (u := .bool _) rfl rfl) ?_
      refine WO.nil ?_
      refine Then.nx ?_
      refine W.cond rfl (fun h5 => ?_) (fun h5 => ?_) -- cond 3
      ·
       have rh5 := h5
       (try simp only [Q1, Q2, Q3, Q4, Q5, Q6, Q7, Q8, Q9, Qa] at h5)
       have hbit : ¬ bitN d i = 1 := by (unfold bitN; omega)
       refine W.exit ?_
       refine Then.x ?_
       refine InB.e ?_
       refine Then.nx ?_
       refine W.region rfl ?_
       first | refine WO.q (Y.addI rfl rfl (by omega)) ?_ | refine WO.q (Y.add rfl rfl) ?_
       refine WO.q (Y.move (v := .int .i64 _) rfl) ?_
       refine WO.nil ?_
       refine Then.nx ⟨?_, ?_, ?_⟩
       ·
        (repeat (first | exact Out.hav _ _ _ | exact Out.refl _ _ | refine Out.up rfl ?_ | refine Out.sub rfl ?_))
       ·
        first | (exact ⟨i + 1, bn2, ao2, co2, rfl, by omega, by (rw [hlf, drop_range hi2, linLoop_bit hx1 (by (unfold bitN; omega))]), S.pk (by repeat (first | exact Pk.nil _ | exact Pk.refl _ | refine Pk.cons 0 rfl ?_ | refine Pk.cons 1 rfl ?_ | refine Pk.cons 2 rfl ?_ | refine Pk.cons 3 rfl ?_ | refine Pk.cons 4 rfl ?_ | refine Pk.cons 5 rfl ?_ | refine Pk.cons 6 rfl ?_ | refine Pk.cons 7 rfl ?_ | refine Pk.cons 8 rfl ?_ | refine Pk.cons 9 rfl ?_ | refine Pk.cons 10 rfl ?_ | refine Pk.cons 11 rfl ?_ | refine Pk.cons 12 rfl ?_ | refine Pk.cons 13 rfl ?_ | refine Pk.drop ?_))⟩) | (exact ⟨i + 1, bn2, ao2, co2, rfl, by omega, by (rw [hlf, drop_range hi2, linLoop_late hx1 hbit (by assumption)]), S.pk (by repeat (first | exact Pk.nil _ | exact Pk.refl _ | refine Pk.cons 0 rfl ?_ | refine Pk.cons 1 rfl ?_ | refine Pk.cons 2 rfl ?_ | refine Pk.cons 3 rfl ?_ | refine Pk.cons 4 rfl ?_ | refine Pk.cons 5 rfl ?_ | refine Pk.cons 6 rfl ?_ | refine Pk.cons 7 rfl ?_ | refine Pk.cons 8 rfl ?_ | refine Pk.cons 9 rfl ?_ | refine Pk.cons 10 rfl ?_ | refine Pk.cons 11 rfl ?_ | refine Pk.cons 12 rfl ?_ | refine Pk.cons 13 rfl ?_ | refine Pk.drop ?_))⟩) | (exact ⟨i + 1, bn2, ao2, co2, rfl, by omega, by (rw [hlf, drop_range hi2, linLoop_ne hx1 hbit (by assumption) (by assumption) (by assumption)]), S.pk (by repeat (first | exact Pk.nil _ | exact Pk.refl _ | refine Pk.cons 0 rfl ?_ | refine Pk.cons 1 rfl ?_ | refine Pk.cons 2 rfl ?_ | refine Pk.cons 3 rfl ?_ | refine Pk.cons 4 rfl ?_ | refine Pk.cons 5 rfl ?_ | refine Pk.cons 6 rfl ?_ | refine Pk.cons 7 rfl ?_ | refine Pk.cons 8 rfl ?_ | refine Pk.cons 9 rfl ?_ | refine Pk.cons 10 rfl ?_ | refine Pk.cons 11 rfl ?_ | refine Pk.cons 12 rfl ?_ | refine Pk.cons 13 rfl ?_ | refine Pk.drop ?_))⟩) | (exact ⟨i + 1, _, ao3, co3, rfl, by omega, by (rw [hlf, drop_range hi2, linLoop_no hx1 hbit (by assumption) (by (intro hh; first | exact hh.1 (by assumption) | exact hh.2 (by assumption))) hnone]), S⟩)
       ·
        (show h.length - (i + 1) < h.length - i; omega)
      ·
       have rh5 := h5
       (try simp only [Q1, Q2, Q3, Q4, Q5, Q6, Q7, Q8, Q9, Qa] at h5)
       have hbit : ¬ bitN d i = 1 := by (unfold bitN; omega)
       refine W.skip ?_
       refine Then.nx ?_
       refine W.seq ?_
       refine W.region rfl ?_
       first | refine WO.q (Y.load rfl (loadS1 sz_89 S 0 rfl rfl)) ?_ | refine WO.q (Y.load rfl (loadS1 sz_89 S 1 rfl rfl)) ?_ | refine WO.q (Y.load rfl (loadS1 sz_89 S 2 rfl rfl)) ?_ | refine WO.q (Y.load rfl (loadS1 sz_89 S 3 rfl rfl)) ?_ | refine WO.q (Y.load rfl (loadS1 sz_89 S 4 rfl rfl)) ?_ | refine WO.q (Y.load rfl (loadS1 sz_89 S 5 rfl rfl)) ?_ | refine WO.q (Y.load rfl (loadS1 sz_89 S 6 rfl rfl)) ?_ | refine WO.q (Y.load rfl (loadS1 sz_89 S 7 rfl rfl)) ?_ | refine WO.q (Y.load rfl (loadS1 sz_89 S 8 rfl rfl)) ?_ | refine WO.q (Y.load rfl (loadS1 sz_89 S 9 rfl rfl)) ?_ | refine WO.q (Y.load rfl (loadS1 sz_89 S 10 rfl rfl)) ?_ | refine WO.q (Y.load rfl (loadS1 sz_89 S 11 rfl rfl)) ?_ | refine WO.q (Y.load rfl (loadS1 sz_89 S 12 rfl rfl)) ?_ | refine WO.q (Y.load rfl (loadS1 sz_89 S 13 rfl rfl)) ?_ | refine WO.q (Y.load rfl (loadRdF sz_89 (R1.ext S.ext) (by assumption) rfl)) ?_ | refine WO.q (Y.load rfl (loadRd1 sz_89 (R1.ext S.ext) (by assumption) rfl)) ?_
       refine WO.q (Y.move (v := .slice _ _ _) rfl) ?_
       first | refine WO.q (Y.load rfl (loadSN sz_58 S 0 rfl rfl rfl)) ?_ | refine WO.q (Y.load rfl (loadSN sz_58 S 1 rfl rfl rfl)) ?_ | refine WO.q (Y.load rfl (loadSN sz_58 S 2 rfl rfl rfl)) ?_ | refine WO.q (Y.load rfl (loadSN sz_58 S 3 rfl rfl rfl)) ?_ | refine WO.q (Y.load rfl (loadSN sz_58 S 4 rfl rfl rfl)) ?_ | refine WO.q (Y.load rfl (loadSN sz_58 S 5 rfl rfl rfl)) ?_ | refine WO.q (Y.load rfl (loadSN sz_58 S 6 rfl rfl rfl)) ?_ | refine WO.q (Y.load rfl (loadSN sz_58 S 7 rfl rfl rfl)) ?_ | refine WO.q (Y.load rfl (loadSN sz_58 S 8 rfl rfl rfl)) ?_ | refine WO.q (Y.load rfl (loadSN sz_58 S 9 rfl rfl rfl)) ?_ | refine WO.q (Y.load rfl (loadSN sz_58 S 10 rfl rfl rfl)) ?_ | refine WO.q (Y.load rfl (loadSN sz_58 S 11 rfl rfl rfl)) ?_ | refine WO.q (Y.load rfl (loadSN sz_58 S 12 rfl rfl rfl)) ?_ | refine WO.q (Y.load rfl (loadSN sz_58 S 13 rfl rfl rfl)) ?_
       refine WO.e (O.call cf_45 rfl (does_spec _ k a cap hs x (S.reads 1 rfl hX) hk.1 (fun h2 e => by (have := hne h2; rw [e] at this; cases this)) hcap (by omega)) ?_)
       rintro _ w ⟨a2, cap2, M, rfl, hcap2, S2, hrd⟩
       replace S := S.trans S2
       refine ⟨_, rfl, ?_⟩
       refine WO.q (Y.move (v := .tuple _) rfl) ?_
       refine WO.q (Y.extract (v := .slice _ _ _) rfl rfl) ?_
       refine WO.q (Y.extract (v := .agg _) rfl rfl) ?_
       refine WO.e (O.alloc z_58 S (fun b15 w S => ?_))
       refine WO.q (Y.assign (v := .slice _ _ _) rfl) ?_
       first | refine WO.e0 (O.store (v := .agg _) 0 S rfl rfl rfl sz_58 rfl rfl rfl rfl (fun w S => ?_)) | refine WO.e0 (O.store (v := .agg _) 1 S rfl rfl rfl sz_58 rfl rfl rfl rfl (fun w S => ?_)) | refine WO.e0 (O.store (v := .agg _) 2 S rfl rfl rfl sz_58 rfl rfl rfl rfl (fun w S => ?_)) | refine WO.e0 (O.store (v := .agg _) 3 S rfl rfl rfl sz_58 rfl rfl rfl rfl (fun w S => ?_)) | refine WO.e0 (O.store (v := .agg _) 4 S rfl rfl rfl sz_58 rfl rfl rfl rfl (fun w S => ?_)) | refine WO.e0 (O.store (v := .agg _) 5 S rfl rfl rfl sz_58 rfl rfl rfl rfl (fun w S => ?_)) | refine WO.e0 (O.store (v := .agg _) 6 S rfl rfl rfl sz_58 rfl rfl rfl rfl (fun w S => ?_)) | refine WO.e0 (O.store (v := .agg _) 7 S rfl rfl rfl sz_58 rfl rfl rfl rfl (fun w S => ?_)) | refine WO.e0 (O.store (v := .agg _) 8 S rfl rfl rfl sz_58 rfl rfl rfl rfl (fun w S => ?_)) | refine WO.e0 (O.store (v := .agg _) 9 S rfl rfl rfl sz_58 rfl rfl rfl rfl (fun w S => ?_)) | refine WO.e0 (O.store (v := .agg _) 10 S rfl rfl rfl sz_58 rfl rfl rfl rfl (fun w S => ?_)) | refine WO.e0 (O.store (v := .agg _) 11 S rfl rfl rfl sz_58 rfl rfl rfl rfl (fun w S => ?_)) | refine WO.e0 (O.store (v := .agg _) 12 S rfl rfl rfl sz_58 rfl rfl rfl rfl (fun w S => ?_)) | refine WO.e0 (O.store (v := .agg _) 13 S rfl rfl rfl sz_58 rfl rfl rfl rfl (fun w S => ?_))
       refine WO.nil ?_
       refine Then.nx ?_
       refine W.seq ?_
       refine W.seq ?_
       refine W.region rfl ?_
       refine WO.q (Y.fieldB fo_58_6 rfl) ?_
       first | refine WO.q (Y.load rfl (loadS1 sz_3 S 0 rfl rfl)) ?_ | refine WO.q (Y.load rfl (loadS1 sz_3 S 1 rfl rfl)) ?_ | refine WO.q (Y.load rfl (loadS1 sz_3 S 2 rfl rfl)) ?_ | refine WO.q (Y.load rfl (loadS1 sz_3 S 3 rfl rfl)) ?_ | refine WO.q (Y.load rfl (loadS1 sz_3 S 4 rfl rfl)) ?_ | refine WO.q (Y.load rfl (loadS1 sz_3 S 5 rfl rfl)) ?_ | refine WO.q (Y.load rfl (loadS1 sz_3 S 6 rfl rfl)) ?_ | refine WO.q (Y.load rfl (loadS1 sz_3 S 7 rfl rfl)) ?_ | refine WO.q (Y.load rfl (loadS1 sz_3 S 8 rfl rfl)) ?_ | refine WO.q (Y.load rfl (loadS1 sz_3 S 9 rfl rfl)) ?_ | refine WO.q (Y.load rfl (loadS1 sz_3 S 10 rfl rfl)) ?_ | refine WO.q (Y.load rfl (loadS1 sz_3 S 11 rfl rfl)) ?_ | refine WO.q (Y.load rfl (loadS1 sz_3 S 12 rfl rfl)) ?_ | refine WO.q (Y.load rfl (loadS1 sz_3 S 13 rfl rfl)) ?_
       refine WO.q (Y.neq rfl rfl) ?_
       refine WO.q (Y.move (v := .bool _) rfl) ?_
       refine WO.splitB (fun h6 => ?_) (fun h6 => ?_)
       ·
        (try simp only [Q1, Q2, Q3, Q4, Q5, Q6, Q7, Q8, Q9, Qa] at h6)
        first | refine WO.qT rfl (Y.load rfl (loadSN sz_58 S 0 rfl rfl rfl)) ?_ | refine WO.qT rfl (Y.load rfl (loadSN sz_58 S 1 rfl rfl rfl)) ?_ | refine WO.qT rfl (Y.load rfl (loadSN sz_58 S 2 rfl rfl rfl)) ?_ | refine WO.qT rfl (Y.load rfl (loadSN sz_58 S 3 rfl rfl rfl)) ?_ | refine WO.qT rfl (Y.load rfl (loadSN sz_58 S 4 rfl rfl rfl)) ?_ | refine WO.qT rfl (Y.load rfl (loadSN sz_58 S 5 rfl rfl rfl)) ?_ | refine WO.qT rfl (Y.load rfl (loadSN sz_58 S 6 rfl rfl rfl)) ?_ | refine WO.qT rfl (Y.load rfl (loadSN sz_58 S 7 rfl rfl rfl)) ?_ | refine WO.qT rfl (Y.load rfl (loadSN sz_58 S 8 rfl rfl rfl)) ?_ | refine WO.qT rfl (Y.load rfl (loadSN sz_58 S 9 rfl rfl rfl)) ?_ | refine WO.qT rfl (Y.load rfl (loadSN sz_58 S 10 rfl rfl rfl)) ?_ | refine WO.qT rfl (Y.load rfl (loadSN sz_58 S 11 rfl rfl rfl)) ?_ | refine WO.qT rfl (Y.load rfl (loadSN sz_58 S 12 rfl rfl rfl)) ?_ | refine WO.qT rfl (Y.load rfl (loadSN sz_58 S 13 rfl rfl rfl)) ?_
        first | refine WO.qT rfl (Y.load rfl (loadSN sz_58 S 0 rfl rfl rfl)) ?_ | refine WO.qT rfl (Y.load rfl (loadSN sz_58 S 1 rfl rfl rfl)) ?_ | refine WO.qT rfl (Y.load rfl (loadSN sz_58 S 2 rfl rfl rfl)) ?_ | refine WO.qT rfl (Y.load rfl (loadSN sz_58 S 3 rfl rfl rfl)) ?_ | refine WO.qT rfl (Y.load rfl (loadSN sz_58 S 4 rfl rfl rfl)) ?_ | refine WO.qT rfl (Y.load rfl (loadSN sz_58 S 5 rfl rfl rfl)) ?_ | refine WO.qT rfl (Y.load rfl (loadSN sz_58 S 6 rfl rfl rfl)) ?_ | refine WO.qT rfl (Y.load rfl (loadSN sz_58 S 7 rfl rfl rfl)) ?_ | refine WO.qT rfl (Y.load rfl (loadSN sz_58 S 8 rfl rfl rfl)) ?_ | refine WO.qT rfl (Y.load rfl (loadSN sz_58 S 9 rfl rfl rfl)) ?_ | refine WO.qT rfl (Y.load rfl (loadSN sz_58 S 10 rfl rfl rfl)) ?_ | refine WO.qT rfl (Y.load rfl (loadSN sz_58 S 11 rfl rfl rfl)) ?_ | refine WO.qT rfl (Y.load rfl (loadSN sz_58 S 12 rfl rfl rfl)) ?_ | refine WO.qT rfl (Y.load rfl (loadSN sz_58 S 13 rfl rfl rfl)) ?_
        first | refine WO.qT rfl (Y.neqA eqt_58 rfl rfl) ?_ | refine WO.qT rfl (Y.neqA (x := (doesM k hs x).2) (y := x) eqt_58 rfl rfl) ?_
        refine WO.q (Y.pickT (u := .bool _) rfl rfl) ?_
        refine WO.nil ?_
        refine Then.nx ?_
        refine W.cond rfl (fun h7 => ?_) (fun h7 => ?_) -- cond 4
        ·
         have rh7 := h7
         (try simp only [Q1, Q2, Q3, Q4, Q5, Q6, Q7, Q8, Q9, Qa] at h7)
         refine W.exit ?_
         refine Then.x ?_
         refine InB.e ?_
         refine Then.nx ?_
         refine W.region rfl ?_
         first | refine WO.q (Y.addI rfl rfl (by omega)) ?_ | refine WO.q (Y.add rfl rfl) ?_
         refine WO.q (Y.move (v := .int .i64 _) rfl) ?_
         refine WO.nil ?_
         refine Then.nx ⟨?_, ?_, ?_⟩
         ·
          (repeat (first | exact Out.hav _ _ _ | exact Out.refl _ _ | refine Out.up rfl ?_ | refine Out.sub rfl ?_))
         ·
          first | (exact ⟨i + 1, bn2, ao2, co2, rfl, by omega, by (rw [hlf, drop_range hi2, linLoop_bit hx1 (by (unfold bitN; omega))]), S.pk (by repeat (first | exact Pk.nil _ | exact Pk.refl _ | refine Pk.cons 0 rfl ?_ | refine Pk.cons 1 rfl ?_ | refine Pk.cons 2 rfl ?_ | refine Pk.cons 3 rfl ?_ | refine Pk.cons 4 rfl ?_ | refine Pk.cons 5 rfl ?_ | refine Pk.cons 6 rfl ?_ | refine Pk.cons 7 rfl ?_ | refine Pk.cons 8 rfl ?_ | refine Pk.cons 9 rfl ?_ | refine Pk.cons 10 rfl ?_ | refine Pk.cons 11 rfl ?_ | refine Pk.cons 12 rfl ?_ | refine Pk.cons 13 rfl ?_ | refine Pk.drop ?_))⟩) | (exact ⟨i + 1, bn2, ao2, co2, rfl, by omega, by (rw [hlf, drop_range hi2, linLoop_late hx1 hbit (by assumption)]), S.pk (by repeat (first | exact Pk.nil _ | exact Pk.refl _ | refine Pk.cons 0 rfl ?_ | refine Pk.cons 1 rfl ?_ | refine Pk.cons 2 rfl ?_ | refine Pk.cons 3 rfl ?_ | refine Pk.cons 4 rfl ?_ | refine Pk.cons 5 rfl ?_ | refine Pk.cons 6 rfl ?_ | refine Pk.cons 7 rfl ?_ | refine Pk.cons 8 rfl ?_ | refine Pk.cons 9 rfl ?_ | refine Pk.cons 10 rfl ?_ | refine Pk.cons 11 rfl ?_ | refine Pk.cons 12 rfl ?_ | refine Pk.cons 13 rfl ?_ | refine Pk.drop ?_))⟩) | (exact ⟨i + 1, bn2, ao2, co2, rfl, by omega, by (rw [hlf, drop_range hi2, linLoop_ne hx1 hbit (by assumption) (by assumption) (by assumption)]), S.pk (by repeat (first | exact Pk.nil _ | exact Pk.refl _ | refine Pk.cons 0 rfl ?_ | refine Pk.cons 1 rfl ?_ | refine Pk.cons 2 rfl ?_ | refine Pk.cons 3 rfl ?_ | refine Pk.cons 4 rfl ?_ | refine Pk.cons 5 rfl ?_ | refine Pk.cons 6 rfl ?_ | refine Pk.cons 7 rfl ?_ | refine Pk.cons 8 rfl ?_ | refine Pk.cons 9 rfl ?_ | refine Pk.cons 10 rfl ?_ | refine Pk.cons 11 rfl ?_ | refine Pk.cons 12 rfl ?_ | refine Pk.cons 13 rfl ?_ | refine Pk.drop ?_))⟩) | (exact ⟨i + 1, _, ao3, co3, rfl, by omega, by (rw [hlf, drop_range hi2, linLoop_no hx1 hbit (by assumption) (by (intro hh; first | exact hh.1 (by assumption) | exact hh.2 (by assumption))) hnone]), S⟩)
         ·
          (show h.length - (i + 1) < h.length - i; omega)
        ·
         have rh7 := h7
         (try simp only [Q1, Q2, Q3, Q4, Q5, Q6, Q7, Q8, Q9, Qa] at h7)
         refine W.skip ?_
         refine Then.nx ?_
         refine W.seq ?_
         refine W.region rfl ?_
         first | refine WO.q (Y.load rfl (loadS1 sz_27 S 0 rfl rfl)) ?_ | refine WO.q (Y.load rfl (loadS1 sz_27 S 1 rfl rfl)) ?_ | refine WO.q (Y.load rfl (loadS1 sz_27 S 2 rfl rfl)) ?_ | refine WO.q (Y.load rfl (loadS1 sz_27 S 3 rfl rfl)) ?_ | refine WO.q (Y.load rfl (loadS1 sz_27 S 4 rfl rfl)) ?_ | refine WO.q (Y.load rfl (loadS1 sz_27 S 5 rfl rfl)) ?_ | refine WO.q (Y.load rfl (loadS1 sz_27 S 6 rfl rfl)) ?_ | refine WO.q (Y.load rfl (loadS1 sz_27 S 7 rfl rfl)) ?_ | refine WO.q (Y.load rfl (loadS1 sz_27 S 8 rfl rfl)) ?_ | refine WO.q (Y.load rfl (loadS1 sz_27 S 9 rfl rfl)) ?_ | refine WO.q (Y.load rfl (loadS1 sz_27 S 10 rfl rfl)) ?_ | refine WO.q (Y.load rfl (loadS1 sz_27 S 11 rfl rfl)) ?_ | refine WO.q (Y.load rfl (loadS1 sz_27 S 12 rfl rfl)) ?_ | refine WO.q (Y.load rfl (loadS1 sz_27 S 13 rfl rfl)) ?_ | refine WO.q (Y.load rfl (loadRdF sz_27 (R1.ext S.ext) (by assumption) rfl)) ?_ | refine WO.q (Y.load rfl (loadRd1 sz_27 (R1.ext S.ext) (by assumption) rfl)) ?_
         refine WO.q (Y.move (v := .int .i64 _) rfl) ?_
         first | refine WO.e (O.buildSlice rfl (buildOne sl_27 (by decide) rfl rfl) S (fun b64 w S => ?_)) | refine WO.e (O.buildSlice rfl (buildOne sl_27 (by decide) rfl (by simp)) S (fun b64 w S => ?_)) | refine WO.e (O.buildSlice rfl (bs_27_1_0) S (fun b64 w S => ?_))
         refine WO.e (O.append (T := tN) (ys := [i]) 11 sl_27 S rfl rfl rfl rfl (S.rd1 (T := tN) (x := i) 0 rfl) rfl (by (simp only [List.length_singleton]; omega)) (by (simp only [List.length_singleton, maxLen]; omega)) (fun a65 c65 w S hn65 => ?_))
         first | refine WO.e0 (O.store (v := .slice _ _ _) 0 S rfl rfl rfl sz_27 rfl rfl rfl rfl (fun w S => ?_)) | refine WO.e0 (O.store (v := .slice _ _ _) 1 S rfl rfl rfl sz_27 rfl rfl rfl rfl (fun w S => ?_)) | refine WO.e0 (O.store (v := .slice _ _ _) 2 S rfl rfl rfl sz_27 rfl rfl rfl rfl (fun w S => ?_)) | refine WO.e0 (O.store (v := .slice _ _ _) 3 S rfl rfl rfl sz_27 rfl rfl rfl rfl (fun w S => ?_)) | refine WO.e0 (O.store (v := .slice _ _ _) 4 S rfl rfl rfl sz_27 rfl rfl rfl rfl (fun w S => ?_)) | refine WO.e0 (O.store (v := .slice _ _ _) 5 S rfl rfl rfl sz_27 rfl rfl rfl rfl (fun w S => ?_)) | refine WO.e0 (O.store (v := .slice _ _ _) 6 S rfl rfl rfl sz_27 rfl rfl rfl rfl (fun w S => ?_)) | refine WO.e0 (O.store (v := .slice _ _ _) 7 S rfl rfl rfl sz_27 rfl rfl rfl rfl (fun w S => ?_)) | refine WO.e0 (O.store (v := .slice _ _ _) 8 S rfl rfl rfl sz_27 rfl rfl rfl rfl (fun w S => ?_)) | refine WO.e0 (O.store (v := .slice _ _ _) 9 S rfl rfl rfl sz_27 rfl rfl rfl rfl (fun w S => ?_)) | refine WO.e0 (O.store (v := .slice _ _ _) 10 S rfl rfl rfl sz_27 rfl rfl rfl rfl (fun w S => ?_)) | refine WO.e0 (O.store (v := .slice _ _ _) 11 S rfl rfl rfl sz_27 rfl rfl rfl rfl (fun w S => ?_)) | refine WO.e0 (O.store (v := .slice _ _ _) 12 S rfl rfl rfl sz_27 rfl rfl rfl rfl (fun w S => ?_)) | refine WO.e0 (O.store (v := .slice _ _ _) 13 S rfl rfl rfl sz_27 rfl rfl rfl rfl (fun w S => ?_))
         refine WO.nil ?_
         refine Then.nx ?_
         refine W.seq ?_
         refine W.seq ?_
         have hud := undone_lt hi2 hbit
         have hor : (d ||| 1 <<< i) < 4096 := or_lt (n := 12) hd (by omega)
         have hsh : 1 <<< i < 4096 := by (rw [Nat.shiftLeft_eq, Nat.one_mul]; exact Nat.pow_lt_pow_right (m := i) (n := 12) (by decide) (by omega))
         replace S := (S.pk (by repeat (first | exact Pk.nil _ | exact Pk.refl _ | refine Pk.cons 0 rfl ?_ | refine Pk.cons 1 rfl ?_ | refine Pk.cons 2 rfl ?_ | refine Pk.cons 3 rfl ?_ | refine Pk.cons 4 rfl ?_ | refine Pk.cons 5 rfl ?_ | refine Pk.cons 6 rfl ?_ | refine Pk.cons 7 rfl ?_ | refine Pk.cons 8 rfl ?_ | refine Pk.cons 9 rfl ?_ | refine Pk.cons 10 rfl ?_ | refine Pk.cons 11 rfl ?_ | refine Pk.cons 12 rfl ?_ | refine Pk.cons 13 rfl ?_ | refine Pk.drop ?_)) : Sat w0 w [M, X, Cel bm [.int .i64 (must : Int)] 3, Cel bb [.map (some mb)] 91, MapF mb (fun s : ByteArray => Value.string s) (fun b : Bool => Value.bool b) (beenM bn2), Cel bh [.slice ah h.length ch] 22, Cel bk [.int .i64 k] 89, Cel bo [.slice a65 (ord ++ [i]).length c65] 27, Own tN 3 a65 c65 (ord ++ [i]), Cel bf [.func (.func 42) #[] #[.pointer (some ⟨bm, 0, none⟩), .pointer (some ⟨bb, 0, none⟩), .pointer (some ⟨bh, 0, none⟩), .pointer (some ⟨bk, 0, none⟩), .pointer (some ⟨bo, 0, none⟩), .pointer (some ⟨bf, 0, none⟩)]] 92]).bun (M := [M, X])
         refine W.draw (.q 0 (.q 1 (.q 2 (.q 3 (.q 4 (.q 5 (.e 6 .nil))))))) (fun w => Sat _ w _) rfl rfl (by kernel_rfl) rfl (by kernel_rfl) (by repeat (first | exact BodyQ.noFrame | refine Then.noFrame ?_ | refine InB.noFrame ?_)) S.drew ?_
         clear S
         first | refine Plan.q rfl (fun w S => Y.load rfl (loadS1 sz_92 S 0 rfl rfl)) ?_ | refine Plan.q rfl (fun w S => Y.load rfl (loadS1 sz_92 S 1 rfl rfl)) ?_ | refine Plan.q rfl (fun w S => Y.load rfl (loadS1 sz_92 S 2 rfl rfl)) ?_ | refine Plan.q rfl (fun w S => Y.load rfl (loadS1 sz_92 S 3 rfl rfl)) ?_ | refine Plan.q rfl (fun w S => Y.load rfl (loadS1 sz_92 S 4 rfl rfl)) ?_ | refine Plan.q rfl (fun w S => Y.load rfl (loadS1 sz_92 S 5 rfl rfl)) ?_ | refine Plan.q rfl (fun w S => Y.load rfl (loadS1 sz_92 S 6 rfl rfl)) ?_ | refine Plan.q rfl (fun w S => Y.load rfl (loadS1 sz_92 S 7 rfl rfl)) ?_ | refine Plan.q rfl (fun w S => Y.load rfl (loadS1 sz_92 S 8 rfl rfl)) ?_ | refine Plan.q rfl (fun w S => Y.load rfl (loadS1 sz_92 S 9 rfl rfl)) ?_ | refine Plan.q rfl (fun w S => Y.load rfl (loadS1 sz_92 S 10 rfl rfl)) ?_ | refine Plan.q rfl (fun w S => Y.load rfl (loadS1 sz_92 S 11 rfl rfl)) ?_ | refine Plan.q rfl (fun w S => Y.load rfl (loadS1 sz_92 S 12 rfl rfl)) ?_ | refine Plan.q rfl (fun w S => Y.load rfl (loadS1 sz_92 S 13 rfl rfl)) ?_ | refine Plan.q rfl (fun w S => Y.load rfl (loadRdF sz_92 (R1.ext S.ext) (by assumption) rfl)) ?_ | refine Plan.q rfl (fun w S => Y.load rfl (loadRd1 sz_92 (R1.ext S.ext) (by assumption) rfl)) ?_
         refine Plan.q rfl (fun w S => Y.move (v := .int .i64 _) rfl) ?_
         refine Plan.q rfl (fun w S => Y.move (v := .int .i64 _) rfl) ?_
         refine Plan.q rfl (fun w S => Y.shlN (x := 1) (y := i) rfl rfl (by omega) (by omega)) ?_
         refine Plan.q rfl (fun w S => Y.orN (x := d) (y := 1 <<< i) rfl rfl (by omega) (by omega)) ?_
         refine Plan.q rfl (fun w S => Y.move (v := .slice _ _ _) rfl) ?_
         refine Plan.e1 rfl (fun w S => O.callV (caps := [.pointer (some ⟨bm, 0, none⟩), .pointer (some ⟨bb, 0, none⟩), .pointer (some ⟨bh, 0, none⟩), .pointer (some ⟨bk, 0, none⟩), .pointer (some ⟨bo, 0, none⟩), .pointer (some ⟨bf, 0, none⟩)]) (fun args w => by kernel_rfl) rfl rfl (ih (d ||| 1 <<< i) (doesM k hs x).1 bn2 (ord ++ [i]) (Bun [M, X]) a2 a65 cap2 c65 w (by omega) hor (hrd X hX) hcap2 (by (have := doesM_len k hs x; omega)) (fun h2 => doesM_one_len hs x h2) (doesM_I64 hI2 (hI x (List.mem_of_getElem? hx1)).1 (hI x (List.mem_of_getElem? hx1)).2 hne) (by (simp only [List.length_append, List.length_singleton]; omega)) S) ?_)
         rintro _ w ⟨ao3, co3, rfl, S⟩
         replace S := S.unbun.tl
         refine ⟨_, rfl, ?_⟩
         refine ⟨(fun w => Sat _ w _), S, (.inl (by kernel_rfl)), ?_⟩
         clear S
         refine Plan.nil (fun w S => ?_)
         replace S : Sat _ _ _ := S
         refine Then.nx ?_
         refine W.cond rfl (fun h8 => ?_) (fun h8 => ?_) -- cond 5
         ·
          have rh8 := h8
          (try simp only [Q1, Q2, Q3, Q4, Q5, Q6, Q7, Q8, Q9, Qa] at h8)
          obtain ⟨l, hsome⟩ := Option.isSome_iff_exists.1 rh8
          refine W.seq ?_
          refine W.region rfl ?_
          refine WO.q (Y.assign (v := .bool _) rfl) ?_
          refine WO.nil ?_
          refine Then.nx ?_
          refine W.ret ?_
          refine Then.r ?_
          refine InB.r ?_
          refine Then.r ?_
          refine Then.r ?_
          refine InB.r ?_
          refine Then.r ?_
          refine BodyQ.ret1 Tryd.results42 (ResV.tmp _ rfl) ?_
          have e : linFrom k h must (fuel + 1) d hs bn = (some (i :: l), ((linFrom k h must fuel) (d ||| 1 <<< i) (doesM k hs x).1 bn2).2) := (by (rw [hlf, drop_range hi2, linLoop_yes hx1 hbit (by assumption) (by (intro hh; first | exact hh.1 (by assumption) | exact hh.2 (by assumption))) hsome])); rw [e]; refine ⟨ao3, co3, rfl, ?_⟩; rw [hsome] at S; simp only [Option.getD_some, List.append_assoc, List.singleton_append] at S ⊢; exact S
         ·
          have rh8 := h8
          (try simp only [Q1, Q2, Q3, Q4, Q5, Q6, Q7, Q8, Q9, Qa] at h8)
          have hnone := Option.not_isSome_iff_eq_none.1 (by rw [rh8]; decide)
          rw [hnone] at S
          simp only [Option.getD_none, List.append_nil] at S
          refine W.skip ?_
          refine Then.nx ?_
          refine W.region rfl ?_
          first | refine WO.q (Y.load rfl (loadS1 sz_27 S 0 rfl rfl)) ?_ | refine WO.q (Y.load rfl (loadS1 sz_27 S 1 rfl rfl)) ?_ | refine WO.q (Y.load rfl (loadS1 sz_27 S 2 rfl rfl)) ?_ | refine WO.q (Y.load rfl (loadS1 sz_27 S 3 rfl rfl)) ?_ | refine WO.q (Y.load rfl (loadS1 sz_27 S 4 rfl rfl)) ?_ | refine WO.q (Y.load rfl (loadS1 sz_27 S 5 rfl rfl)) ?_ | refine WO.q (Y.load rfl (loadS1 sz_27 S 6 rfl rfl)) ?_ | refine WO.q (Y.load rfl (loadS1 sz_27 S 7 rfl rfl)) ?_ | refine WO.q (Y.load rfl (loadS1 sz_27 S 8 rfl rfl)) ?_ | refine WO.q (Y.load rfl (loadS1 sz_27 S 9 rfl rfl)) ?_ | refine WO.q (Y.load rfl (loadS1 sz_27 S 10 rfl rfl)) ?_ | refine WO.q (Y.load rfl (loadS1 sz_27 S 11 rfl rfl)) ?_ | refine WO.q (Y.load rfl (loadS1 sz_27 S 12 rfl rfl)) ?_ | refine WO.q (Y.load rfl (loadS1 sz_27 S 13 rfl rfl)) ?_ | refine WO.q (Y.load rfl (loadRdF sz_27 (R1.ext S.ext) (by assumption) rfl)) ?_ | refine WO.q (Y.load rfl (loadRd1 sz_27 (R1.ext S.ext) (by assumption) rfl)) ?_
          first | refine WO.q (Y.load rfl (loadS1 sz_27 S 0 rfl rfl)) ?_ | refine WO.q (Y.load rfl (loadS1 sz_27 S 1 rfl rfl)) ?_ | refine WO.q (Y.load rfl (loadS1 sz_27 S 2 rfl rfl)) ?_ | refine WO.q (Y.load rfl (loadS1 sz_27 S 3 rfl rfl)) ?_ | refine WO.q (Y.load rfl (loadS1 sz_27 S 4 rfl rfl)) ?_ | refine WO.q (Y.load rfl (loadS1 sz_27 S 5 rfl rfl)) ?_ | refine WO.q (Y.load rfl (loadS1 sz_27 S 6 rfl rfl)) ?_ | refine WO.q (Y.load rfl (loadS1 sz_27 S 7 rfl rfl)) ?_ | refine WO.q (Y.load rfl (loadS1 sz_27 S 8 rfl rfl)) ?_ | refine WO.q (Y.load rfl (loadS1 sz_27 S 9 rfl rfl)) ?_ | refine WO.q (Y.load rfl (loadS1 sz_27 S 10 rfl rfl)) ?_ | refine WO.q (Y.load rfl (loadS1 sz_27 S 11 rfl rfl)) ?_ | refine WO.q (Y.load rfl (loadS1 sz_27 S 12 rfl rfl)) ?_ | refine WO.q (Y.load rfl (loadS1 sz_27 S 13 rfl rfl)) ?_ | refine WO.q (Y.load rfl (loadRdF sz_27 (R1.ext S.ext) (by assumption) rfl)) ?_ | refine WO.q (Y.load rfl (loadRd1 sz_27 (R1.ext S.ext) (by assumption) rfl)) ?_
          refine WO.q (Y.len (t' := 0) Tryd.underlying27 rfl) ?_
          refine WO.q (Y.subN (x := (ord ++ [i]).length) (y := 1) rfl rfl (by (simp only [List.length_append, List.length_singleton]; omega)) (by (simp only [List.length_append, List.length_singleton]; omega))) ?_
          refine WO.q (Y.sliceH sl_27 rfl rfl (by (have := (S.ownLen 7 rfl).1; omega))) ?_
          first | refine WO.e0 (O.store (v := .slice _ _ _) 0 S rfl rfl rfl sz_27 rfl rfl rfl rfl (fun w S => ?_)) | refine WO.e0 (O.store (v := .slice _ _ _) 1 S rfl rfl rfl sz_27 rfl rfl rfl rfl (fun w S => ?_)) | refine WO.e0 (O.store (v := .slice _ _ _) 2 S rfl rfl rfl sz_27 rfl rfl rfl rfl (fun w S => ?_)) | refine WO.e0 (O.store (v := .slice _ _ _) 3 S rfl rfl rfl sz_27 rfl rfl rfl rfl (fun w S => ?_)) | refine WO.e0 (O.store (v := .slice _ _ _) 4 S rfl rfl rfl sz_27 rfl rfl rfl rfl (fun w S => ?_)) | refine WO.e0 (O.store (v := .slice _ _ _) 5 S rfl rfl rfl sz_27 rfl rfl rfl rfl (fun w S => ?_)) | refine WO.e0 (O.store (v := .slice _ _ _) 6 S rfl rfl rfl sz_27 rfl rfl rfl rfl (fun w S => ?_)) | refine WO.e0 (O.store (v := .slice _ _ _) 7 S rfl rfl rfl sz_27 rfl rfl rfl rfl (fun w S => ?_)) | refine WO.e0 (O.store (v := .slice _ _ _) 8 S rfl rfl rfl sz_27 rfl rfl rfl rfl (fun w S => ?_)) | refine WO.e0 (O.store (v := .slice _ _ _) 9 S rfl rfl rfl sz_27 rfl rfl rfl rfl (fun w S => ?_)) | refine WO.e0 (O.store (v := .slice _ _ _) 10 S rfl rfl rfl sz_27 rfl rfl rfl rfl (fun w S => ?_)) | refine WO.e0 (O.store (v := .slice _ _ _) 11 S rfl rfl rfl sz_27 rfl rfl rfl rfl (fun w S => ?_)) | refine WO.e0 (O.store (v := .slice _ _ _) 12 S rfl rfl rfl sz_27 rfl rfl rfl rfl (fun w S => ?_)) | refine WO.e0 (O.store (v := .slice _ _ _) 13 S rfl rfl rfl sz_27 rfl rfl rfl rfl (fun w S => ?_))
          replace S := S.shrink 7 rfl
          rw [show (ord ++ [i]).length - 1 = ord.length by simp] at S
          refine WO.nil ?_
          refine InB.nx ?_
          refine Then.nx ?_
          refine W.region rfl ?_
          first | refine WO.q (Y.addI rfl rfl (by omega)) ?_ | refine WO.q (Y.add rfl rfl) ?_
          refine WO.q (Y.move (v := .int .i64 _) rfl) ?_
          refine WO.nil ?_
          refine Then.nx ⟨?_, ?_, ?_⟩
          ·
           (repeat (first | exact Out.hav _ _ _ | exact Out.refl _ _ | refine Out.up rfl ?_ | refine Out.sub rfl ?_))
          ·
           first | (exact ⟨i + 1, bn2, ao2, co2, rfl, by omega, by (rw [hlf, drop_range hi2, linLoop_bit hx1 (by (unfold bitN; omega))]), S.pk (by repeat (first | exact Pk.nil _ | exact Pk.refl _ | refine Pk.cons 0 rfl ?_ | refine Pk.cons 1 rfl ?_ | refine Pk.cons 2 rfl ?_ | refine Pk.cons 3 rfl ?_ | refine Pk.cons 4 rfl ?_ | refine Pk.cons 5 rfl ?_ | refine Pk.cons 6 rfl ?_ | refine Pk.cons 7 rfl ?_ | refine Pk.cons 8 rfl ?_ | refine Pk.cons 9 rfl ?_ | refine Pk.cons 10 rfl ?_ | refine Pk.cons 11 rfl ?_ | refine Pk.cons 12 rfl ?_ | refine Pk.cons 13 rfl ?_ | refine Pk.drop ?_))⟩) | (exact ⟨i + 1, bn2, ao2, co2, rfl, by omega, by (rw [hlf, drop_range hi2, linLoop_late hx1 hbit (by assumption)]), S.pk (by repeat (first | exact Pk.nil _ | exact Pk.refl _ | refine Pk.cons 0 rfl ?_ | refine Pk.cons 1 rfl ?_ | refine Pk.cons 2 rfl ?_ | refine Pk.cons 3 rfl ?_ | refine Pk.cons 4 rfl ?_ | refine Pk.cons 5 rfl ?_ | refine Pk.cons 6 rfl ?_ | refine Pk.cons 7 rfl ?_ | refine Pk.cons 8 rfl ?_ | refine Pk.cons 9 rfl ?_ | refine Pk.cons 10 rfl ?_ | refine Pk.cons 11 rfl ?_ | refine Pk.cons 12 rfl ?_ | refine Pk.cons 13 rfl ?_ | refine Pk.drop ?_))⟩) | (exact ⟨i + 1, bn2, ao2, co2, rfl, by omega, by (rw [hlf, drop_range hi2, linLoop_ne hx1 hbit (by assumption) (by assumption) (by assumption)]), S.pk (by repeat (first | exact Pk.nil _ | exact Pk.refl _ | refine Pk.cons 0 rfl ?_ | refine Pk.cons 1 rfl ?_ | refine Pk.cons 2 rfl ?_ | refine Pk.cons 3 rfl ?_ | refine Pk.cons 4 rfl ?_ | refine Pk.cons 5 rfl ?_ | refine Pk.cons 6 rfl ?_ | refine Pk.cons 7 rfl ?_ | refine Pk.cons 8 rfl ?_ | refine Pk.cons 9 rfl ?_ | refine Pk.cons 10 rfl ?_ | refine Pk.cons 11 rfl ?_ | refine Pk.cons 12 rfl ?_ | refine Pk.cons 13 rfl ?_ | refine Pk.drop ?_))⟩) | (exact ⟨i + 1, _, ao3, co3, rfl, by omega, by (rw [hlf, drop_range hi2, linLoop_no hx1 hbit (by assumption) (by (intro hh; first | exact hh.1 (by assumption) | exact hh.2 (by assumption))) hnone]), S⟩)
          ·
           (show h.length - (i + 1) < h.length - i; omega)
       ·
        (try simp only [Q1, Q2, Q3, Q4, Q5, Q6, Q7, Q8, Q9, Qa] at h6)
        refine WO.qF rfl ?_
        refine WO.qF rfl ?_
        refine WO.qF rfl ?_
        refine WO.q (Y.pickF (u := .bool _) rfl rfl) ?_
        refine WO.nil ?_
        refine Then.nx ?_
        first | refine W.condF rfl ?_ | refine W.condF (congrArg Value.bool (by assumption)) ?_
        refine W.skip ?_
        refine Then.nx ?_
        refine W.seq ?_
        refine W.region rfl ?_
        first | refine WO.q (Y.load rfl (loadS1 sz_27 S 0 rfl rfl)) ?_ | refine WO.q (Y.load rfl (loadS1 sz_27 S 1 rfl rfl)) ?_ | refine WO.q (Y.load rfl (loadS1 sz_27 S 2 rfl rfl)) ?_ | refine WO.q (Y.load rfl (loadS1 sz_27 S 3 rfl rfl)) ?_ | refine WO.q (Y.load rfl (loadS1 sz_27 S 4 rfl rfl)) ?_ | refine WO.q (Y.load rfl (loadS1 sz_27 S 5 rfl rfl)) ?_ | refine WO.q (Y.load rfl (loadS1 sz_27 S 6 rfl rfl)) ?_ | refine WO.q (Y.load rfl (loadS1 sz_27 S 7 rfl rfl)) ?_ | refine WO.q (Y.load rfl (loadS1 sz_27 S 8 rfl rfl)) ?_ | refine WO.q (Y.load rfl (loadS1 sz_27 S 9 rfl rfl)) ?_ | refine WO.q (Y.load rfl (loadS1 sz_27 S 10 rfl rfl)) ?_ | refine WO.q (Y.load rfl (loadS1 sz_27 S 11 rfl rfl)) ?_ | refine WO.q (Y.load rfl (loadS1 sz_27 S 12 rfl rfl)) ?_ | refine WO.q (Y.load rfl (loadS1 sz_27 S 13 rfl rfl)) ?_ | refine WO.q (Y.load rfl (loadRdF sz_27 (R1.ext S.ext) (by assumption) rfl)) ?_ | refine WO.q (Y.load rfl (loadRd1 sz_27 (R1.ext S.ext) (by assumption) rfl)) ?_
        refine WO.q (Y.move (v := .int .i64 _) rfl) ?_
        first | refine WO.e (O.buildSlice rfl (buildOne sl_27 (by decide) rfl rfl) S (fun b64 w S => ?_)) | refine WO.e (O.buildSlice rfl (buildOne sl_27 (by decide) rfl (by simp)) S (fun b64 w S => ?_)) | refine WO.e (O.buildSlice rfl (bs_27_1_0) S (fun b64 w S => ?_))
        refine WO.e (O.append (T := tN) (ys := [i]) 11 sl_27 S rfl rfl rfl rfl (S.rd1 (T := tN) (x := i) 0 rfl) rfl (by (simp only [List.length_singleton]; omega)) (by (simp only [List.length_singleton, maxLen]; omega)) (fun a65 c65 w S hn65 => ?_))
        first | refine WO.e0 (O.store (v := .slice _ _ _) 0 S rfl rfl rfl sz_27 rfl rfl rfl rfl (fun w S => ?_)) | refine WO.e0 (O.store (v := .slice _ _ _) 1 S rfl rfl rfl sz_27 rfl rfl rfl rfl (fun w S => ?_)) | refine WO.e0 (O.store (v := .slice _ _ _) 2 S rfl rfl rfl sz_27 rfl rfl rfl rfl (fun w S => ?_)) | refine WO.e0 (O.store (v := .slice _ _ _) 3 S rfl rfl rfl sz_27 rfl rfl rfl rfl (fun w S => ?_)) | refine WO.e0 (O.store (v := .slice _ _ _) 4 S rfl rfl rfl sz_27 rfl rfl rfl rfl (fun w S => ?_)) | refine WO.e0 (O.store (v := .slice _ _ _) 5 S rfl rfl rfl sz_27 rfl rfl rfl rfl (fun w S => ?_)) | refine WO.e0 (O.store (v := .slice _ _ _) 6 S rfl rfl rfl sz_27 rfl rfl rfl rfl (fun w S => ?_)) | refine WO.e0 (O.store (v := .slice _ _ _) 7 S rfl rfl rfl sz_27 rfl rfl rfl rfl (fun w S => ?_)) | refine WO.e0 (O.store (v := .slice _ _ _) 8 S rfl rfl rfl sz_27 rfl rfl rfl rfl (fun w S => ?_)) | refine WO.e0 (O.store (v := .slice _ _ _) 9 S rfl rfl rfl sz_27 rfl rfl rfl rfl (fun w S => ?_)) | refine WO.e0 (O.store (v := .slice _ _ _) 10 S rfl rfl rfl sz_27 rfl rfl rfl rfl (fun w S => ?_)) | refine WO.e0 (O.store (v := .slice _ _ _) 11 S rfl rfl rfl sz_27 rfl rfl rfl rfl (fun w S => ?_)) | refine WO.e0 (O.store (v := .slice _ _ _) 12 S rfl rfl rfl sz_27 rfl rfl rfl rfl (fun w S => ?_)) | refine WO.e0 (O.store (v := .slice _ _ _) 13 S rfl rfl rfl sz_27 rfl rfl rfl rfl (fun w S => ?_))
        refine WO.nil ?_
        refine Then.nx ?_
        refine W.seq ?_
        refine W.seq ?_
        have hud := undone_lt hi2 hbit
        have hor : (d ||| 1 <<< i) < 4096 := or_lt (n := 12) hd (by omega)
        have hsh : 1 <<< i < 4096 := by (rw [Nat.shiftLeft_eq, Nat.one_mul]; exact Nat.pow_lt_pow_right (m := i) (n := 12) (by decide) (by omega))
        replace S := (S.pk (by repeat (first | exact Pk.nil _ | exact Pk.refl _ | refine Pk.cons 0 rfl ?_ | refine Pk.cons 1 rfl ?_ | refine Pk.cons 2 rfl ?_ | refine Pk.cons 3 rfl ?_ | refine Pk.cons 4 rfl ?_ | refine Pk.cons 5 rfl ?_ | refine Pk.cons 6 rfl ?_ | refine Pk.cons 7 rfl ?_ | refine Pk.cons 8 rfl ?_ | refine Pk.cons 9 rfl ?_ | refine Pk.cons 10 rfl ?_ | refine Pk.cons 11 rfl ?_ | refine Pk.cons 12 rfl ?_ | refine Pk.cons 13 rfl ?_ | refine Pk.drop ?_)) : Sat w0 w [M, X, Cel bm [.int .i64 (must : Int)] 3, Cel bb [.map (some mb)] 91, MapF mb (fun s : ByteArray => Value.string s) (fun b : Bool => Value.bool b) (beenM bn2), Cel bh [.slice ah h.length ch] 22, Cel bk [.int .i64 k] 89, Cel bo [.slice a65 (ord ++ [i]).length c65] 27, Own tN 3 a65 c65 (ord ++ [i]), Cel bf [.func (.func 42) #[] #[.pointer (some ⟨bm, 0, none⟩), .pointer (some ⟨bb, 0, none⟩), .pointer (some ⟨bh, 0, none⟩), .pointer (some ⟨bk, 0, none⟩), .pointer (some ⟨bo, 0, none⟩), .pointer (some ⟨bf, 0, none⟩)]] 92]).bun (M := [M, X])
        refine W.draw (.q 0 (.q 1 (.q 2 (.q 3 (.q 4 (.q 5 (.e 6 .nil))))))) (fun w => Sat _ w _) rfl rfl (by kernel_rfl) rfl (by kernel_rfl) (by repeat (first | exact BodyQ.noFrame | refine Then.noFrame ?_ | refine InB.noFrame ?_)) S.drew ?_
        clear S
        first | refine Plan.q rfl (fun w S => Y.load rfl (loadS1 sz_92 S 0 rfl rfl)) ?_ | refine Plan.q rfl (fun w S => Y.load rfl (loadS1 sz_92 S 1 rfl rfl)) ?_ | refine Plan.q rfl (fun w S => Y.load rfl (loadS1 sz_92 S 2 rfl rfl)) ?_ | refine Plan.q rfl (fun w S => Y.load rfl (loadS1 sz_92 S 3 rfl rfl)) ?_ | refine Plan.q rfl (fun w S => Y.load rfl (loadS1 sz_92 S 4 rfl rfl)) ?_ | refine Plan.q rfl (fun w S => Y.load rfl (loadS1 sz_92 S 5 rfl rfl)) ?_ | refine Plan.q rfl (fun w S => Y.load rfl (loadS1 sz_92 S 6 rfl rfl)) ?_ | refine Plan.q rfl (fun w S => Y.load rfl (loadS1 sz_92 S 7 rfl rfl)) ?_ | refine Plan.q rfl (fun w S => Y.load rfl (loadS1 sz_92 S 8 rfl rfl)) ?_ | refine Plan.q rfl (fun w S => Y.load rfl (loadS1 sz_92 S 9 rfl rfl)) ?_ | refine Plan.q rfl (fun w S => Y.load rfl (loadS1 sz_92 S 10 rfl rfl)) ?_ | refine Plan.q rfl (fun w S => Y.load rfl (loadS1 sz_92 S 11 rfl rfl)) ?_ | refine Plan.q rfl (fun w S => Y.load rfl (loadS1 sz_92 S 12 rfl rfl)) ?_ | refine Plan.q rfl (fun w S => Y.load rfl (loadS1 sz_92 S 13 rfl rfl)) ?_ | refine Plan.q rfl (fun w S => Y.load rfl (loadRdF sz_92 (R1.ext S.ext) (by assumption) rfl)) ?_ | refine Plan.q rfl (fun w S => Y.load rfl (loadRd1 sz_92 (R1.ext S.ext) (by assumption) rfl)) ?_
        refine Plan.q rfl (fun w S => Y.move (v := .int .i64 _) rfl) ?_
        refine Plan.q rfl (fun w S => Y.move (v := .int .i64 _) rfl) ?_
        refine Plan.q rfl (fun w S => Y.shlN (x := 1) (y := i) rfl rfl (by omega) (by omega)) ?_
        refine Plan.q rfl (fun w S => Y.orN (x := d) (y := 1 <<< i) rfl rfl (by omega) (by omega)) ?_
        refine Plan.q rfl (fun w S => Y.move (v := .slice _ _ _) rfl) ?_
        refine Plan.e1 rfl (fun w S => O.callV (caps := [.pointer (some ⟨bm, 0, none⟩), .pointer (some ⟨bb, 0, none⟩), .pointer (some ⟨bh, 0, none⟩), .pointer (some ⟨bk, 0, none⟩), .pointer (some ⟨bo, 0, none⟩), .pointer (some ⟨bf, 0, none⟩)]) (fun args w => by kernel_rfl) rfl rfl (ih (d ||| 1 <<< i) (doesM k hs x).1 bn2 (ord ++ [i]) (Bun [M, X]) a2 a65 cap2 c65 w (by omega) hor (hrd X hX) hcap2 (by (have := doesM_len k hs x; omega)) (fun h2 => doesM_one_len hs x h2) (doesM_I64 hI2 (hI x (List.mem_of_getElem? hx1)).1 (hI x (List.mem_of_getElem? hx1)).2 hne) (by (simp only [List.length_append, List.length_singleton]; omega)) S) ?_)
        rintro _ w ⟨ao3, co3, rfl, S⟩
        replace S := S.unbun.tl
        refine ⟨_, rfl, ?_⟩
        refine ⟨(fun w => Sat _ w _), S, (.inl (by kernel_rfl)), ?_⟩
        clear S
        refine Plan.nil (fun w S => ?_)
        replace S : Sat _ _ _ := S
        refine Then.nx ?_
        refine W.cond rfl (fun h9 => ?_) (fun h9 => ?_) -- cond 6
        ·
         have rh9 := h9
         (try simp only [Q1, Q2, Q3, Q4, Q5, Q6, Q7, Q8, Q9, Qa] at h9)
         obtain ⟨l, hsome⟩ := Option.isSome_iff_exists.1 rh9
         refine W.seq ?_
         refine W.region rfl ?_
         refine WO.q (Y.assign (v := .bool _) rfl) ?_
         refine WO.nil ?_
         refine Then.nx ?_
         refine W.ret ?_
         refine Then.r ?_
         refine InB.r ?_
         refine Then.r ?_
         refine Then.r ?_
         refine InB.r ?_
         refine Then.r ?_
         refine BodyQ.ret1 Tryd.results42 (ResV.tmp _ rfl) ?_
         have e : linFrom k h must (fuel + 1) d hs bn = (some (i :: l), ((linFrom k h must fuel) (d ||| 1 <<< i) (doesM k hs x).1 bn2).2) := (by (rw [hlf, drop_range hi2, linLoop_yes hx1 hbit (by assumption) (by (intro hh; first | exact hh.1 (by assumption) | exact hh.2 (by assumption))) hsome])); rw [e]; refine ⟨ao3, co3, rfl, ?_⟩; rw [hsome] at S; simp only [Option.getD_some, List.append_assoc, List.singleton_append] at S ⊢; exact S
        ·
         have rh9 := h9
         (try simp only [Q1, Q2, Q3, Q4, Q5, Q6, Q7, Q8, Q9, Qa] at h9)
         have hnone := Option.not_isSome_iff_eq_none.1 (by rw [rh9]; decide)
         rw [hnone] at S
         simp only [Option.getD_none, List.append_nil] at S
         refine W.skip ?_
         refine Then.nx ?_
         refine W.region rfl ?_
         first | refine WO.q (Y.load rfl (loadS1 sz_27 S 0 rfl rfl)) ?_ | refine WO.q (Y.load rfl (loadS1 sz_27 S 1 rfl rfl)) ?_ | refine WO.q (Y.load rfl (loadS1 sz_27 S 2 rfl rfl)) ?_ | refine WO.q (Y.load rfl (loadS1 sz_27 S 3 rfl rfl)) ?_ | refine WO.q (Y.load rfl (loadS1 sz_27 S 4 rfl rfl)) ?_ | refine WO.q (Y.load rfl (loadS1 sz_27 S 5 rfl rfl)) ?_ | refine WO.q (Y.load rfl (loadS1 sz_27 S 6 rfl rfl)) ?_ | refine WO.q (Y.load rfl (loadS1 sz_27 S 7 rfl rfl)) ?_ | refine WO.q (Y.load rfl (loadS1 sz_27 S 8 rfl rfl)) ?_ | refine WO.q (Y.load rfl (loadS1 sz_27 S 9 rfl rfl)) ?_ | refine WO.q (Y.load rfl (loadS1 sz_27 S 10 rfl rfl)) ?_ | refine WO.q (Y.load rfl (loadS1 sz_27 S 11 rfl rfl)) ?_ | refine WO.q (Y.load rfl (loadS1 sz_27 S 12 rfl rfl)) ?_ | refine WO.q (Y.load rfl (loadS1 sz_27 S 13 rfl rfl)) ?_ | refine WO.q (Y.load rfl (loadRdF sz_27 (R1.ext S.ext) (by assumption) rfl)) ?_ | refine WO.q (Y.load rfl (loadRd1 sz_27 (R1.ext S.ext) (by assumption) rfl)) ?_
         first | refine WO.q (Y.load rfl (loadS1 sz_27 S 0 rfl rfl)) ?_ | refine WO.q (Y.load rfl (loadS1 sz_27 S 1 rfl rfl)) ?_ | refine WO.q (Y.load rfl (loadS1 sz_27 S 2 rfl rfl)) ?_ | refine WO.q (Y.load rfl (loadS1 sz_27 S 3 rfl rfl)) ?_ | refine WO.q (Y.load rfl (loadS1 sz_27 S 4 rfl rfl)) ?_ | refine WO.q (Y.load rfl (loadS1 sz_27 S 5 rfl rfl)) ?_ | refine WO.q (Y.load rfl (loadS1 sz_27 S 6 rfl rfl)) ?_ | refine WO.q (Y.load rfl (loadS1 sz_27 S 7 rfl rfl)) ?_ | refine WO.q (Y.load rfl (loadS1 sz_27 S 8 rfl rfl)) ?_ | refine WO.q (Y.load rfl (loadS1 sz_27 S 9 rfl rfl)) ?_ | refine WO.q (Y.load rfl (loadS1 sz_27 S 10 rfl rfl)) ?_ | refine WO.q (Y.load rfl (loadS1 sz_27 S 11 rfl rfl)) ?_ | refine WO.q (Y.load rfl (loadS1 sz_27 S 12 rfl rfl)) ?_ | refine WO.q (Y.load rfl (loadS1 sz_27 S 13 rfl rfl)) ?_ | refine WO.q (Y.load rfl (loadRdF sz_27 (R1.ext S.ext) (by assumption) rfl)) ?_ | refine WO.q (Y.load rfl (loadRd1 sz_27 (R1.ext S.ext) (by assumption) rfl)) ?_
         refine WO.q (Y.len (t' := 0) Tryd.underlying27 rfl) ?_
         refine WO.q (Y.subN (x := (ord ++ [i]).length) (y := 1) rfl rfl (by (simp only [List.length_append, List.length_singleton]; omega)) (by (simp only [List.length_append, List.length_singleton]; omega))) ?_
         refine WO.q (Y.sliceH sl_27 rfl rfl (by (have := (S.ownLen 7 rfl).1; omega))) ?_
         first | refine WO.e0 (O.store (v := .slice _ _ _) 0 S rfl rfl rfl sz_27 rfl rfl rfl rfl (fun w S => ?_)) | refine WO.e0 (O.store (v := .slice _ _ _) 1 S rfl rfl rfl sz_27 rfl rfl rfl rfl (fun w S => ?_)) | refine WO.e0 (O.store (v := .slice _ _ _) 2 S rfl rfl rfl sz_27 rfl rfl rfl rfl (fun w S => ?_)) | refine WO.e0 (O.store (v := .slice _ _ _) 3 S rfl rfl rfl sz_27 rfl rfl rfl rfl (fun w S => ?_)) | refine WO.e0 (O.store (v := .slice _ _ _) 4 S rfl rfl rfl sz_27 rfl rfl rfl rfl (fun w S => ?_)) | refine WO.e0 (O.store (v := .slice _ _ _) 5 S rfl rfl rfl sz_27 rfl rfl rfl rfl (fun w S => ?_)) | refine WO.e0 (O.store (v := .slice _ _ _) 6 S rfl rfl rfl sz_27 rfl rfl rfl rfl (fun w S => ?_)) | refine WO.e0 (O.store (v := .slice _ _ _) 7 S rfl rfl rfl sz_27 rfl rfl rfl rfl (fun w S => ?_)) | refine WO.e0 (O.store (v := .slice _ _ _) 8 S rfl rfl rfl sz_27 rfl rfl rfl rfl (fun w S => ?_)) | refine WO.e0 (O.store (v := .slice _ _ _) 9 S rfl rfl rfl sz_27 rfl rfl rfl rfl (fun w S => ?_)) | refine WO.e0 (O.store (v := .slice _ _ _) 10 S rfl rfl rfl sz_27 rfl rfl rfl rfl (fun w S => ?_)) | refine WO.e0 (O.store (v := .slice _ _ _) 11 S rfl rfl rfl sz_27 rfl rfl rfl rfl (fun w S => ?_)) | refine WO.e0 (O.store (v := .slice _ _ _) 12 S rfl rfl rfl sz_27 rfl rfl rfl rfl (fun w S => ?_)) | refine WO.e0 (O.store (v := .slice _ _ _) 13 S rfl rfl rfl sz_27 rfl rfl rfl rfl (fun w S => ?_))
         replace S := S.shrink 7 rfl
         rw [show (ord ++ [i]).length - 1 = ord.length by simp] at S
         refine WO.nil ?_
         refine InB.nx ?_
         refine Then.nx ?_
         refine W.region rfl ?_
         first | refine WO.q (Y.addI rfl rfl (by omega)) ?_ | refine WO.q (Y.add rfl rfl) ?_
         refine WO.q (Y.move (v := .int .i64 _) rfl) ?_
         refine WO.nil ?_
         refine Then.nx ⟨?_, ?_, ?_⟩
         ·
          (repeat (first | exact Out.hav _ _ _ | exact Out.refl _ _ | refine Out.up rfl ?_ | refine Out.sub rfl ?_))
         ·
          first | (exact ⟨i + 1, bn2, ao2, co2, rfl, by omega, by (rw [hlf, drop_range hi2, linLoop_bit hx1 (by (unfold bitN; omega))]), S.pk (by repeat (first | exact Pk.nil _ | exact Pk.refl _ | refine Pk.cons 0 rfl ?_ | refine Pk.cons 1 rfl ?_ | refine Pk.cons 2 rfl ?_ | refine Pk.cons 3 rfl ?_ | refine Pk.cons 4 rfl ?_ | refine Pk.cons 5 rfl ?_ | refine Pk.cons 6 rfl ?_ | refine Pk.cons 7 rfl ?_ | refine Pk.cons 8 rfl ?_ | refine Pk.cons 9 rfl ?_ | refine Pk.cons 10 rfl ?_ | refine Pk.cons 11 rfl ?_ | refine Pk.cons 12 rfl ?_ | refine Pk.cons 13 rfl ?_ | refine Pk.drop ?_))⟩) | (exact ⟨i + 1, bn2, ao2, co2, rfl, by omega, by (rw [hlf, drop_range hi2, linLoop_late hx1 hbit (by assumption)]), S.pk (by repeat (first | exact Pk.nil _ | exact Pk.refl _ | refine Pk.cons 0 rfl ?_ | refine Pk.cons 1 rfl ?_ | refine Pk.cons 2 rfl ?_ | refine Pk.cons 3 rfl ?_ | refine Pk.cons 4 rfl ?_ | refine Pk.cons 5 rfl ?_ | refine Pk.cons 6 rfl ?_ | refine Pk.cons 7 rfl ?_ | refine Pk.cons 8 rfl ?_ | refine Pk.cons 9 rfl ?_ | refine Pk.cons 10 rfl ?_ | refine Pk.cons 11 rfl ?_ | refine Pk.cons 12 rfl ?_ | refine Pk.cons 13 rfl ?_ | refine Pk.drop ?_))⟩) | (exact ⟨i + 1, bn2, ao2, co2, rfl, by omega, by (rw [hlf, drop_range hi2, linLoop_ne hx1 hbit (by assumption) (by assumption) (by assumption)]), S.pk (by repeat (first | exact Pk.nil _ | exact Pk.refl _ | refine Pk.cons 0 rfl ?_ | refine Pk.cons 1 rfl ?_ | refine Pk.cons 2 rfl ?_ | refine Pk.cons 3 rfl ?_ | refine Pk.cons 4 rfl ?_ | refine Pk.cons 5 rfl ?_ | refine Pk.cons 6 rfl ?_ | refine Pk.cons 7 rfl ?_ | refine Pk.cons 8 rfl ?_ | refine Pk.cons 9 rfl ?_ | refine Pk.cons 10 rfl ?_ | refine Pk.cons 11 rfl ?_ | refine Pk.cons 12 rfl ?_ | refine Pk.cons 13 rfl ?_ | refine Pk.drop ?_))⟩) | (exact ⟨i + 1, _, ao3, co3, rfl, by omega, by (rw [hlf, drop_range hi2, linLoop_no hx1 hbit (by assumption) (by (intro hh; first | exact hh.1 (by assumption) | exact hh.2 (by assumption))) hnone]), S⟩)
         ·
          (show h.length - (i + 1) < h.length - i; omega)
    ·
     have rh3 := h3
     (try simp only [Q1, Q2, Q3, Q4, Q5, Q6, Q7, Q8, Q9, Qa] at h3)
     refine W.exit ?_
     refine Then.x ?_
     refine Then.x ?_
     refine InB.e ?_
     refine Then.nx ?_
     refine W.seq ?_
     refine W.region rfl ?_
     refine WO.q (Y.assign (v := .bool _) rfl) ?_
     refine WO.nil ?_
     refine Then.nx ?_
     refine W.ret ?_
     refine BodyQ.ret1 Tryd.results42 (ResV.tmp _ rfl) ?_
     have e : linFrom k h must (fuel + 1) d hs bn = (none, bn2) := (by (rw [hlf, List.drop_eq_nil_of_le (by (rw [List.length_range]; omega))]; rfl)); rw [e]; exact ⟨ao2, co2, rfl, by (simp only [Option.getD_none, List.append_nil]; exact S)⟩
end Go.Proofs
