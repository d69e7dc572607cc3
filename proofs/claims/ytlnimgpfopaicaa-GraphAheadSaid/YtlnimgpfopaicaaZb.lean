/-
  treadle/treadlelaw29.GraphAhead answers true for every input, and its arguments read behind the call as they read before; no condition.
-/
import Derived.Test.YtlnimgpfopaicaaYc
import Derived.Test.YtlnimgpfopaicaaGz
import Derived.Test.YtlnimgpfopaicaaRows
import Derived.WalkKit
import Derived.ProofKit
import Derived.OpenShut
import Derived.JoinedOf
import Derived.JoinedAt
import Derived.SizedLaws
set_option linter.unusedVariables false
set_option linter.unusedSimpArgs false
set_option maxRecDepth 100000
set_option maxHeartbeats 1000000
namespace Go.Proofs.Ytlnimgpfopaicaa.graphAhead
open Go.ChangeShapes Go.WideShapes Go.ChangeAt Go.RowKit Go.TL Go.Proofs
theorem el_node {H : Type} {enc : TypeId × Value → H} {W : World} : ∀ n cs x, DataW.trod enc Try.prog W 0 (fun _ => true) true n 75 cs = some x → ∃ y : GNode, cs = tNode.enc y ∧ True := by
  intro n cs x h
  obtain ⟨xs, m, _, _, hl, hlen, hf⟩ := DataW.trod_struct Try.underlying75 h
  have hc : Try.prog.cellsOf 75 = 4 := by kernel_rfl
  rw [hc] at hl
  match xs, hlen, cs, hl with
  | [y0, y1, y2, y3], _, [c0, c1, c2, c3], _ =>
    obtain ⟨z0, e0, _, q0⟩ := DataW.trod_int Try.underlying28 (x := y0) (hf 0 _ rfl)
    obtain ⟨z1, e1, _, q1⟩ := DataW.trod_int Try.underlying2 (x := y1) (hf 1 _ rfl)
    obtain ⟨z2, e2, _, q2⟩ := DataW.trod_int Try.underlying3 (x := y2) (hf 2 _ rfl)
    obtain ⟨z3, e3, _, q3⟩ := DataW.trod_int Try.underlying3 (x := y3) (hf 3 _ rfl)
    have k2 : Try.prog.cellsOf 2 = 1 := by kernel_rfl
    have k3 : Try.prog.cellsOf 3 = 1 := by kernel_rfl
    have k28 : Try.prog.cellsOf 28 = 1 := by kernel_rfl
    simp [k2, k3, k28] at e0 e1 e2 e3
    subst e0 e1 e2 e3
    exact ⟨⟨z0, z1, z2, z3⟩, rfl, trivial⟩
theorem el_end {H : Type} {enc : TypeId × Value → H} {W : World} : ∀ n cs x, DataW.trod enc Try.prog W 0 (fun _ => true) true n 30 cs = some x → ∃ y : GEnd, cs = tEnd.enc y ∧ True := by
  intro n cs x h
  obtain ⟨xs, m, _, _, hl, hlen, hf⟩ := DataW.trod_struct Try.underlying30 h
  have hc : Try.prog.cellsOf 30 = 2 := by kernel_rfl
  rw [hc] at hl
  match xs, hlen, cs, hl with
  | [y0, y1], _, [c0, c1], _ =>
    obtain ⟨z0, e0, _, q0⟩ := DataW.trod_int Try.underlying28 (x := y0) (hf 0 _ rfl)
    obtain ⟨z1, e1, _, q1⟩ := DataW.trod_int Try.underlying2 (x := y1) (hf 1 _ rfl)
    have k2 : Try.prog.cellsOf 2 = 1 := by kernel_rfl
    have k28 : Try.prog.cellsOf 28 = 1 := by kernel_rfl
    simp [k2, k28] at e0 e1
    subst e0 e1
    exact ⟨⟨z0, z1⟩, rfl, trivial⟩
theorem el_maker {H : Type} {enc : TypeId × Value → H} {W : World} : ∀ n cs x, DataW.trod enc Try.prog W 0 (fun _ => true) true n 27 cs = some x → ∃ y : GMaker, cs = tMaker.enc y ∧ True := by
  intro n cs x h
  obtain ⟨xs, m, _, _, hl, hlen, hf⟩ := DataW.trod_struct Try.underlying27 h
  have hc : Try.prog.cellsOf 27 = 4 := by kernel_rfl
  rw [hc] at hl
  match xs, hlen, cs, hl with
  | [y0, y1, y2, y3], _, [c0, c1, c2, c3], _ =>
    obtain ⟨z0, e0, _, q0⟩ := DataW.trod_int Try.underlying2 (x := y0) (hf 0 _ rfl)
    obtain ⟨z1, e1, _, q1⟩ := DataW.trod_int Try.underlying2 (x := y1) (hf 1 _ rfl)
    obtain ⟨z2, e2, _, q2⟩ := DataW.trod_int Try.underlying2 (x := y2) (hf 2 _ rfl)
    obtain ⟨z3, e3, _, q3⟩ := DataW.trod_int Try.underlying2 (x := y3) (hf 3 _ rfl)
    have k2 : Try.prog.cellsOf 2 = 1 := by kernel_rfl
    simp [k2] at e0 e1 e2 e3
    subst e0 e1 e2 e3
    exact ⟨⟨z0, z1, z2, z3⟩, rfl, trivial⟩
theorem el_int {H : Type} {enc : TypeId × Value → H} {W : World} : ∀ n cs x, DataW.trod enc Try.prog W 0 (fun _ => true) true n 3 cs = some x → ∃ y : Int, cs = (tI .i64).enc y ∧ True := by
  intro n cs x h
  obtain ⟨z, rfl, _, _⟩ := DataW.trod_int Try.underlying3 h
  exact ⟨z, rfl, trivial⟩
theorem el_let {H : Type} {enc : TypeId × Value → H} {W : World} : ∀ n cs x, DataW.trod enc Try.prog W 0 (fun _ => true) true n 51 cs = some x → ∃ y : RLet, cs = tRLet.enc y ∧ ∃ tr : List GNode, y.hdr.2.1 = tr.length ∧ tr.length ≤ y.hdr.2.2 ∧ Rd tNode W y.hdr.1 tr := by
  intro n cs x h
  obtain ⟨xs, m, _, _, hl, hlen, hf⟩ := DataW.trod_struct Try.underlying51 h
  have hc : Try.prog.cellsOf 51 = 3 := by kernel_rfl
  rw [hc] at hl
  match xs, hlen, cs, hl with
  | [y0, y1, y2], _, [c0, c1, c2], _ =>
    obtain ⟨z0, e0, _⟩ := DataW.trod_string Try.underlying9 (x := y0) (hf 0 _ rfl)
    obtain ⟨a, cap, tr, e1, h1, h2, _, _⟩ := trod_rows (T := tNode) Try.underlying49 (by kernel_rfl) el_node (x := y1) (hf 1 _ rfl)
    obtain ⟨z2, e2, _⟩ := DataW.trod_int Try.underlying3 (x := y2) (hf 2 _ rfl)
    have k0 : Try.prog.cellsOf 9 = 1 := by kernel_rfl
    have k1 : Try.prog.cellsOf 49 = 1 := by kernel_rfl
    have k2 : Try.prog.cellsOf 3 = 1 := by kernel_rfl
    simp [k0, k1, k2] at e0 e1 e2
    subst e0 e1 e2
    exact ⟨⟨z0, (a, tr.length, cap), z2⟩, rfl, tr, rfl, h1, h2⟩
theorem open_flow {H : Type} {enc : TypeId × Value → H} {W : World} {v : Value} {d : DataW H} {ps : List MemPlace} {r : Reach} {b0 : Nat} (hval : Value.okWide Try.prog W r b0 25 v) (h : DataW.Trod enc Try.prog W 0 (fun _ => true) true 25 v d ps) :
    ∃ (u : FIn) (f : GFlow) (raws : List RLet) (dl do_ : DataW H), v = .agg (fL u f).toArray ∧ Rd tRLet W u.la raws ∧ RawOk W raws f.lets ∧ Rd (tI .i64) W u.oa f.outs ∧ f.lets.length ≤ u.lc ∧ f.outs.length ≤ u.oc ∧ d = .agg [dl, do_] ∧ LenD dl f.lets.length ∧ LenD do_ f.outs.length := by
  obtain ⟨cs, n, rfl, h9⟩ := open_agg Try.underlying25 hval h
  obtain ⟨xs, m, _, hx, hl, hlen, hf⟩ := DataW.trod_struct Try.underlying25 h9
  have hc : Try.prog.cellsOf 25 = 2 := by kernel_rfl
  rw [hc] at hl
  match xs, hlen, cs, hl with
  | [y0, y1], _, [c0, c1], _ =>
    obtain ⟨a, cap, raws, e0, h1, h2, h3, h4⟩ := trod_rows (T := tRLet) Try.underlying22 (by kernel_rfl) el_let (x := y0) (hf 0 _ rfl)
    obtain ⟨oa, oc, outs, e1, g1, g2, _, g4⟩ := trod_rows (T := tI .i64) Try.underlying23 (by kernel_rfl) el_int (x := y1) (hf 1 _ rfl)
    have k0 : Try.prog.cellsOf 22 = 1 := by kernel_rfl
    have k1 : Try.prog.cellsOf 23 = 1 := by kernel_rfl
    simp [k0, k1] at e0 e1
    obtain ⟨ls, hls⟩ := rawOk_of raws h3
    have hrl := hls.1
    rw [hrl] at e0 h1 h4
    subst e0 e1
    exact ⟨⟨a, cap, oa, oc⟩, ⟨ls, outs⟩, raws, y0.1, y1.1, rfl, h2, hls, g2, h1, g1, (Prod.mk.inj hx).1, h4, g4⟩
theorem own : ownKnob Try.prog.godebug = none := by kernel_rfl
theorem contract (H : Type) (enc : TypeId × Value → H) (W : World) (base : Nat) (args : Array Value) (ds gs : List (DataW H)) (before : List MemPlace)
    (hval : ∀ (j : Nat) t v, Try.f4.params[j]? = some t → args[j]? = some v → Value.okWide Try.prog W .any base t v)
    (hsz : (DataW.weightsEach Try.prog (Try.f4.params.toList ++ Rows.graphAheadSpec.plain.varTypes Try.prog) (ds ++ gs)).all (· ≤ reachBytes) = true)
    (hW : DataW.Whole enc Try.prog Try.f4.params.toList Rows.graphAheadSpec.vars false W args.toList ds gs before) :
    Calls Try.prog 4 args W fun e W' => ∃ v, e = .returned v ∧ Rows.graphAheadSpec.post enc Try.prog Try.f4 false true false false W args v W' := by
  have hW' := hW
  obtain ⟨p, q, hA0, hV, rfl, hfz, hnd⟩ := hW
  have hA : DataW.TrodAll enc Try.prog W 0 (fun _ => true) true Try.f4.params.toList args.toList ds p := hA0
  rw [Try.params4] at hA hval hsz
  obtain ⟨v0, vs0, d0, ds0, p0, q0, hargs0, rfl, rfl, h0, r0⟩ := trodAll_cons hA
  obtain ⟨v1, vs1, d1, ds1, p1, q1, hargs1, rfl, rfl, h1, r1⟩ := trodAll_cons r0
  obtain ⟨v2, vs2, d2, ds2, p2, q2, hargs2, rfl, rfl, h2, r2⟩ := trodAll_cons r1
  obtain ⟨rfl, rfl, rfl⟩ := trodAll_nil r2
  obtain rfl : args = #[v0, v1, v2] := by (cases args; simp_all)
  obtain ⟨u, f, raws, dl, dq, rfl, hF1, hF2, hF3, hF4, hF5, hd0, hl1, hl2⟩ := open_flow (hval 0 25 v0 rfl rfl) h0
  obtain ⟨m, rfl⟩ : ∃ y, v1 = .agg (tMaker.enc y).toArray := by (obtain ⟨cs, n, rfl, hh⟩ := open_agg Try.underlying27 (hval 1 27 v1 rfl rfl) h1; obtain ⟨y, rfl, _⟩ := el_maker _ _ _ hh; exact ⟨y, rfl⟩)
  obtain ⟨n, rfl, _, _, _⟩ := open_int Try.underlying3 (hval 2 3 v2 rfl rfl) h2
  subst hd0
  have hlm := (weight_part hsz (j := 0) (i := 0) rfl rfl Try.underlying25 rfl rfl Try.underlying22 (by decide +kernel) hl1)
  have hom := (weight_part hsz (j := 0) (i := 1) rfl rfl Try.underlying25 rfl rfl Try.underlying23 (by decide +kernel) hl2)
  refine (GraphAhead_spec W u f raws hF1 hF2 hF3 hF4 hF5 hlm hom m n).mono fun e W2 hq => ?_
  obtain ⟨he, hE⟩ := hq
  subst he
  exact ⟨_, rfl, law_post (by kernel_rfl) (by kernel_rfl) (by rfl) Try.underlying4 rfl hW' (fun e => by (subst e; rfl)) hE⟩
theorem lifted (os : Os) (started : os.Started) (H : Type) (enc : TypeId × Value → H) :
    ReturnsInHanded {} Try.checked os 4 .any (Rows.graphAheadSpec.pre6 enc Try.prog Try.f4 Rows.graphAheadRow.domain false) (Rows.graphAheadSpec.post enc Try.prog Try.f4 false true false false) := by
  refine returnsInHanded_of_change_sized (C := Try.checked) own started (by kernel_rfl) Try.func4
    (ChangeSpec.witness6 (enc := enc) (C := Try.checked) false ⟨#[], #[.agg #[.slice none 0 0, .slice none 0 0], .agg #[.int .i64 0, .int .i64 0, .int .i64 0, .int .i64 0], .int .i64 0], []⟩ 8 (by kernel_rfl) (by kernel_rfl) (by kernel_rfl) (by kernel_rfl)) ?_
  intro W base args ds gs before hval hW _ hsz _
  exact contract H enc W base args ds gs before hval hsz hW
theorem graphAhead_holds : Rows.GraphAheadSaid :=
  OpenClaim.holds_of_wide 4 Try.f4 rfl rfl rfl rfl rfl rfl rfl ⟨rfl, rfl, rfl, rfl, rfl⟩ rfl rfl rfl rfl rfl (by kernel_rfl) Try.func4 (by kernel_rfl)
    (of_decide_eq_true (by kernel_rfl)) (by unfold Func.isWrapper; first | (rw [if_pos (by decide +kernel)]; kernel_rfl) | (rw [if_neg (by decide +kernel)]; exact ⟨rfl, rfl⟩))
    (fun os started H enc _ => lifted os started H enc)
end Go.Proofs.Ytlnimgpfopaicaa.graphAhead
