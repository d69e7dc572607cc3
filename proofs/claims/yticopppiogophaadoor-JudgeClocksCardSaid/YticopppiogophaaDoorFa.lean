/-
  Facts of the seat's types and functions.
-/
import Derived.Test.YticopppiogophaaDoorTj
import Derived.Test.YticopppiogophaaDoorProg
set_option linter.unusedVariables false
set_option linter.unusedSimpArgs false
set_option maxRecDepth 100000
set_option maxHeartbeats 1000000
namespace Go.Proofs
open Go Go.TL Go.RowKit
theorem sl_22 : SlT Tryd.prog 22 58 7 56 := SlT.ofB (by kernel_rfl)
theorem sz_58 : SzT Tryd.prog 58 7 true := fun w => ⟨by kernel_rfl, by kernel_rfl⟩
theorem cf_40 : CallF Tryd.prog 40 := fun args w => by kernel_rfl
theorem bld_58_5 {n1 : Int} (w : World) : (Instr.build 58 [(5, .int .i64 n1)].toArray).run Tryd.prog w = .ok (.agg #[.int .i8 0, .int .i64 0, .int .i64 0, .int .i64 0, .bool false, .int .i64 n1, .int .i64 0]) w := by kernel_rfl
theorem z_58 : ZeroT Tryd.prog 58 (.agg ([.int .i8 0, .int .i64 0, .int .i64 0, .int .i64 0, .bool false, .int .i64 0, .int .i64 0]).toArray) ([.int .i8 0, .int .i64 0, .int .i64 0, .int .i64 0, .bool false, .int .i64 0, .int .i64 0]) := ⟨fun w => by kernel_rfl, by kernel_rfl⟩
theorem sz_56 : SzT Tryd.prog 56 1 false := fun w => ⟨by kernel_rfl, by kernel_rfl⟩
theorem sz_2 : SzT Tryd.prog 2 1 false := fun w => ⟨by kernel_rfl, by kernel_rfl⟩
theorem sz_4 : SzT Tryd.prog 4 1 false := fun w => ⟨by kernel_rfl, by kernel_rfl⟩
theorem sz_3 : SzT Tryd.prog 3 1 false := fun w => ⟨by kernel_rfl, by kernel_rfl⟩
theorem eqt_58 : EqT Tryd.prog 58 tCall := by
  refine ⟨by kernel_rfl, fun x y w => ?_⟩
  rw [run_equalIn_agg (P := Tryd.prog) w 9999 58 _ _ (by kernel_rfl) (by kernel_rfl)]
  have h : ∀ (fs : List Field), (Tryd.prog.fieldsOf 58).toList = fs → (Op.eqFields 9999 (tCall.enc x).toArray (tCall.enc y).toArray fs).run Tryd.prog w = .ok (decide (x = y)) w → (Op.eqFields 9999 (tCall.enc x).toArray (tCall.enc y).toArray (Tryd.prog.fieldsOf 58).toList).run Tryd.prog w = .ok (decide (x = y)) w := fun fs e h => by rw [e]; exact h
  refine h _ rfl ?_
  have e : decide (x = y) = ((x.op == y.op) && ((x.arg == y.arg) && ((x.new == y.new) && ((x.answer == y.answer) && ((x.ok == y.ok) && ((x.begin_ == y.begin_) && ((x.end_ == y.end_) && true))))))) := by cases x; cases y; rw [Bool.eq_iff_iff]; simp
  rw [e]
  refine eqF_step (by decide) sz_56 rfl rfl (run_equalIn_int _ _ _ _ _ _ _ Tryd.underlying56) ?_
  refine eqF_step (by decide) sz_2 rfl rfl (run_equalIn_int _ _ _ _ _ _ _ Tryd.underlying2) ?_
  refine eqF_step (by decide) sz_2 rfl rfl (run_equalIn_int _ _ _ _ _ _ _ Tryd.underlying2) ?_
  refine eqF_step (by decide) sz_2 rfl rfl (run_equalIn_int _ _ _ _ _ _ _ Tryd.underlying2) ?_
  refine eqF_step (by decide) sz_4 rfl rfl (run_equalIn_bool' _ _ _ _ _ Tryd.underlying4) ?_
  refine eqF_step (by decide) sz_3 rfl rfl (run_equalIn_int _ _ _ _ _ _ _ Tryd.underlying3) ?_
  refine eqF_step (by decide) sz_3 rfl rfl (run_equalIn_int _ _ _ _ _ _ _ Tryd.underlying3) ?_
  rfl
theorem fo_50_1 : FieldOff Tryd.prog 50 1 1 := fun a w => by kernel_rfl
theorem sz_36 : SzT Tryd.prog 36 1 false := fun w => ⟨by kernel_rfl, by kernel_rfl⟩
theorem bs_36_1_0 {a1 : Option Addr} {l1 c1 : Nat} (w : World) : (Instr.buildSlice 36 1 [(0, .slice a1 l1 c1)].toArray).run Tryd.prog w = .ok (.slice (some ⟨w.heap.size, 0, none⟩) 1 1) (w.alloc (.cells [.slice a1 l1 c1].toArray 27 (0, 0))) := by kernel_rfl
theorem sl_36 : SlT Tryd.prog 36 27 1 24 := SlT.ofB (by kernel_rfl)
theorem fo_50_0 : FieldOff Tryd.prog 50 0 0 := fun a w => by kernel_rfl
theorem sz_35 : SzT Tryd.prog 35 1 false := fun w => ⟨by kernel_rfl, by kernel_rfl⟩
theorem fo_50_13 : FieldOff Tryd.prog 50 13 13 := fun a w => by kernel_rfl
theorem sz_48 : SzT Tryd.prog 48 1 false := fun w => ⟨by kernel_rfl, by kernel_rfl⟩
theorem fo_50_5 : FieldOff Tryd.prog 50 5 5 := fun a w => by kernel_rfl
theorem sz_40 : SzT Tryd.prog 40 1 false := fun w => ⟨by kernel_rfl, by kernel_rfl⟩
theorem sz_27 : SzT Tryd.prog 27 1 false := fun w => ⟨by kernel_rfl, by kernel_rfl⟩
theorem sl_27 : SlT Tryd.prog 27 3 1 8 := SlT.ofB (by kernel_rfl)
theorem bs_27_1_0 {n1 : Int} (w : World) : (Instr.buildSlice 27 1 [(0, .int .i64 n1)].toArray).run Tryd.prog w = .ok (.slice (some ⟨w.heap.size, 0, none⟩) 1 1) (w.alloc (.cells [.int .i64 n1].toArray 3 (0, 0))) := by kernel_rfl
theorem fo_50_2 : FieldOff Tryd.prog 50 2 2 := fun a w => by kernel_rfl
theorem sz_37 : SzT Tryd.prog 37 1 false := fun w => ⟨by kernel_rfl, by kernel_rfl⟩
theorem fo_50_3 : FieldOff Tryd.prog 50 3 3 := fun a w => by kernel_rfl
theorem sz_38 : SzT Tryd.prog 38 1 false := fun w => ⟨by kernel_rfl, by kernel_rfl⟩
theorem fo_50_4 : FieldOff Tryd.prog 50 4 4 := fun a w => by kernel_rfl
theorem sz_39 : SzT Tryd.prog 39 1 false := fun w => ⟨by kernel_rfl, by kernel_rfl⟩
theorem fo_50_6 : FieldOff Tryd.prog 50 6 6 := fun a w => by kernel_rfl
theorem sz_41 : SzT Tryd.prog 41 1 false := fun w => ⟨by kernel_rfl, by kernel_rfl⟩
theorem fo_50_7 : FieldOff Tryd.prog 50 7 7 := fun a w => by kernel_rfl
theorem sz_42 : SzT Tryd.prog 42 1 false := fun w => ⟨by kernel_rfl, by kernel_rfl⟩
theorem fo_50_8 : FieldOff Tryd.prog 50 8 8 := fun a w => by kernel_rfl
theorem sz_43 : SzT Tryd.prog 43 1 false := fun w => ⟨by kernel_rfl, by kernel_rfl⟩
theorem fo_50_9 : FieldOff Tryd.prog 50 9 9 := fun a w => by kernel_rfl
theorem sz_44 : SzT Tryd.prog 44 1 false := fun w => ⟨by kernel_rfl, by kernel_rfl⟩
theorem fo_50_10 : FieldOff Tryd.prog 50 10 10 := fun a w => by kernel_rfl
theorem sz_45 : SzT Tryd.prog 45 1 false := fun w => ⟨by kernel_rfl, by kernel_rfl⟩
theorem fo_50_11 : FieldOff Tryd.prog 50 11 11 := fun a w => by kernel_rfl
theorem sz_46 : SzT Tryd.prog 46 1 false := fun w => ⟨by kernel_rfl, by kernel_rfl⟩
theorem fo_50_12 : FieldOff Tryd.prog 50 12 12 := fun a w => by kernel_rfl
theorem sz_47 : SzT Tryd.prog 47 1 false := fun w => ⟨by kernel_rfl, by kernel_rfl⟩
theorem cf_49 : CallF Tryd.prog 49 := fun args w => by kernel_rfl
theorem cf_50 : CallF Tryd.prog 50 := fun args w => by kernel_rfl
theorem cf_51 : CallF Tryd.prog 51 := fun args w => by kernel_rfl
theorem cf_52 : CallF Tryd.prog 52 := fun args w => by kernel_rfl
theorem cf_53 : CallF Tryd.prog 53 := fun args w => by kernel_rfl
theorem cf_54 : CallF Tryd.prog 54 := fun args w => by kernel_rfl
theorem cf_55 : CallF Tryd.prog 55 := fun args w => by kernel_rfl
theorem cf_56 : CallF Tryd.prog 56 := fun args w => by kernel_rfl
theorem cf_57 : CallF Tryd.prog 57 := fun args w => by kernel_rfl
theorem cf_58 : CallF Tryd.prog 58 := fun args w => by kernel_rfl
theorem cf_59 : CallF Tryd.prog 59 := fun args w => by kernel_rfl
theorem cf_60 : CallF Tryd.prog 60 := fun args w => by kernel_rfl
theorem cf_61 : CallF Tryd.prog 61 := fun args w => by kernel_rfl
theorem cf_62 : CallF Tryd.prog 62 := fun args w => by kernel_rfl
theorem sl_64 : SlT Tryd.prog 64 71 8 64 := SlT.ofB (by kernel_rfl)
theorem sz_71 : SzT Tryd.prog 71 8 true := fun w => ⟨by kernel_rfl, by kernel_rfl⟩
theorem z_71 : ZeroT Tryd.prog 71 (.agg ([.int .i64 0, .int .i8 0, .int .i64 0, .int .i64 0, .int .i64 0, .int .i64 0, .int .i64 0, .bool false]).toArray) ([.int .i64 0, .int .i8 0, .int .i64 0, .int .i64 0, .int .i64 0, .int .i64 0, .int .i64 0, .bool false]) := ⟨fun w => by kernel_rfl, by kernel_rfl⟩
theorem fo_71_0 : FieldOff Tryd.prog 71 0 0 := fun a w => by kernel_rfl
theorem fo_71_1 : FieldOff Tryd.prog 71 1 1 := fun a w => by kernel_rfl
theorem fo_71_6 : FieldOff Tryd.prog 71 6 6 := fun a w => by kernel_rfl
theorem fo_71_2 : FieldOff Tryd.prog 71 2 2 := fun a w => by kernel_rfl
theorem eqt_71 : EqT Tryd.prog 71 tAccess := by
  refine ⟨by kernel_rfl, fun x y w => ?_⟩
  rw [run_equalIn_agg (P := Tryd.prog) w 9999 71 _ _ (by kernel_rfl) (by kernel_rfl)]
  have h : ∀ (fs : List Field), (Tryd.prog.fieldsOf 71).toList = fs → (Op.eqFields 9999 (tAccess.enc x).toArray (tAccess.enc y).toArray fs).run Tryd.prog w = .ok (decide (x = y)) w → (Op.eqFields 9999 (tAccess.enc x).toArray (tAccess.enc y).toArray (Tryd.prog.fieldsOf 71).toList).run Tryd.prog w = .ok (decide (x = y)) w := fun fs e h => by rw [e]; exact h
  refine h _ rfl ?_
  have e : decide (x = y) = ((x.thread == y.thread) && ((x.op == y.op) && ((x.cell == y.cell) && ((x.arg == y.arg) && ((x.new == y.new) && ((x.was == y.was) && ((x.now == y.now) && ((x.ok == y.ok) && true)))))))) := by cases x; cases y; rw [Bool.eq_iff_iff]; simp
  rw [e]
  refine eqF_step (by decide) sz_3 rfl rfl (run_equalIn_int _ _ _ _ _ _ _ Tryd.underlying3) ?_
  refine eqF_step (by decide) sz_56 rfl rfl (run_equalIn_int _ _ _ _ _ _ _ Tryd.underlying56) ?_
  refine eqF_step (by decide) sz_3 rfl rfl (run_equalIn_int _ _ _ _ _ _ _ Tryd.underlying3) ?_
  refine eqF_step (by decide) sz_2 rfl rfl (run_equalIn_int _ _ _ _ _ _ _ Tryd.underlying2) ?_
  refine eqF_step (by decide) sz_2 rfl rfl (run_equalIn_int _ _ _ _ _ _ _ Tryd.underlying2) ?_
  refine eqF_step (by decide) sz_2 rfl rfl (run_equalIn_int _ _ _ _ _ _ _ Tryd.underlying2) ?_
  refine eqF_step (by decide) sz_2 rfl rfl (run_equalIn_int _ _ _ _ _ _ _ Tryd.underlying2) ?_
  refine eqF_step (by decide) sz_4 rfl rfl (run_equalIn_bool' _ _ _ _ _ Tryd.underlying4) ?_
  rfl
theorem sl_79 : SlT Tryd.prog 79 87 2 16 := SlT.ofB (by kernel_rfl)
theorem sz_87 : SzT Tryd.prog 87 2 true := fun w => ⟨by kernel_rfl, by kernel_rfl⟩
theorem eqt_87 : EqT Tryd.prog 87 tRace := by
  refine ⟨by kernel_rfl, fun x y w => ?_⟩
  rw [run_equalIn_agg (P := Tryd.prog) w 9999 87 _ _ (by kernel_rfl) (by kernel_rfl)]
  have h : ∀ (fs : List Field), (Tryd.prog.fieldsOf 87).toList = fs → (Op.eqFields 9999 (tRace.enc x).toArray (tRace.enc y).toArray fs).run Tryd.prog w = .ok (decide (x = y)) w → (Op.eqFields 9999 (tRace.enc x).toArray (tRace.enc y).toArray (Tryd.prog.fieldsOf 87).toList).run Tryd.prog w = .ok (decide (x = y)) w := fun fs e h => by rw [e]; exact h
  refine h _ rfl ?_
  have e : decide (x = y) = ((x.a == y.a) && ((x.b == y.b) && true)) := by cases x; cases y; rw [Bool.eq_iff_iff]; simp
  rw [e]
  refine eqF_step (by decide) sz_3 rfl rfl (run_equalIn_int _ _ _ _ _ _ _ Tryd.underlying3) ?_
  refine eqF_step (by decide) sz_3 rfl rfl (run_equalIn_int _ _ _ _ _ _ _ Tryd.underlying3) ?_
  rfl
theorem sl_54 : SlT Tryd.prog 54 2 1 8 := SlT.ofB (by kernel_rfl)
theorem ar_109 : ArT Tryd.prog 109 64 3 1 := ⟨by kernel_rfl, fun w => by kernel_rfl⟩
theorem sz_109 : SzT Tryd.prog 109 64 true := fun w => ⟨by kernel_rfl, by kernel_rfl⟩
theorem ar_147 : ArT Tryd.prog 147 64 109 64 := ⟨by kernel_rfl, fun w => by kernel_rfl⟩
theorem cf_80 : CallF Tryd.prog 80 := fun args w => by kernel_rfl
theorem fo_71_7 : FieldOff Tryd.prog 71 7 7 := fun a w => by kernel_rfl
theorem sl_105 : SlT Tryd.prog 105 109 64 512 := SlT.ofB (by kernel_rfl)
theorem cf_63 : CallF Tryd.prog 63 := fun args w => by kernel_rfl
theorem cf_64 : CallF Tryd.prog 64 := fun args w => by kernel_rfl
theorem cf_65 : CallF Tryd.prog 65 := fun args w => by kernel_rfl
theorem fo_71_4 : FieldOff Tryd.prog 71 4 4 := fun a w => by kernel_rfl
theorem fo_71_3 : FieldOff Tryd.prog 71 3 3 := fun a w => by kernel_rfl
end Go.Proofs
