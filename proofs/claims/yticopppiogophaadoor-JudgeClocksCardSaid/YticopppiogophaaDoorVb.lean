/-
  Walks of apartBytes0, apartInts0, apartLongs0, apartSmalls0, apartBools0, apartTexts0, apartAccesses0, apartCalls0, apartRaces0, apartFlowNodes0, apartEnds0, apartRows0, apartLongRows0, apartLets0.
-/
import Derived.Test.YticopppiogophaaDoorTm
import Derived.Test.YticopppiogophaaDoorFa
import Derived.Test.YticopppiogophaaDoorFb
import Derived.Test.YticopppiogophaaDoorFc
import Derived.Test.YticopppiogophaaDoorVa
set_option linter.unusedVariables false
set_option linter.unusedSimpArgs false
set_option maxRecDepth 100000
set_option maxHeartbeats 1000000
namespace Go.Proofs
open Go Go.TL Go.RowKit
theorem apartBytes0_spec (w0 w : World) (bg : Nat) (hdr : List Value) (L : List HA) (hh : hdr[0]? = some (.slice none 0 0)) (S : Sat w0 w (Cel bg hdr 50 :: L)) :
    Calls Tryd.prog 49 [.pointer (some ⟨bg, 0, none⟩)].toArray w (fun e w' => e = .returned (.bool true) ∧ Sat w0 w' (Cel bg hdr 50 :: L)) := by
 refine calls_of_W (args := [.pointer (some ⟨bg, 0, none⟩)]) 199 Tryd.func49 rfl Tryd.ntmps49 rfl ?_
 refine W.seq ?_
 refine W.region rfl ?_
 refine WO.q (Y.assign (v := .bool _) rfl) ?_
 refine WO.nil ?_
 refine Then.nx ?_
 refine W.seq ?_
 refine W.seq ?_
 refine W.region rfl ?_
 refine WO.q (Y.assign (v := .int .i64 _) rfl) ?_
 refine WO.nil ?_
 refine Then.nx ?_
 refine W.block ?_
 -- loop 0 carries 3:n
 refine W.loop1 [3, 4, 14, 15, 16, 17, 18, 19, 20, 21, 22, 23, 24, 25, 26, 27, 28, 29, 30, 31, 32, 33, 34, 35, 36, 37, 38, 39, 40, 41, 42, 43, 44, 45, 46, 47, 48, 49, 50] 3 (fun v3 w => v3 = .int .i64 0 ∧ Sat w0 w (Cel bg hdr 50 :: L)) (fun v3 w => 0) ?_ ?_
 ·
  first | exact ⟨rfl, S⟩ | exact ⟨rfl, rfl, S⟩
 ·
  rintro g0 v3 w ⟨rfl, S⟩
  refine W.seq ?_
  refine W.seq ?_
  refine W.region rfl ?_
  refine WO.q (Y.move (v := .int .i64 _) rfl) ?_
  first | refine WO.q (Y.move (v := .pointer (some _)) rfl) ?_ | refine WO.q (Y.move (v := .pointer _) rfl) ?_
  refine WO.q (Y.nilP rfl) ?_
  first | refine WO.q (Y.fieldB fo_50_0 rfl) ?_ | refine WO.q (Y.fieldE fo_50_0 rfl) ?_
  first | refine WO.q (Y.load rfl (loadS1 sz_35 S 0 rfl hh)) ?_ | refine WO.q (Y.load rfl (loadS1 sz_35 S 0 rfl rfl)) ?_
  refine WO.q (Y.len (t' := 0) Tryd.underlying35 rfl) ?_
  refine WO.q (Y.lss rfl rfl) ?_
  refine WO.nil ?_
  refine Then.nx ?_
  refine W.cond rfl (fun h1 => ?_) (fun h1 => ?_) -- cond 0
  ·
   have rh1 := h1
   (try simp only [Q1, Q2, Q3, Q4, Q5, Q6, Q7, Q8, Q9, Qa] at h1)
   exfalso; omega
  ·
   have rh1 := h1
   (try simp only [Q1, Q2, Q3, Q4, Q5, Q6, Q7, Q8, Q9, Qa] at h1)
   refine W.exit ?_
   refine Then.x ?_
   refine Then.x ?_
   refine InB.e ?_
   refine Then.nx ?_
   refine W.seq ?_
   refine W.region rfl ?_
   refine WO.q (Y.assign (v := .slice _ _ _) rfl) ?_
   refine WO.q (Y.assign (v := .slice _ _ _) rfl) ?_
   refine WO.nil ?_
   refine Then.nx ?_
   refine W.seq ?_
   refine W.seq ?_
   refine W.region rfl ?_
   refine WO.q (Y.assign (v := .int .i64 _) rfl) ?_
   refine WO.nil ?_
   refine Then.nx ?_
   refine W.block ?_
   -- loop 1 carries 5:one, 6:more, 7:n
   refine W.loop3 [5, 6, 7, 8, 9, 51, 52, 53, 54, 55, 56, 57, 58, 59, 60, 61, 62, 63, 64, 65, 66, 67, 68, 69, 70, 71, 72, 73, 74, 75, 76, 77, 78, 79, 80, 81, 82, 83, 84, 85, 86, 87, 88, 89, 90, 91, 92, 93, 94, 95, 96, 97, 98, 99, 100, 101, 102, 103, 104, 105, 106, 107, 108, 109] 5 6 7 (fun v5 v6 v7 w => v7 = .int .i64 0 ∧ v6 = .slice none 0 0 ∧ Sat w0 w (Cel bg hdr 50 :: L)) (fun v5 v6 v7 w => 0) ?_ ?_
   ·
    first | exact ⟨rfl, S⟩ | exact ⟨rfl, rfl, S⟩
   ·
    rintro g1 v5 v6 v7 w ⟨rfl, rfl, S⟩
    refine W.seq ?_
    refine W.seq ?_
    refine W.region rfl ?_
    refine WO.q (Y.move (v := .int .i64 _) rfl) ?_
    first | refine WO.q (Y.move (v := .pointer (some _)) rfl) ?_ | refine WO.q (Y.move (v := .pointer _) rfl) ?_
    refine WO.q (Y.nilP rfl) ?_
    first | refine WO.q (Y.fieldB fo_50_0 rfl) ?_ | refine WO.q (Y.fieldE fo_50_0 rfl) ?_
    first | refine WO.q (Y.load rfl (loadS1 sz_35 S 0 rfl hh)) ?_ | refine WO.q (Y.load rfl (loadS1 sz_35 S 0 rfl rfl)) ?_
    refine WO.q (Y.len (t' := 0) Tryd.underlying35 rfl) ?_
    refine WO.q (Y.lss rfl rfl) ?_
    refine WO.nil ?_
    refine Then.nx ?_
    refine W.cond rfl (fun h2 => ?_) (fun h2 => ?_) -- cond 1
    ·
     have rh2 := h2
     (try simp only [Q1, Q2, Q3, Q4, Q5, Q6, Q7, Q8, Q9, Qa] at h2)
     exfalso; omega
    ·
     have rh2 := h2
     (try simp only [Q1, Q2, Q3, Q4, Q5, Q6, Q7, Q8, Q9, Qa] at h2)
     refine W.exit ?_
     refine Then.x ?_
     refine Then.x ?_
     refine InB.e ?_
     refine Then.nx ?_
     refine W.seq ?_
     refine W.seq ?_
     refine W.region rfl ?_
     refine WO.q (Y.assign (v := .int .i64 _) rfl) ?_
     refine WO.nil ?_
     refine Then.nx ?_
     refine W.block ?_
     -- loop 2 carries 10:n
     refine W.loop1 [2, 10, 11, 12, 13, 110, 111, 112, 113, 114, 115, 116, 117, 118, 119, 120, 121, 122, 123, 124, 125, 126, 127, 128, 129, 130, 131, 132, 133, 134, 135, 136, 137, 138, 139, 140, 141, 142, 143, 144, 145, 146, 147, 148, 149, 150, 151, 152, 153, 154, 155, 156, 157, 158, 159, 160, 161, 162, 163, 164, 165, 166, 167, 168, 169, 170, 171, 172, 173, 174, 175, 176, 177, 178, 179, 180, 181, 182, 183, 184, 185, 186, 187, 188, 189, 190, 191, 192, 193, 194, 195, 196, 197, 198] 10 (fun v10 w => v10 = .int .i64 0 ∧ Sat w0 w (Cel bg hdr 50 :: L)) (fun v10 w => 0) ?_ ?_
     ·
      first | exact ⟨rfl, S⟩ | exact ⟨rfl, rfl, S⟩
     ·
      rintro g2 v10 w ⟨rfl, S⟩
      refine W.seq ?_
      refine W.seq ?_
      refine W.region rfl ?_
      refine WO.q (Y.move (v := .int .i64 _) rfl) ?_
      refine WO.q (Y.move (v := .slice _ _ _) rfl) ?_
      refine WO.q (Y.len (t' := 0) Tryd.underlying35 rfl) ?_
      refine WO.q (Y.lss rfl rfl) ?_
      refine WO.nil ?_
      refine Then.nx ?_
      refine W.cond rfl (fun h3 => ?_) (fun h3 => ?_) -- cond 2
      ·
       have rh3 := h3
       (try simp only [Q1, Q2, Q3, Q4, Q5, Q6, Q7, Q8, Q9, Qa] at h3)
       exfalso; omega
      ·
       have rh3 := h3
       (try simp only [Q1, Q2, Q3, Q4, Q5, Q6, Q7, Q8, Q9, Qa] at h3)
       refine W.exit ?_
       refine Then.x ?_
       refine Then.x ?_
       refine InB.e ?_
       refine Then.nx ?_
       refine W.seq ?_
       refine W.region rfl ?_
       refine WO.q (Y.assign (v := .bool _) rfl) ?_
       refine WO.nil ?_
       refine Then.nx ?_
       refine W.ret ?_
       refine BodyQ.ret1 Tryd.results49 (ResV.tmp _ rfl) ?_
       exact ⟨rfl, S⟩
theorem apartInts0_spec (w0 w : World) (bg : Nat) (hdr : List Value) (L : List HA) (hh : hdr[1]? = some (.slice none 0 0)) (S : Sat w0 w (Cel bg hdr 50 :: L)) :
    Calls Tryd.prog 50 [.pointer (some ⟨bg, 0, none⟩)].toArray w (fun e w' => e = .returned (.bool true) ∧ Sat w0 w' (Cel bg hdr 50 :: L)) := by
 refine calls_of_W (args := [.pointer (some ⟨bg, 0, none⟩)]) 183 Tryd.func50 rfl Tryd.ntmps50 rfl ?_
 refine W.seq ?_
 refine W.region rfl ?_
 refine WO.q (Y.assign (v := .bool _) rfl) ?_
 refine WO.nil ?_
 refine Then.nx ?_
 refine W.seq ?_
 refine W.seq ?_
 refine W.region rfl ?_
 refine WO.q (Y.assign (v := .int .i64 _) rfl) ?_
 refine WO.nil ?_
 refine Then.nx ?_
 refine W.block ?_
 -- loop 0 carries 3:n
 refine W.loop1 [3, 4, 14, 15, 16, 17, 18, 19, 20, 21, 22, 23, 24, 25, 26, 27, 28, 29, 30, 31, 32, 33, 34, 35, 36, 37, 38, 39, 40, 41, 42, 43, 44, 45, 46] 3 (fun v3 w => v3 = .int .i64 0 ∧ Sat w0 w (Cel bg hdr 50 :: L)) (fun v3 w => 0) ?_ ?_
 ·
  first | exact ⟨rfl, S⟩ | exact ⟨rfl, rfl, S⟩
 ·
  rintro g0 v3 w ⟨rfl, S⟩
  refine W.seq ?_
  refine W.seq ?_
  refine W.region rfl ?_
  refine WO.q (Y.move (v := .int .i64 _) rfl) ?_
  first | refine WO.q (Y.move (v := .pointer (some _)) rfl) ?_ | refine WO.q (Y.move (v := .pointer _) rfl) ?_
  refine WO.q (Y.nilP rfl) ?_
  first | refine WO.q (Y.fieldB fo_50_1 rfl) ?_ | refine WO.q (Y.fieldE fo_50_1 rfl) ?_
  first | refine WO.q (Y.load rfl (loadS1 sz_36 S 0 rfl hh)) ?_ | refine WO.q (Y.load rfl (loadS1 sz_36 S 0 rfl rfl)) ?_
  refine WO.q (Y.len (t' := 0) Tryd.underlying36 rfl) ?_
  refine WO.q (Y.lss rfl rfl) ?_
  refine WO.nil ?_
  refine Then.nx ?_
  refine W.cond rfl (fun h1 => ?_) (fun h1 => ?_) -- cond 0
  ·
   have rh1 := h1
   (try simp only [Q1, Q2, Q3, Q4, Q5, Q6, Q7, Q8, Q9, Qa] at h1)
   exfalso; omega
  ·
   have rh1 := h1
   (try simp only [Q1, Q2, Q3, Q4, Q5, Q6, Q7, Q8, Q9, Qa] at h1)
   refine W.exit ?_
   refine Then.x ?_
   refine Then.x ?_
   refine InB.e ?_
   refine Then.nx ?_
   refine W.seq ?_
   refine W.region rfl ?_
   refine WO.q (Y.assign (v := .slice _ _ _) rfl) ?_
   refine WO.q (Y.assign (v := .slice _ _ _) rfl) ?_
   refine WO.nil ?_
   refine Then.nx ?_
   refine W.seq ?_
   refine W.seq ?_
   refine W.region rfl ?_
   refine WO.q (Y.assign (v := .int .i64 _) rfl) ?_
   refine WO.nil ?_
   refine Then.nx ?_
   refine W.block ?_
   -- loop 1 carries 5:one, 6:more, 7:n
   refine W.loop3 [5, 6, 7, 8, 9, 47, 48, 49, 50, 51, 52, 53, 54, 55, 56, 57, 58, 59, 60, 61, 62, 63, 64, 65, 66, 67, 68, 69, 70, 71, 72, 73, 74, 75, 76, 77, 78, 79, 80, 81, 82, 83, 84, 85, 86, 87, 88, 89, 90, 91, 92, 93, 94, 95, 96, 97, 98, 99, 100, 101] 5 6 7 (fun v5 v6 v7 w => v7 = .int .i64 0 ∧ v6 = .slice none 0 0 ∧ Sat w0 w (Cel bg hdr 50 :: L)) (fun v5 v6 v7 w => 0) ?_ ?_
   ·
    first | exact ⟨rfl, S⟩ | exact ⟨rfl, rfl, S⟩
   ·
    rintro g1 v5 v6 v7 w ⟨rfl, rfl, S⟩
    refine W.seq ?_
    refine W.seq ?_
    refine W.region rfl ?_
    refine WO.q (Y.move (v := .int .i64 _) rfl) ?_
    first | refine WO.q (Y.move (v := .pointer (some _)) rfl) ?_ | refine WO.q (Y.move (v := .pointer _) rfl) ?_
    refine WO.q (Y.nilP rfl) ?_
    first | refine WO.q (Y.fieldB fo_50_1 rfl) ?_ | refine WO.q (Y.fieldE fo_50_1 rfl) ?_
    first | refine WO.q (Y.load rfl (loadS1 sz_36 S 0 rfl hh)) ?_ | refine WO.q (Y.load rfl (loadS1 sz_36 S 0 rfl rfl)) ?_
    refine WO.q (Y.len (t' := 0) Tryd.underlying36 rfl) ?_
    refine WO.q (Y.lss rfl rfl) ?_
    refine WO.nil ?_
    refine Then.nx ?_
    refine W.cond rfl (fun h2 => ?_) (fun h2 => ?_) -- cond 1
    ·
     have rh2 := h2
     (try simp only [Q1, Q2, Q3, Q4, Q5, Q6, Q7, Q8, Q9, Qa] at h2)
     exfalso; omega
    ·
     have rh2 := h2
     (try simp only [Q1, Q2, Q3, Q4, Q5, Q6, Q7, Q8, Q9, Qa] at h2)
     refine W.exit ?_
     refine Then.x ?_
     refine Then.x ?_
     refine InB.e ?_
     refine Then.nx ?_
     refine W.seq ?_
     refine W.seq ?_
     refine W.region rfl ?_
     refine WO.q (Y.assign (v := .int .i64 _) rfl) ?_
     refine WO.nil ?_
     refine Then.nx ?_
     refine W.block ?_
     -- loop 2 carries 10:n
     refine W.loop1 [2, 10, 11, 12, 13, 102, 103, 104, 105, 106, 107, 108, 109, 110, 111, 112, 113, 114, 115, 116, 117, 118, 119, 120, 121, 122, 123, 124, 125, 126, 127, 128, 129, 130, 131, 132, 133, 134, 135, 136, 137, 138, 139, 140, 141, 142, 143, 144, 145, 146, 147, 148, 149, 150, 151, 152, 153, 154, 155, 156, 157, 158, 159, 160, 161, 162, 163, 164, 165, 166, 167, 168, 169, 170, 171, 172, 173, 174, 175, 176, 177, 178, 179, 180, 181, 182] 10 (fun v10 w => v10 = .int .i64 0 ∧ Sat w0 w (Cel bg hdr 50 :: L)) (fun v10 w => 0) ?_ ?_
     ·
      first | exact ⟨rfl, S⟩ | exact ⟨rfl, rfl, S⟩
     ·
      rintro g2 v10 w ⟨rfl, S⟩
      refine W.seq ?_
      refine W.seq ?_
      refine W.region rfl ?_
      refine WO.q (Y.move (v := .int .i64 _) rfl) ?_
      refine WO.q (Y.move (v := .slice _ _ _) rfl) ?_
      refine WO.q (Y.len (t' := 0) Tryd.underlying36 rfl) ?_
      refine WO.q (Y.lss rfl rfl) ?_
      refine WO.nil ?_
      refine Then.nx ?_
      refine W.cond rfl (fun h3 => ?_) (fun h3 => ?_) -- cond 2
      ·
       have rh3 := h3
       (try simp only [Q1, Q2, Q3, Q4, Q5, Q6, Q7, Q8, Q9, Qa] at h3)
       exfalso; omega
      ·
       have rh3 := h3
       (try simp only [Q1, Q2, Q3, Q4, Q5, Q6, Q7, Q8, Q9, Qa] at h3)
       refine W.exit ?_
       refine Then.x ?_
       refine Then.x ?_
       refine InB.e ?_
       refine Then.nx ?_
       refine W.seq ?_
       refine W.region rfl ?_
       refine WO.q (Y.assign (v := .bool _) rfl) ?_
       refine WO.nil ?_
       refine Then.nx ?_
       refine W.ret ?_
       refine BodyQ.ret1 Tryd.results50 (ResV.tmp _ rfl) ?_
       exact ⟨rfl, S⟩
theorem apartLongs0_spec (w0 w : World) (bg : Nat) (hdr : List Value) (L : List HA) (hh : hdr[2]? = some (.slice none 0 0)) (S : Sat w0 w (Cel bg hdr 50 :: L)) :
    Calls Tryd.prog 51 [.pointer (some ⟨bg, 0, none⟩)].toArray w (fun e w' => e = .returned (.bool true) ∧ Sat w0 w' (Cel bg hdr 50 :: L)) := by
 refine calls_of_W (args := [.pointer (some ⟨bg, 0, none⟩)]) 183 Tryd.func51 rfl Tryd.ntmps51 rfl ?_
 refine W.seq ?_
 refine W.region rfl ?_
 refine WO.q (Y.assign (v := .bool _) rfl) ?_
 refine WO.nil ?_
 refine Then.nx ?_
 refine W.seq ?_
 refine W.seq ?_
 refine W.region rfl ?_
 refine WO.q (Y.assign (v := .int .i64 _) rfl) ?_
 refine WO.nil ?_
 refine Then.nx ?_
 refine W.block ?_
 -- loop 0 carries 3:n
 refine W.loop1 [3, 4, 14, 15, 16, 17, 18, 19, 20, 21, 22, 23, 24, 25, 26, 27, 28, 29, 30, 31, 32, 33, 34, 35, 36, 37, 38, 39, 40, 41, 42, 43, 44, 45, 46] 3 (fun v3 w => v3 = .int .i64 0 ∧ Sat w0 w (Cel bg hdr 50 :: L)) (fun v3 w => 0) ?_ ?_
 ·
  first | exact ⟨rfl, S⟩ | exact ⟨rfl, rfl, S⟩
 ·
  rintro g0 v3 w ⟨rfl, S⟩
  refine W.seq ?_
  refine W.seq ?_
  refine W.region rfl ?_
  refine WO.q (Y.move (v := .int .i64 _) rfl) ?_
  first | refine WO.q (Y.move (v := .pointer (some _)) rfl) ?_ | refine WO.q (Y.move (v := .pointer _) rfl) ?_
  refine WO.q (Y.nilP rfl) ?_
  first | refine WO.q (Y.fieldB fo_50_2 rfl) ?_ | refine WO.q (Y.fieldE fo_50_2 rfl) ?_
  first | refine WO.q (Y.load rfl (loadS1 sz_37 S 0 rfl hh)) ?_ | refine WO.q (Y.load rfl (loadS1 sz_37 S 0 rfl rfl)) ?_
  refine WO.q (Y.len (t' := 0) Tryd.underlying37 rfl) ?_
  refine WO.q (Y.lss rfl rfl) ?_
  refine WO.nil ?_
  refine Then.nx ?_
  refine W.cond rfl (fun h1 => ?_) (fun h1 => ?_) -- cond 0
  ·
   have rh1 := h1
   (try simp only [Q1, Q2, Q3, Q4, Q5, Q6, Q7, Q8, Q9, Qa] at h1)
   exfalso; omega
  ·
   have rh1 := h1
   (try simp only [Q1, Q2, Q3, Q4, Q5, Q6, Q7, Q8, Q9, Qa] at h1)
   refine W.exit ?_
   refine Then.x ?_
   refine Then.x ?_
   refine InB.e ?_
   refine Then.nx ?_
   refine W.seq ?_
   refine W.region rfl ?_
   refine WO.q (Y.assign (v := .slice _ _ _) rfl) ?_
   refine WO.q (Y.assign (v := .slice _ _ _) rfl) ?_
   refine WO.nil ?_
   refine Then.nx ?_
   refine W.seq ?_
   refine W.seq ?_
   refine W.region rfl ?_
   refine WO.q (Y.assign (v := .int .i64 _) rfl) ?_
   refine WO.nil ?_
   refine Then.nx ?_
   refine W.block ?_
   -- loop 1 carries 5:one, 6:more, 7:n
   refine W.loop3 [5, 6, 7, 8, 9, 47, 48, 49, 50, 51, 52, 53, 54, 55, 56, 57, 58, 59, 60, 61, 62, 63, 64, 65, 66, 67, 68, 69, 70, 71, 72, 73, 74, 75, 76, 77, 78, 79, 80, 81, 82, 83, 84, 85, 86, 87, 88, 89, 90, 91, 92, 93, 94, 95, 96, 97, 98, 99, 100, 101] 5 6 7 (fun v5 v6 v7 w => v7 = .int .i64 0 ∧ v6 = .slice none 0 0 ∧ Sat w0 w (Cel bg hdr 50 :: L)) (fun v5 v6 v7 w => 0) ?_ ?_
   ·
    first | exact ⟨rfl, S⟩ | exact ⟨rfl, rfl, S⟩
   ·
    rintro g1 v5 v6 v7 w ⟨rfl, rfl, S⟩
    refine W.seq ?_
    refine W.seq ?_
    refine W.region rfl ?_
    refine WO.q (Y.move (v := .int .i64 _) rfl) ?_
    first | refine WO.q (Y.move (v := .pointer (some _)) rfl) ?_ | refine WO.q (Y.move (v := .pointer _) rfl) ?_
    refine WO.q (Y.nilP rfl) ?_
    first | refine WO.q (Y.fieldB fo_50_2 rfl) ?_ | refine WO.q (Y.fieldE fo_50_2 rfl) ?_
    first | refine WO.q (Y.load rfl (loadS1 sz_37 S 0 rfl hh)) ?_ | refine WO.q (Y.load rfl (loadS1 sz_37 S 0 rfl rfl)) ?_
    refine WO.q (Y.len (t' := 0) Tryd.underlying37 rfl) ?_
    refine WO.q (Y.lss rfl rfl) ?_
    refine WO.nil ?_
    refine Then.nx ?_
    refine W.cond rfl (fun h2 => ?_) (fun h2 => ?_) -- cond 1
    ·
     have rh2 := h2
     (try simp only [Q1, Q2, Q3, Q4, Q5, Q6, Q7, Q8, Q9, Qa] at h2)
     exfalso; omega
    ·
     have rh2 := h2
     (try simp only [Q1, Q2, Q3, Q4, Q5, Q6, Q7, Q8, Q9, Qa] at h2)
     refine W.exit ?_
     refine Then.x ?_
     refine Then.x ?_
     refine InB.e ?_
     refine Then.nx ?_
     refine W.seq ?_
     refine W.seq ?_
     refine W.region rfl ?_
     refine WO.q (Y.assign (v := .int .i64 _) rfl) ?_
     refine WO.nil ?_
     refine Then.nx ?_
     refine W.block ?_
     -- loop 2 carries 10:n
     refine W.loop1 [2, 10, 11, 12, 13, 102, 103, 104, 105, 106, 107, 108, 109, 110, 111, 112, 113, 114, 115, 116, 117, 118, 119, 120, 121, 122, 123, 124, 125, 126, 127, 128, 129, 130, 131, 132, 133, 134, 135, 136, 137, 138, 139, 140, 141, 142, 143, 144, 145, 146, 147, 148, 149, 150, 151, 152, 153, 154, 155, 156, 157, 158, 159, 160, 161, 162, 163, 164, 165, 166, 167, 168, 169, 170, 171, 172, 173, 174, 175, 176, 177, 178, 179, 180, 181, 182] 10 (fun v10 w => v10 = .int .i64 0 ∧ Sat w0 w (Cel bg hdr 50 :: L)) (fun v10 w => 0) ?_ ?_
     ·
      first | exact ⟨rfl, S⟩ | exact ⟨rfl, rfl, S⟩
     ·
      rintro g2 v10 w ⟨rfl, S⟩
      refine W.seq ?_
      refine W.seq ?_
      refine W.region rfl ?_
      refine WO.q (Y.move (v := .int .i64 _) rfl) ?_
      refine WO.q (Y.move (v := .slice _ _ _) rfl) ?_
      refine WO.q (Y.len (t' := 0) Tryd.underlying37 rfl) ?_
      refine WO.q (Y.lss rfl rfl) ?_
      refine WO.nil ?_
      refine Then.nx ?_
      refine W.cond rfl (fun h3 => ?_) (fun h3 => ?_) -- cond 2
      ·
       have rh3 := h3
       (try simp only [Q1, Q2, Q3, Q4, Q5, Q6, Q7, Q8, Q9, Qa] at h3)
       exfalso; omega
      ·
       have rh3 := h3
       (try simp only [Q1, Q2, Q3, Q4, Q5, Q6, Q7, Q8, Q9, Qa] at h3)
       refine W.exit ?_
       refine Then.x ?_
       refine Then.x ?_
       refine InB.e ?_
       refine Then.nx ?_
       refine W.seq ?_
       refine W.region rfl ?_
       refine WO.q (Y.assign (v := .bool _) rfl) ?_
       refine WO.nil ?_
       refine Then.nx ?_
       refine W.ret ?_
       refine BodyQ.ret1 Tryd.results51 (ResV.tmp _ rfl) ?_
       exact ⟨rfl, S⟩
theorem apartSmalls0_spec (w0 w : World) (bg : Nat) (hdr : List Value) (L : List HA) (hh : hdr[3]? = some (.slice none 0 0)) (S : Sat w0 w (Cel bg hdr 50 :: L)) :
    Calls Tryd.prog 52 [.pointer (some ⟨bg, 0, none⟩)].toArray w (fun e w' => e = .returned (.bool true) ∧ Sat w0 w' (Cel bg hdr 50 :: L)) := by
 refine calls_of_W (args := [.pointer (some ⟨bg, 0, none⟩)]) 195 Tryd.func52 rfl Tryd.ntmps52 rfl ?_
 refine W.seq ?_
 refine W.region rfl ?_
 refine WO.q (Y.assign (v := .bool _) rfl) ?_
 refine WO.nil ?_
 refine Then.nx ?_
 refine W.seq ?_
 refine W.seq ?_
 refine W.region rfl ?_
 refine WO.q (Y.assign (v := .int .i64 _) rfl) ?_
 refine WO.nil ?_
 refine Then.nx ?_
 refine W.block ?_
 -- loop 0 carries 3:n
 refine W.loop1 [3, 4, 14, 15, 16, 17, 18, 19, 20, 21, 22, 23, 24, 25, 26, 27, 28, 29, 30, 31, 32, 33, 34, 35, 36, 37, 38, 39, 40, 41, 42, 43, 44, 45, 46, 47, 48, 49] 3 (fun v3 w => v3 = .int .i64 0 ∧ Sat w0 w (Cel bg hdr 50 :: L)) (fun v3 w => 0) ?_ ?_
 ·
  first | exact ⟨rfl, S⟩ | exact ⟨rfl, rfl, S⟩
 ·
  rintro g0 v3 w ⟨rfl, S⟩
  refine W.seq ?_
  refine W.seq ?_
  refine W.region rfl ?_
  refine WO.q (Y.move (v := .int .i64 _) rfl) ?_
  first | refine WO.q (Y.move (v := .pointer (some _)) rfl) ?_ | refine WO.q (Y.move (v := .pointer _) rfl) ?_
  refine WO.q (Y.nilP rfl) ?_
  first | refine WO.q (Y.fieldB fo_50_3 rfl) ?_ | refine WO.q (Y.fieldE fo_50_3 rfl) ?_
  first | refine WO.q (Y.load rfl (loadS1 sz_38 S 0 rfl hh)) ?_ | refine WO.q (Y.load rfl (loadS1 sz_38 S 0 rfl rfl)) ?_
  refine WO.q (Y.len (t' := 0) Tryd.underlying38 rfl) ?_
  refine WO.q (Y.lss rfl rfl) ?_
  refine WO.nil ?_
  refine Then.nx ?_
  refine W.cond rfl (fun h1 => ?_) (fun h1 => ?_) -- cond 0
  ·
   have rh1 := h1
   (try simp only [Q1, Q2, Q3, Q4, Q5, Q6, Q7, Q8, Q9, Qa] at h1)
   exfalso; omega
  ·
   have rh1 := h1
   (try simp only [Q1, Q2, Q3, Q4, Q5, Q6, Q7, Q8, Q9, Qa] at h1)
   refine W.exit ?_
   refine Then.x ?_
   refine Then.x ?_
   refine InB.e ?_
   refine Then.nx ?_
   refine W.seq ?_
   refine W.region rfl ?_
   refine WO.q (Y.assign (v := .slice _ _ _) rfl) ?_
   refine WO.q (Y.assign (v := .slice _ _ _) rfl) ?_
   refine WO.nil ?_
   refine Then.nx ?_
   refine W.seq ?_
   refine W.seq ?_
   refine W.region rfl ?_
   refine WO.q (Y.assign (v := .int .i64 _) rfl) ?_
   refine WO.nil ?_
   refine Then.nx ?_
   refine W.block ?_
   -- loop 1 carries 5:one, 6:more, 7:n
   refine W.loop3 [5, 6, 7, 8, 9, 50, 51, 52, 53, 54, 55, 56, 57, 58, 59, 60, 61, 62, 63, 64, 65, 66, 67, 68, 69, 70, 71, 72, 73, 74, 75, 76, 77, 78, 79, 80, 81, 82, 83, 84, 85, 86, 87, 88, 89, 90, 91, 92, 93, 94, 95, 96, 97, 98, 99, 100, 101, 102, 103, 104, 105, 106, 107] 5 6 7 (fun v5 v6 v7 w => v7 = .int .i64 0 ∧ v6 = .slice none 0 0 ∧ Sat w0 w (Cel bg hdr 50 :: L)) (fun v5 v6 v7 w => 0) ?_ ?_
   ·
    first | exact ⟨rfl, S⟩ | exact ⟨rfl, rfl, S⟩
   ·
    rintro g1 v5 v6 v7 w ⟨rfl, rfl, S⟩
    refine W.seq ?_
    refine W.seq ?_
    refine W.region rfl ?_
    refine WO.q (Y.move (v := .int .i64 _) rfl) ?_
    first | refine WO.q (Y.move (v := .pointer (some _)) rfl) ?_ | refine WO.q (Y.move (v := .pointer _) rfl) ?_
    refine WO.q (Y.nilP rfl) ?_
    first | refine WO.q (Y.fieldB fo_50_3 rfl) ?_ | refine WO.q (Y.fieldE fo_50_3 rfl) ?_
    first | refine WO.q (Y.load rfl (loadS1 sz_38 S 0 rfl hh)) ?_ | refine WO.q (Y.load rfl (loadS1 sz_38 S 0 rfl rfl)) ?_
    refine WO.q (Y.len (t' := 0) Tryd.underlying38 rfl) ?_
    refine WO.q (Y.lss rfl rfl) ?_
    refine WO.nil ?_
    refine Then.nx ?_
    refine W.cond rfl (fun h2 => ?_) (fun h2 => ?_) -- cond 1
    ·
     have rh2 := h2
     (try simp only [Q1, Q2, Q3, Q4, Q5, Q6, Q7, Q8, Q9, Qa] at h2)
     exfalso; omega
    ·
     have rh2 := h2
     (try simp only [Q1, Q2, Q3, Q4, Q5, Q6, Q7, Q8, Q9, Qa] at h2)
     refine W.exit ?_
     refine Then.x ?_
     refine Then.x ?_
     refine InB.e ?_
     refine Then.nx ?_
     refine W.seq ?_
     refine W.seq ?_
     refine W.region rfl ?_
     refine WO.q (Y.assign (v := .int .i64 _) rfl) ?_
     refine WO.nil ?_
     refine Then.nx ?_
     refine W.block ?_
     -- loop 2 carries 10:n
     refine W.loop1 [2, 10, 11, 12, 13, 108, 109, 110, 111, 112, 113, 114, 115, 116, 117, 118, 119, 120, 121, 122, 123, 124, 125, 126, 127, 128, 129, 130, 131, 132, 133, 134, 135, 136, 137, 138, 139, 140, 141, 142, 143, 144, 145, 146, 147, 148, 149, 150, 151, 152, 153, 154, 155, 156, 157, 158, 159, 160, 161, 162, 163, 164, 165, 166, 167, 168, 169, 170, 171, 172, 173, 174, 175, 176, 177, 178, 179, 180, 181, 182, 183, 184, 185, 186, 187, 188, 189, 190, 191, 192, 193, 194] 10 (fun v10 w => v10 = .int .i64 0 ∧ Sat w0 w (Cel bg hdr 50 :: L)) (fun v10 w => 0) ?_ ?_
     ·
      first | exact ⟨rfl, S⟩ | exact ⟨rfl, rfl, S⟩
     ·
      rintro g2 v10 w ⟨rfl, S⟩
      refine W.seq ?_
      refine W.seq ?_
      refine W.region rfl ?_
      refine WO.q (Y.move (v := .int .i64 _) rfl) ?_
      refine WO.q (Y.move (v := .slice _ _ _) rfl) ?_
      refine WO.q (Y.len (t' := 0) Tryd.underlying38 rfl) ?_
      refine WO.q (Y.lss rfl rfl) ?_
      refine WO.nil ?_
      refine Then.nx ?_
      refine W.cond rfl (fun h3 => ?_) (fun h3 => ?_) -- cond 2
      ·
       have rh3 := h3
       (try simp only [Q1, Q2, Q3, Q4, Q5, Q6, Q7, Q8, Q9, Qa] at h3)
       exfalso; omega
      ·
       have rh3 := h3
       (try simp only [Q1, Q2, Q3, Q4, Q5, Q6, Q7, Q8, Q9, Qa] at h3)
       refine W.exit ?_
       refine Then.x ?_
       refine Then.x ?_
       refine InB.e ?_
       refine Then.nx ?_
       refine W.seq ?_
       refine W.region rfl ?_
       refine WO.q (Y.assign (v := .bool _) rfl) ?_
       refine WO.nil ?_
       refine Then.nx ?_
       refine W.ret ?_
       refine BodyQ.ret1 Tryd.results52 (ResV.tmp _ rfl) ?_
       exact ⟨rfl, S⟩
theorem apartBools0_spec (w0 w : World) (bg : Nat) (hdr : List Value) (L : List HA) (hh : hdr[4]? = some (.slice none 0 0)) (S : Sat w0 w (Cel bg hdr 50 :: L)) :
    Calls Tryd.prog 53 [.pointer (some ⟨bg, 0, none⟩)].toArray w (fun e w' => e = .returned (.bool true) ∧ Sat w0 w' (Cel bg hdr 50 :: L)) := by
 refine calls_of_W (args := [.pointer (some ⟨bg, 0, none⟩)]) 199 Tryd.func53 rfl Tryd.ntmps53 rfl ?_
 refine W.seq ?_
 refine W.region rfl ?_
 refine WO.q (Y.assign (v := .bool _) rfl) ?_
 refine WO.nil ?_
 refine Then.nx ?_
 refine W.seq ?_
 refine W.seq ?_
 refine W.region rfl ?_
 refine WO.q (Y.assign (v := .int .i64 _) rfl) ?_
 refine WO.nil ?_
 refine Then.nx ?_
 refine W.block ?_
 -- loop 0 carries 3:n
 refine W.loop1 [3, 4, 14, 15, 16, 17, 18, 19, 20, 21, 22, 23, 24, 25, 26, 27, 28, 29, 30, 31, 32, 33, 34, 35, 36, 37, 38, 39, 40, 41, 42, 43, 44, 45, 46, 47, 48, 49, 50] 3 (fun v3 w => v3 = .int .i64 0 ∧ Sat w0 w (Cel bg hdr 50 :: L)) (fun v3 w => 0) ?_ ?_
 ·
  first | exact ⟨rfl, S⟩ | exact ⟨rfl, rfl, S⟩
 ·
  rintro g0 v3 w ⟨rfl, S⟩
  refine W.seq ?_
  refine W.seq ?_
  refine W.region rfl ?_
  refine WO.q (Y.move (v := .int .i64 _) rfl) ?_
  first | refine WO.q (Y.move (v := .pointer (some _)) rfl) ?_ | refine WO.q (Y.move (v := .pointer _) rfl) ?_
  refine WO.q (Y.nilP rfl) ?_
  first | refine WO.q (Y.fieldB fo_50_4 rfl) ?_ | refine WO.q (Y.fieldE fo_50_4 rfl) ?_
  first | refine WO.q (Y.load rfl (loadS1 sz_39 S 0 rfl hh)) ?_ | refine WO.q (Y.load rfl (loadS1 sz_39 S 0 rfl rfl)) ?_
  refine WO.q (Y.len (t' := 0) Tryd.underlying39 rfl) ?_
  refine WO.q (Y.lss rfl rfl) ?_
  refine WO.nil ?_
  refine Then.nx ?_
  refine W.cond rfl (fun h1 => ?_) (fun h1 => ?_) -- cond 0
  ·
   have rh1 := h1
   (try simp only [Q1, Q2, Q3, Q4, Q5, Q6, Q7, Q8, Q9, Qa] at h1)
   exfalso; omega
  ·
   have rh1 := h1
   (try simp only [Q1, Q2, Q3, Q4, Q5, Q6, Q7, Q8, Q9, Qa] at h1)
   refine W.exit ?_
   refine Then.x ?_
   refine Then.x ?_
   refine InB.e ?_
   refine Then.nx ?_
   refine W.seq ?_
   refine W.region rfl ?_
   refine WO.q (Y.assign (v := .slice _ _ _) rfl) ?_
   refine WO.q (Y.assign (v := .slice _ _ _) rfl) ?_
   refine WO.nil ?_
   refine Then.nx ?_
   refine W.seq ?_
   refine W.seq ?_
   refine W.region rfl ?_
   refine WO.q (Y.assign (v := .int .i64 _) rfl) ?_
   refine WO.nil ?_
   refine Then.nx ?_
   refine W.block ?_
   -- loop 1 carries 5:one, 6:more, 7:n
   refine W.loop3 [5, 6, 7, 8, 9, 51, 52, 53, 54, 55, 56, 57, 58, 59, 60, 61, 62, 63, 64, 65, 66, 67, 68, 69, 70, 71, 72, 73, 74, 75, 76, 77, 78, 79, 80, 81, 82, 83, 84, 85, 86, 87, 88, 89, 90, 91, 92, 93, 94, 95, 96, 97, 98, 99, 100, 101, 102, 103, 104, 105, 106, 107, 108, 109] 5 6 7 (fun v5 v6 v7 w => v7 = .int .i64 0 ∧ v6 = .slice none 0 0 ∧ Sat w0 w (Cel bg hdr 50 :: L)) (fun v5 v6 v7 w => 0) ?_ ?_
   ·
    first | exact ⟨rfl, S⟩ | exact ⟨rfl, rfl, S⟩
   ·
    rintro g1 v5 v6 v7 w ⟨rfl, rfl, S⟩
    refine W.seq ?_
    refine W.seq ?_
    refine W.region rfl ?_
    refine WO.q (Y.move (v := .int .i64 _) rfl) ?_
    first | refine WO.q (Y.move (v := .pointer (some _)) rfl) ?_ | refine WO.q (Y.move (v := .pointer _) rfl) ?_
    refine WO.q (Y.nilP rfl) ?_
    first | refine WO.q (Y.fieldB fo_50_4 rfl) ?_ | refine WO.q (Y.fieldE fo_50_4 rfl) ?_
    first | refine WO.q (Y.load rfl (loadS1 sz_39 S 0 rfl hh)) ?_ | refine WO.q (Y.load rfl (loadS1 sz_39 S 0 rfl rfl)) ?_
    refine WO.q (Y.len (t' := 0) Tryd.underlying39 rfl) ?_
    refine WO.q (Y.lss rfl rfl) ?_
    refine WO.nil ?_
    refine Then.nx ?_
    refine W.cond rfl (fun h2 => ?_) (fun h2 => ?_) -- cond 1
    ·
     have rh2 := h2
     (try simp only [Q1, Q2, Q3, Q4, Q5, Q6, Q7, Q8, Q9, Qa] at h2)
     exfalso; omega
    ·
     have rh2 := h2
     (try simp only [Q1, Q2, Q3, Q4, Q5, Q6, Q7, Q8, Q9, Qa] at h2)
     refine W.exit ?_
     refine Then.x ?_
     refine Then.x ?_
     refine InB.e ?_
     refine Then.nx ?_
     refine W.seq ?_
     refine W.seq ?_
     refine W.region rfl ?_
     refine WO.q (Y.assign (v := .int .i64 _) rfl) ?_
     refine WO.nil ?_
     refine Then.nx ?_
     refine W.block ?_
     -- loop 2 carries 10:n
     refine W.loop1 [2, 10, 11, 12, 13, 110, 111, 112, 113, 114, 115, 116, 117, 118, 119, 120, 121, 122, 123, 124, 125, 126, 127, 128, 129, 130, 131, 132, 133, 134, 135, 136, 137, 138, 139, 140, 141, 142, 143, 144, 145, 146, 147, 148, 149, 150, 151, 152, 153, 154, 155, 156, 157, 158, 159, 160, 161, 162, 163, 164, 165, 166, 167, 168, 169, 170, 171, 172, 173, 174, 175, 176, 177, 178, 179, 180, 181, 182, 183, 184, 185, 186, 187, 188, 189, 190, 191, 192, 193, 194, 195, 196, 197, 198] 10 (fun v10 w => v10 = .int .i64 0 ∧ Sat w0 w (Cel bg hdr 50 :: L)) (fun v10 w => 0) ?_ ?_
     ·
      first | exact ⟨rfl, S⟩ | exact ⟨rfl, rfl, S⟩
     ·
      rintro g2 v10 w ⟨rfl, S⟩
      refine W.seq ?_
      refine W.seq ?_
      refine W.region rfl ?_
      refine WO.q (Y.move (v := .int .i64 _) rfl) ?_
      refine WO.q (Y.move (v := .slice _ _ _) rfl) ?_
      refine WO.q (Y.len (t' := 0) Tryd.underlying39 rfl) ?_
      refine WO.q (Y.lss rfl rfl) ?_
      refine WO.nil ?_
      refine Then.nx ?_
      refine W.cond rfl (fun h3 => ?_) (fun h3 => ?_) -- cond 2
      ·
       have rh3 := h3
       (try simp only [Q1, Q2, Q3, Q4, Q5, Q6, Q7, Q8, Q9, Qa] at h3)
       exfalso; omega
      ·
       have rh3 := h3
       (try simp only [Q1, Q2, Q3, Q4, Q5, Q6, Q7, Q8, Q9, Qa] at h3)
       refine W.exit ?_
       refine Then.x ?_
       refine Then.x ?_
       refine InB.e ?_
       refine Then.nx ?_
       refine W.seq ?_
       refine W.region rfl ?_
       refine WO.q (Y.assign (v := .bool _) rfl) ?_
       refine WO.nil ?_
       refine Then.nx ?_
       refine W.ret ?_
       refine BodyQ.ret1 Tryd.results53 (ResV.tmp _ rfl) ?_
       exact ⟨rfl, S⟩
theorem apartTexts0_spec (w0 w : World) (bg : Nat) (hdr : List Value) (L : List HA) (hh : hdr[5]? = some (.slice none 0 0)) (S : Sat w0 w (Cel bg hdr 50 :: L)) :
    Calls Tryd.prog 54 [.pointer (some ⟨bg, 0, none⟩)].toArray w (fun e w' => e = .returned (.bool true) ∧ Sat w0 w' (Cel bg hdr 50 :: L)) := by
 refine calls_of_W (args := [.pointer (some ⟨bg, 0, none⟩)]) 183 Tryd.func54 rfl Tryd.ntmps54 rfl ?_
 refine W.seq ?_
 refine W.region rfl ?_
 refine WO.q (Y.assign (v := .bool _) rfl) ?_
 refine WO.nil ?_
 refine Then.nx ?_
 refine W.seq ?_
 refine W.seq ?_
 refine W.region rfl ?_
 refine WO.q (Y.assign (v := .int .i64 _) rfl) ?_
 refine WO.nil ?_
 refine Then.nx ?_
 refine W.block ?_
 -- loop 0 carries 3:n
 refine W.loop1 [3, 4, 14, 15, 16, 17, 18, 19, 20, 21, 22, 23, 24, 25, 26, 27, 28, 29, 30, 31, 32, 33, 34, 35, 36, 37, 38, 39, 40, 41, 42, 43, 44, 45, 46] 3 (fun v3 w => v3 = .int .i64 0 ∧ Sat w0 w (Cel bg hdr 50 :: L)) (fun v3 w => 0) ?_ ?_
 ·
  first | exact ⟨rfl, S⟩ | exact ⟨rfl, rfl, S⟩
 ·
  rintro g0 v3 w ⟨rfl, S⟩
  refine W.seq ?_
  refine W.seq ?_
  refine W.region rfl ?_
  refine WO.q (Y.move (v := .int .i64 _) rfl) ?_
  first | refine WO.q (Y.move (v := .pointer (some _)) rfl) ?_ | refine WO.q (Y.move (v := .pointer _) rfl) ?_
  refine WO.q (Y.nilP rfl) ?_
  first | refine WO.q (Y.fieldB fo_50_5 rfl) ?_ | refine WO.q (Y.fieldE fo_50_5 rfl) ?_
  first | refine WO.q (Y.load rfl (loadS1 sz_40 S 0 rfl hh)) ?_ | refine WO.q (Y.load rfl (loadS1 sz_40 S 0 rfl rfl)) ?_
  refine WO.q (Y.len (t' := 0) Tryd.underlying40 rfl) ?_
  refine WO.q (Y.lss rfl rfl) ?_
  refine WO.nil ?_
  refine Then.nx ?_
  refine W.cond rfl (fun h1 => ?_) (fun h1 => ?_) -- cond 0
  ·
   have rh1 := h1
   (try simp only [Q1, Q2, Q3, Q4, Q5, Q6, Q7, Q8, Q9, Qa] at h1)
   exfalso; omega
  ·
   have rh1 := h1
   (try simp only [Q1, Q2, Q3, Q4, Q5, Q6, Q7, Q8, Q9, Qa] at h1)
   refine W.exit ?_
   refine Then.x ?_
   refine Then.x ?_
   refine InB.e ?_
   refine Then.nx ?_
   refine W.seq ?_
   refine W.region rfl ?_
   refine WO.q (Y.assign (v := .slice _ _ _) rfl) ?_
   refine WO.q (Y.assign (v := .slice _ _ _) rfl) ?_
   refine WO.nil ?_
   refine Then.nx ?_
   refine W.seq ?_
   refine W.seq ?_
   refine W.region rfl ?_
   refine WO.q (Y.assign (v := .int .i64 _) rfl) ?_
   refine WO.nil ?_
   refine Then.nx ?_
   refine W.block ?_
   -- loop 1 carries 5:one, 6:more, 7:n
   refine W.loop3 [5, 6, 7, 8, 9, 47, 48, 49, 50, 51, 52, 53, 54, 55, 56, 57, 58, 59, 60, 61, 62, 63, 64, 65, 66, 67, 68, 69, 70, 71, 72, 73, 74, 75, 76, 77, 78, 79, 80, 81, 82, 83, 84, 85, 86, 87, 88, 89, 90, 91, 92, 93, 94, 95, 96, 97, 98, 99, 100, 101] 5 6 7 (fun v5 v6 v7 w => v7 = .int .i64 0 ∧ v6 = .slice none 0 0 ∧ Sat w0 w (Cel bg hdr 50 :: L)) (fun v5 v6 v7 w => 0) ?_ ?_
   ·
    first | exact ⟨rfl, S⟩ | exact ⟨rfl, rfl, S⟩
   ·
    rintro g1 v5 v6 v7 w ⟨rfl, rfl, S⟩
    refine W.seq ?_
    refine W.seq ?_
    refine W.region rfl ?_
    refine WO.q (Y.move (v := .int .i64 _) rfl) ?_
    first | refine WO.q (Y.move (v := .pointer (some _)) rfl) ?_ | refine WO.q (Y.move (v := .pointer _) rfl) ?_
    refine WO.q (Y.nilP rfl) ?_
    first | refine WO.q (Y.fieldB fo_50_5 rfl) ?_ | refine WO.q (Y.fieldE fo_50_5 rfl) ?_
    first | refine WO.q (Y.load rfl (loadS1 sz_40 S 0 rfl hh)) ?_ | refine WO.q (Y.load rfl (loadS1 sz_40 S 0 rfl rfl)) ?_
    refine WO.q (Y.len (t' := 0) Tryd.underlying40 rfl) ?_
    refine WO.q (Y.lss rfl rfl) ?_
    refine WO.nil ?_
    refine Then.nx ?_
    refine W.cond rfl (fun h2 => ?_) (fun h2 => ?_) -- cond 1
    ·
     have rh2 := h2
     (try simp only [Q1, Q2, Q3, Q4, Q5, Q6, Q7, Q8, Q9, Qa] at h2)
     exfalso; omega
    ·
     have rh2 := h2
     (try simp only [Q1, Q2, Q3, Q4, Q5, Q6, Q7, Q8, Q9, Qa] at h2)
     refine W.exit ?_
     refine Then.x ?_
     refine Then.x ?_
     refine InB.e ?_
     refine Then.nx ?_
     refine W.seq ?_
     refine W.seq ?_
     refine W.region rfl ?_
     refine WO.q (Y.assign (v := .int .i64 _) rfl) ?_
     refine WO.nil ?_
     refine Then.nx ?_
     refine W.block ?_
     -- loop 2 carries 10:n
     refine W.loop1 [2, 10, 11, 12, 13, 102, 103, 104, 105, 106, 107, 108, 109, 110, 111, 112, 113, 114, 115, 116, 117, 118, 119, 120, 121, 122, 123, 124, 125, 126, 127, 128, 129, 130, 131, 132, 133, 134, 135, 136, 137, 138, 139, 140, 141, 142, 143, 144, 145, 146, 147, 148, 149, 150, 151, 152, 153, 154, 155, 156, 157, 158, 159, 160, 161, 162, 163, 164, 165, 166, 167, 168, 169, 170, 171, 172, 173, 174, 175, 176, 177, 178, 179, 180, 181, 182] 10 (fun v10 w => v10 = .int .i64 0 ∧ Sat w0 w (Cel bg hdr 50 :: L)) (fun v10 w => 0) ?_ ?_
     ·
      first | exact ⟨rfl, S⟩ | exact ⟨rfl, rfl, S⟩
     ·
      rintro g2 v10 w ⟨rfl, S⟩
      refine W.seq ?_
      refine W.seq ?_
      refine W.region rfl ?_
      refine WO.q (Y.move (v := .int .i64 _) rfl) ?_
      refine WO.q (Y.move (v := .slice _ _ _) rfl) ?_
      refine WO.q (Y.len (t' := 0) Tryd.underlying40 rfl) ?_
      refine WO.q (Y.lss rfl rfl) ?_
      refine WO.nil ?_
      refine Then.nx ?_
      refine W.cond rfl (fun h3 => ?_) (fun h3 => ?_) -- cond 2
      ·
       have rh3 := h3
       (try simp only [Q1, Q2, Q3, Q4, Q5, Q6, Q7, Q8, Q9, Qa] at h3)
       exfalso; omega
      ·
       have rh3 := h3
       (try simp only [Q1, Q2, Q3, Q4, Q5, Q6, Q7, Q8, Q9, Qa] at h3)
       refine W.exit ?_
       refine Then.x ?_
       refine Then.x ?_
       refine InB.e ?_
       refine Then.nx ?_
       refine W.seq ?_
       refine W.region rfl ?_
       refine WO.q (Y.assign (v := .bool _) rfl) ?_
       refine WO.nil ?_
       refine Then.nx ?_
       refine W.ret ?_
       refine BodyQ.ret1 Tryd.results54 (ResV.tmp _ rfl) ?_
       exact ⟨rfl, S⟩
theorem apartAccesses0_spec (w0 w : World) (bg : Nat) (hdr : List Value) (L : List HA) (hh : hdr[6]? = some (.slice none 0 0)) (S : Sat w0 w (Cel bg hdr 50 :: L)) :
    Calls Tryd.prog 55 [.pointer (some ⟨bg, 0, none⟩)].toArray w (fun e w' => e = .returned (.bool true) ∧ Sat w0 w' (Cel bg hdr 50 :: L)) := by
 refine calls_of_W (args := [.pointer (some ⟨bg, 0, none⟩)]) 187 Tryd.func55 rfl Tryd.ntmps55 rfl ?_
 refine W.seq ?_
 refine W.region rfl ?_
 refine WO.q (Y.assign (v := .bool _) rfl) ?_
 refine WO.nil ?_
 refine Then.nx ?_
 refine W.seq ?_
 refine W.seq ?_
 refine W.region rfl ?_
 refine WO.q (Y.assign (v := .int .i64 _) rfl) ?_
 refine WO.nil ?_
 refine Then.nx ?_
 refine W.block ?_
 -- loop 0 carries 3:n
 refine W.loop1 [3, 4, 14, 15, 16, 17, 18, 19, 20, 21, 22, 23, 24, 25, 26, 27, 28, 29, 30, 31, 32, 33, 34, 35, 36, 37, 38, 39, 40, 41, 42, 43, 44, 45, 46, 47] 3 (fun v3 w => v3 = .int .i64 0 ∧ Sat w0 w (Cel bg hdr 50 :: L)) (fun v3 w => 0) ?_ ?_
 ·
  first | exact ⟨rfl, S⟩ | exact ⟨rfl, rfl, S⟩
 ·
  rintro g0 v3 w ⟨rfl, S⟩
  refine W.seq ?_
  refine W.seq ?_
  refine W.region rfl ?_
  refine WO.q (Y.move (v := .int .i64 _) rfl) ?_
  first | refine WO.q (Y.move (v := .pointer (some _)) rfl) ?_ | refine WO.q (Y.move (v := .pointer _) rfl) ?_
  refine WO.q (Y.nilP rfl) ?_
  first | refine WO.q (Y.fieldB fo_50_6 rfl) ?_ | refine WO.q (Y.fieldE fo_50_6 rfl) ?_
  first | refine WO.q (Y.load rfl (loadS1 sz_41 S 0 rfl hh)) ?_ | refine WO.q (Y.load rfl (loadS1 sz_41 S 0 rfl rfl)) ?_
  refine WO.q (Y.len (t' := 0) Tryd.underlying41 rfl) ?_
  refine WO.q (Y.lss rfl rfl) ?_
  refine WO.nil ?_
  refine Then.nx ?_
  refine W.cond rfl (fun h1 => ?_) (fun h1 => ?_) -- cond 0
  ·
   have rh1 := h1
   (try simp only [Q1, Q2, Q3, Q4, Q5, Q6, Q7, Q8, Q9, Qa] at h1)
   exfalso; omega
  ·
   have rh1 := h1
   (try simp only [Q1, Q2, Q3, Q4, Q5, Q6, Q7, Q8, Q9, Qa] at h1)
   refine W.exit ?_
   refine Then.x ?_
   refine Then.x ?_
   refine InB.e ?_
   refine Then.nx ?_
   refine W.seq ?_
   refine W.region rfl ?_
   refine WO.q (Y.assign (v := .slice _ _ _) rfl) ?_
   refine WO.q (Y.assign (v := .slice _ _ _) rfl) ?_
   refine WO.nil ?_
   refine Then.nx ?_
   refine W.seq ?_
   refine W.seq ?_
   refine W.region rfl ?_
   refine WO.q (Y.assign (v := .int .i64 _) rfl) ?_
   refine WO.nil ?_
   refine Then.nx ?_
   refine W.block ?_
   -- loop 1 carries 5:one, 6:more, 7:n
   refine W.loop3 [5, 6, 7, 8, 9, 48, 49, 50, 51, 52, 53, 54, 55, 56, 57, 58, 59, 60, 61, 62, 63, 64, 65, 66, 67, 68, 69, 70, 71, 72, 73, 74, 75, 76, 77, 78, 79, 80, 81, 82, 83, 84, 85, 86, 87, 88, 89, 90, 91, 92, 93, 94, 95, 96, 97, 98, 99, 100, 101, 102, 103] 5 6 7 (fun v5 v6 v7 w => v7 = .int .i64 0 ∧ v6 = .slice none 0 0 ∧ Sat w0 w (Cel bg hdr 50 :: L)) (fun v5 v6 v7 w => 0) ?_ ?_
   ·
    first | exact ⟨rfl, S⟩ | exact ⟨rfl, rfl, S⟩
   ·
    rintro g1 v5 v6 v7 w ⟨rfl, rfl, S⟩
    refine W.seq ?_
    refine W.seq ?_
    refine W.region rfl ?_
    refine WO.q (Y.move (v := .int .i64 _) rfl) ?_
    first | refine WO.q (Y.move (v := .pointer (some _)) rfl) ?_ | refine WO.q (Y.move (v := .pointer _) rfl) ?_
    refine WO.q (Y.nilP rfl) ?_
    first | refine WO.q (Y.fieldB fo_50_6 rfl) ?_ | refine WO.q (Y.fieldE fo_50_6 rfl) ?_
    first | refine WO.q (Y.load rfl (loadS1 sz_41 S 0 rfl hh)) ?_ | refine WO.q (Y.load rfl (loadS1 sz_41 S 0 rfl rfl)) ?_
    refine WO.q (Y.len (t' := 0) Tryd.underlying41 rfl) ?_
    refine WO.q (Y.lss rfl rfl) ?_
    refine WO.nil ?_
    refine Then.nx ?_
    refine W.cond rfl (fun h2 => ?_) (fun h2 => ?_) -- cond 1
    ·
     have rh2 := h2
     (try simp only [Q1, Q2, Q3, Q4, Q5, Q6, Q7, Q8, Q9, Qa] at h2)
     exfalso; omega
    ·
     have rh2 := h2
     (try simp only [Q1, Q2, Q3, Q4, Q5, Q6, Q7, Q8, Q9, Qa] at h2)
     refine W.exit ?_
     refine Then.x ?_
     refine Then.x ?_
     refine InB.e ?_
     refine Then.nx ?_
     refine W.seq ?_
     refine W.seq ?_
     refine W.region rfl ?_
     refine WO.q (Y.assign (v := .int .i64 _) rfl) ?_
     refine WO.nil ?_
     refine Then.nx ?_
     refine W.block ?_
     -- loop 2 carries 10:n
     refine W.loop1 [2, 10, 11, 12, 13, 104, 105, 106, 107, 108, 109, 110, 111, 112, 113, 114, 115, 116, 117, 118, 119, 120, 121, 122, 123, 124, 125, 126, 127, 128, 129, 130, 131, 132, 133, 134, 135, 136, 137, 138, 139, 140, 141, 142, 143, 144, 145, 146, 147, 148, 149, 150, 151, 152, 153, 154, 155, 156, 157, 158, 159, 160, 161, 162, 163, 164, 165, 166, 167, 168, 169, 170, 171, 172, 173, 174, 175, 176, 177, 178, 179, 180, 181, 182, 183, 184, 185, 186] 10 (fun v10 w => v10 = .int .i64 0 ∧ Sat w0 w (Cel bg hdr 50 :: L)) (fun v10 w => 0) ?_ ?_
     ·
      first | exact ⟨rfl, S⟩ | exact ⟨rfl, rfl, S⟩
     ·
      rintro g2 v10 w ⟨rfl, S⟩
      refine W.seq ?_
      refine W.seq ?_
      refine W.region rfl ?_
      refine WO.q (Y.move (v := .int .i64 _) rfl) ?_
      refine WO.q (Y.move (v := .slice _ _ _) rfl) ?_
      refine WO.q (Y.len (t' := 0) Tryd.underlying41 rfl) ?_
      refine WO.q (Y.lss rfl rfl) ?_
      refine WO.nil ?_
      refine Then.nx ?_
      refine W.cond rfl (fun h3 => ?_) (fun h3 => ?_) -- cond 2
      ·
       have rh3 := h3
       (try simp only [Q1, Q2, Q3, Q4, Q5, Q6, Q7, Q8, Q9, Qa] at h3)
       exfalso; omega
      ·
       have rh3 := h3
       (try simp only [Q1, Q2, Q3, Q4, Q5, Q6, Q7, Q8, Q9, Qa] at h3)
       refine W.exit ?_
       refine Then.x ?_
       refine Then.x ?_
       refine InB.e ?_
       refine Then.nx ?_
       refine W.seq ?_
       refine W.region rfl ?_
       refine WO.q (Y.assign (v := .bool _) rfl) ?_
       refine WO.nil ?_
       refine Then.nx ?_
       refine W.ret ?_
       refine BodyQ.ret1 Tryd.results55 (ResV.tmp _ rfl) ?_
       exact ⟨rfl, S⟩
theorem apartCalls0_spec (w0 w : World) (bg : Nat) (hdr : List Value) (L : List HA) (hh : hdr[7]? = some (.slice none 0 0)) (S : Sat w0 w (Cel bg hdr 50 :: L)) :
    Calls Tryd.prog 56 [.pointer (some ⟨bg, 0, none⟩)].toArray w (fun e w' => e = .returned (.bool true) ∧ Sat w0 w' (Cel bg hdr 50 :: L)) := by
 refine calls_of_W (args := [.pointer (some ⟨bg, 0, none⟩)]) 187 Tryd.func56 rfl Tryd.ntmps56 rfl ?_
 refine W.seq ?_
 refine W.region rfl ?_
 refine WO.q (Y.assign (v := .bool _) rfl) ?_
 refine WO.nil ?_
 refine Then.nx ?_
 refine W.seq ?_
 refine W.seq ?_
 refine W.region rfl ?_
 refine WO.q (Y.assign (v := .int .i64 _) rfl) ?_
 refine WO.nil ?_
 refine Then.nx ?_
 refine W.block ?_
 -- loop 0 carries 3:n
 refine W.loop1 [3, 4, 14, 15, 16, 17, 18, 19, 20, 21, 22, 23, 24, 25, 26, 27, 28, 29, 30, 31, 32, 33, 34, 35, 36, 37, 38, 39, 40, 41, 42, 43, 44, 45, 46, 47] 3 (fun v3 w => v3 = .int .i64 0 ∧ Sat w0 w (Cel bg hdr 50 :: L)) (fun v3 w => 0) ?_ ?_
 ·
  first | exact ⟨rfl, S⟩ | exact ⟨rfl, rfl, S⟩
 ·
  rintro g0 v3 w ⟨rfl, S⟩
  refine W.seq ?_
  refine W.seq ?_
  refine W.region rfl ?_
  refine WO.q (Y.move (v := .int .i64 _) rfl) ?_
  first | refine WO.q (Y.move (v := .pointer (some _)) rfl) ?_ | refine WO.q (Y.move (v := .pointer _) rfl) ?_
  refine WO.q (Y.nilP rfl) ?_
  first | refine WO.q (Y.fieldB fo_50_7 rfl) ?_ | refine WO.q (Y.fieldE fo_50_7 rfl) ?_
  first | refine WO.q (Y.load rfl (loadS1 sz_42 S 0 rfl hh)) ?_ | refine WO.q (Y.load rfl (loadS1 sz_42 S 0 rfl rfl)) ?_
  refine WO.q (Y.len (t' := 0) Tryd.underlying42 rfl) ?_
  refine WO.q (Y.lss rfl rfl) ?_
  refine WO.nil ?_
  refine Then.nx ?_
  refine W.cond rfl (fun h1 => ?_) (fun h1 => ?_) -- cond 0
  ·
   have rh1 := h1
   (try simp only [Q1, Q2, Q3, Q4, Q5, Q6, Q7, Q8, Q9, Qa] at h1)
   exfalso; omega
  ·
   have rh1 := h1
   (try simp only [Q1, Q2, Q3, Q4, Q5, Q6, Q7, Q8, Q9, Qa] at h1)
   refine W.exit ?_
   refine Then.x ?_
   refine Then.x ?_
   refine InB.e ?_
   refine Then.nx ?_
   refine W.seq ?_
   refine W.region rfl ?_
   refine WO.q (Y.assign (v := .slice _ _ _) rfl) ?_
   refine WO.q (Y.assign (v := .slice _ _ _) rfl) ?_
   refine WO.nil ?_
   refine Then.nx ?_
   refine W.seq ?_
   refine W.seq ?_
   refine W.region rfl ?_
   refine WO.q (Y.assign (v := .int .i64 _) rfl) ?_
   refine WO.nil ?_
   refine Then.nx ?_
   refine W.block ?_
   -- loop 1 carries 5:one, 6:more, 7:n
   refine W.loop3 [5, 6, 7, 8, 9, 48, 49, 50, 51, 52, 53, 54, 55, 56, 57, 58, 59, 60, 61, 62, 63, 64, 65, 66, 67, 68, 69, 70, 71, 72, 73, 74, 75, 76, 77, 78, 79, 80, 81, 82, 83, 84, 85, 86, 87, 88, 89, 90, 91, 92, 93, 94, 95, 96, 97, 98, 99, 100, 101, 102, 103] 5 6 7 (fun v5 v6 v7 w => v7 = .int .i64 0 ∧ v6 = .slice none 0 0 ∧ Sat w0 w (Cel bg hdr 50 :: L)) (fun v5 v6 v7 w => 0) ?_ ?_
   ·
    first | exact ⟨rfl, S⟩ | exact ⟨rfl, rfl, S⟩
   ·
    rintro g1 v5 v6 v7 w ⟨rfl, rfl, S⟩
    refine W.seq ?_
    refine W.seq ?_
    refine W.region rfl ?_
    refine WO.q (Y.move (v := .int .i64 _) rfl) ?_
    first | refine WO.q (Y.move (v := .pointer (some _)) rfl) ?_ | refine WO.q (Y.move (v := .pointer _) rfl) ?_
    refine WO.q (Y.nilP rfl) ?_
    first | refine WO.q (Y.fieldB fo_50_7 rfl) ?_ | refine WO.q (Y.fieldE fo_50_7 rfl) ?_
    first | refine WO.q (Y.load rfl (loadS1 sz_42 S 0 rfl hh)) ?_ | refine WO.q (Y.load rfl (loadS1 sz_42 S 0 rfl rfl)) ?_
    refine WO.q (Y.len (t' := 0) Tryd.underlying42 rfl) ?_
    refine WO.q (Y.lss rfl rfl) ?_
    refine WO.nil ?_
    refine Then.nx ?_
    refine W.cond rfl (fun h2 => ?_) (fun h2 => ?_) -- cond 1
    ·
     have rh2 := h2
     (try simp only [Q1, Q2, Q3, Q4, Q5, Q6, Q7, Q8, Q9, Qa] at h2)
     exfalso; omega
    ·
     have rh2 := h2
     (try simp only [Q1, Q2, Q3, Q4, Q5, Q6, Q7, Q8, Q9, Qa] at h2)
     refine W.exit ?_
     refine Then.x ?_
     refine Then.x ?_
     refine InB.e ?_
     refine Then.nx ?_
     refine W.seq ?_
     refine W.seq ?_
     refine W.region rfl ?_
     refine WO.q (Y.assign (v := .int .i64 _) rfl) ?_
     refine WO.nil ?_
     refine Then.nx ?_
     refine W.block ?_
     -- loop 2 carries 10:n
     refine W.loop1 [2, 10, 11, 12, 13, 104, 105, 106, 107, 108, 109, 110, 111, 112, 113, 114, 115, 116, 117, 118, 119, 120, 121, 122, 123, 124, 125, 126, 127, 128, 129, 130, 131, 132, 133, 134, 135, 136, 137, 138, 139, 140, 141, 142, 143, 144, 145, 146, 147, 148, 149, 150, 151, 152, 153, 154, 155, 156, 157, 158, 159, 160, 161, 162, 163, 164, 165, 166, 167, 168, 169, 170, 171, 172, 173, 174, 175, 176, 177, 178, 179, 180, 181, 182, 183, 184, 185, 186] 10 (fun v10 w => v10 = .int .i64 0 ∧ Sat w0 w (Cel bg hdr 50 :: L)) (fun v10 w => 0) ?_ ?_
     ·
      first | exact ⟨rfl, S⟩ | exact ⟨rfl, rfl, S⟩
     ·
      rintro g2 v10 w ⟨rfl, S⟩
      refine W.seq ?_
      refine W.seq ?_
      refine W.region rfl ?_
      refine WO.q (Y.move (v := .int .i64 _) rfl) ?_
      refine WO.q (Y.move (v := .slice _ _ _) rfl) ?_
      refine WO.q (Y.len (t' := 0) Tryd.underlying42 rfl) ?_
      refine WO.q (Y.lss rfl rfl) ?_
      refine WO.nil ?_
      refine Then.nx ?_
      refine W.cond rfl (fun h3 => ?_) (fun h3 => ?_) -- cond 2
      ·
       have rh3 := h3
       (try simp only [Q1, Q2, Q3, Q4, Q5, Q6, Q7, Q8, Q9, Qa] at h3)
       exfalso; omega
      ·
       have rh3 := h3
       (try simp only [Q1, Q2, Q3, Q4, Q5, Q6, Q7, Q8, Q9, Qa] at h3)
       refine W.exit ?_
       refine Then.x ?_
       refine Then.x ?_
       refine InB.e ?_
       refine Then.nx ?_
       refine W.seq ?_
       refine W.region rfl ?_
       refine WO.q (Y.assign (v := .bool _) rfl) ?_
       refine WO.nil ?_
       refine Then.nx ?_
       refine W.ret ?_
       refine BodyQ.ret1 Tryd.results56 (ResV.tmp _ rfl) ?_
       exact ⟨rfl, S⟩
theorem apartRaces0_spec (w0 w : World) (bg : Nat) (hdr : List Value) (L : List HA) (hh : hdr[8]? = some (.slice none 0 0)) (S : Sat w0 w (Cel bg hdr 50 :: L)) :
    Calls Tryd.prog 57 [.pointer (some ⟨bg, 0, none⟩)].toArray w (fun e w' => e = .returned (.bool true) ∧ Sat w0 w' (Cel bg hdr 50 :: L)) := by
 refine calls_of_W (args := [.pointer (some ⟨bg, 0, none⟩)]) 187 Tryd.func57 rfl Tryd.ntmps57 rfl ?_
 refine W.seq ?_
 refine W.region rfl ?_
 refine WO.q (Y.assign (v := .bool _) rfl) ?_
 refine WO.nil ?_
 refine Then.nx ?_
 refine W.seq ?_
 refine W.seq ?_
 refine W.region rfl ?_
 refine WO.q (Y.assign (v := .int .i64 _) rfl) ?_
 refine WO.nil ?_
 refine Then.nx ?_
 refine W.block ?_
 -- loop 0 carries 3:n
 refine W.loop1 [3, 4, 14, 15, 16, 17, 18, 19, 20, 21, 22, 23, 24, 25, 26, 27, 28, 29, 30, 31, 32, 33, 34, 35, 36, 37, 38, 39, 40, 41, 42, 43, 44, 45, 46, 47] 3 (fun v3 w => v3 = .int .i64 0 ∧ Sat w0 w (Cel bg hdr 50 :: L)) (fun v3 w => 0) ?_ ?_
 ·
  first | exact ⟨rfl, S⟩ | exact ⟨rfl, rfl, S⟩
 ·
  rintro g0 v3 w ⟨rfl, S⟩
  refine W.seq ?_
  refine W.seq ?_
  refine W.region rfl ?_
  refine WO.q (Y.move (v := .int .i64 _) rfl) ?_
  first | refine WO.q (Y.move (v := .pointer (some _)) rfl) ?_ | refine WO.q (Y.move (v := .pointer _) rfl) ?_
  refine WO.q (Y.nilP rfl) ?_
  first | refine WO.q (Y.fieldB fo_50_8 rfl) ?_ | refine WO.q (Y.fieldE fo_50_8 rfl) ?_
  first | refine WO.q (Y.load rfl (loadS1 sz_43 S 0 rfl hh)) ?_ | refine WO.q (Y.load rfl (loadS1 sz_43 S 0 rfl rfl)) ?_
  refine WO.q (Y.len (t' := 0) Tryd.underlying43 rfl) ?_
  refine WO.q (Y.lss rfl rfl) ?_
  refine WO.nil ?_
  refine Then.nx ?_
  refine W.cond rfl (fun h1 => ?_) (fun h1 => ?_) -- cond 0
  ·
   have rh1 := h1
   (try simp only [Q1, Q2, Q3, Q4, Q5, Q6, Q7, Q8, Q9, Qa] at h1)
   exfalso; omega
  ·
   have rh1 := h1
   (try simp only [Q1, Q2, Q3, Q4, Q5, Q6, Q7, Q8, Q9, Qa] at h1)
   refine W.exit ?_
   refine Then.x ?_
   refine Then.x ?_
   refine InB.e ?_
   refine Then.nx ?_
   refine W.seq ?_
   refine W.region rfl ?_
   refine WO.q (Y.assign (v := .slice _ _ _) rfl) ?_
   refine WO.q (Y.assign (v := .slice _ _ _) rfl) ?_
   refine WO.nil ?_
   refine Then.nx ?_
   refine W.seq ?_
   refine W.seq ?_
   refine W.region rfl ?_
   refine WO.q (Y.assign (v := .int .i64 _) rfl) ?_
   refine WO.nil ?_
   refine Then.nx ?_
   refine W.block ?_
   -- loop 1 carries 5:one, 6:more, 7:n
   refine W.loop3 [5, 6, 7, 8, 9, 48, 49, 50, 51, 52, 53, 54, 55, 56, 57, 58, 59, 60, 61, 62, 63, 64, 65, 66, 67, 68, 69, 70, 71, 72, 73, 74, 75, 76, 77, 78, 79, 80, 81, 82, 83, 84, 85, 86, 87, 88, 89, 90, 91, 92, 93, 94, 95, 96, 97, 98, 99, 100, 101, 102, 103] 5 6 7 (fun v5 v6 v7 w => v7 = .int .i64 0 ∧ v6 = .slice none 0 0 ∧ Sat w0 w (Cel bg hdr 50 :: L)) (fun v5 v6 v7 w => 0) ?_ ?_
   ·
    first | exact ⟨rfl, S⟩ | exact ⟨rfl, rfl, S⟩
   ·
    rintro g1 v5 v6 v7 w ⟨rfl, rfl, S⟩
    refine W.seq ?_
    refine W.seq ?_
    refine W.region rfl ?_
    refine WO.q (Y.move (v := .int .i64 _) rfl) ?_
    first | refine WO.q (Y.move (v := .pointer (some _)) rfl) ?_ | refine WO.q (Y.move (v := .pointer _) rfl) ?_
    refine WO.q (Y.nilP rfl) ?_
    first | refine WO.q (Y.fieldB fo_50_8 rfl) ?_ | refine WO.q (Y.fieldE fo_50_8 rfl) ?_
    first | refine WO.q (Y.load rfl (loadS1 sz_43 S 0 rfl hh)) ?_ | refine WO.q (Y.load rfl (loadS1 sz_43 S 0 rfl rfl)) ?_
    refine WO.q (Y.len (t' := 0) Tryd.underlying43 rfl) ?_
    refine WO.q (Y.lss rfl rfl) ?_
    refine WO.nil ?_
    refine Then.nx ?_
    refine W.cond rfl (fun h2 => ?_) (fun h2 => ?_) -- cond 1
    ·
     have rh2 := h2
     (try simp only [Q1, Q2, Q3, Q4, Q5, Q6, Q7, Q8, Q9, Qa] at h2)
     exfalso; omega
    ·
     have rh2 := h2
     (try simp only [Q1, Q2, Q3, Q4, Q5, Q6, Q7, Q8, Q9, Qa] at h2)
     refine W.exit ?_
     refine Then.x ?_
     refine Then.x ?_
     refine InB.e ?_
     refine Then.nx ?_
     refine W.seq ?_
     refine W.seq ?_
     refine W.region rfl ?_
     refine WO.q (Y.assign (v := .int .i64 _) rfl) ?_
     refine WO.nil ?_
     refine Then.nx ?_
     refine W.block ?_
     -- loop 2 carries 10:n
     refine W.loop1 [2, 10, 11, 12, 13, 104, 105, 106, 107, 108, 109, 110, 111, 112, 113, 114, 115, 116, 117, 118, 119, 120, 121, 122, 123, 124, 125, 126, 127, 128, 129, 130, 131, 132, 133, 134, 135, 136, 137, 138, 139, 140, 141, 142, 143, 144, 145, 146, 147, 148, 149, 150, 151, 152, 153, 154, 155, 156, 157, 158, 159, 160, 161, 162, 163, 164, 165, 166, 167, 168, 169, 170, 171, 172, 173, 174, 175, 176, 177, 178, 179, 180, 181, 182, 183, 184, 185, 186] 10 (fun v10 w => v10 = .int .i64 0 ∧ Sat w0 w (Cel bg hdr 50 :: L)) (fun v10 w => 0) ?_ ?_
     ·
      first | exact ⟨rfl, S⟩ | exact ⟨rfl, rfl, S⟩
     ·
      rintro g2 v10 w ⟨rfl, S⟩
      refine W.seq ?_
      refine W.seq ?_
      refine W.region rfl ?_
      refine WO.q (Y.move (v := .int .i64 _) rfl) ?_
      refine WO.q (Y.move (v := .slice _ _ _) rfl) ?_
      refine WO.q (Y.len (t' := 0) Tryd.underlying43 rfl) ?_
      refine WO.q (Y.lss rfl rfl) ?_
      refine WO.nil ?_
      refine Then.nx ?_
      refine W.cond rfl (fun h3 => ?_) (fun h3 => ?_) -- cond 2
      ·
       have rh3 := h3
       (try simp only [Q1, Q2, Q3, Q4, Q5, Q6, Q7, Q8, Q9, Qa] at h3)
       exfalso; omega
      ·
       have rh3 := h3
       (try simp only [Q1, Q2, Q3, Q4, Q5, Q6, Q7, Q8, Q9, Qa] at h3)
       refine W.exit ?_
       refine Then.x ?_
       refine Then.x ?_
       refine InB.e ?_
       refine Then.nx ?_
       refine W.seq ?_
       refine W.region rfl ?_
       refine WO.q (Y.assign (v := .bool _) rfl) ?_
       refine WO.nil ?_
       refine Then.nx ?_
       refine W.ret ?_
       refine BodyQ.ret1 Tryd.results57 (ResV.tmp _ rfl) ?_
       exact ⟨rfl, S⟩
theorem apartFlowNodes0_spec (w0 w : World) (bg : Nat) (hdr : List Value) (L : List HA) (hh : hdr[9]? = some (.slice none 0 0)) (S : Sat w0 w (Cel bg hdr 50 :: L)) :
    Calls Tryd.prog 58 [.pointer (some ⟨bg, 0, none⟩)].toArray w (fun e w' => e = .returned (.bool true) ∧ Sat w0 w' (Cel bg hdr 50 :: L)) := by
 refine calls_of_W (args := [.pointer (some ⟨bg, 0, none⟩)]) 187 Tryd.func58 rfl Tryd.ntmps58 rfl ?_
 refine W.seq ?_
 refine W.region rfl ?_
 refine WO.q (Y.assign (v := .bool _) rfl) ?_
 refine WO.nil ?_
 refine Then.nx ?_
 refine W.seq ?_
 refine W.seq ?_
 refine W.region rfl ?_
 refine WO.q (Y.assign (v := .int .i64 _) rfl) ?_
 refine WO.nil ?_
 refine Then.nx ?_
 refine W.block ?_
 -- loop 0 carries 3:n
 refine W.loop1 [3, 4, 14, 15, 16, 17, 18, 19, 20, 21, 22, 23, 24, 25, 26, 27, 28, 29, 30, 31, 32, 33, 34, 35, 36, 37, 38, 39, 40, 41, 42, 43, 44, 45, 46, 47] 3 (fun v3 w => v3 = .int .i64 0 ∧ Sat w0 w (Cel bg hdr 50 :: L)) (fun v3 w => 0) ?_ ?_
 ·
  first | exact ⟨rfl, S⟩ | exact ⟨rfl, rfl, S⟩
 ·
  rintro g0 v3 w ⟨rfl, S⟩
  refine W.seq ?_
  refine W.seq ?_
  refine W.region rfl ?_
  refine WO.q (Y.move (v := .int .i64 _) rfl) ?_
  first | refine WO.q (Y.move (v := .pointer (some _)) rfl) ?_ | refine WO.q (Y.move (v := .pointer _) rfl) ?_
  refine WO.q (Y.nilP rfl) ?_
  first | refine WO.q (Y.fieldB fo_50_9 rfl) ?_ | refine WO.q (Y.fieldE fo_50_9 rfl) ?_
  first | refine WO.q (Y.load rfl (loadS1 sz_44 S 0 rfl hh)) ?_ | refine WO.q (Y.load rfl (loadS1 sz_44 S 0 rfl rfl)) ?_
  refine WO.q (Y.len (t' := 0) Tryd.underlying44 rfl) ?_
  refine WO.q (Y.lss rfl rfl) ?_
  refine WO.nil ?_
  refine Then.nx ?_
  refine W.cond rfl (fun h1 => ?_) (fun h1 => ?_) -- cond 0
  ·
   have rh1 := h1
   (try simp only [Q1, Q2, Q3, Q4, Q5, Q6, Q7, Q8, Q9, Qa] at h1)
   exfalso; omega
  ·
   have rh1 := h1
   (try simp only [Q1, Q2, Q3, Q4, Q5, Q6, Q7, Q8, Q9, Qa] at h1)
   refine W.exit ?_
   refine Then.x ?_
   refine Then.x ?_
   refine InB.e ?_
   refine Then.nx ?_
   refine W.seq ?_
   refine W.region rfl ?_
   refine WO.q (Y.assign (v := .slice _ _ _) rfl) ?_
   refine WO.q (Y.assign (v := .slice _ _ _) rfl) ?_
   refine WO.nil ?_
   refine Then.nx ?_
   refine W.seq ?_
   refine W.seq ?_
   refine W.region rfl ?_
   refine WO.q (Y.assign (v := .int .i64 _) rfl) ?_
   refine WO.nil ?_
   refine Then.nx ?_
   refine W.block ?_
   -- loop 1 carries 5:one, 6:more, 7:n
   refine W.loop3 [5, 6, 7, 8, 9, 48, 49, 50, 51, 52, 53, 54, 55, 56, 57, 58, 59, 60, 61, 62, 63, 64, 65, 66, 67, 68, 69, 70, 71, 72, 73, 74, 75, 76, 77, 78, 79, 80, 81, 82, 83, 84, 85, 86, 87, 88, 89, 90, 91, 92, 93, 94, 95, 96, 97, 98, 99, 100, 101, 102, 103] 5 6 7 (fun v5 v6 v7 w => v7 = .int .i64 0 ∧ v6 = .slice none 0 0 ∧ Sat w0 w (Cel bg hdr 50 :: L)) (fun v5 v6 v7 w => 0) ?_ ?_
   ·
    first | exact ⟨rfl, S⟩ | exact ⟨rfl, rfl, S⟩
   ·
    rintro g1 v5 v6 v7 w ⟨rfl, rfl, S⟩
    refine W.seq ?_
    refine W.seq ?_
    refine W.region rfl ?_
    refine WO.q (Y.move (v := .int .i64 _) rfl) ?_
    first | refine WO.q (Y.move (v := .pointer (some _)) rfl) ?_ | refine WO.q (Y.move (v := .pointer _) rfl) ?_
    refine WO.q (Y.nilP rfl) ?_
    first | refine WO.q (Y.fieldB fo_50_9 rfl) ?_ | refine WO.q (Y.fieldE fo_50_9 rfl) ?_
    first | refine WO.q (Y.load rfl (loadS1 sz_44 S 0 rfl hh)) ?_ | refine WO.q (Y.load rfl (loadS1 sz_44 S 0 rfl rfl)) ?_
    refine WO.q (Y.len (t' := 0) Tryd.underlying44 rfl) ?_
    refine WO.q (Y.lss rfl rfl) ?_
    refine WO.nil ?_
    refine Then.nx ?_
    refine W.cond rfl (fun h2 => ?_) (fun h2 => ?_) -- cond 1
    ·
     have rh2 := h2
     (try simp only [Q1, Q2, Q3, Q4, Q5, Q6, Q7, Q8, Q9, Qa] at h2)
     exfalso; omega
    ·
     have rh2 := h2
     (try simp only [Q1, Q2, Q3, Q4, Q5, Q6, Q7, Q8, Q9, Qa] at h2)
     refine W.exit ?_
     refine Then.x ?_
     refine Then.x ?_
     refine InB.e ?_
     refine Then.nx ?_
     refine W.seq ?_
     refine W.seq ?_
     refine W.region rfl ?_
     refine WO.q (Y.assign (v := .int .i64 _) rfl) ?_
     refine WO.nil ?_
     refine Then.nx ?_
     refine W.block ?_
     -- loop 2 carries 10:n
     refine W.loop1 [2, 10, 11, 12, 13, 104, 105, 106, 107, 108, 109, 110, 111, 112, 113, 114, 115, 116, 117, 118, 119, 120, 121, 122, 123, 124, 125, 126, 127, 128, 129, 130, 131, 132, 133, 134, 135, 136, 137, 138, 139, 140, 141, 142, 143, 144, 145, 146, 147, 148, 149, 150, 151, 152, 153, 154, 155, 156, 157, 158, 159, 160, 161, 162, 163, 164, 165, 166, 167, 168, 169, 170, 171, 172, 173, 174, 175, 176, 177, 178, 179, 180, 181, 182, 183, 184, 185, 186] 10 (fun v10 w => v10 = .int .i64 0 ∧ Sat w0 w (Cel bg hdr 50 :: L)) (fun v10 w => 0) ?_ ?_
     ·
      first | exact ⟨rfl, S⟩ | exact ⟨rfl, rfl, S⟩
     ·
      rintro g2 v10 w ⟨rfl, S⟩
      refine W.seq ?_
      refine W.seq ?_
      refine W.region rfl ?_
      refine WO.q (Y.move (v := .int .i64 _) rfl) ?_
      refine WO.q (Y.move (v := .slice _ _ _) rfl) ?_
      refine WO.q (Y.len (t' := 0) Tryd.underlying44 rfl) ?_
      refine WO.q (Y.lss rfl rfl) ?_
      refine WO.nil ?_
      refine Then.nx ?_
      refine W.cond rfl (fun h3 => ?_) (fun h3 => ?_) -- cond 2
      ·
       have rh3 := h3
       (try simp only [Q1, Q2, Q3, Q4, Q5, Q6, Q7, Q8, Q9, Qa] at h3)
       exfalso; omega
      ·
       have rh3 := h3
       (try simp only [Q1, Q2, Q3, Q4, Q5, Q6, Q7, Q8, Q9, Qa] at h3)
       refine W.exit ?_
       refine Then.x ?_
       refine Then.x ?_
       refine InB.e ?_
       refine Then.nx ?_
       refine W.seq ?_
       refine W.region rfl ?_
       refine WO.q (Y.assign (v := .bool _) rfl) ?_
       refine WO.nil ?_
       refine Then.nx ?_
       refine W.ret ?_
       refine BodyQ.ret1 Tryd.results58 (ResV.tmp _ rfl) ?_
       exact ⟨rfl, S⟩
theorem apartEnds0_spec (w0 w : World) (bg : Nat) (hdr : List Value) (L : List HA) (hh : hdr[10]? = some (.slice none 0 0)) (S : Sat w0 w (Cel bg hdr 50 :: L)) :
    Calls Tryd.prog 59 [.pointer (some ⟨bg, 0, none⟩)].toArray w (fun e w' => e = .returned (.bool true) ∧ Sat w0 w' (Cel bg hdr 50 :: L)) := by
 refine calls_of_W (args := [.pointer (some ⟨bg, 0, none⟩)]) 187 Tryd.func59 rfl Tryd.ntmps59 rfl ?_
 refine W.seq ?_
 refine W.region rfl ?_
 refine WO.q (Y.assign (v := .bool _) rfl) ?_
 refine WO.nil ?_
 refine Then.nx ?_
 refine W.seq ?_
 refine W.seq ?_
 refine W.region rfl ?_
 refine WO.q (Y.assign (v := .int .i64 _) rfl) ?_
 refine WO.nil ?_
 refine Then.nx ?_
 refine W.block ?_
 -- loop 0 carries 3:n
 refine W.loop1 [3, 4, 14, 15, 16, 17, 18, 19, 20, 21, 22, 23, 24, 25, 26, 27, 28, 29, 30, 31, 32, 33, 34, 35, 36, 37, 38, 39, 40, 41, 42, 43, 44, 45, 46, 47] 3 (fun v3 w => v3 = .int .i64 0 ∧ Sat w0 w (Cel bg hdr 50 :: L)) (fun v3 w => 0) ?_ ?_
 ·
  first | exact ⟨rfl, S⟩ | exact ⟨rfl, rfl, S⟩
 ·
  rintro g0 v3 w ⟨rfl, S⟩
  refine W.seq ?_
  refine W.seq ?_
  refine W.region rfl ?_
  refine WO.q (Y.move (v := .int .i64 _) rfl) ?_
  first | refine WO.q (Y.move (v := .pointer (some _)) rfl) ?_ | refine WO.q (Y.move (v := .pointer _) rfl) ?_
  refine WO.q (Y.nilP rfl) ?_
  first | refine WO.q (Y.fieldB fo_50_10 rfl) ?_ | refine WO.q (Y.fieldE fo_50_10 rfl) ?_
  first | refine WO.q (Y.load rfl (loadS1 sz_45 S 0 rfl hh)) ?_ | refine WO.q (Y.load rfl (loadS1 sz_45 S 0 rfl rfl)) ?_
  refine WO.q (Y.len (t' := 0) Tryd.underlying45 rfl) ?_
  refine WO.q (Y.lss rfl rfl) ?_
  refine WO.nil ?_
  refine Then.nx ?_
  refine W.cond rfl (fun h1 => ?_) (fun h1 => ?_) -- cond 0
  ·
   have rh1 := h1
   (try simp only [Q1, Q2, Q3, Q4, Q5, Q6, Q7, Q8, Q9, Qa] at h1)
   exfalso; omega
  ·
   have rh1 := h1
   (try simp only [Q1, Q2, Q3, Q4, Q5, Q6, Q7, Q8, Q9, Qa] at h1)
   refine W.exit ?_
   refine Then.x ?_
   refine Then.x ?_
   refine InB.e ?_
   refine Then.nx ?_
   refine W.seq ?_
   refine W.region rfl ?_
   refine WO.q (Y.assign (v := .slice _ _ _) rfl) ?_
   refine WO.q (Y.assign (v := .slice _ _ _) rfl) ?_
   refine WO.nil ?_
   refine Then.nx ?_
   refine W.seq ?_
   refine W.seq ?_
   refine W.region rfl ?_
   refine WO.q (Y.assign (v := .int .i64 _) rfl) ?_
   refine WO.nil ?_
   refine Then.nx ?_
   refine W.block ?_
   -- loop 1 carries 5:one, 6:more, 7:n
   refine W.loop3 [5, 6, 7, 8, 9, 48, 49, 50, 51, 52, 53, 54, 55, 56, 57, 58, 59, 60, 61, 62, 63, 64, 65, 66, 67, 68, 69, 70, 71, 72, 73, 74, 75, 76, 77, 78, 79, 80, 81, 82, 83, 84, 85, 86, 87, 88, 89, 90, 91, 92, 93, 94, 95, 96, 97, 98, 99, 100, 101, 102, 103] 5 6 7 (fun v5 v6 v7 w => v7 = .int .i64 0 ∧ v6 = .slice none 0 0 ∧ Sat w0 w (Cel bg hdr 50 :: L)) (fun v5 v6 v7 w => 0) ?_ ?_
   ·
    first | exact ⟨rfl, S⟩ | exact ⟨rfl, rfl, S⟩
   ·
    rintro g1 v5 v6 v7 w ⟨rfl, rfl, S⟩
    refine W.seq ?_
    refine W.seq ?_
    refine W.region rfl ?_
    refine WO.q (Y.move (v := .int .i64 _) rfl) ?_
    first | refine WO.q (Y.move (v := .pointer (some _)) rfl) ?_ | refine WO.q (Y.move (v := .pointer _) rfl) ?_
    refine WO.q (Y.nilP rfl) ?_
    first | refine WO.q (Y.fieldB fo_50_10 rfl) ?_ | refine WO.q (Y.fieldE fo_50_10 rfl) ?_
    first | refine WO.q (Y.load rfl (loadS1 sz_45 S 0 rfl hh)) ?_ | refine WO.q (Y.load rfl (loadS1 sz_45 S 0 rfl rfl)) ?_
    refine WO.q (Y.len (t' := 0) Tryd.underlying45 rfl) ?_
    refine WO.q (Y.lss rfl rfl) ?_
    refine WO.nil ?_
    refine Then.nx ?_
    refine W.cond rfl (fun h2 => ?_) (fun h2 => ?_) -- cond 1
    ·
     have rh2 := h2
     (try simp only [Q1, Q2, Q3, Q4, Q5, Q6, Q7, Q8, Q9, Qa] at h2)
     exfalso; omega
    ·
     have rh2 := h2
     (try simp only [Q1, Q2, Q3, Q4, Q5, Q6, Q7, Q8, Q9, Qa] at h2)
     refine W.exit ?_
     refine Then.x ?_
     refine Then.x ?_
     refine InB.e ?_
     refine Then.nx ?_
     refine W.seq ?_
     refine W.seq ?_
     refine W.region rfl ?_
     refine WO.q (Y.assign (v := .int .i64 _) rfl) ?_
     refine WO.nil ?_
     refine Then.nx ?_
     refine W.block ?_
     -- loop 2 carries 10:n
     refine W.loop1 [2, 10, 11, 12, 13, 104, 105, 106, 107, 108, 109, 110, 111, 112, 113, 114, 115, 116, 117, 118, 119, 120, 121, 122, 123, 124, 125, 126, 127, 128, 129, 130, 131, 132, 133, 134, 135, 136, 137, 138, 139, 140, 141, 142, 143, 144, 145, 146, 147, 148, 149, 150, 151, 152, 153, 154, 155, 156, 157, 158, 159, 160, 161, 162, 163, 164, 165, 166, 167, 168, 169, 170, 171, 172, 173, 174, 175, 176, 177, 178, 179, 180, 181, 182, 183, 184, 185, 186] 10 (fun v10 w => v10 = .int .i64 0 ∧ Sat w0 w (Cel bg hdr 50 :: L)) (fun v10 w => 0) ?_ ?_
     ·
      first | exact ⟨rfl, S⟩ | exact ⟨rfl, rfl, S⟩
     ·
      rintro g2 v10 w ⟨rfl, S⟩
      refine W.seq ?_
      refine W.seq ?_
      refine W.region rfl ?_
      refine WO.q (Y.move (v := .int .i64 _) rfl) ?_
      refine WO.q (Y.move (v := .slice _ _ _) rfl) ?_
      refine WO.q (Y.len (t' := 0) Tryd.underlying45 rfl) ?_
      refine WO.q (Y.lss rfl rfl) ?_
      refine WO.nil ?_
      refine Then.nx ?_
      refine W.cond rfl (fun h3 => ?_) (fun h3 => ?_) -- cond 2
      ·
       have rh3 := h3
       (try simp only [Q1, Q2, Q3, Q4, Q5, Q6, Q7, Q8, Q9, Qa] at h3)
       exfalso; omega
      ·
       have rh3 := h3
       (try simp only [Q1, Q2, Q3, Q4, Q5, Q6, Q7, Q8, Q9, Qa] at h3)
       refine W.exit ?_
       refine Then.x ?_
       refine Then.x ?_
       refine InB.e ?_
       refine Then.nx ?_
       refine W.seq ?_
       refine W.region rfl ?_
       refine WO.q (Y.assign (v := .bool _) rfl) ?_
       refine WO.nil ?_
       refine Then.nx ?_
       refine W.ret ?_
       refine BodyQ.ret1 Tryd.results59 (ResV.tmp _ rfl) ?_
       exact ⟨rfl, S⟩
theorem apartRows0_spec (w0 w : World) (bg : Nat) (hdr : List Value) (L : List HA) (hh : hdr[11]? = some (.slice none 0 0)) (S : Sat w0 w (Cel bg hdr 50 :: L)) :
    Calls Tryd.prog 60 [.pointer (some ⟨bg, 0, none⟩)].toArray w (fun e w' => e = .returned (.bool true) ∧ Sat w0 w' (Cel bg hdr 50 :: L)) := by
 refine calls_of_W (args := [.pointer (some ⟨bg, 0, none⟩)]) 199 Tryd.func60 rfl Tryd.ntmps60 rfl ?_
 refine W.seq ?_
 refine W.region rfl ?_
 refine WO.q (Y.assign (v := .bool _) rfl) ?_
 refine WO.nil ?_
 refine Then.nx ?_
 refine W.seq ?_
 refine W.seq ?_
 refine W.region rfl ?_
 refine WO.q (Y.assign (v := .int .i64 _) rfl) ?_
 refine WO.nil ?_
 refine Then.nx ?_
 refine W.block ?_
 -- loop 0 carries 3:n
 refine W.loop1 [3, 4, 14, 15, 16, 17, 18, 19, 20, 21, 22, 23, 24, 25, 26, 27, 28, 29, 30, 31, 32, 33, 34, 35, 36, 37, 38, 39, 40, 41, 42, 43, 44, 45, 46, 47] 3 (fun v3 w => v3 = .int .i64 0 ∧ Sat w0 w (Cel bg hdr 50 :: L)) (fun v3 w => 0) ?_ ?_
 ·
  first | exact ⟨rfl, S⟩ | exact ⟨rfl, rfl, S⟩
 ·
  rintro g0 v3 w ⟨rfl, S⟩
  refine W.seq ?_
  refine W.seq ?_
  refine W.region rfl ?_
  refine WO.q (Y.move (v := .int .i64 _) rfl) ?_
  first | refine WO.q (Y.move (v := .pointer (some _)) rfl) ?_ | refine WO.q (Y.move (v := .pointer _) rfl) ?_
  refine WO.q (Y.nilP rfl) ?_
  first | refine WO.q (Y.fieldB fo_50_11 rfl) ?_ | refine WO.q (Y.fieldE fo_50_11 rfl) ?_
  first | refine WO.q (Y.load rfl (loadS1 sz_46 S 0 rfl hh)) ?_ | refine WO.q (Y.load rfl (loadS1 sz_46 S 0 rfl rfl)) ?_
  refine WO.q (Y.len (t' := 0) Tryd.underlying46 rfl) ?_
  refine WO.q (Y.lss rfl rfl) ?_
  refine WO.nil ?_
  refine Then.nx ?_
  refine W.cond rfl (fun h1 => ?_) (fun h1 => ?_) -- cond 0
  ·
   have rh1 := h1
   (try simp only [Q1, Q2, Q3, Q4, Q5, Q6, Q7, Q8, Q9, Qa] at h1)
   exfalso; omega
  ·
   have rh1 := h1
   (try simp only [Q1, Q2, Q3, Q4, Q5, Q6, Q7, Q8, Q9, Qa] at h1)
   refine W.exit ?_
   refine Then.x ?_
   refine Then.x ?_
   refine InB.e ?_
   refine Then.nx ?_
   refine W.seq ?_
   refine W.region rfl ?_
   refine WO.q (Y.assign (v := .slice _ _ _) rfl) ?_
   refine WO.q (Y.assign (v := .slice _ _ _) rfl) ?_
   refine WO.nil ?_
   refine Then.nx ?_
   refine W.seq ?_
   refine W.seq ?_
   refine W.region rfl ?_
   refine WO.q (Y.assign (v := .int .i64 _) rfl) ?_
   refine WO.nil ?_
   refine Then.nx ?_
   refine W.block ?_
   -- loop 1 carries 5:one, 6:more, 7:n
   refine W.loop3 [5, 6, 7, 8, 9, 48, 49, 50, 51, 52, 53, 54, 55, 56, 57, 58, 59, 60, 61, 62, 63, 64, 65, 66, 67, 68, 69, 70, 71, 72, 73, 74, 75, 76, 77, 78, 79, 80, 81, 82, 83, 84, 85, 86, 87, 88, 89, 90, 91, 92, 93, 94, 95, 96, 97, 98, 99, 100, 101, 102, 103] 5 6 7 (fun v5 v6 v7 w => v7 = .int .i64 0 ∧ v6 = .slice none 0 0 ∧ Sat w0 w (Cel bg hdr 50 :: L)) (fun v5 v6 v7 w => 0) ?_ ?_
   ·
    first | exact ⟨rfl, S⟩ | exact ⟨rfl, rfl, S⟩
   ·
    rintro g1 v5 v6 v7 w ⟨rfl, rfl, S⟩
    refine W.seq ?_
    refine W.seq ?_
    refine W.region rfl ?_
    refine WO.q (Y.move (v := .int .i64 _) rfl) ?_
    first | refine WO.q (Y.move (v := .pointer (some _)) rfl) ?_ | refine WO.q (Y.move (v := .pointer _) rfl) ?_
    refine WO.q (Y.nilP rfl) ?_
    first | refine WO.q (Y.fieldB fo_50_11 rfl) ?_ | refine WO.q (Y.fieldE fo_50_11 rfl) ?_
    first | refine WO.q (Y.load rfl (loadS1 sz_46 S 0 rfl hh)) ?_ | refine WO.q (Y.load rfl (loadS1 sz_46 S 0 rfl rfl)) ?_
    refine WO.q (Y.len (t' := 0) Tryd.underlying46 rfl) ?_
    refine WO.q (Y.lss rfl rfl) ?_
    refine WO.nil ?_
    refine Then.nx ?_
    refine W.cond rfl (fun h2 => ?_) (fun h2 => ?_) -- cond 1
    ·
     have rh2 := h2
     (try simp only [Q1, Q2, Q3, Q4, Q5, Q6, Q7, Q8, Q9, Qa] at h2)
     exfalso; omega
    ·
     have rh2 := h2
     (try simp only [Q1, Q2, Q3, Q4, Q5, Q6, Q7, Q8, Q9, Qa] at h2)
     refine W.exit ?_
     refine Then.x ?_
     refine Then.x ?_
     refine InB.e ?_
     refine Then.nx ?_
     refine W.seq ?_
     refine W.seq ?_
     refine W.region rfl ?_
     refine WO.q (Y.assign (v := .int .i64 _) rfl) ?_
     refine WO.nil ?_
     refine Then.nx ?_
     refine W.block ?_
     -- loop 2 carries 10:n
     refine W.loop1 [2, 10, 11, 12, 13, 104, 105, 106, 107, 108, 109, 110, 111, 112, 113, 114, 115, 116, 117, 118, 119, 120, 121, 122, 123, 124, 125, 126, 127, 128, 129, 130, 131, 132, 133, 134, 135, 136, 137, 138, 139, 140, 141, 142, 143, 144, 145, 146, 147, 148, 149, 150, 151, 152, 153, 154, 155, 156, 157, 158, 159, 160, 161, 162, 163, 164, 165, 166, 167, 168, 169, 170, 171, 172, 173, 174, 175, 176, 177, 178, 179, 180, 181, 182, 183, 184, 185, 186, 187, 188, 189, 190, 191, 192, 193, 194, 195, 196, 197, 198] 10 (fun v10 w => v10 = .int .i64 0 ∧ Sat w0 w (Cel bg hdr 50 :: L)) (fun v10 w => 0) ?_ ?_
     ·
      first | exact ⟨rfl, S⟩ | exact ⟨rfl, rfl, S⟩
     ·
      rintro g2 v10 w ⟨rfl, S⟩
      refine W.seq ?_
      refine W.seq ?_
      refine W.region rfl ?_
      refine WO.q (Y.move (v := .int .i64 _) rfl) ?_
      refine WO.q (Y.move (v := .slice _ _ _) rfl) ?_
      refine WO.q (Y.len (t' := 0) Tryd.underlying46 rfl) ?_
      refine WO.q (Y.lss rfl rfl) ?_
      refine WO.nil ?_
      refine Then.nx ?_
      refine W.cond rfl (fun h3 => ?_) (fun h3 => ?_) -- cond 2
      ·
       have rh3 := h3
       (try simp only [Q1, Q2, Q3, Q4, Q5, Q6, Q7, Q8, Q9, Qa] at h3)
       exfalso; omega
      ·
       have rh3 := h3
       (try simp only [Q1, Q2, Q3, Q4, Q5, Q6, Q7, Q8, Q9, Qa] at h3)
       refine W.exit ?_
       refine Then.x ?_
       refine Then.x ?_
       refine InB.e ?_
       refine Then.nx ?_
       refine W.seq ?_
       refine W.region rfl ?_
       refine WO.q (Y.assign (v := .bool _) rfl) ?_
       refine WO.nil ?_
       refine Then.nx ?_
       refine W.ret ?_
       refine BodyQ.ret1 Tryd.results60 (ResV.tmp _ rfl) ?_
       exact ⟨rfl, S⟩
theorem apartLongRows0_spec (w0 w : World) (bg : Nat) (hdr : List Value) (L : List HA) (hh : hdr[12]? = some (.slice none 0 0)) (S : Sat w0 w (Cel bg hdr 50 :: L)) :
    Calls Tryd.prog 61 [.pointer (some ⟨bg, 0, none⟩)].toArray w (fun e w' => e = .returned (.bool true) ∧ Sat w0 w' (Cel bg hdr 50 :: L)) := by
 refine calls_of_W (args := [.pointer (some ⟨bg, 0, none⟩)]) 199 Tryd.func61 rfl Tryd.ntmps61 rfl ?_
 refine W.seq ?_
 refine W.region rfl ?_
 refine WO.q (Y.assign (v := .bool _) rfl) ?_
 refine WO.nil ?_
 refine Then.nx ?_
 refine W.seq ?_
 refine W.seq ?_
 refine W.region rfl ?_
 refine WO.q (Y.assign (v := .int .i64 _) rfl) ?_
 refine WO.nil ?_
 refine Then.nx ?_
 refine W.block ?_
 -- loop 0 carries 3:n
 refine W.loop1 [3, 4, 14, 15, 16, 17, 18, 19, 20, 21, 22, 23, 24, 25, 26, 27, 28, 29, 30, 31, 32, 33, 34, 35, 36, 37, 38, 39, 40, 41, 42, 43, 44, 45, 46, 47] 3 (fun v3 w => v3 = .int .i64 0 ∧ Sat w0 w (Cel bg hdr 50 :: L)) (fun v3 w => 0) ?_ ?_
 ·
  first | exact ⟨rfl, S⟩ | exact ⟨rfl, rfl, S⟩
 ·
  rintro g0 v3 w ⟨rfl, S⟩
  refine W.seq ?_
  refine W.seq ?_
  refine W.region rfl ?_
  refine WO.q (Y.move (v := .int .i64 _) rfl) ?_
  first | refine WO.q (Y.move (v := .pointer (some _)) rfl) ?_ | refine WO.q (Y.move (v := .pointer _) rfl) ?_
  refine WO.q (Y.nilP rfl) ?_
  first | refine WO.q (Y.fieldB fo_50_12 rfl) ?_ | refine WO.q (Y.fieldE fo_50_12 rfl) ?_
  first | refine WO.q (Y.load rfl (loadS1 sz_47 S 0 rfl hh)) ?_ | refine WO.q (Y.load rfl (loadS1 sz_47 S 0 rfl rfl)) ?_
  refine WO.q (Y.len (t' := 0) Tryd.underlying47 rfl) ?_
  refine WO.q (Y.lss rfl rfl) ?_
  refine WO.nil ?_
  refine Then.nx ?_
  refine W.cond rfl (fun h1 => ?_) (fun h1 => ?_) -- cond 0
  ·
   have rh1 := h1
   (try simp only [Q1, Q2, Q3, Q4, Q5, Q6, Q7, Q8, Q9, Qa] at h1)
   exfalso; omega
  ·
   have rh1 := h1
   (try simp only [Q1, Q2, Q3, Q4, Q5, Q6, Q7, Q8, Q9, Qa] at h1)
   refine W.exit ?_
   refine Then.x ?_
   refine Then.x ?_
   refine InB.e ?_
   refine Then.nx ?_
   refine W.seq ?_
   refine W.region rfl ?_
   refine WO.q (Y.assign (v := .slice _ _ _) rfl) ?_
   refine WO.q (Y.assign (v := .slice _ _ _) rfl) ?_
   refine WO.nil ?_
   refine Then.nx ?_
   refine W.seq ?_
   refine W.seq ?_
   refine W.region rfl ?_
   refine WO.q (Y.assign (v := .int .i64 _) rfl) ?_
   refine WO.nil ?_
   refine Then.nx ?_
   refine W.block ?_
   -- loop 1 carries 5:one, 6:more, 7:n
   refine W.loop3 [5, 6, 7, 8, 9, 48, 49, 50, 51, 52, 53, 54, 55, 56, 57, 58, 59, 60, 61, 62, 63, 64, 65, 66, 67, 68, 69, 70, 71, 72, 73, 74, 75, 76, 77, 78, 79, 80, 81, 82, 83, 84, 85, 86, 87, 88, 89, 90, 91, 92, 93, 94, 95, 96, 97, 98, 99, 100, 101, 102, 103] 5 6 7 (fun v5 v6 v7 w => v7 = .int .i64 0 ∧ v6 = .slice none 0 0 ∧ Sat w0 w (Cel bg hdr 50 :: L)) (fun v5 v6 v7 w => 0) ?_ ?_
   ·
    first | exact ⟨rfl, S⟩ | exact ⟨rfl, rfl, S⟩
   ·
    rintro g1 v5 v6 v7 w ⟨rfl, rfl, S⟩
    refine W.seq ?_
    refine W.seq ?_
    refine W.region rfl ?_
    refine WO.q (Y.move (v := .int .i64 _) rfl) ?_
    first | refine WO.q (Y.move (v := .pointer (some _)) rfl) ?_ | refine WO.q (Y.move (v := .pointer _) rfl) ?_
    refine WO.q (Y.nilP rfl) ?_
    first | refine WO.q (Y.fieldB fo_50_12 rfl) ?_ | refine WO.q (Y.fieldE fo_50_12 rfl) ?_
    first | refine WO.q (Y.load rfl (loadS1 sz_47 S 0 rfl hh)) ?_ | refine WO.q (Y.load rfl (loadS1 sz_47 S 0 rfl rfl)) ?_
    refine WO.q (Y.len (t' := 0) Tryd.underlying47 rfl) ?_
    refine WO.q (Y.lss rfl rfl) ?_
    refine WO.nil ?_
    refine Then.nx ?_
    refine W.cond rfl (fun h2 => ?_) (fun h2 => ?_) -- cond 1
    ·
     have rh2 := h2
     (try simp only [Q1, Q2, Q3, Q4, Q5, Q6, Q7, Q8, Q9, Qa] at h2)
     exfalso; omega
    ·
     have rh2 := h2
     (try simp only [Q1, Q2, Q3, Q4, Q5, Q6, Q7, Q8, Q9, Qa] at h2)
     refine W.exit ?_
     refine Then.x ?_
     refine Then.x ?_
     refine InB.e ?_
     refine Then.nx ?_
     refine W.seq ?_
     refine W.seq ?_
     refine W.region rfl ?_
     refine WO.q (Y.assign (v := .int .i64 _) rfl) ?_
     refine WO.nil ?_
     refine Then.nx ?_
     refine W.block ?_
     -- loop 2 carries 10:n
     refine W.loop1 [2, 10, 11, 12, 13, 104, 105, 106, 107, 108, 109, 110, 111, 112, 113, 114, 115, 116, 117, 118, 119, 120, 121, 122, 123, 124, 125, 126, 127, 128, 129, 130, 131, 132, 133, 134, 135, 136, 137, 138, 139, 140, 141, 142, 143, 144, 145, 146, 147, 148, 149, 150, 151, 152, 153, 154, 155, 156, 157, 158, 159, 160, 161, 162, 163, 164, 165, 166, 167, 168, 169, 170, 171, 172, 173, 174, 175, 176, 177, 178, 179, 180, 181, 182, 183, 184, 185, 186, 187, 188, 189, 190, 191, 192, 193, 194, 195, 196, 197, 198] 10 (fun v10 w => v10 = .int .i64 0 ∧ Sat w0 w (Cel bg hdr 50 :: L)) (fun v10 w => 0) ?_ ?_
     ·
      first | exact ⟨rfl, S⟩ | exact ⟨rfl, rfl, S⟩
     ·
      rintro g2 v10 w ⟨rfl, S⟩
      refine W.seq ?_
      refine W.seq ?_
      refine W.region rfl ?_
      refine WO.q (Y.move (v := .int .i64 _) rfl) ?_
      refine WO.q (Y.move (v := .slice _ _ _) rfl) ?_
      refine WO.q (Y.len (t' := 0) Tryd.underlying47 rfl) ?_
      refine WO.q (Y.lss rfl rfl) ?_
      refine WO.nil ?_
      refine Then.nx ?_
      refine W.cond rfl (fun h3 => ?_) (fun h3 => ?_) -- cond 2
      ·
       have rh3 := h3
       (try simp only [Q1, Q2, Q3, Q4, Q5, Q6, Q7, Q8, Q9, Qa] at h3)
       exfalso; omega
      ·
       have rh3 := h3
       (try simp only [Q1, Q2, Q3, Q4, Q5, Q6, Q7, Q8, Q9, Qa] at h3)
       refine W.exit ?_
       refine Then.x ?_
       refine Then.x ?_
       refine InB.e ?_
       refine Then.nx ?_
       refine W.seq ?_
       refine W.region rfl ?_
       refine WO.q (Y.assign (v := .bool _) rfl) ?_
       refine WO.nil ?_
       refine Then.nx ?_
       refine W.ret ?_
       refine BodyQ.ret1 Tryd.results61 (ResV.tmp _ rfl) ?_
       exact ⟨rfl, S⟩
theorem apartLets0_spec (w0 w : World) (bg : Nat) (hdr : List Value) (L : List HA) (hh : hdr[13]? = some (.slice none 0 0)) (S : Sat w0 w (Cel bg hdr 50 :: L)) :
    Calls Tryd.prog 62 [.pointer (some ⟨bg, 0, none⟩)].toArray w (fun e w' => e = .returned (.bool true) ∧ Sat w0 w' (Cel bg hdr 50 :: L)) := by
 refine calls_of_W (args := [.pointer (some ⟨bg, 0, none⟩)]) 209 Tryd.func62 rfl Tryd.ntmps62 rfl ?_
 refine W.seq ?_
 refine W.region rfl ?_
 refine WO.q (Y.assign (v := .bool _) rfl) ?_
 refine WO.nil ?_
 refine Then.nx ?_
 refine W.seq ?_
 refine W.seq ?_
 refine W.region rfl ?_
 refine WO.q (Y.assign (v := .int .i64 _) rfl) ?_
 refine WO.nil ?_
 refine Then.nx ?_
 refine W.block ?_
 -- loop 0 carries 3:n
 refine W.loop1 [3, 4, 14, 15, 16, 17, 18, 19, 20, 21, 22, 23, 24, 25, 26, 27, 28, 29, 30, 31, 32, 33, 34, 35, 36, 37, 38, 39, 40, 41, 42, 43, 44, 45, 46, 47] 3 (fun v3 w => v3 = .int .i64 0 ∧ Sat w0 w (Cel bg hdr 50 :: L)) (fun v3 w => 0) ?_ ?_
 ·
  first | exact ⟨rfl, S⟩ | exact ⟨rfl, rfl, S⟩
 ·
  rintro g0 v3 w ⟨rfl, S⟩
  refine W.seq ?_
  refine W.seq ?_
  refine W.region rfl ?_
  refine WO.q (Y.move (v := .int .i64 _) rfl) ?_
  first | refine WO.q (Y.move (v := .pointer (some _)) rfl) ?_ | refine WO.q (Y.move (v := .pointer _) rfl) ?_
  refine WO.q (Y.nilP rfl) ?_
  first | refine WO.q (Y.fieldB fo_50_13 rfl) ?_ | refine WO.q (Y.fieldE fo_50_13 rfl) ?_
  first | refine WO.q (Y.load rfl (loadS1 sz_48 S 0 rfl hh)) ?_ | refine WO.q (Y.load rfl (loadS1 sz_48 S 0 rfl rfl)) ?_
  refine WO.q (Y.len (t' := 0) Tryd.underlying48 rfl) ?_
  refine WO.q (Y.lss rfl rfl) ?_
  refine WO.nil ?_
  refine Then.nx ?_
  refine W.cond rfl (fun h1 => ?_) (fun h1 => ?_) -- cond 0
  ·
   have rh1 := h1
   (try simp only [Q1, Q2, Q3, Q4, Q5, Q6, Q7, Q8, Q9, Qa] at h1)
   exfalso; omega
  ·
   have rh1 := h1
   (try simp only [Q1, Q2, Q3, Q4, Q5, Q6, Q7, Q8, Q9, Qa] at h1)
   refine W.exit ?_
   refine Then.x ?_
   refine Then.x ?_
   refine InB.e ?_
   refine Then.nx ?_
   refine W.seq ?_
   refine W.region rfl ?_
   refine WO.q (Y.assign (v := .slice _ _ _) rfl) ?_
   refine WO.q (Y.assign (v := .slice _ _ _) rfl) ?_
   refine WO.nil ?_
   refine Then.nx ?_
   refine W.seq ?_
   refine W.seq ?_
   refine W.region rfl ?_
   refine WO.q (Y.assign (v := .int .i64 _) rfl) ?_
   refine WO.nil ?_
   refine Then.nx ?_
   refine W.block ?_
   -- loop 1 carries 5:one, 6:more, 7:n
   refine W.loop3 [5, 6, 7, 8, 9, 48, 49, 50, 51, 52, 53, 54, 55, 56, 57, 58, 59, 60, 61, 62, 63, 64, 65, 66, 67, 68, 69, 70, 71, 72, 73, 74, 75, 76, 77, 78, 79, 80, 81, 82, 83, 84, 85, 86, 87, 88, 89, 90, 91, 92, 93, 94, 95, 96, 97, 98, 99, 100, 101, 102, 103] 5 6 7 (fun v5 v6 v7 w => v7 = .int .i64 0 ∧ v6 = .slice none 0 0 ∧ Sat w0 w (Cel bg hdr 50 :: L)) (fun v5 v6 v7 w => 0) ?_ ?_
   ·
    first | exact ⟨rfl, S⟩ | exact ⟨rfl, rfl, S⟩
   ·
    rintro g1 v5 v6 v7 w ⟨rfl, rfl, S⟩
    refine W.seq ?_
    refine W.seq ?_
    refine W.region rfl ?_
    refine WO.q (Y.move (v := .int .i64 _) rfl) ?_
    first | refine WO.q (Y.move (v := .pointer (some _)) rfl) ?_ | refine WO.q (Y.move (v := .pointer _) rfl) ?_
    refine WO.q (Y.nilP rfl) ?_
    first | refine WO.q (Y.fieldB fo_50_13 rfl) ?_ | refine WO.q (Y.fieldE fo_50_13 rfl) ?_
    first | refine WO.q (Y.load rfl (loadS1 sz_48 S 0 rfl hh)) ?_ | refine WO.q (Y.load rfl (loadS1 sz_48 S 0 rfl rfl)) ?_
    refine WO.q (Y.len (t' := 0) Tryd.underlying48 rfl) ?_
    refine WO.q (Y.lss rfl rfl) ?_
    refine WO.nil ?_
    refine Then.nx ?_
    refine W.cond rfl (fun h2 => ?_) (fun h2 => ?_) -- cond 1
    ·
     have rh2 := h2
     (try simp only [Q1, Q2, Q3, Q4, Q5, Q6, Q7, Q8, Q9, Qa] at h2)
     exfalso; omega
    ·
     have rh2 := h2
     (try simp only [Q1, Q2, Q3, Q4, Q5, Q6, Q7, Q8, Q9, Qa] at h2)
     refine W.exit ?_
     refine Then.x ?_
     refine Then.x ?_
     refine InB.e ?_
     refine Then.nx ?_
     refine W.seq ?_
     refine W.seq ?_
     refine W.region rfl ?_
     refine WO.q (Y.assign (v := .int .i64 _) rfl) ?_
     refine WO.nil ?_
     refine Then.nx ?_
     refine W.block ?_
     -- loop 2 carries 10:n
     refine W.loop1 [2, 10, 11, 12, 13, 104, 105, 106, 107, 108, 109, 110, 111, 112, 113, 114, 115, 116, 117, 118, 119, 120, 121, 122, 123, 124, 125, 126, 127, 128, 129, 130, 131, 132, 133, 134, 135, 136, 137, 138, 139, 140, 141, 142, 143, 144, 145, 146, 147, 148, 149, 150, 151, 152, 153, 154, 155, 156, 157, 158, 159, 160, 161, 162, 163, 164, 165, 166, 167, 168, 169, 170, 171, 172, 173, 174, 175, 176, 177, 178, 179, 180, 181, 182, 183, 184, 185, 186, 187, 188, 189, 190, 191, 192, 193, 194, 195, 196, 197, 198, 199, 200, 201, 202, 203, 204, 205, 206, 207, 208] 10 (fun v10 w => v10 = .int .i64 0 ∧ Sat w0 w (Cel bg hdr 50 :: L)) (fun v10 w => 0) ?_ ?_
     ·
      first | exact ⟨rfl, S⟩ | exact ⟨rfl, rfl, S⟩
     ·
      rintro g2 v10 w ⟨rfl, S⟩
      refine W.seq ?_
      refine W.seq ?_
      refine W.region rfl ?_
      refine WO.q (Y.move (v := .int .i64 _) rfl) ?_
      refine WO.q (Y.move (v := .slice _ _ _) rfl) ?_
      refine WO.q (Y.len (t' := 0) Tryd.underlying48 rfl) ?_
      refine WO.q (Y.lss rfl rfl) ?_
      refine WO.nil ?_
      refine Then.nx ?_
      refine W.cond rfl (fun h3 => ?_) (fun h3 => ?_) -- cond 2
      ·
       have rh3 := h3
       (try simp only [Q1, Q2, Q3, Q4, Q5, Q6, Q7, Q8, Q9, Qa] at h3)
       exfalso; omega
      ·
       have rh3 := h3
       (try simp only [Q1, Q2, Q3, Q4, Q5, Q6, Q7, Q8, Q9, Qa] at h3)
       refine W.exit ?_
       refine Then.x ?_
       refine Then.x ?_
       refine InB.e ?_
       refine Then.nx ?_
       refine W.seq ?_
       refine W.region rfl ?_
       refine WO.q (Y.assign (v := .bool _) rfl) ?_
       refine WO.nil ?_
       refine Then.nx ?_
       refine W.ret ?_
       refine BodyQ.ret1 Tryd.results62 (ResV.tmp _ rfl) ?_
       exact ⟨rfl, S⟩
end Go.Proofs
