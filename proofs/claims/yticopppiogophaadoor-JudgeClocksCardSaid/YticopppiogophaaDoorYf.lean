/-
  Walks of Apart_Ints_Rows.
-/
import Derived.Test.YticopppiogophaaDoorTw
import Derived.Test.YticopppiogophaaDoorTp
import Derived.Test.YticopppiogophaaDoorSx
import Derived.Test.YticopppiogophaaDoorFa
import Derived.Test.YticopppiogophaaDoorFb
import Derived.Test.YticopppiogophaaDoorFc
import Derived.Test.YticopppiogophaaDoorVb
import Derived.Test.YticopppiogophaaDoorVc
import Derived.Test.YticopppiogophaaDoorYa
set_option linter.unusedVariables false
set_option linter.unusedSimpArgs false
set_option maxRecDepth 100000
set_option maxHeartbeats 1000000
namespace Go.Proofs
open Go Go.TL Go.RowKit
theorem Apart_Ints_Rows_spec (w0 w : World) (bg : Nat) (hdr : List Value) (L : List HA) (gaInts : Option Addr) (gcInts : Nat) (psInts : List SlV) (NInts : Nat → Nat) (fsInts : Nat → List Int) (hhInts : hdr[1]? = some (.slice gaInts psInts.length gcInts)) (hkInts : psInts.length ≤ 400) (hNInts : ∀ j, j < psInts.length → (psInts.getD j sl0).2.1 = NInts j ∧ (fsInts j).length = NInts j ∧ NInts j ≤ 1048576) (gaRows : Option Addr) (gcRows : Nat) (psRows : List SlV) (NRows : Nat → Nat) (fsRows : Nat → List SlV) (hhRows : hdr[11]? = some (.slice gaRows psRows.length gcRows)) (hkRows : psRows.length ≤ 400) (hNRows : ∀ j, j < psRows.length → (psRows.getD j sl0).2.1 = NRows j ∧ (fsRows j).length = NRows j ∧ NRows j ≤ 1048576) (h0Bytes : hdr[0]? = some (.slice none 0 0)) (h0Longs : hdr[2]? = some (.slice none 0 0)) (h0Smalls : hdr[3]? = some (.slice none 0 0)) (h0Bools : hdr[4]? = some (.slice none 0 0)) (h0Texts : hdr[5]? = some (.slice none 0 0)) (h0Accesses : hdr[6]? = some (.slice none 0 0)) (h0Calls : hdr[7]? = some (.slice none 0 0)) (h0Races : hdr[8]? = some (.slice none 0 0)) (h0FlowNodes : hdr[9]? = some (.slice none 0 0)) (h0Ends : hdr[10]? = some (.slice none 0 0)) (h0LongRows : hdr[12]? = some (.slice none 0 0)) (h0Lets : hdr[13]? = some (.slice none 0 0)) (S : Sat w0 w (Cel bg hdr 50 :: Own tSl 27 gaInts gcInts psInts :: Rws (ARow (tI .i64) 3 psInts fsInts) psInts.length :: Own tSl 36 gaRows gcRows psRows :: Rws (ARow tSl 27 psRows fsRows) psRows.length :: L)) :
    Calls Tryd.prog 18 [.pointer (some ⟨bg, 0, none⟩)].toArray w (fun e w' => e = .returned (.bool true) ∧ Sat w0 w' (Cel bg hdr 50 :: L)) := by
 refine calls_of_W (args := [.pointer (some ⟨bg, 0, none⟩)]) 47 Tryd.func18 rfl Tryd.ntmps18 rfl ?_
 refine W.seq ?_
 refine W.region rfl ?_
 refine WO.q (Y.assign (v := .bool _) rfl) ?_
 refine WO.nil ?_
 refine Then.nx ?_
 refine W.seq ?_
 refine W.region rfl ?_
 refine WO.q (Y.assign (v := .bool _) rfl) ?_
 refine WO.nil ?_
 refine Then.nx ?_
 refine W.seq ?_
 refine W.seq ?_
 refine W.region rfl ?_
 first | refine WO.q (Y.move (v := .pointer (some _)) rfl) ?_ | refine WO.q (Y.move (v := .pointer _) rfl) ?_
 refine WO.e (O.call cf_49 rfl (apartBytes0_spec w0 _ bg hdr _ (by assumption) S) ?_)
 rintro _ w ⟨rfl, S⟩
 refine ⟨_, rfl, ?_⟩
 refine WO.q (Y.not rfl) ?_
 refine WO.nil ?_
 refine Then.nx ?_
 refine W.cond rfl (fun h1 => ?_) (fun h1 => ?_) -- cond 0
 ·
  have rh1 := h1
  (try simp only [Q1, Q2, Q3, Q4, Q5, Q6, Q7, Q8, Q9, Qa] at h1)
  cases rh1
 ·
  have rh1 := h1
  (try simp only [Q1, Q2, Q3, Q4, Q5, Q6, Q7, Q8, Q9, Qa] at h1)
  refine W.skip ?_
  refine Then.nx ?_
  refine W.seq ?_
  refine W.seq ?_
  refine W.region rfl ?_
  first | refine WO.q (Y.move (v := .pointer (some _)) rfl) ?_ | refine WO.q (Y.move (v := .pointer _) rfl) ?_
  refine WO.e (O.call cf_50 rfl (apartInts_spec w0 _ bg hdr _ _ psInts NInts fsInts _ hhInts hkInts hNInts S) ?_)
  rintro _ w ⟨rfl, S⟩
  refine ⟨_, rfl, ?_⟩
  refine WO.q (Y.not rfl) ?_
  refine WO.nil ?_
  refine Then.nx ?_
  refine W.cond rfl (fun h2 => ?_) (fun h2 => ?_) -- cond 1
  ·
   have rh2 := h2
   (try simp only [Q1, Q2, Q3, Q4, Q5, Q6, Q7, Q8, Q9, Qa] at h2)
   cases rh2
  ·
   have rh2 := h2
   (try simp only [Q1, Q2, Q3, Q4, Q5, Q6, Q7, Q8, Q9, Qa] at h2)
   refine W.skip ?_
   refine Then.nx ?_
   refine W.seq ?_
   refine W.seq ?_
   refine W.region rfl ?_
   first | refine WO.q (Y.move (v := .pointer (some _)) rfl) ?_ | refine WO.q (Y.move (v := .pointer _) rfl) ?_
   refine WO.e (O.call cf_51 rfl (apartLongs0_spec w0 _ bg hdr _ (by assumption) S) ?_)
   rintro _ w ⟨rfl, S⟩
   refine ⟨_, rfl, ?_⟩
   refine WO.q (Y.not rfl) ?_
   refine WO.nil ?_
   refine Then.nx ?_
   refine W.cond rfl (fun h3 => ?_) (fun h3 => ?_) -- cond 2
   ·
    have rh3 := h3
    (try simp only [Q1, Q2, Q3, Q4, Q5, Q6, Q7, Q8, Q9, Qa] at h3)
    cases rh3
   ·
    have rh3 := h3
    (try simp only [Q1, Q2, Q3, Q4, Q5, Q6, Q7, Q8, Q9, Qa] at h3)
    refine W.skip ?_
    refine Then.nx ?_
    refine W.seq ?_
    refine W.seq ?_
    refine W.region rfl ?_
    first | refine WO.q (Y.move (v := .pointer (some _)) rfl) ?_ | refine WO.q (Y.move (v := .pointer _) rfl) ?_
    refine WO.e (O.call cf_52 rfl (apartSmalls0_spec w0 _ bg hdr _ (by assumption) S) ?_)
    rintro _ w ⟨rfl, S⟩
    refine ⟨_, rfl, ?_⟩
    refine WO.q (Y.not rfl) ?_
    refine WO.nil ?_
    refine Then.nx ?_
    refine W.cond rfl (fun h4 => ?_) (fun h4 => ?_) -- cond 3
    ·
     have rh4 := h4
     (try simp only [Q1, Q2, Q3, Q4, Q5, Q6, Q7, Q8, Q9, Qa] at h4)
     cases rh4
    ·
     have rh4 := h4
     (try simp only [Q1, Q2, Q3, Q4, Q5, Q6, Q7, Q8, Q9, Qa] at h4)
     refine W.skip ?_
     refine Then.nx ?_
     refine W.seq ?_
     refine W.seq ?_
     refine W.region rfl ?_
     first | refine WO.q (Y.move (v := .pointer (some _)) rfl) ?_ | refine WO.q (Y.move (v := .pointer _) rfl) ?_
     refine WO.e (O.call cf_53 rfl (apartBools0_spec w0 _ bg hdr _ (by assumption) S) ?_)
     rintro _ w ⟨rfl, S⟩
     refine ⟨_, rfl, ?_⟩
     refine WO.q (Y.not rfl) ?_
     refine WO.nil ?_
     refine Then.nx ?_
     refine W.cond rfl (fun h5 => ?_) (fun h5 => ?_) -- cond 4
     ·
      have rh5 := h5
      (try simp only [Q1, Q2, Q3, Q4, Q5, Q6, Q7, Q8, Q9, Qa] at h5)
      cases rh5
     ·
      have rh5 := h5
      (try simp only [Q1, Q2, Q3, Q4, Q5, Q6, Q7, Q8, Q9, Qa] at h5)
      refine W.skip ?_
      refine Then.nx ?_
      refine W.seq ?_
      refine W.seq ?_
      refine W.region rfl ?_
      first | refine WO.q (Y.move (v := .pointer (some _)) rfl) ?_ | refine WO.q (Y.move (v := .pointer _) rfl) ?_
      refine WO.e (O.call cf_54 rfl (apartTexts0_spec w0 _ bg hdr _ (by assumption) S) ?_)
      rintro _ w ⟨rfl, S⟩
      refine ⟨_, rfl, ?_⟩
      refine WO.q (Y.not rfl) ?_
      refine WO.nil ?_
      refine Then.nx ?_
      refine W.cond rfl (fun h6 => ?_) (fun h6 => ?_) -- cond 5
      ·
       have rh6 := h6
       (try simp only [Q1, Q2, Q3, Q4, Q5, Q6, Q7, Q8, Q9, Qa] at h6)
       cases rh6
      ·
       have rh6 := h6
       (try simp only [Q1, Q2, Q3, Q4, Q5, Q6, Q7, Q8, Q9, Qa] at h6)
       refine W.skip ?_
       refine Then.nx ?_
       refine W.seq ?_
       refine W.seq ?_
       refine W.region rfl ?_
       first | refine WO.q (Y.move (v := .pointer (some _)) rfl) ?_ | refine WO.q (Y.move (v := .pointer _) rfl) ?_
       refine WO.e (O.call cf_55 rfl (apartAccesses0_spec w0 _ bg hdr _ (by assumption) S) ?_)
       rintro _ w ⟨rfl, S⟩
       refine ⟨_, rfl, ?_⟩
       refine WO.q (Y.not rfl) ?_
       refine WO.nil ?_
       refine Then.nx ?_
       refine W.cond rfl (fun h7 => ?_) (fun h7 => ?_) -- cond 6
       ·
        have rh7 := h7
        (try simp only [Q1, Q2, Q3, Q4, Q5, Q6, Q7, Q8, Q9, Qa] at h7)
        cases rh7
       ·
        have rh7 := h7
        (try simp only [Q1, Q2, Q3, Q4, Q5, Q6, Q7, Q8, Q9, Qa] at h7)
        refine W.skip ?_
        refine Then.nx ?_
        refine W.seq ?_
        refine W.seq ?_
        refine W.region rfl ?_
        first | refine WO.q (Y.move (v := .pointer (some _)) rfl) ?_ | refine WO.q (Y.move (v := .pointer _) rfl) ?_
        refine WO.e (O.call cf_56 rfl (apartCalls0_spec w0 _ bg hdr _ (by assumption) S) ?_)
        rintro _ w ⟨rfl, S⟩
        refine ⟨_, rfl, ?_⟩
        refine WO.q (Y.not rfl) ?_
        refine WO.nil ?_
        refine Then.nx ?_
        refine W.cond rfl (fun h8 => ?_) (fun h8 => ?_) -- cond 7
        ·
         have rh8 := h8
         (try simp only [Q1, Q2, Q3, Q4, Q5, Q6, Q7, Q8, Q9, Qa] at h8)
         cases rh8
        ·
         have rh8 := h8
         (try simp only [Q1, Q2, Q3, Q4, Q5, Q6, Q7, Q8, Q9, Qa] at h8)
         refine W.skip ?_
         refine Then.nx ?_
         refine W.seq ?_
         refine W.seq ?_
         refine W.region rfl ?_
         first | refine WO.q (Y.move (v := .pointer (some _)) rfl) ?_ | refine WO.q (Y.move (v := .pointer _) rfl) ?_
         refine WO.e (O.call cf_57 rfl (apartRaces0_spec w0 _ bg hdr _ (by assumption) S) ?_)
         rintro _ w ⟨rfl, S⟩
         refine ⟨_, rfl, ?_⟩
         refine WO.q (Y.not rfl) ?_
         refine WO.nil ?_
         refine Then.nx ?_
         refine W.cond rfl (fun h9 => ?_) (fun h9 => ?_) -- cond 8
         ·
          have rh9 := h9
          (try simp only [Q1, Q2, Q3, Q4, Q5, Q6, Q7, Q8, Q9, Qa] at h9)
          cases rh9
         ·
          have rh9 := h9
          (try simp only [Q1, Q2, Q3, Q4, Q5, Q6, Q7, Q8, Q9, Qa] at h9)
          refine W.skip ?_
          refine Then.nx ?_
          refine W.seq ?_
          refine W.seq ?_
          refine W.region rfl ?_
          first | refine WO.q (Y.move (v := .pointer (some _)) rfl) ?_ | refine WO.q (Y.move (v := .pointer _) rfl) ?_
          refine WO.e (O.call cf_58 rfl (apartFlowNodes0_spec w0 _ bg hdr _ (by assumption) S) ?_)
          rintro _ w ⟨rfl, S⟩
          refine ⟨_, rfl, ?_⟩
          refine WO.q (Y.not rfl) ?_
          refine WO.nil ?_
          refine Then.nx ?_
          refine W.cond rfl (fun h10 => ?_) (fun h10 => ?_) -- cond 9
          ·
           have rh10 := h10
           (try simp only [Q1, Q2, Q3, Q4, Q5, Q6, Q7, Q8, Q9, Qa] at h10)
           cases rh10
          ·
           have rh10 := h10
           (try simp only [Q1, Q2, Q3, Q4, Q5, Q6, Q7, Q8, Q9, Qa] at h10)
           refine W.skip ?_
           refine Then.nx ?_
           refine W.seq ?_
           refine W.seq ?_
           refine W.region rfl ?_
           first | refine WO.q (Y.move (v := .pointer (some _)) rfl) ?_ | refine WO.q (Y.move (v := .pointer _) rfl) ?_
           refine WO.e (O.call cf_59 rfl (apartEnds0_spec w0 _ bg hdr _ (by assumption) S) ?_)
           rintro _ w ⟨rfl, S⟩
           refine ⟨_, rfl, ?_⟩
           refine WO.q (Y.not rfl) ?_
           refine WO.nil ?_
           refine Then.nx ?_
           refine W.cond rfl (fun h11 => ?_) (fun h11 => ?_) -- cond 10
           ·
            have rh11 := h11
            (try simp only [Q1, Q2, Q3, Q4, Q5, Q6, Q7, Q8, Q9, Qa] at h11)
            cases rh11
           ·
            have rh11 := h11
            (try simp only [Q1, Q2, Q3, Q4, Q5, Q6, Q7, Q8, Q9, Qa] at h11)
            refine W.skip ?_
            refine Then.nx ?_
            refine W.seq ?_
            refine W.seq ?_
            refine W.region rfl ?_
            first | refine WO.q (Y.move (v := .pointer (some _)) rfl) ?_ | refine WO.q (Y.move (v := .pointer _) rfl) ?_
            refine WO.e (O.call cf_60 rfl (apartRows_spec w0 _ bg hdr _ _ psRows NRows fsRows _ hhRows hkRows hNRows S) ?_)
            rintro _ w ⟨rfl, S⟩
            refine ⟨_, rfl, ?_⟩
            refine WO.q (Y.not rfl) ?_
            refine WO.nil ?_
            refine Then.nx ?_
            refine W.cond rfl (fun h12 => ?_) (fun h12 => ?_) -- cond 11
            ·
             have rh12 := h12
             (try simp only [Q1, Q2, Q3, Q4, Q5, Q6, Q7, Q8, Q9, Qa] at h12)
             cases rh12
            ·
             have rh12 := h12
             (try simp only [Q1, Q2, Q3, Q4, Q5, Q6, Q7, Q8, Q9, Qa] at h12)
             refine W.skip ?_
             refine Then.nx ?_
             refine W.seq ?_
             refine W.seq ?_
             refine W.region rfl ?_
             first | refine WO.q (Y.move (v := .pointer (some _)) rfl) ?_ | refine WO.q (Y.move (v := .pointer _) rfl) ?_
             refine WO.e (O.call cf_61 rfl (apartLongRows0_spec w0 _ bg hdr _ (by assumption) S) ?_)
             rintro _ w ⟨rfl, S⟩
             refine ⟨_, rfl, ?_⟩
             refine WO.q (Y.not rfl) ?_
             refine WO.nil ?_
             refine Then.nx ?_
             refine W.cond rfl (fun h13 => ?_) (fun h13 => ?_) -- cond 12
             ·
              have rh13 := h13
              (try simp only [Q1, Q2, Q3, Q4, Q5, Q6, Q7, Q8, Q9, Qa] at h13)
              cases rh13
             ·
              have rh13 := h13
              (try simp only [Q1, Q2, Q3, Q4, Q5, Q6, Q7, Q8, Q9, Qa] at h13)
              refine W.skip ?_
              refine Then.nx ?_
              refine W.seq ?_
              refine W.seq ?_
              refine W.region rfl ?_
              first | refine WO.q (Y.move (v := .pointer (some _)) rfl) ?_ | refine WO.q (Y.move (v := .pointer _) rfl) ?_
              refine WO.e (O.call cf_62 rfl (apartLets0_spec w0 _ bg hdr _ (by assumption) S) ?_)
              rintro _ w ⟨rfl, S⟩
              refine ⟨_, rfl, ?_⟩
              refine WO.q (Y.not rfl) ?_
              refine WO.nil ?_
              refine Then.nx ?_
              refine W.cond rfl (fun h14 => ?_) (fun h14 => ?_) -- cond 13
              ·
               have rh14 := h14
               (try simp only [Q1, Q2, Q3, Q4, Q5, Q6, Q7, Q8, Q9, Qa] at h14)
               cases rh14
              ·
               have rh14 := h14
               (try simp only [Q1, Q2, Q3, Q4, Q5, Q6, Q7, Q8, Q9, Qa] at h14)
               refine W.skip ?_
               refine Then.nx ?_
               refine W.seq ?_
               refine W.region rfl ?_
               refine WO.q (Y.move (v := .bool _) rfl) ?_
               refine WO.q (Y.assign (v := .bool _) rfl) ?_
               refine WO.nil ?_
               refine Then.nx ?_
               refine W.ret ?_
               refine BodyQ.ret1 Tryd.results18 (ResV.tmp _ rfl) ?_
               exact ⟨rfl, S⟩
end Go.Proofs
