/-
  Walks of sortI, compactI.
-/
import Derived.Test.YtlnimgpfopaicaaGe
import Derived.Test.YtlnimgpfopaicaaGh
import Derived.Test.YtlnimgpfopaicaaSx
import Derived.Test.YtlnimgpfopaicaaFa
import Derived.Test.YtlnimgpfopaicaaFb
set_option linter.unusedVariables false
set_option linter.unusedSimpArgs false
set_option maxRecDepth 100000
set_option maxHeartbeats 1000000
namespace Go.Proofs
open Go Go.TL Go.RowKit
theorem sortI_spec (w0 w : World) (L : List HA) (a : Option Addr) (c : Nat) (zs : List Int) (hsz : zs.length ≤ 1048576) (S : Sat w0 w (Own (tI .i64) 3 a c zs :: L)) :
    Calls Try.prog 39 [.slice a zs.length c].toArray w (fun r w' => r = .returned (.tuple #[]) ∧ Sat w0 w' (Own (tI .i64) 3 a c (zs.mergeSort fun x y => decide (x ≤ y)) :: L)) := by
 cases a with
 | none =>
  obtain ⟨h0, hc⟩ := (S.ownLen 0 rfl).2.2.2 rfl
  subst h0 hc
  exact (Try.slices_Sort_int_none none 0 w).mono fun r w' h => ⟨h.1, by rw [h.2, List.mergeSort_nil]; exact S⟩
 | some p =>
  obtain ⟨g, hg⟩ : ∃ g, p = ⟨g, 0, none⟩ := by
   by_cases hc : 0 < c
   · obtain ⟨g, hg⟩ := (S.ownLen 0 rfl).2.2.1 hc; exact ⟨g, Option.some.inj hg⟩
   · exact S.fact 0 rfl fun x hx => by
      obtain ⟨_, hx | ⟨g, sp, e1, _⟩⟩ := hx
      · cases hx.1
      · exact ⟨g, Option.some.inj e1⟩
  subst hg
  obtain ⟨hH, hb⟩ := S.holdsInts
  exact (Try.slices_Sort_int g 0 c zs w hH hb (by omega)).mono fun r w' h => by
   obtain ⟨h1, n, os, rfl⟩ := h
   exact ⟨h1, S.putInts (List.length_mergeSort ..)⟩
theorem compactI_spec (w0 w : World) (L : List HA) (a : Option Addr) (c n : Nat) (zs : List Int) (hn : n = zs.length) (hsz : zs.length ≤ 1048576) (S : Sat w0 w (Own (tI .i64) 3 a c zs :: L)) :
    Calls Try.prog 41 [.slice a n c].toArray w (fun r w' => r = .returned (.slice a (Lib.compact zs).length c) ∧ Sat w0 w' (Own (tI .i64) 3 a c (Lib.compact zs ++ List.replicate (zs.length - (Lib.compact zs).length) 0) :: L)) := by
 subst hn
 cases a with
 | none =>
  obtain ⟨h0, hc⟩ := (S.ownLen 0 rfl).2.2.2 rfl
  subst h0 hc
  exact (Try.slices_Compact_int_empty none 0 w).mono fun r w' h => ⟨h.1, by rw [h.2]; exact S⟩
 | some p =>
  obtain ⟨g, hg⟩ : ∃ g, p = ⟨g, 0, none⟩ := by
   by_cases hc : 0 < c
   · obtain ⟨g, hg⟩ := (S.ownLen 0 rfl).2.2.1 hc; exact ⟨g, Option.some.inj hg⟩
   · exact S.fact 0 rfl fun x hx => by
      obtain ⟨_, hx | ⟨g, sp, e1, _⟩⟩ := hx
      · cases hx.1
      · exact ⟨g, Option.some.inj e1⟩
  subst hg
  obtain ⟨hH, hb⟩ := S.holdsInts
  have hle : (Lib.compact zs).length ≤ zs.length := Lib.compact_length_le zs
  exact (Try.slices_Compact_int g 0 c zs w hH (by omega) ((S.ownLen 0 rfl).1)).mono fun r w' h => by
   obtain ⟨h1, n, rfl⟩ := h
   refine ⟨h1, ?_⟩
   exact S.putInts0 (by simp; omega)
end Go.Proofs
