/-
  Walks of copyCheck_f, copyCheck_u, copyCheck, WriteString, key.
-/
import Derived.Test.YticopppiogophaaDoorTp
import Derived.Test.YticopppiogophaaDoorTo
import Derived.Test.YticopppiogophaaDoorSx
import Derived.Test.YticopppiogophaaDoorFa
import Derived.Test.YticopppiogophaaDoorFb
import Derived.Test.YticopppiogophaaDoorFc
set_option linter.unusedVariables false
set_option linter.unusedSimpArgs false
set_option maxRecDepth 100000
set_option maxHeartbeats 1000000
namespace Go.Proofs
open Go Go.TL Go.RowKit
theorem copyCheck_f (w0 w : World) (b : Nat) (l : List UInt8) (L : List HA) (v : Value) (S : Sat w0 w (Cel b [.pointer none, v] 121 :: L)) :
    Calls Tryd.prog 85 [.pointer (some ⟨b, 0, none⟩)].toArray w (fun e w' => e = .returned (.tuple #[]) ∧ Sat w0 w' (Cel b [.pointer (some ⟨b, 0, none⟩), v] 121 :: L)) := by
 obtain ⟨j, hj, hjs⟩ := Option.map_eq_some_iff.1 (show (Tryd.prog.info? 121).map (fun i => i.size) = some 2 by kernel_rfl)
 refine calls_of_W (args := [.pointer (some ⟨b, 0, none⟩)]) 20 Tryd.func85 rfl Tryd.ntmps85 rfl ?_
 refine W.seq ?_
 refine W.region rfl ?_
 first | refine WO.q (Y.move (v := .pointer (some _)) rfl) ?_ | refine WO.q (Y.move (v := .pointer _) rfl) ?_
 refine WO.q (Y.nilP rfl) ?_
 first | refine WO.q (Y.fieldB fo_121_0 rfl) ?_ | refine WO.q (Y.fieldE fo_121_0 rfl) ?_
 first | refine WO.q (Y.load rfl (loadS1 sz_119 S 0 rfl rfl)) ?_ | refine WO.q (Y.load rfl (loadS1 sz_119 S 1 rfl rfl)) ?_ | refine WO.q (Y.load rfl (loadS1 sz_119 S 2 rfl rfl)) ?_ | refine WO.q (Y.load rfl (loadS1 sz_119 S 3 rfl rfl)) ?_ | refine WO.q (Y.load rfl (loadS1 sz_119 S 4 rfl rfl)) ?_ | refine WO.q (Y.load rfl (loadS1 sz_119 S 5 rfl rfl)) ?_ | refine WO.q (Y.load rfl (loadS1 sz_119 S 6 rfl rfl)) ?_ | refine WO.q (Y.load rfl (loadS1 sz_119 S 7 rfl rfl)) ?_
 refine WO.q (Y.eqNilP Tryd.underlying119 rfl rfl) ?_
 refine WO.nil ?_
 refine Then.nx ?_
 refine W.cond rfl (fun h1 => ?_) (fun h1 => ?_) -- cond 0
 ·
  have rh1 := h1
  (try simp only [Q1, Q2, Q3, Q4, Q5, Q6, Q7, Q8, Q9, Qa] at h1)
  refine W.region rfl ?_
  first | refine WO.q (Y.move (v := .pointer (some _)) rfl) ?_ | refine WO.q (Y.move (v := .pointer _) rfl) ?_
  first | refine WO.q (Y.move (v := .pointer (some _)) rfl) ?_ | refine WO.q (Y.move (v := .pointer _) rfl) ?_
  refine WO.q (Y.convR rfl (Lib.run_to_unsafe w ⟨b, 0, none⟩ Tryd.underlying119 Tryd.underlying159 hj (by rw [hjs]; decide) (show _ = some (121, 2) by simp [World.shape?, (S.blk 0 rfl).1]) (Nat.zero_lt_succ 1))) ?_
  refine WO.q (Y.callExt (e := Extern.AbiNoEscape.same) (fn := Tryd.f88) rfl (by kernel_rfl) (by kernel_rfl) (by kernel_rfl) (by kernel_rfl) rfl (Lib.run_noEscape w _)) ?_
  refine WO.q (Y.convR rfl (Lib.run_from_unsafe w ⟨b, 0, none⟩ Tryd.underlying159 Tryd.underlying119 hj (show _ = some (121, 2) by simp [World.shape?, (S.blk 0 rfl).1]) (by kernel_rfl))) ?_
  refine WO.q (Y.nilP rfl) ?_
  first | refine WO.q (Y.fieldB fo_121_0 rfl) ?_ | refine WO.q (Y.fieldE fo_121_0 rfl) ?_
  first | refine WO.e0 (O.store (v := .pointer (some _)) 0 S rfl rfl rfl sz_119 rfl rfl rfl rfl (fun w S => ?_)) | refine WO.e0 (O.store (v := .pointer _) 0 S rfl rfl rfl sz_119 rfl rfl rfl rfl (fun w S => ?_)) | refine WO.e0 (O.store (v := .pointer (some _)) 1 S rfl rfl rfl sz_119 rfl rfl rfl rfl (fun w S => ?_)) | refine WO.e0 (O.store (v := .pointer _) 1 S rfl rfl rfl sz_119 rfl rfl rfl rfl (fun w S => ?_)) | refine WO.e0 (O.store (v := .pointer (some _)) 2 S rfl rfl rfl sz_119 rfl rfl rfl rfl (fun w S => ?_)) | refine WO.e0 (O.store (v := .pointer _) 2 S rfl rfl rfl sz_119 rfl rfl rfl rfl (fun w S => ?_)) | refine WO.e0 (O.store (v := .pointer (some _)) 3 S rfl rfl rfl sz_119 rfl rfl rfl rfl (fun w S => ?_)) | refine WO.e0 (O.store (v := .pointer _) 3 S rfl rfl rfl sz_119 rfl rfl rfl rfl (fun w S => ?_)) | refine WO.e0 (O.store (v := .pointer (some _)) 4 S rfl rfl rfl sz_119 rfl rfl rfl rfl (fun w S => ?_)) | refine WO.e0 (O.store (v := .pointer _) 4 S rfl rfl rfl sz_119 rfl rfl rfl rfl (fun w S => ?_)) | refine WO.e0 (O.store (v := .pointer (some _)) 5 S rfl rfl rfl sz_119 rfl rfl rfl rfl (fun w S => ?_)) | refine WO.e0 (O.store (v := .pointer _) 5 S rfl rfl rfl sz_119 rfl rfl rfl rfl (fun w S => ?_)) | refine WO.e0 (O.store (v := .pointer (some _)) 6 S rfl rfl rfl sz_119 rfl rfl rfl rfl (fun w S => ?_)) | refine WO.e0 (O.store (v := .pointer _) 6 S rfl rfl rfl sz_119 rfl rfl rfl rfl (fun w S => ?_)) | refine WO.e0 (O.store (v := .pointer (some _)) 7 S rfl rfl rfl sz_119 rfl rfl rfl rfl (fun w S => ?_)) | refine WO.e0 (O.store (v := .pointer _) 7 S rfl rfl rfl sz_119 rfl rfl rfl rfl (fun w S => ?_))
  refine WO.nil ?_
  refine BodyQ.end0 Tryd.results85 ?_
  exact ⟨rfl, S⟩
 ·
  have rh1 := h1
  (try simp only [Q1, Q2, Q3, Q4, Q5, Q6, Q7, Q8, Q9, Qa] at h1)
  cases rh1
theorem copyCheck_u (w0 w : World) (b : Nat) (l : List UInt8) (L : List HA) (v : Value) (S : Sat w0 w (Cel b [.pointer (some ⟨b, 0, none⟩), v] 121 :: L)) :
    Calls Tryd.prog 85 [.pointer (some ⟨b, 0, none⟩)].toArray w (fun e w' => e = .returned (.tuple #[]) ∧ Sat w0 w' (Cel b [.pointer (some ⟨b, 0, none⟩), v] 121 :: L)) := by
 obtain ⟨j, hj, hjs⟩ := Option.map_eq_some_iff.1 (show (Tryd.prog.info? 121).map (fun i => i.size) = some 2 by kernel_rfl)
 refine calls_of_W (args := [.pointer (some ⟨b, 0, none⟩)]) 20 Tryd.func85 rfl Tryd.ntmps85 rfl ?_
 refine W.seq ?_
 refine W.region rfl ?_
 first | refine WO.q (Y.move (v := .pointer (some _)) rfl) ?_ | refine WO.q (Y.move (v := .pointer _) rfl) ?_
 refine WO.q (Y.nilP rfl) ?_
 first | refine WO.q (Y.fieldB fo_121_0 rfl) ?_ | refine WO.q (Y.fieldE fo_121_0 rfl) ?_
 first | refine WO.q (Y.load rfl (loadS1 sz_119 S 0 rfl rfl)) ?_ | refine WO.q (Y.load rfl (loadS1 sz_119 S 1 rfl rfl)) ?_ | refine WO.q (Y.load rfl (loadS1 sz_119 S 2 rfl rfl)) ?_ | refine WO.q (Y.load rfl (loadS1 sz_119 S 3 rfl rfl)) ?_ | refine WO.q (Y.load rfl (loadS1 sz_119 S 4 rfl rfl)) ?_ | refine WO.q (Y.load rfl (loadS1 sz_119 S 5 rfl rfl)) ?_ | refine WO.q (Y.load rfl (loadS1 sz_119 S 6 rfl rfl)) ?_ | refine WO.q (Y.load rfl (loadS1 sz_119 S 7 rfl rfl)) ?_
 refine WO.q (Y.eqNilP Tryd.underlying119 rfl rfl) ?_
 refine WO.nil ?_
 refine Then.nx ?_
 refine W.cond rfl (fun h1 => ?_) (fun h1 => ?_) -- cond 0
 ·
  have rh1 := h1
  (try simp only [Q1, Q2, Q3, Q4, Q5, Q6, Q7, Q8, Q9, Qa] at h1)
  cases rh1
 ·
  have rh1 := h1
  (try simp only [Q1, Q2, Q3, Q4, Q5, Q6, Q7, Q8, Q9, Qa] at h1)
  refine W.seq ?_
  refine W.region rfl ?_
  first | refine WO.q (Y.move (v := .pointer (some _)) rfl) ?_ | refine WO.q (Y.move (v := .pointer _) rfl) ?_
  refine WO.q (Y.nilP rfl) ?_
  first | refine WO.q (Y.fieldB fo_121_0 rfl) ?_ | refine WO.q (Y.fieldE fo_121_0 rfl) ?_
  first | refine WO.q (Y.load rfl (loadS1 sz_119 S 0 rfl rfl)) ?_ | refine WO.q (Y.load rfl (loadS1 sz_119 S 1 rfl rfl)) ?_ | refine WO.q (Y.load rfl (loadS1 sz_119 S 2 rfl rfl)) ?_ | refine WO.q (Y.load rfl (loadS1 sz_119 S 3 rfl rfl)) ?_ | refine WO.q (Y.load rfl (loadS1 sz_119 S 4 rfl rfl)) ?_ | refine WO.q (Y.load rfl (loadS1 sz_119 S 5 rfl rfl)) ?_ | refine WO.q (Y.load rfl (loadS1 sz_119 S 6 rfl rfl)) ?_ | refine WO.q (Y.load rfl (loadS1 sz_119 S 7 rfl rfl)) ?_
  first | refine WO.q (Y.move (v := .pointer (some _)) rfl) ?_ | refine WO.q (Y.move (v := .pointer _) rfl) ?_
  refine WO.q (Y.nePtrSame Tryd.underlying119 hj rfl rfl) ?_
  refine WO.nil ?_
  refine Then.nx ?_
  refine W.cond rfl (fun h2 => ?_) (fun h2 => ?_) -- cond 1
  ·
   have rh2 := h2
   (try simp only [Q1, Q2, Q3, Q4, Q5, Q6, Q7, Q8, Q9, Qa] at h2)
   cases rh2
  ·
   have rh2 := h2
   (try simp only [Q1, Q2, Q3, Q4, Q5, Q6, Q7, Q8, Q9, Qa] at h2)
   refine W.skip ?_
   refine BodyQ.end0 Tryd.results85 ?_
   exact ⟨rfl, S⟩
theorem copyCheck_spec (w0 w : World) (b : Nat) (l : List UInt8) (L : List HA) (S : Sat w0 w (Bld b 121 5 l :: L)) :
    Calls Tryd.prog 85 [.pointer (some ⟨b, 0, none⟩)].toArray w (fun e w' => e = .returned (.tuple #[]) ∧ Sat w0 w' (Bld b 121 5 l :: L)) := by
  obtain ⟨p, a, cap, hp, S⟩ := S.bldOpen
  rcases hp with rfl | rfl
  · exact (copyCheck_f w0 w b l _ _ S).mono fun e w' h => ⟨h.1, h.2.bldClose (.inr rfl)⟩
  · exact (copyCheck_u w0 w b l _ _ S).mono fun e w' h => ⟨h.1, h.2.bldClose (.inr rfl)⟩
theorem WriteString_spec (w0 w : World) (b : Nat) (l : List UInt8) (L : List HA) (s : List UInt8) (S : Sat w0 w (Bld b 121 5 l :: L)) (hb : l.length + s.length ≤ 140737488355328) :
    Calls Tryd.prog 71 [.pointer (some ⟨b, 0, none⟩), .string ⟨s.toArray⟩].toArray w (fun e w' => (∃ v, e = .returned v) ∧ Sat w0 w' (Bld b 121 5 (l ++ s) :: L)) := by
 refine calls_of_W (args := [.pointer (some ⟨b, 0, none⟩), .string ⟨s.toArray⟩]) 19 Tryd.func71 rfl Tryd.ntmps71 rfl ?_
 refine W.seq ?_
 refine W.region rfl ?_
 refine WO.q (Y.assign (v := .int .i64 _) rfl) ?_
 first | refine WO.q (Y.assign (v := .iface _ _) rfl) ?_ | refine WO.q (Y.assign (v := .nilIface) rfl) ?_
 refine WO.nil ?_
 refine Then.nx ?_
 refine W.seq ?_
 refine W.region rfl ?_
 first | refine WO.q (Y.move (v := .pointer (some _)) rfl) ?_ | refine WO.q (Y.move (v := .pointer _) rfl) ?_
 refine WO.e (O.call cf_85 rfl (copyCheck_spec w0 _ b l L S) ?_)
 rintro _ w ⟨rfl, S⟩
 refine ⟨_, rfl, ?_⟩
 obtain ⟨p, a, cap, hp, S⟩ := S.bldOpen
 refine WO.nil ?_
 refine Then.nx ?_
 refine W.seq ?_
 refine W.region rfl ?_
 first | refine WO.q (Y.move (v := .pointer (some _)) rfl) ?_ | refine WO.q (Y.move (v := .pointer _) rfl) ?_
 first | refine WO.q (Y.move (v := .pointer (some _)) rfl) ?_ | refine WO.q (Y.move (v := .pointer _) rfl) ?_
 refine WO.q (Y.nilP rfl) ?_
 first | refine WO.q (Y.fieldB fo_121_1 rfl) ?_ | refine WO.q (Y.fieldE fo_121_1 rfl) ?_
 first | refine WO.q (Y.load rfl (loadS1 sz_53 S 0 rfl rfl)) ?_ | refine WO.q (Y.load rfl (loadS1 sz_53 S 1 rfl rfl)) ?_ | refine WO.q (Y.load rfl (loadS1 sz_53 S 2 rfl rfl)) ?_ | refine WO.q (Y.load rfl (loadS1 sz_53 S 3 rfl rfl)) ?_ | refine WO.q (Y.load rfl (loadS1 sz_53 S 4 rfl rfl)) ?_ | refine WO.q (Y.load rfl (loadS1 sz_53 S 5 rfl rfl)) ?_ | refine WO.q (Y.load rfl (loadS1 sz_53 S 6 rfl rfl)) ?_ | refine WO.q (Y.load rfl (loadS1 sz_53 S 7 rfl rfl)) ?_
 refine WO.q (Y.move (v := .string _) rfl) ?_
 refine WO.e (O.appendStr 1 (SlT.ofB (by kernel_rfl)) Tryd.underlying9 S rfl rfl rfl rfl hb (fun a14 c14 w S => ?_))
 refine WO.q (Y.nilP rfl) ?_
 first | refine WO.q (Y.fieldB fo_121_1 rfl) ?_ | refine WO.q (Y.fieldE fo_121_1 rfl) ?_
 first | refine WO.e0 (O.store (v := .slice _ _ _) 0 S rfl rfl rfl sz_53 rfl rfl rfl rfl (fun w S => ?_)) | refine WO.e0 (O.store (v := .slice _ _ _) 1 S rfl rfl rfl sz_53 rfl rfl rfl rfl (fun w S => ?_)) | refine WO.e0 (O.store (v := .slice _ _ _) 2 S rfl rfl rfl sz_53 rfl rfl rfl rfl (fun w S => ?_)) | refine WO.e0 (O.store (v := .slice _ _ _) 3 S rfl rfl rfl sz_53 rfl rfl rfl rfl (fun w S => ?_)) | refine WO.e0 (O.store (v := .slice _ _ _) 4 S rfl rfl rfl sz_53 rfl rfl rfl rfl (fun w S => ?_)) | refine WO.e0 (O.store (v := .slice _ _ _) 5 S rfl rfl rfl sz_53 rfl rfl rfl rfl (fun w S => ?_)) | refine WO.e0 (O.store (v := .slice _ _ _) 6 S rfl rfl rfl sz_53 rfl rfl rfl rfl (fun w S => ?_)) | refine WO.e0 (O.store (v := .slice _ _ _) 7 S rfl rfl rfl sz_53 rfl rfl rfl rfl (fun w S => ?_))
 refine WO.nil ?_
 refine Then.nx ?_
 refine W.seq ?_
 refine W.region rfl ?_
 refine WO.q (Y.move (v := .string _) rfl) ?_
 refine WO.q (Y.lenS Tryd.underlying9 rfl) ?_
 refine WO.q (Y.assign (v := .int .i64 _) rfl) ?_
 first | refine WO.q (Y.assign (v := .iface _ _) rfl) ?_ | refine WO.q (Y.assign (v := .nilIface) rfl) ?_
 refine WO.nil ?_
 refine Then.nx ?_
 refine W.ret ?_
 refine BodyQ.ret2 Tryd.results71 (ResV.tmp _ rfl) (ResV.tmp _ rfl) ?_
 exact ⟨⟨_, rfl⟩, S.bldClose hp⟩
theorem key_spec (w0 : World) (htab : Lib.TabIs Tryd.prog w0 "internal/strconv.uint64pow10" .u64 Lib.pow10Tab) (a : Option Addr) (cap : Nat) (dn : Int) (hs : List Int) (R1 : Rd (tI .i64) w0 a hs) (hd : I64 dn) (hh : ∀ x ∈ hs, I64 x) (hl : hs.length ≤ 4096) :
    Calls Tryd.prog 43 [.int .i64 dn, .slice a hs.length cap].toArray w0 (fun e w => e = .returned (.string ⟨(keyL dn hs).toArray⟩) ∧ Ext w0 w) := by
 have S := Sat.refl w0
 refine calls_of_W (args := [.int .i64 dn, .slice a hs.length cap]) 23 Tryd.func43 rfl Tryd.ntmps43 rfl ?_
 refine W.seq ?_
 refine W.region rfl ?_
 refine WO.q (Y.assign (v := .string _) rfl) ?_
 refine WO.nil ?_
 refine Then.nx ?_
 refine W.seq ?_
 refine W.region rfl ?_
 refine WO.e (O.alloc z_121 S (fun b5 w S => ?_))
 replace S := S.nilOwn tU 5
 replace S : Sat w0 w (Cel b5 [.pointer none, .slice none 0 0] 121 :: Own tU 5 none 0 [] :: []) := S.pk (.cons 1 rfl (.refl _))
 refine WO.nil ?_
 refine Then.nx ?_
 refine W.seq ?_
 refine W.region rfl ?_
 refine WO.q (Y.move (v := .int .i64 _) rfl) ?_
 refine WO.e (O.call cf_72 rfl (Tryd.strconv_Itoa _ hd.1 hd.2 _ (Lib.tabBelow_of_tabIs htab _ S.ext)) ?_)
 rintro _ w ⟨rfl, kk, os, rfl⟩
 replace S := S.keep (Ext.grow _ kk os)
 refine ⟨_, rfl, ?_⟩
 refine WO.e (O.call cf_71 rfl (WriteString_spec w0 _ b5 [] _ _ (S.bldClose (p := .pointer none) (cap := 0) (.inl rfl)) (by (have := itoa_len hd; simp only [List.length_nil]; omega))) ?_)
 rintro _ w ⟨⟨v, rfl⟩, S⟩
 refine ⟨_, rfl, ?_⟩
 refine WO.nil ?_
 refine Then.nx ?_
 refine W.seq ?_
 refine W.seq ?_
 refine W.region rfl ?_
 refine WO.q (Y.move (v := .slice _ _ _) rfl) ?_
 refine WO.q (Y.len (t' := 0) Tryd.underlying54 rfl) ?_
 refine WO.q (Y.move (v := .int .i64 _) rfl) ?_
 refine WO.nil ?_
 refine Then.nx ?_
 refine W.block ?_
 -- loop 0 carries 13
 refine W.loop1 [7, 13, 14, 15, 16, 17, 18, 19, 20, 21] 13 (fun v13 w => ∃ k : Nat, v13 = .int .i64 (k : Int) ∧ k ≤ hs.length ∧ Sat w0 w [Bld b5 121 5 (keyL dn (hs.take k))]) (fun v13 w => hs.length - (intOf v13).toNat) ?_ ?_
 ·
  exact ⟨0, rfl, by omega, by (simp only [List.take_zero, keyL, keyR, List.flatMap_nil, List.append_nil]; exact S)⟩
 ·
  rintro g0 v13 w ⟨k, rfl, hk, S⟩
  refine W.seq ?_
  refine W.region rfl ?_
  refine WO.q (Y.lss rfl rfl) ?_
  refine WO.nil ?_
  refine Then.nx ?_
  refine W.seq ?_
  refine W.cond rfl (fun h1 => ?_) (fun h1 => ?_) -- cond 0
  ·
   have rh1 := h1
   (try simp only [Q1, Q2, Q3, Q4, Q5, Q6, Q7, Q8, Q9, Qa] at h1)
   have ha := R1.1 (by omega)
   obtain ⟨x, hx1⟩ := at_ex (xs := hs) (k := k) (by omega)
   have hxi := hh x (List.mem_of_getElem? hx1)
   refine W.skip ?_
   refine Then.nx ?_
   refine W.seq ?_
   refine W.block ?_
   refine W.seq ?_
   refine W.region rfl ?_
   first | refine WO.q (Y.ixN sl_54 rfl rfl (by (first | assumption | rfl)) (by (first | assumption | omega))) ?_ | refine WO.q (Y.ix sl_54 rfl rfl (by (first | assumption | rfl)) (by (first | assumption | omega)) (by (first | assumption | omega))) ?_
   refine WO.q (Y.load rfl (loadRd1 sz_2 (R1.ext S.ext) (by assumption) rfl)) ?_
   refine WO.q (Y.assign (v := .int .i64 _) rfl) ?_
   refine WO.nil ?_
   refine Then.nx ?_
   refine W.region rfl ?_
   refine WO.q (Y.move (v := .int .i64 _) rfl) ?_
   refine WO.e (O.call cf_73 rfl (Tryd.strconv_FormatInt_10 _ hxi.1 hxi.2 _ (Lib.tabBelow_of_tabIs htab _ S.ext)) ?_)
   rintro _ w ⟨rfl, kk, os, rfl⟩
   replace S := S.keep (Ext.grow _ kk os)
   refine ⟨_, rfl, ?_⟩
   refine WO.q (Y.addS (a := [32]) rfl rfl (by (have := itoa_len hxi; simp only [List.length_singleton]; omega))) ?_
   refine WO.e (O.call cf_71 rfl (WriteString_spec w0 _ b5 (keyL dn (hs.take k)) _ _ S (by (have h1 := itoa_len hd; have h2 := itoa_len hxi; have h3 := keyR_len (hs := hs.take k) (fun y hy => hh y (List.mem_of_mem_take hy)); simp only [keyL, List.length_append, List.length_take, List.length_cons, List.length_nil] at h3 ⊢; omega))) ?_)
   rintro _ w ⟨⟨v, rfl⟩, S⟩
   refine ⟨_, rfl, ?_⟩
   refine WO.nil ?_
   refine InB.nx ?_
   refine Then.nx ?_
   refine W.region rfl ?_
   first | refine WO.q (Y.addI rfl rfl (by omega)) ?_ | refine WO.q (Y.add rfl rfl) ?_
   refine WO.q (Y.move (v := .int .i64 _) rfl) ?_
   refine WO.nil ?_
   refine Then.nx ⟨?_, ?_, ?_⟩
   ·
    (repeat (first | exact Out.hav _ _ _ | exact Out.refl _ _ | refine Out.up rfl ?_ | refine Out.sub rfl ?_))
   ·
    (have e := take_succ_at hx1); exact ⟨k + 1, rfl, by omega, by (rw [e, keyL, keyR_snoc, ← List.append_assoc]; exact S)⟩
   ·
    (show hs.length - (k + 1) < hs.length - k; omega)
  ·
   have rh1 := h1
   (try simp only [Q1, Q2, Q3, Q4, Q5, Q6, Q7, Q8, Q9, Qa] at h1)
   refine W.exit ?_
   refine Then.x ?_
   refine Then.x ?_
   refine InB.e ?_
   refine Then.nx ?_
   refine W.seq ?_
   refine W.region rfl ?_
   refine WO.e (O.call cf_74 rfl (Tryd.Builder_String_any w0.heap.size b5 _ _ (S.isBuilder (by decide)) S.ext.size) ?_)
   rintro _ w ⟨rfl, E⟩
   refine ⟨_, rfl, ?_⟩
   refine WO.q (Y.assign (v := .string _) rfl) ?_
   refine WO.nil ?_
   refine Then.nx ?_
   refine W.ret ?_
   refine BodyQ.ret1 Tryd.results43 (ResV.tmp _ rfl) ?_
   have e : hs.take k = hs := List.take_of_length_le (by omega); rw [e]; exact ⟨rfl, RowKit.Below.trans S.ext E⟩
end Go.Proofs
