-- Written by a program of this session (the kit's print, turned in places): what the law FnGluings comes to, over the hand walks of its callees.
import Derived.Test.YtfknffpfjoalkaaQFnGluingsx0
import Derived.Test.YtfknffpfjoalkaaQFnGluingsx1
import Derived.Test.YtfknffpfjoalkaaQFnGluingsx2
import Derived.Test.YtfknffpfjoalkaaQFnGluingsx3
import Derived.Test.YtfknffpfjoalkaaQFnGluingsx4
import Derived.Test.YtfknffpfjoalkaaQFnGluingsx5
import Derived.Test.YtfknffpfjoalkaaQFnGluingsx6
import Derived.Test.YtfknffpfjoalkaaQFnGluingsx7
import Derived.Test.YtfknffpfjoalkaaQFnGluingsx8
import Derived.Test.YtfknffpfjoalkaaQFnGluingsx9
import Derived.Test.YtfknffpfjoalkaaQFnGluingsx10
import Derived.Test.YtfknffpfjoalkaaQFnGluingsx11
import Derived.Test.YtfknffpfjoalkaaQFnGluingsx12
import Derived.Test.YtfknffpfjoalkaaQFnGluingsx13
import Derived.Test.YtfknffpfjoalkaaQFnGluingsx14
import Derived.Test.YtfknffpfjoalkaaHandCFnGluings
import Derived.Test.YtfknffpfjoalkaaHandVFnGluings
import Derived.Test.YtfknffpfjoalkaaHandEFnGluings
import Derived.Test.YtfknffpfjoalkaaHandIFnGluings
import Derived.Test.YtfknffpfjoalkaaHandPFnGluings
import Derived.Test.YtfknffpfjoalkaaHandSFnGluings
import Derived.Test.YtfknffpfjoalkaaHandJFnGluings
import Derived.Test.YtfknffpfjoalkaaZip
namespace Go.Proofs.Ytfknffpfjoalkaa.QFnGluings
open Go.Proofs.Ytfknffpfjoalkaa.Zip Go.RowKit Go.Proofs.YtfknffpfjoalkaaW.PrintWords Go.Proofs.YtfknffpfjoalkaaW.PrintLast Go.Proofs.YtfknffpfjoalkaaW.PrintMore
attribute [local go_sem] max2_int min2_int max_two min_two max_three min_three max_four min_four   -- for this text's walks alone
set_option linter.unusedVariables false
set_option linter.unusedSimpArgs false
noncomputable def impl_GluingText.l0 : Nat → List ByteArray → List (List Int) → Int → Int → Option (ByteArray)
 | 0, _, _, _, _ => none
 | k + 1, x3, x10, x11, x12 => if x12 < x11 then (if 0 ≤ x12 then (if x12 < (x10.length : Int) then ((impl_WordText.f k (rd_L1 x10 x12)).bind fun t415 => (if x3.length < 8796093022208 then (impl_GluingText.l0 k (x3 ++ [t415]) x10 x11 (wrap64 (x12 + 1))) else (none))) else (none)) else (none)) else ((impl_Join.f x3 (⟨#[32]⟩ : ByteArray)).bind fun t419 => (some t419))
noncomputable def impl_GluingText.f (k : Nat) (l0 : List (List Int)) : Option (ByteArray) := (impl_IsGluing.f k l0).bind fun t410 => (if t410 = true then (impl_GluingText.l0 k (([] : List ByteArray)) l0 (l0.length : Int) 0) else (some (⟨#[]⟩ : ByteArray)))
set_option maxHeartbeats 8000000 in
set_option maxRecDepth 100000 in
theorem impl_GluingText.calls (k : Nat) (A0 : Option Addr) (c0 : Nat) (l0 : List (List Int)) (r : ByteArray) (w : World) (hr0 : Kd.C (Kd.slice 3 (Kd.int .i64)) w A0 l0.length l0) (hc0 : l0.length ≤ c0) (h : impl_GluingText.f k l0 = some r) :
  Calls Try.prog 38 #[.slice A0 l0.length c0] w fun e w' => e = .returned (.string r) ∧ Below w.heap.size w w' := by
 have HR0 := Aside0.mk hr0
 have HC0 := Aside0.mk hc0
 clear hr0 hc0
 have HB := Aside0.mk (Below.refl w.heap.size w)
 have H := h
 clear h
 unfold impl_GluingText.f at H
 replace H := Option.bind_eq_some_iff.mp H
 obtain ⟨t410, A20, H⟩ := H
 have A2 := Aside0.mk A20
 clear A20
 by_cases c3 : t410 = true
 ·
  subst c3
  rw [if_pos rfl] at H
  obtain ⟨y411, hy411⟩ : ∃ y_ : List ByteArray, y_ = (([] : List ByteArray)) := ⟨_, rfl⟩
  replace H : (impl_GluingText.l0 k y411 l0 (l0.length : Int) 0) = some r := zy hy411 H
  have Ny411 := Aside0.mk hy411
  clear hy411
  have H' := Aside0.mk H
  clear H
  go_enter Try.func38, Try.ntmps38
  go_wp2_with (first | ((with_reducible refine zg 18 rfl ?_); refine zl (some 7) Try.func18 #[.slice A0 l0.length c0] ?_; (with_reducible refine (impl_IsGluing.calls k _ _ l0 true _ ?side1 ?side2 A2.out).mono ?_); (case side1 => exact zc HR0.out); (case side2 => exact HC0.out); rintro e w4 ⟨rfl, hb⟩; refine ⟨_, rfl, ?_⟩; replace HB := Aside0.mk (below_step z0 hb)) | ((with_reducible refine gate_dst (N := 9) rfl ?_); refine Kd.R_lit Kd.string _ 9 ?hg (N := 9) ?hd (xs := ([] : List ByteArray)) (inner := []) (ok := fun _ => True) (okp := fun _ => True) ?hr ?hp (fun _ hk => hk) trivial (Below.refl _ _) (Nat.le_refl _) (by simp) ?_; (case hd => rfl); (case hg => rfl); (case hr => first | (go_simp; done) | (go_simp; rfl)); (case hp => exact (Reps.none _ _)); intro v412 w5 ho6 hb hg_ hnew_; clear hg_ hnew_; (first | rw [← Ny411.out] at ho6 | (simp only [Int.reduceToNat] at ho6; rw [← Ny411.out] at ho6)); have HO413 := Aside0.mk (Kd.R_lower ho6 (below_size z0)); replace HB := Aside0.mk (below_step z0 hb); clear hb ho6))
  go_loopg [3, 12] k (fun kq v3 v12 w' => ∃ (x3_1 : List ByteArray) (x12_1 : Int), v12 = .int .i64 x12_1 ∧ Aside0 (impl_GluingText.l0 kq x3_1 l0 (l0.length : Int) x12_1 = some r) ∧ Aside0 (kq ≤ k) ∧ Aside0 (Kd.R Kd.string 9 w' w.heap.size (fun _ => True) v3 x3_1) ∧ Aside0 (Below w.heap.size w w'))
  case atStart => exact ⟨(y411), (0), zd, H', ⟨Nat.le_refl _⟩, ⟨zr HO413.out⟩, ⟨z0⟩⟩
  case round =>
   clear H'
   try clear c1
   try clear p2
   try clear c3
   obtain ⟨x3_1, x12_1, rfl, HA, HK1, HO_3, HB⟩ := hrel
   cases gk with
   | zero => exact absurd HA.out (by simp [impl_GluingText.l0])
   | succ k1 =>
    have H := HA.out
    clear HA
    simp only [impl_GluingText.l0] at H
    by_cases c7 : x12_1 < (l0.length : Int)
    ·
     rw [if_pos c7] at H
     have c7b0 : decide (x12_1 < (l0.length : Int)) = true := decide_eq_true c7
     clear c7
     by_cases c8 : 0 ≤ x12_1
     ·
      rw [if_pos c8] at H
      have c8b0 : decide (0 ≤ x12_1) = true := decide_eq_true c8
      clear c8
      by_cases c9 : x12_1 < (l0.length : Int)
      ·
       rw [if_pos c9] at H
       have c9b0 : decide (x12_1 < (l0.length : Int)) = true := decide_eq_true c9
       clear c9
       replace H := Option.bind_eq_some_iff.mp H
       obtain ⟨t415, A100, H⟩ := H
       have A10 := Aside0.mk A100
       clear A100
       by_cases c11 : x3_1.length < 8796093022208
       ·
        rw [if_pos c11] at H
        have LMc11 := Aside0.mk c11
        clear c11
        obtain ⟨y416, hy416⟩ : ∃ y_ : List ByteArray, y_ = (x3_1 ++ [t415]) := ⟨_, rfl⟩
        replace H : (impl_GluingText.l0 k1 y416 l0 (l0.length : Int) (wrap64 (x12_1 + 1))) = some r := zy hy416 H
        have Ny416 := Aside0.mk hy416
        clear hy416
        as_aux_lemma =>
         have H' := Aside0.mk H
         clear H
         have p414 : 0 ≤ (x12_1 : Int) := za
         have q414 : x12_1 < (l0.length : Int) := za
         obtain ⟨ad414, A414_0, c414_0, e414, hx414_0, hl414_0, hi414_0⟩ := at_L1 HR0.out x12_1 p414 q414
         cases e414
         replace hx414_0 := (HB.out.cell (World.block_lt_of_cell? w _ hx414_0)).trans hx414_0
         have HR414_0 := Aside0.mk hi414_0
         have HC414_0 := Aside0.mk hl414_0
         clear hi414_0 hl414_0
         replace p414 := eq_true p414
         replace q414 := eq_true q414
         go_wp2_with (first | ((with_reducible refine zg 77 rfl ?_); refine zl (some 18) Try.func77 #[.slice A414_0 (rd_L1 l0 x12_1).length c414_0] ?_; (with_reducible refine (impl_WordText.calls k1 _ _ (rd_L1 l0 x12_1) t415 _ ?side1 ?side2 A10.out).mono ?_); (case side1 => exact zc (Kd.C_below HR414_0.out HB.out)); (case side2 => exact HC414_0.out); rintro e w12 ⟨rfl, hb⟩; refine ⟨_, rfl, ?_⟩; replace HO_3 := Aside0.mk (Kd.R_below (zr HO_3.out) hb); replace HB := Aside0.mk (below_step z0 hb)) | ((with_reducible refine gate_builtin (b := .append) (xs := #[.tmp 16, .tmp 19]) rfl ?_); at_builtin; refine Kd.R_append Kd.string (w0 := w) w.heap.size rfl (.tmp 16) (.tmp 19) 52 9 (.string ⟨#[]⟩) 16 rfl Try.underlying52 info9 rfl (by decide) (by omega) u3 x3_1 t415 [.string t415] (fun _ => True) (fun _ => False) rfl rfl ?aP (fun _ hk => hk.elim) ?aF ?aO ?aB ?aS ?aL ?_; (case aP => exact rfl); (case aB => exact z0); (case aF => exact (fun _ _ => trivial)); (case aO => exact (zr HO_3.out)); (case aS => exact (below_size z0)); (case aL => have := LMc11.out; omega); intro v417 w13 ho hb hg hat; rw [← Ny416.out] at ho; have n0_ := Aside0.mk (hb); have n1_ := Aside0.mk (ho); clear HB; clear HO_3; have HB := n0_; have HO418 := n1_; clear n0_ n1_; clear ho hb hg hat))
         go_roundg k1
         case measure => have := HK1.out; omega
         case rel => exact ⟨(y416), (wrap64 (x12_1 + 1)), zd, H', ⟨by have := HK1.out; omega⟩, ⟨zr HO418.out⟩, ⟨z0⟩⟩
       ·
        rw [if_neg c11] at H
        exact absurd H (by simp)
      ·
       rw [if_neg c9] at H
       exact absurd H (by simp)
     ·
      rw [if_neg c8] at H
      exact absurd H (by simp)
    ·
     rw [if_neg c7] at H
     have c7b0 : decide (x12_1 < (l0.length : Int)) = false := decide_eq_false c7
     clear c7
     replace H := Option.bind_eq_some_iff.mp H
     obtain ⟨t419, A140, H⟩ := H
     have A14 := Aside0.mk A140
     clear A140
     as_aux_lemma =>
      obtain rfl := Option.some.inj H
      obtain ⟨Ao15, co15, eo15⟩ := Kd.R_slice HO_3.out
      subst eo15
      go_wp2_with (first | ((with_reducible refine zg 78 rfl ?_); refine zl (some 23) Try.func78 #[.slice Ao15 x3_1.length co15, .string (⟨#[32]⟩ : ByteArray)] ?_; (with_reducible refine (impl_Join.calls _ _ x3_1 (⟨#[32]⟩ : ByteArray) t419 _ ?side1 ?side2 A14.out).mono ?_); (case side1 => exact zc (Kd.R_reads' HO_3.out).2.2); (case side2 => exact (Kd.R_reads' HO_3.out).2.1); rintro e w16 ⟨rfl, hb⟩; refine ⟨_, rfl, ?_⟩; replace HO_3 := Aside0.mk (Kd.R_below (zr HO_3.out) hb); replace HB := Aside0.mk (below_step z0 hb)))
      go_ret
      exact ⟨ze, z0⟩
 ·
  replace c3 := Bool.eq_false_iff.mpr c3
  subst c3
  rw [if_neg (show ¬ (false = true) by decide)] at H
  as_aux_lemma =>
   obtain rfl := Option.some.inj H
   go_enter Try.func38, Try.ntmps38
   go_wp2_with (first | ((with_reducible refine zg 18 rfl ?_); refine zl (some 7) Try.func18 #[.slice A0 l0.length c0] ?_; (with_reducible refine (impl_IsGluing.calls k _ _ l0 false _ ?side1 ?side2 A2.out).mono ?_); (case side1 => exact zc HR0.out); (case side2 => exact HC0.out); rintro e w17 ⟨rfl, hb⟩; refine ⟨_, rfl, ?_⟩; replace HB := Aside0.mk (below_step z0 hb)))
   go_ret
   exact ⟨ze, z0⟩
mutual
noncomputable def laws_FnGluings.j0 : Nat → List (List Int) → Bool → Option (Bool)
 | 0, _, _ => none
 | k + 1, x3, x94 => if x94 = true then (none) else ((impl_GluingText.f k x3).bind fun t664 => ((impl_ParseGluing.f k t664).bind fun bt665 => ((spec_GluingText.f k x3).bind fun t669 => (if t664.toList = t669.toList then ((spec_IsGluing.f k x3).bind fun t670 => (if (bt665.2 != t670) = true then (none) else (if bt665.2 = true then ((laws_sameLists.f k bt665.1 x3).bind fun t671 => (laws_FnGluings.j1 k x3 bt665.2 (!t671))) else (laws_FnGluings.j1 k x3 bt665.2 false)))) else (none)))))
noncomputable def laws_FnGluings.j1 : Nat → List (List Int) → Bool → Bool → Option (Bool)
 | 0, _, _, _ => none
 | k + 1, x3, x11, x120 => if x120 = true then (none) else (if x11 = true then ((impl_EulerOf.f k x3).bind fun t675 => ((impl_PartsOf.f k x3).bind fun t676 => ((impl_CountBorders.f k x3).bind fun t677 => (if t675 > (wrap64 ((wrap64 (2 * t676)) - t677)) then (none) else ((impl_CountBorders.f k x3).bind fun t678 => ((impl_FreeLetters.f k x3).bind fun t679 => (laws_FnGluings.j2 k x3 ((t678 == 0) != ((t679.length : Int) == 0))))))))) else ((impl_EulerOf.f k x3).bind fun t672 => (if t672 = (-100) then ((impl_PartsOf.f k x3).bind fun t673 => (if t673 = (-1) then ((impl_CountBorders.f k x3).bind fun t674 => (some (t674 == (-1)))) else (none))) else (none))))
noncomputable def laws_FnGluings.j2 : Nat → List (List Int) → Bool → Option (Bool)
 | 0, _, _ => none
 | k + 1, x3, x154 => if x154 = true then (none) else ((impl_IsTwoSided.f k x3).bind fun t682 => (if t682 = true then ((impl_EulerOf.f k x3).bind fun t683 => ((impl_CountBorders.f k x3).bind fun t684 => (some ((Int.tmod (wrap64 (t683 + t684)) 2) == 0)))) else (some true)))
end
noncomputable def laws_FnGluings.f (k : Nat) (l0 : List Int) : Option (Bool) := (laws_big.f l0).bind fun t624 => (if t624 = true then (some true) else ((spec_DrawIsGluing.f k l0).bind fun t625 => ((spec_DrawParseGluing.f k l0).bind fun t628 => ((impl_ParseGluing.f k t628).bind fun bt629 => ((spec_ParseGluing.f k t628).bind fun bt633 => (if (bt629.2 != bt633.2) = true then (none) else ((laws_sameLists.f k bt629.1 bt633.1).bind fun t637 => (if t637 = true then ((impl_IsGluing.f k t625).bind fun t638 => ((spec_IsGluing.f k t625).bind fun t639 => (if (t638 != t639) = true then (none) else ((impl_EdgeLetters.f k t625).bind fun t640 => ((spec_EdgeLetters.f k t625).bind fun t643 => ((laws_sameInts.f k t640 t643).bind fun t646 => (if t646 = true then ((impl_FreeLetters.f k t625).bind fun t647 => ((spec_FreeLetters.f k t625).bind fun t650 => ((laws_sameInts.f k t647 t650).bind fun t653 => (if t653 = true then ((impl_CountVertices.f k t625).bind fun t654 => ((spec_CountVertices.f k t625).bind fun t655 => (if t654 = t655 then ((impl_EulerOf.f k t625).bind fun t656 => ((spec_EulerOf.f k t625).bind fun t657 => (if t656 = t657 then ((impl_PartsOf.f k t625).bind fun t658 => ((spec_PartsOf.f k t625).bind fun t659 => (if t658 = t659 then ((impl_IsTwoSided.f k t625).bind fun t660 => ((spec_IsTwoSided.f k t625).bind fun t661 => (if (t660 != t661) = true then (none) else ((impl_CountBorders.f k t625).bind fun t662 => ((spec_CountBorders.f k t625).bind fun t663 => (laws_FnGluings.j0 k t625 (t662 != t663))))))) else (none)))) else (none)))) else (none)))) else (none))))) else (none)))))))) else (none)))))))))
set_option maxHeartbeats 8000000 in
set_option maxRecDepth 100000 in
theorem laws_FnGluings.calls (k : Nat) (A0 : Option Addr) (c0 : Nat) (l0 : List Int) (r : Bool) (w : World) (hr0 : Kd.C (Kd.int .u8) w A0 l0.length l0) (hc0 : l0.length ≤ c0) (h : laws_FnGluings.f k l0 = some r) :
  Calls Try.prog 14 #[.slice A0 l0.length c0] w fun e w' => e = .returned (.bool r) ∧ Below w.heap.size w w' := by
 have HR0 := Aside0.mk hr0
 have HC0 := Aside0.mk hc0
 clear hr0 hc0
 have HB := Aside0.mk (Below.refl w.heap.size w)
 have H := h
 clear h
 unfold laws_FnGluings.f at H
 replace H := Option.bind_eq_some_iff.mp H
 obtain ⟨t624, A20, H⟩ := H
 have A2 := Aside0.mk A20
 clear A20
 by_cases c3 : t624 = true
 ·
  subst c3
  rw [if_pos rfl] at H
  as_aux_lemma =>
   obtain rfl := Option.some.inj H
   go_enter Try.func14, Try.ntmps14
   go_wp2_with (first | ((with_reducible refine zg 46 rfl ?_); refine zl (some 13) Try.func46 #[.slice A0 l0.length c0] ?_; (with_reducible refine (laws_big.calls _ _ l0 true _ ?side1 ?side2 A2.out).mono ?_); (case side1 => exact zc HR0.out); (case side2 => exact HC0.out); rintro e w' ⟨rfl, ⟨nd, rfl⟩⟩; refine ⟨_, rfl, ?_⟩))
   go_ret
   exact ⟨ze, z0⟩
 ·
  replace c3 := Bool.eq_false_iff.mpr c3
  subst c3
  rw [if_neg (show ¬ (false = true) by decide)] at H
  replace H := Option.bind_eq_some_iff.mp H
  obtain ⟨t625, A40, H⟩ := H
  have A4 := Aside0.mk A40
  clear A40
  replace H := Option.bind_eq_some_iff.mp H
  obtain ⟨t628, A50, H⟩ := H
  have A5 := Aside0.mk A50
  clear A50
  replace H := Option.bind_eq_some_iff.mp H
  obtain ⟨⟨t629, t630⟩, A60, H⟩ := H
  dsimp only at H
  have A6 := Aside0.mk A60
  clear A60
  replace H := Option.bind_eq_some_iff.mp H
  obtain ⟨⟨t633, t634⟩, A70, H⟩ := H
  dsimp only at H
  have A7 := Aside0.mk A70
  clear A70
  have HC8 := Aside0.mk H
  clear H
  go_enter Try.func14, Try.ntmps14
  go_upto_region 7 with (first | ((with_reducible refine zg 46 rfl ?_); refine zl (some 13) Try.func46 #[.slice A0 l0.length c0] ?_; (with_reducible refine (laws_big.calls _ _ l0 false _ ?side1 ?side2 A2.out).mono ?_); (case side1 => exact zc HR0.out); (case side2 => exact HC0.out); rintro e w' ⟨rfl, ⟨nd, rfl⟩⟩; refine ⟨_, rfl, ?_⟩) | ((with_reducible refine zg 47 rfl ?_); refine zl (some 15) Try.func47 #[.slice A0 l0.length c0] ?_; (with_reducible refine (spec_DrawIsGluing.calls k _ _ l0 t625 _ ?side1 ?side2 A4.out).mono ?_); (case side1 => exact zc HR0.out); (case side2 => exact HC0.out); rintro e w9 ⟨v626, rfl, ho0, hb⟩; refine ⟨_, rfl, ?_⟩; have HO627 := Aside0.mk (Kd.S_lower ho0 (below_size z0)); replace HB := Aside0.mk (below_step z0 hb)) | ((with_reducible refine zg 48 rfl ?_); refine zl (some 17) Try.func48 #[.slice A0 l0.length c0] ?_; (with_reducible refine (spec_DrawParseGluing.calls k _ _ l0 t628 _ ?side1 ?side2 A5.out).mono ?_); (case side1 => exact zc (Kd.C_below HR0.out HB.out)); (case side2 => exact HC0.out); rintro e w10 ⟨rfl, hb⟩; refine ⟨_, rfl, ?_⟩; replace HO627 := Aside0.mk (Kd.S_below (zs HO627.out) hb); replace HB := Aside0.mk (below_step z0 hb)) | ((with_reducible refine zg 31 rfl ?_); refine zl (some 20) Try.func31 #[.string t628] ?_; (with_reducible refine (impl_ParseGluing.calls k t628 t629 t630 _ A6.out).mono ?_); rintro e w11 ⟨v631, rfl, ho0, hb⟩; refine ⟨_, rfl, ?_⟩; have HO632 := Aside0.mk (Kd.S_lower (Kd.S_new' ho0 (Kd.S_lt (zs HO627.out))) (below_size z0)); replace HO627 := Aside0.mk (Kd.S_elder' (zs HO627.out) (Kd.S_base ho0) hb); replace HB := Aside0.mk (below_step z0 hb)) | ((with_reducible refine zg 30 rfl ?_); refine zl (some 25) Try.func30 #[.string t628] ?_; (with_reducible refine (spec_ParseGluing.calls k t628 t633 t634 _ A7.out).mono ?_); rintro e w12 ⟨v635, rfl, ho0, hb⟩; refine ⟨_, rfl, ?_⟩; have HO636 := Aside0.mk (Kd.S_lower (Kd.S_new' (Kd.S_new' ho0 (Kd.S_lt (zs HO627.out))) (Kd.S_lt (zs HO632.out))) (below_size z0)); replace HO627 := Aside0.mk (Kd.S_elder' (zs HO627.out) (Kd.S_base ho0) hb); replace HO632 := Aside0.mk (Kd.S_elder' (zs HO632.out) (Kd.S_base ho0) hb); replace HB := Aside0.mk (below_step z0 hb)))
  (try simp only [Act.put, List.setIfInBounds_toArray, List.set_cons_zero, List.set_cons_succ])
  go_cut [94] (fun v94 wc => ∃ (kq : Nat) (x94_7 : Bool), v94 = .bool x94_7 ∧ Aside0 (laws_FnGluings.j0 kq t625 x94_7 = some r) ∧ Aside0 (kq ≤ k) ∧ Aside0 (Kd.S (Kd.slice 3 (Kd.int .i64)) 27 wc w.heap.size (fun _ => True) v626 t625) ∧ Aside0 (Below w.heap.size w wc))
  case first =>
   have H := HC8.out
   clear HC8
   by_cases c13 : (t630 != t634) = true
   ·
    rw [if_pos c13] at H
    exact absurd H (by simp)
   ·
    rw [if_neg c13] at H
    have c13b0 : (t630 != t634) = false := by simpa using c13
    (try (have c13b1 : decide (t630 = t634) = true := by simpa using c13))
    (try (have c13b2 : (t630 == t634) = true := by simpa using c13))
    (try (have c13b3 : (!(t630 == t634)) = false := (by have h_ := c13; revert h_; generalize t630 = x_; generalize t634 = y_; cases x_ <;> cases y_ <;> simp)))
    clear c13
    (first | rw [c13b0] | (simp only [i64_w, i32_w]; rw [c13b0]) | rw [c13b4] | rw [c13b3] | (simp only [i64_w, i32_w]; first | rw [c13b4] | rw [c13b3]) | skip)
    replace H := Option.bind_eq_some_iff.mp H
    obtain ⟨t637, A140, H⟩ := H
    have A14 := Aside0.mk A140
    clear A140
    by_cases c15 : t637 = true
    ·
     subst c15
     rw [if_pos rfl] at H
     replace H := Option.bind_eq_some_iff.mp H
     obtain ⟨t638, A160, H⟩ := H
     have A16 := Aside0.mk A160
     clear A160
     replace H := Option.bind_eq_some_iff.mp H
     obtain ⟨t639, A170, H⟩ := H
     have A17 := Aside0.mk A170
     clear A170
     by_cases c18 : (t638 != t639) = true
     ·
      rw [if_pos c18] at H
      exact absurd H (by simp)
     ·
      rw [if_neg c18] at H
      have c18b0 : (t638 != t639) = false := by simpa using c18
      (try (have c18b1 : decide (t638 = t639) = true := by simpa using c18))
      (try (have c18b2 : (t638 == t639) = true := by simpa using c18))
      (try (have c18b3 : (!(t638 == t639)) = false := (by have h_ := c18; revert h_; generalize t638 = x_; generalize t639 = y_; cases x_ <;> cases y_ <;> simp)))
      clear c18
      replace H := Option.bind_eq_some_iff.mp H
      obtain ⟨t640, A190, H⟩ := H
      have A19 := Aside0.mk A190
      clear A190
      replace H := Option.bind_eq_some_iff.mp H
      obtain ⟨t643, A200, H⟩ := H
      have A20 := Aside0.mk A200
      clear A200
      replace H := Option.bind_eq_some_iff.mp H
      obtain ⟨t646, A210, H⟩ := H
      have A21 := Aside0.mk A210
      clear A210
      by_cases c22 : t646 = true
      ·
       subst c22
       rw [if_pos rfl] at H
       replace H := Option.bind_eq_some_iff.mp H
       obtain ⟨t647, A230, H⟩ := H
       have A23 := Aside0.mk A230
       clear A230
       replace H := Option.bind_eq_some_iff.mp H
       obtain ⟨t650, A240, H⟩ := H
       have A24 := Aside0.mk A240
       clear A240
       replace H := Option.bind_eq_some_iff.mp H
       obtain ⟨t653, A250, H⟩ := H
       have A25 := Aside0.mk A250
       clear A250
       by_cases c26 : t653 = true
       ·
        subst c26
        rw [if_pos rfl] at H
        replace H := Option.bind_eq_some_iff.mp H
        obtain ⟨t654, A270, H⟩ := H
        have A27 := Aside0.mk A270
        clear A270
        replace H := Option.bind_eq_some_iff.mp H
        obtain ⟨t655, A280, H⟩ := H
        have A28 := Aside0.mk A280
        clear A280
        by_cases c29 : t654 = t655
        ·
         rw [if_pos c29] at H
         have c29b0 : (t654 == t655) = true := beq_iff_eq.mpr c29
         have c29b1 : (t654 != t655) = false := bne_eq_false_iff_eq.mpr c29
         clear c29
         replace H := Option.bind_eq_some_iff.mp H
         obtain ⟨t656, A300, H⟩ := H
         have A30 := Aside0.mk A300
         clear A300
         replace H := Option.bind_eq_some_iff.mp H
         obtain ⟨t657, A310, H⟩ := H
         have A31 := Aside0.mk A310
         clear A310
         by_cases c32 : t656 = t657
         ·
          rw [if_pos c32] at H
          have c32b0 : (t656 == t657) = true := beq_iff_eq.mpr c32
          have c32b1 : (t656 != t657) = false := bne_eq_false_iff_eq.mpr c32
          clear c32
          replace H := Option.bind_eq_some_iff.mp H
          obtain ⟨t658, A330, H⟩ := H
          have A33 := Aside0.mk A330
          clear A330
          replace H := Option.bind_eq_some_iff.mp H
          obtain ⟨t659, A340, H⟩ := H
          have A34 := Aside0.mk A340
          clear A340
          by_cases c35 : t658 = t659
          ·
           rw [if_pos c35] at H
           have c35b0 : (t658 == t659) = true := beq_iff_eq.mpr c35
           have c35b1 : (t658 != t659) = false := bne_eq_false_iff_eq.mpr c35
           clear c35
           replace H := Option.bind_eq_some_iff.mp H
           obtain ⟨t660, A360, H⟩ := H
           have A36 := Aside0.mk A360
           clear A360
           replace H := Option.bind_eq_some_iff.mp H
           obtain ⟨t661, A370, H⟩ := H
           have A37 := Aside0.mk A370
           clear A370
           by_cases c38 : (t660 != t661) = true
           ·
            rw [if_pos c38] at H
            exact absurd H (by simp)
           ·
            rw [if_neg c38] at H
            have c38b0 : (t660 != t661) = false := by simpa using c38
            (try (have c38b1 : decide (t660 = t661) = true := by simpa using c38))
            (try (have c38b2 : (t660 == t661) = true := by simpa using c38))
            (try (have c38b3 : (!(t660 == t661)) = false := (by have h_ := c38; revert h_; generalize t660 = x_; generalize t661 = y_; cases x_ <;> cases y_ <;> simp)))
            clear c38
            replace H := Option.bind_eq_some_iff.mp H
            obtain ⟨t662, A390, H⟩ := H
            have A39 := Aside0.mk A390
            clear A390
            replace H := Option.bind_eq_some_iff.mp H
            obtain ⟨t663, A400, H⟩ := H
            have A40 := Aside0.mk A400
            clear A400
            as_aux_lemma =>
             have H' := Aside0.mk H
             clear H
             obtain ⟨Ao41, co41, eo41⟩ := Kd.S_slice HO632.out
             subst eo41
             obtain ⟨Ao42, co42, eo42⟩ := Kd.S_slice HO636.out
             subst eo42
             go_wp2_with (first | (go_at_call 49; (with_reducible refine (laws_sameLists.calls k _ _ t629 _ _ t633 true _ ?side1 ?side2 ?side3 ?side4 A14.out).mono ?_); (case side1 => exact zc (Kd.S_reads' HO632.out).2.2); (case side2 => exact (Kd.S_reads' HO632.out).2.1); (case side3 => exact zc (Kd.S_reads' HO636.out).2.2); (case side4 => exact (Kd.S_reads' HO636.out).2.1); rintro e w' ⟨rfl, ⟨nd, rfl⟩⟩; obtain ⟨Ao43, co43, eo43⟩ := Kd.S_slice HO627.out; subst eo43) | (go_at_call 18; (with_reducible refine (impl_IsGluing.calls k _ _ t625 t638 _ ?side1 ?side2 A16.out).mono ?_); (case side1 => exact zc (Kd.S_reads' HO627.out).2.2); (case side2 => exact (Kd.S_reads' HO627.out).2.1); rintro e w44 ⟨rfl, hb⟩; replace HO627 := Aside0.mk (Kd.S_below (zs HO627.out) hb); replace HO632 := Aside0.mk (Kd.S_below (zs HO632.out) hb); replace HO636 := Aside0.mk (Kd.S_below (zs HO636.out) hb); replace HB := Aside0.mk (below_step z0 hb)) | (go_at_call 16; (with_reducible refine (spec_IsGluing.calls k _ _ t625 t639 _ ?side1 ?side2 A17.out).mono ?_); (case side1 => exact zc (Kd.S_reads' HO627.out).2.2); (case side2 => exact (Kd.S_reads' HO627.out).2.1); rintro e w45 ⟨rfl, hb⟩; replace HO627 := Aside0.mk (Kd.S_below (zs HO627.out) hb); replace HO632 := Aside0.mk (Kd.S_below (zs HO632.out) hb); replace HO636 := Aside0.mk (Kd.S_below (zs HO636.out) hb); replace HB := Aside0.mk (below_step z0 hb)) | (go_at_call 21; (with_reducible refine (impl_EdgeLetters.calls k _ _ t625 t640 _ ?side1 ?side2 A19.out).mono ?_); (case side1 => exact zc (Kd.S_reads' HO627.out).2.2); (case side2 => exact (Kd.S_reads' HO627.out).2.1); rintro e w46 ⟨v641, rfl, ho0, hb⟩; replace HO627 := Aside0.mk (Kd.S_elder' (zs HO627.out) (Kd.R_base ho0) hb); replace HO632 := Aside0.mk (Kd.S_elder' (zs HO632.out) (Kd.R_base ho0) hb); replace HO636 := Aside0.mk (Kd.S_elder' (zs HO636.out) (Kd.R_base ho0) hb); have HO642 := Aside0.mk (Kd.R_lower ho0 (below_size z0)); replace HB := Aside0.mk (below_step z0 hb)) | (go_at_call 20; (with_reducible refine (spec_EdgeLetters.calls k _ _ t625 t643 _ ?side1 ?side2 A20.out).mono ?_); (case side1 => exact zc (Kd.S_reads' HO627.out).2.2); (case side2 => exact (Kd.S_reads' HO627.out).2.1); rintro e w47 ⟨v644, rfl, ho0, hb⟩; replace HO627 := Aside0.mk (Kd.S_elder' (zs HO627.out) (Kd.R_base ho0) hb); replace HO632 := Aside0.mk (Kd.S_elder' (zs HO632.out) (Kd.R_base ho0) hb); replace HO636 := Aside0.mk (Kd.S_elder' (zs HO636.out) (Kd.R_base ho0) hb); have HO645 := Aside0.mk (Kd.R_lower (Kd.R_new' ho0 (Kd.R_lt (zr HO642.out))) (below_size z0)); replace HO642 := Aside0.mk (Kd.R_elder' (zr HO642.out) (Kd.R_base ho0) hb); replace HB := Aside0.mk (below_step z0 hb); (try clear hb); (try clear hb2); (try clear hk); (try clear hi); (try clear ho0); obtain ⟨Ao48, co48, eo48⟩ := Kd.R_slice HO642.out; subst eo48; obtain ⟨Ao49, co49, eo49⟩ := Kd.R_slice HO645.out; subst eo49) | (go_at_call 50; (with_reducible refine (laws_sameInts.calls k _ _ t640 _ _ t643 true _ ?side1 ?side2 ?side3 ?side4 A21.out).mono ?_); (case side1 => exact zc (Kd.R_reads' HO642.out).2.2); (case side2 => exact (Kd.R_reads' HO642.out).2.1); (case side3 => exact zc (Kd.R_reads' HO645.out).2.2); (case side4 => exact (Kd.R_reads' HO645.out).2.1); rintro e w' ⟨rfl, ⟨nd, rfl⟩⟩) | (go_at_call 27; (with_reducible refine (impl_FreeLetters.calls k _ _ t625 t647 _ ?side1 ?side2 A23.out).mono ?_); (case side1 => exact zc (Kd.S_reads' HO627.out).2.2); (case side2 => exact (Kd.S_reads' HO627.out).2.1); rintro e w50 ⟨v648, rfl, ho0, hb⟩; replace HO627 := Aside0.mk (Kd.S_elder' (zs HO627.out) (Kd.R_base ho0) hb); replace HO632 := Aside0.mk (Kd.S_elder' (zs HO632.out) (Kd.R_base ho0) hb); replace HO636 := Aside0.mk (Kd.S_elder' (zs HO636.out) (Kd.R_base ho0) hb); have HO649 := Aside0.mk (Kd.R_lower (Kd.R_new' (Kd.R_new' ho0 (Kd.R_lt (zr HO642.out))) (Kd.R_lt (zr HO645.out))) (below_size z0)); replace HO642 := Aside0.mk (Kd.R_elder' (zr HO642.out) (Kd.R_base ho0) hb); replace HO645 := Aside0.mk (Kd.R_elder' (zr HO645.out) (Kd.R_base ho0) hb); replace HB := Aside0.mk (below_step z0 hb)) | (go_at_call 26; (with_reducible refine (spec_FreeLetters.calls k _ _ t625 t650 _ ?side1 ?side2 A24.out).mono ?_); (case side1 => exact zc (Kd.S_reads' HO627.out).2.2); (case side2 => exact (Kd.S_reads' HO627.out).2.1); rintro e w51 ⟨v651, rfl, ho0, hb⟩; replace HO627 := Aside0.mk (Kd.S_elder' (zs HO627.out) (Kd.R_base ho0) hb); replace HO632 := Aside0.mk (Kd.S_elder' (zs HO632.out) (Kd.R_base ho0) hb); replace HO636 := Aside0.mk (Kd.S_elder' (zs HO636.out) (Kd.R_base ho0) hb); have HO652 := Aside0.mk (Kd.R_lower (Kd.R_new' (Kd.R_new' (Kd.R_new' ho0 (Kd.R_lt (zr HO642.out))) (Kd.R_lt (zr HO645.out))) (Kd.R_lt (zr HO649.out))) (below_size z0)); replace HO642 := Aside0.mk (Kd.R_elder' (zr HO642.out) (Kd.R_base ho0) hb); replace HO645 := Aside0.mk (Kd.R_elder' (zr HO645.out) (Kd.R_base ho0) hb); replace HO649 := Aside0.mk (Kd.R_elder' (zr HO649.out) (Kd.R_base ho0) hb); replace HB := Aside0.mk (below_step z0 hb); (try clear hb); (try clear hb2); (try clear hk); (try clear hi); (try clear ho0); obtain ⟨Ao52, co52, eo52⟩ := Kd.R_slice HO649.out; subst eo52; obtain ⟨Ao53, co53, eo53⟩ := Kd.R_slice HO652.out; subst eo53) | (go_at_call 50; (with_reducible refine (laws_sameInts.calls k _ _ t647 _ _ t650 true _ ?side1 ?side2 ?side3 ?side4 A25.out).mono ?_); (case side1 => exact zc (Kd.R_reads' HO649.out).2.2); (case side2 => exact (Kd.R_reads' HO649.out).2.1); (case side3 => exact zc (Kd.R_reads' HO652.out).2.2); (case side4 => exact (Kd.R_reads' HO652.out).2.1); rintro e w' ⟨rfl, ⟨nd, rfl⟩⟩) | (go_at_call 36; (with_reducible refine (impl_CountVertices.calls k _ _ t625 t654 _ ?side1 ?side2 A27.out).mono ?_); (case side1 => exact zc (Kd.S_reads' HO627.out).2.2); (case side2 => exact (Kd.S_reads' HO627.out).2.1); rintro e w54 ⟨rfl, hb⟩; replace HO627 := Aside0.mk (Kd.S_below (zs HO627.out) hb); replace HO632 := Aside0.mk (Kd.S_below (zs HO632.out) hb); replace HO636 := Aside0.mk (Kd.S_below (zs HO636.out) hb); replace HO642 := Aside0.mk (Kd.R_below (zr HO642.out) hb); replace HO645 := Aside0.mk (Kd.R_below (zr HO645.out) hb); replace HO649 := Aside0.mk (Kd.R_below (zr HO649.out) hb); replace HO652 := Aside0.mk (Kd.R_below (zr HO652.out) hb); replace HB := Aside0.mk (below_step z0 hb)) | (go_at_call 35; (with_reducible refine (spec_CountVertices.calls k _ _ t625 t655 _ ?side1 ?side2 A28.out).mono ?_); (case side1 => exact zc (Kd.S_reads' HO627.out).2.2); (case side2 => exact (Kd.S_reads' HO627.out).2.1); rintro e w55 ⟨rfl, hb⟩; replace HO627 := Aside0.mk (Kd.S_below (zs HO627.out) hb); replace HO632 := Aside0.mk (Kd.S_below (zs HO632.out) hb); replace HO636 := Aside0.mk (Kd.S_below (zs HO636.out) hb); replace HO642 := Aside0.mk (Kd.R_below (zr HO642.out) hb); replace HO645 := Aside0.mk (Kd.R_below (zr HO645.out) hb); replace HO649 := Aside0.mk (Kd.R_below (zr HO649.out) hb); replace HO652 := Aside0.mk (Kd.R_below (zr HO652.out) hb); replace HB := Aside0.mk (below_step z0 hb)) | (go_at_call 40; (with_reducible refine (impl_EulerOf.calls k _ _ t625 t656 _ ?side1 ?side2 A30.out).mono ?_); (case side1 => exact zc (Kd.S_reads' HO627.out).2.2); (case side2 => exact (Kd.S_reads' HO627.out).2.1); rintro e w56 ⟨rfl, hb⟩; replace HO627 := Aside0.mk (Kd.S_below (zs HO627.out) hb); replace HO632 := Aside0.mk (Kd.S_below (zs HO632.out) hb); replace HO636 := Aside0.mk (Kd.S_below (zs HO636.out) hb); replace HO642 := Aside0.mk (Kd.R_below (zr HO642.out) hb); replace HO645 := Aside0.mk (Kd.R_below (zr HO645.out) hb); replace HO649 := Aside0.mk (Kd.R_below (zr HO649.out) hb); replace HO652 := Aside0.mk (Kd.R_below (zr HO652.out) hb); replace HB := Aside0.mk (below_step z0 hb)) | (go_at_call 39; (with_reducible refine (spec_EulerOf.calls k _ _ t625 t657 _ ?side1 ?side2 A31.out).mono ?_); (case side1 => exact zc (Kd.S_reads' HO627.out).2.2); (case side2 => exact (Kd.S_reads' HO627.out).2.1); rintro e w57 ⟨rfl, hb⟩; replace HO627 := Aside0.mk (Kd.S_below (zs HO627.out) hb); replace HO632 := Aside0.mk (Kd.S_below (zs HO632.out) hb); replace HO636 := Aside0.mk (Kd.S_below (zs HO636.out) hb); replace HO642 := Aside0.mk (Kd.R_below (zr HO642.out) hb); replace HO645 := Aside0.mk (Kd.R_below (zr HO645.out) hb); replace HO649 := Aside0.mk (Kd.R_below (zr HO649.out) hb); replace HO652 := Aside0.mk (Kd.R_below (zr HO652.out) hb); replace HB := Aside0.mk (below_step z0 hb)) | (go_at_call 34; (with_reducible refine (impl_PartsOf.calls k _ _ t625 t658 _ ?side1 ?side2 A33.out).mono ?_); (case side1 => exact zc (Kd.S_reads' HO627.out).2.2); (case side2 => exact (Kd.S_reads' HO627.out).2.1); rintro e w58 ⟨rfl, hb⟩; replace HO627 := Aside0.mk (Kd.S_below (zs HO627.out) hb); replace HO632 := Aside0.mk (Kd.S_below (zs HO632.out) hb); replace HO636 := Aside0.mk (Kd.S_below (zs HO636.out) hb); replace HO642 := Aside0.mk (Kd.R_below (zr HO642.out) hb); replace HO645 := Aside0.mk (Kd.R_below (zr HO645.out) hb); replace HO649 := Aside0.mk (Kd.R_below (zr HO649.out) hb); replace HO652 := Aside0.mk (Kd.R_below (zr HO652.out) hb); replace HB := Aside0.mk (below_step z0 hb)) | (go_at_call 33; (with_reducible refine (spec_PartsOf.calls k _ _ t625 t659 _ ?side1 ?side2 A34.out).mono ?_); (case side1 => exact zc (Kd.S_reads' HO627.out).2.2); (case side2 => exact (Kd.S_reads' HO627.out).2.1); rintro e w59 ⟨rfl, hb⟩; replace HO627 := Aside0.mk (Kd.S_below (zs HO627.out) hb); replace HO632 := Aside0.mk (Kd.S_below (zs HO632.out) hb); replace HO636 := Aside0.mk (Kd.S_below (zs HO636.out) hb); replace HO642 := Aside0.mk (Kd.R_below (zr HO642.out) hb); replace HO645 := Aside0.mk (Kd.R_below (zr HO645.out) hb); replace HO649 := Aside0.mk (Kd.R_below (zr HO649.out) hb); replace HO652 := Aside0.mk (Kd.R_below (zr HO652.out) hb); replace HB := Aside0.mk (below_step z0 hb)) | (go_at_call 29; (with_reducible refine (impl_IsTwoSided.calls k _ _ t625 t660 _ ?side1 ?side2 A36.out).mono ?_); (case side1 => exact zc (Kd.S_reads' HO627.out).2.2); (case side2 => exact (Kd.S_reads' HO627.out).2.1); rintro e w60 ⟨rfl, hb⟩; replace HO627 := Aside0.mk (Kd.S_below (zs HO627.out) hb); replace HO632 := Aside0.mk (Kd.S_below (zs HO632.out) hb); replace HO636 := Aside0.mk (Kd.S_below (zs HO636.out) hb); replace HO642 := Aside0.mk (Kd.R_below (zr HO642.out) hb); replace HO645 := Aside0.mk (Kd.R_below (zr HO645.out) hb); replace HO649 := Aside0.mk (Kd.R_below (zr HO649.out) hb); replace HO652 := Aside0.mk (Kd.R_below (zr HO652.out) hb); replace HB := Aside0.mk (below_step z0 hb)) | (go_at_call 28; (with_reducible refine (spec_IsTwoSided.calls k _ _ t625 t661 _ ?side1 ?side2 A37.out).mono ?_); (case side1 => exact zc (Kd.S_reads' HO627.out).2.2); (case side2 => exact (Kd.S_reads' HO627.out).2.1); rintro e w61 ⟨rfl, hb⟩; replace HO627 := Aside0.mk (Kd.S_below (zs HO627.out) hb); replace HO632 := Aside0.mk (Kd.S_below (zs HO632.out) hb); replace HO636 := Aside0.mk (Kd.S_below (zs HO636.out) hb); replace HO642 := Aside0.mk (Kd.R_below (zr HO642.out) hb); replace HO645 := Aside0.mk (Kd.R_below (zr HO645.out) hb); replace HO649 := Aside0.mk (Kd.R_below (zr HO649.out) hb); replace HO652 := Aside0.mk (Kd.R_below (zr HO652.out) hb); replace HB := Aside0.mk (below_step z0 hb)) | (go_at_call 42; (with_reducible refine (impl_CountBorders.calls k _ _ t625 t662 _ ?side1 ?side2 A39.out).mono ?_); (case side1 => exact zc (Kd.S_reads' HO627.out).2.2); (case side2 => exact (Kd.S_reads' HO627.out).2.1); rintro e w62 ⟨rfl, hb⟩; replace HO627 := Aside0.mk (Kd.S_below (zs HO627.out) hb); replace HO632 := Aside0.mk (Kd.S_below (zs HO632.out) hb); replace HO636 := Aside0.mk (Kd.S_below (zs HO636.out) hb); replace HO642 := Aside0.mk (Kd.R_below (zr HO642.out) hb); replace HO645 := Aside0.mk (Kd.R_below (zr HO645.out) hb); replace HO649 := Aside0.mk (Kd.R_below (zr HO649.out) hb); replace HO652 := Aside0.mk (Kd.R_below (zr HO652.out) hb); replace HB := Aside0.mk (below_step z0 hb)) | (go_at_call 41; (with_reducible refine (spec_CountBorders.calls k _ _ t625 t663 _ ?side1 ?side2 A40.out).mono ?_); (case side1 => exact zc (Kd.S_reads' HO627.out).2.2); (case side2 => exact (Kd.S_reads' HO627.out).2.1); rintro e w63 ⟨rfl, hb⟩; replace HO627 := Aside0.mk (Kd.S_below (zs HO627.out) hb); replace HO632 := Aside0.mk (Kd.S_below (zs HO632.out) hb); replace HO636 := Aside0.mk (Kd.S_below (zs HO636.out) hb); replace HO642 := Aside0.mk (Kd.R_below (zr HO642.out) hb); replace HO645 := Aside0.mk (Kd.R_below (zr HO645.out) hb); replace HO649 := Aside0.mk (Kd.R_below (zr HO649.out) hb); replace HO652 := Aside0.mk (Kd.R_below (zr HO652.out) hb); replace HB := Aside0.mk (below_step z0 hb)))
             go_meet
             case rel => exact ⟨_, ((t662 != t663)), zd, H', ⟨by first | omega | exact Nat.le_refl _⟩, ⟨by (with_reducible repeat (first | apply Kd.S_alloc | apply Kd.S_drewN | apply Kd.S_drew)); exact Kd.S_mono HO627.out (fun _ hk => trivial)⟩, ⟨z0⟩⟩
          ·
           rw [if_neg c35] at H
           exact absurd H (by simp)
         ·
          rw [if_neg c32] at H
          exact absurd H (by simp)
        ·
         rw [if_neg c29] at H
         exact absurd H (by simp)
       ·
        replace c26 := Bool.eq_false_iff.mpr c26
        subst c26
        rw [if_neg (show ¬ (false = true) by decide)] at H
        exact absurd H (by simp)
      ·
       replace c22 := Bool.eq_false_iff.mpr c22
       subst c22
       rw [if_neg (show ¬ (false = true) by decide)] at H
       exact absurd H (by simp)
    ·
     replace c15 := Bool.eq_false_iff.mpr c15
     subst c15
     rw [if_neg (show ¬ (false = true) by decide)] at H
     exact absurd H (by simp)
  case rest =>
   clear HC8
   try clear c1
   try clear c2
   try clear p2
   try clear c3
   try clear c4
   try clear c13
   try clear c13b0
   try clear c13b1
   try clear c13b2
   try clear c14
   try clear c15
   try clear c18
   try clear c18b0
   try clear c18b1
   try clear c18b2
   try clear c22
   try clear c26
   try clear c29
   try clear c29b0
   try clear c29b1
   try clear c30
   try clear c31
   try clear c32
   try clear c32b0
   try clear c32b1
   try clear c35
   try clear c35b0
   try clear c35b1
   try clear c38
   try clear c38b0
   try clear c38b1
   try clear c38b2
   try clear c46
   try clear c47
   try clear c48
   obtain ⟨kq, x94_7, rfl, HA, HJ7, HO_3, HB⟩ := hcut
   cases kq with
   | zero => exact absurd HA.out (by simp [laws_FnGluings.j0])
   | succ kj7 =>
    have H := HA.out
    clear HA
    simp only [laws_FnGluings.j0] at H
    by_cases c64 : x94_7 = true
    ·
     subst c64
     rw [if_pos rfl] at H
     exact absurd H (by simp)
    ·
     replace c64 := Bool.eq_false_iff.mpr c64
     subst c64
     rw [if_neg (show ¬ (false = true) by decide)] at H
     replace H := Option.bind_eq_some_iff.mp H
     obtain ⟨t664, A650, H⟩ := H
     have A65 := Aside0.mk A650
     clear A650
     replace H := Option.bind_eq_some_iff.mp H
     obtain ⟨⟨t665, t666⟩, A660, H⟩ := H
     dsimp only at H
     have A66 := Aside0.mk A660
     clear A660
     have HC67 := Aside0.mk H
     clear H
     obtain ⟨Ao68, co68, eo68⟩ := Kd.S_slice HO_3.out
     subst eo68
     go_upto_region 11 with (first | ((with_reducible refine zg 38 rfl ?_); refine zl (some 96) Try.func38 #[.slice Ao68 t625.length co68] ?_; (with_reducible refine (impl_GluingText.calls kj7 _ _ t625 t664 _ ?side1 ?side2 A65.out).mono ?_); (case side1 => exact zc (Kd.S_reads' HO_3.out).2.2); (case side2 => exact (Kd.S_reads' HO_3.out).2.1); rintro e w69 ⟨rfl, hb⟩; refine ⟨_, rfl, ?_⟩; replace HO_3 := Aside0.mk (Kd.S_below (zs HO_3.out) hb); replace HB := Aside0.mk (below_step z0 hb)) | ((with_reducible refine zg 31 rfl ?_); refine zl (some 99) Try.func31 #[.string t664] ?_; (with_reducible refine (impl_ParseGluing.calls kj7 t664 t665 t666 _ A66.out).mono ?_); rintro e w70 ⟨v667, rfl, ho0, hb⟩; refine ⟨_, rfl, ?_⟩; have HO668 := Aside0.mk (Kd.S_lower (Kd.S_new' ho0 (Kd.S_lt (zs HO_3.out))) (below_size z0)); replace HO_3 := Aside0.mk (Kd.S_elder' (zs HO_3.out) (Kd.S_base ho0) hb); replace HB := Aside0.mk (below_step z0 hb)))
     (try simp only [Act.put, List.setIfInBounds_toArray, List.set_cons_zero, List.set_cons_succ])
     go_cut [120] (fun v120 wc => ∃ (kq : Nat) (x120_66 : Bool), v120 = .bool x120_66 ∧ Aside0 (laws_FnGluings.j1 kq t625 t666 x120_66 = some r) ∧ Aside0 (kq ≤ kj7) ∧ Aside0 (Kd.S (Kd.slice 3 (Kd.int .i64)) 27 wc w.heap.size (fun _ => True) (.slice Ao68 t625.length co68) t625) ∧ Aside0 (Below w.heap.size w wc))
     case first =>
      have H := HC67.out
      clear HC67
      replace H := Option.bind_eq_some_iff.mp H
      obtain ⟨t669, A710, H⟩ := H
      have A71 := Aside0.mk A710
      clear A710
      by_cases c72 : t664.toList = t669.toList
      ·
       rw [if_pos c72] at H
       have c72b0 : (t664.toList == t669.toList) = true := beq_iff_eq.mpr c72
       have c72b1 : (t664.toList != t669.toList) = false := bne_eq_false_iff_eq.mpr c72
       clear c72
       (first | rw [c72b0] | (simp only [i64_w, i32_w]; rw [c72b0]) | skip)
       replace H := Option.bind_eq_some_iff.mp H
       obtain ⟨t670, A730, H⟩ := H
       have A73 := Aside0.mk A730
       clear A730
       by_cases c74 : (t666 != t670) = true
       ·
        rw [if_pos c74] at H
        exact absurd H (by simp)
       ·
        rw [if_neg c74] at H
        have c74b0 : (t666 != t670) = false := by simpa using c74
        (try (have c74b1 : decide (t666 = t670) = true := by simpa using c74))
        (try (have c74b2 : (t666 == t670) = true := by simpa using c74))
        (try (have c74b3 : (!(t666 == t670)) = false := (by have h_ := c74; revert h_; generalize t666 = x_; generalize t670 = y_; cases x_ <;> cases y_ <;> simp)))
        clear c74
        by_cases c75 : t666 = true
        ·
         subst c75
         rw [if_pos rfl] at H
         replace H := Option.bind_eq_some_iff.mp H
         obtain ⟨t671, A760, H⟩ := H
         have A76 := Aside0.mk A760
         clear A760
         as_aux_lemma =>
          have H' := Aside0.mk H
          clear H
          go_wp2_with (first | ((with_reducible refine zg 37 rfl ?_); refine zl (some 104) Try.func37 #[.slice Ao68 t625.length co68] ?_; (with_reducible refine (spec_GluingText.calls kj7 _ _ t625 t669 _ ?side1 ?side2 A71.out).mono ?_); (case side1 => exact zc (Kd.S_reads' HO_3.out).2.2); (case side2 => exact (Kd.S_reads' HO_3.out).2.1); rintro e w77 ⟨rfl, hb⟩; refine ⟨_, rfl, ?_⟩; replace HO_3 := Aside0.mk (Kd.S_below (zs HO_3.out) hb); replace HO668 := Aside0.mk (Kd.S_below (zs HO668.out) hb); replace HB := Aside0.mk (below_step z0 hb)) | (go_at_call 16; (with_reducible refine (spec_IsGluing.calls kj7 _ _ t625 t670 _ ?side1 ?side2 A73.out).mono ?_); (case side1 => exact zc (Kd.S_reads' HO_3.out).2.2); (case side2 => exact (Kd.S_reads' HO_3.out).2.1); rintro e w78 ⟨rfl, hb⟩; replace HO_3 := Aside0.mk (Kd.S_below (zs HO_3.out) hb); replace HO668 := Aside0.mk (Kd.S_below (zs HO668.out) hb); replace HB := Aside0.mk (below_step z0 hb); (try clear hb); (try clear hb2); (try clear hk); (try clear hi); obtain ⟨Ao79, co79, eo79⟩ := Kd.S_slice HO668.out; subst eo79) | (go_at_call 49; (with_reducible refine (laws_sameLists.calls kj7 _ _ t665 _ _ t625 t671 _ ?side1 ?side2 ?side3 ?side4 A76.out).mono ?_); (case side1 => exact zc (Kd.S_reads' HO668.out).2.2); (case side2 => exact (Kd.S_reads' HO668.out).2.1); (case side3 => exact zc (Kd.S_reads' HO_3.out).2.2); (case side4 => exact (Kd.S_reads' HO_3.out).2.1); rintro e w' ⟨rfl, ⟨nd, rfl⟩⟩))
          go_meet
          case rel => exact ⟨_, (!t671), zd, H', ⟨by have := HJ7.out; first | omega | exact Nat.le_refl _⟩, ⟨by (with_reducible repeat (first | apply Kd.S_alloc | apply Kd.S_drewN | apply Kd.S_drew)); exact Kd.S_mono HO_3.out (fun _ hk => trivial)⟩, ⟨z0⟩⟩
        ·
         replace c75 := Bool.eq_false_iff.mpr c75
         subst c75
         rw [if_neg (show ¬ (false = true) by decide)] at H
         as_aux_lemma =>
          have H' := Aside0.mk H
          clear H
          go_wp2_with (first | ((with_reducible refine zg 37 rfl ?_); refine zl (some 104) Try.func37 #[.slice Ao68 t625.length co68] ?_; (with_reducible refine (spec_GluingText.calls kj7 _ _ t625 t669 _ ?side1 ?side2 A71.out).mono ?_); (case side1 => exact zc (Kd.S_reads' HO_3.out).2.2); (case side2 => exact (Kd.S_reads' HO_3.out).2.1); rintro e w80 ⟨rfl, hb⟩; refine ⟨_, rfl, ?_⟩; replace HO_3 := Aside0.mk (Kd.S_below (zs HO_3.out) hb); replace HO668 := Aside0.mk (Kd.S_below (zs HO668.out) hb); replace HB := Aside0.mk (below_step z0 hb)) | (go_at_call 16; (with_reducible refine (spec_IsGluing.calls kj7 _ _ t625 t670 _ ?side1 ?side2 A73.out).mono ?_); (case side1 => exact zc (Kd.S_reads' HO_3.out).2.2); (case side2 => exact (Kd.S_reads' HO_3.out).2.1); rintro e w81 ⟨rfl, hb⟩; replace HO_3 := Aside0.mk (Kd.S_below (zs HO_3.out) hb); replace HO668 := Aside0.mk (Kd.S_below (zs HO668.out) hb); replace HB := Aside0.mk (below_step z0 hb)))
          go_meet
          case rel => exact ⟨_, (false), zd, H', ⟨by have := HJ7.out; first | omega | exact Nat.le_refl _⟩, ⟨by (with_reducible repeat (first | apply Kd.S_alloc | apply Kd.S_drewN | apply Kd.S_drew)); exact Kd.S_mono HO_3.out (fun _ hk => trivial)⟩, ⟨z0⟩⟩
      ·
       rw [if_neg c72] at H
       exact absurd H (by simp)
     case rest =>
      clear HC67
      try clear c1
      try clear c2
      try clear p2
      try clear c3
      try clear c4
      try clear c6
      try clear c7
      try clear c13
      try clear c13b0
      try clear c13b1
      try clear c13b2
      try clear c14
      try clear c15
      try clear c18
      try clear c18b0
      try clear c18b1
      try clear c18b2
      try clear c22
      try clear c26
      try clear c29
      try clear c29b0
      try clear c29b1
      try clear c30
      try clear c31
      try clear c32
      try clear c32b0
      try clear c32b1
      try clear c35
      try clear c35b0
      try clear c35b1
      try clear c37
      try clear c38
      try clear c38b0
      try clear c38b1
      try clear c38b2
      try clear c46
      try clear c47
      try clear c48
      try clear c64
      try clear c72
      try clear c72b0
      try clear c72b1
      try clear c74
      try clear c74b0
      try clear c74b1
      try clear c74b2
      try clear c75
      try clear p2
      obtain ⟨kq, x120_66, rfl, HA, HJ66, HO_3, HB⟩ := hcut
      cases kq with
      | zero => exact absurd HA.out (by simp [laws_FnGluings.j1])
      | succ kj66 =>
       have H := HA.out
       clear HA
       simp only [laws_FnGluings.j1] at H
       by_cases c82 : x120_66 = true
       ·
        subst c82
        rw [if_pos rfl] at H
        exact absurd H (by simp)
       ·
        replace c82 := Bool.eq_false_iff.mpr c82
        subst c82
        rw [if_neg (show ¬ (false = true) by decide)] at H
        by_cases c83 : t666 = true
        ·
         subst c83
         rw [if_pos rfl] at H
         have HC84 := Aside0.mk H
         clear H
         go_upto_region 15 with (fail)
         go_cut [154] (fun v154 wc => ∃ (kq : Nat) (x154_83 : Bool), v154 = .bool x154_83 ∧ Aside0 (laws_FnGluings.j2 kq t625 x154_83 = some r) ∧ Aside0 (kq ≤ kj66) ∧ Aside0 (Kd.S (Kd.slice 3 (Kd.int .i64)) 27 wc w.heap.size (fun _ => True) (.slice Ao68 t625.length co68) t625) ∧ Aside0 (Below w.heap.size w wc))
         case first =>
          have H := HC84.out
          clear HC84
          replace H := Option.bind_eq_some_iff.mp H
          obtain ⟨t675, A850, H⟩ := H
          have A85 := Aside0.mk A850
          clear A850
          replace H := Option.bind_eq_some_iff.mp H
          obtain ⟨t676, A860, H⟩ := H
          have A86 := Aside0.mk A860
          clear A860
          replace H := Option.bind_eq_some_iff.mp H
          obtain ⟨t677, A870, H⟩ := H
          have A87 := Aside0.mk A870
          clear A870
          by_cases c88 : t675 > (wrap64 ((wrap64 (2 * t676)) - t677))
          ·
           rw [if_pos c88] at H
           exact absurd H (by simp)
          ·
           rw [if_neg c88] at H
           have c88b0 : decide ((wrap64 ((wrap64 (2 * t676)) - t677)) < t675) = false := decide_eq_false c88
           clear c88
           (first | rw [c88b0] | (simp only [i64_w, i32_w]; rw [c88b0]) | skip)
           replace H := Option.bind_eq_some_iff.mp H
           obtain ⟨t678, A890, H⟩ := H
           have A89 := Aside0.mk A890
           clear A890
           replace H := Option.bind_eq_some_iff.mp H
           obtain ⟨t679, A900, H⟩ := H
           have A90 := Aside0.mk A900
           clear A900
           as_aux_lemma =>
            have H' := Aside0.mk H
            clear H
            go_wp2_with (first | ((with_reducible refine zg 40 rfl ?_); refine zl (some 137) Try.func40 #[.slice Ao68 t625.length co68] ?_; (with_reducible refine (impl_EulerOf.calls kj66 _ _ t625 t675 _ ?side1 ?side2 A85.out).mono ?_); (case side1 => exact zc (Kd.S_reads' HO_3.out).2.2); (case side2 => exact (Kd.S_reads' HO_3.out).2.1); rintro e w91 ⟨rfl, hb⟩; refine ⟨_, rfl, ?_⟩; replace HO_3 := Aside0.mk (Kd.S_below (zs HO_3.out) hb); replace HB := Aside0.mk (below_step z0 hb)) | ((with_reducible refine zg 34 rfl ?_); refine zl (some 139) Try.func34 #[.slice Ao68 t625.length co68] ?_; (with_reducible refine (impl_PartsOf.calls kj66 _ _ t625 t676 _ ?side1 ?side2 A86.out).mono ?_); (case side1 => exact zc (Kd.S_reads' HO_3.out).2.2); (case side2 => exact (Kd.S_reads' HO_3.out).2.1); rintro e w92 ⟨rfl, hb⟩; refine ⟨_, rfl, ?_⟩; replace HO_3 := Aside0.mk (Kd.S_below (zs HO_3.out) hb); replace HB := Aside0.mk (below_step z0 hb)) | ((with_reducible refine zg 42 rfl ?_); refine zl (some 142) Try.func42 #[.slice Ao68 t625.length co68] ?_; (with_reducible refine (impl_CountBorders.calls kj66 _ _ t625 t677 _ ?side1 ?side2 A87.out).mono ?_); (case side1 => exact zc (Kd.S_reads' HO_3.out).2.2); (case side2 => exact (Kd.S_reads' HO_3.out).2.1); rintro e w93 ⟨rfl, hb⟩; refine ⟨_, rfl, ?_⟩; replace HO_3 := Aside0.mk (Kd.S_below (zs HO_3.out) hb); replace HB := Aside0.mk (below_step z0 hb)) | (go_at_call 42; (with_reducible refine (impl_CountBorders.calls kj66 _ _ t625 t678 _ ?side1 ?side2 A89.out).mono ?_); (case side1 => exact zc (Kd.S_reads' HO_3.out).2.2); (case side2 => exact (Kd.S_reads' HO_3.out).2.1); rintro e w94 ⟨rfl, hb⟩; replace HO_3 := Aside0.mk (Kd.S_below (zs HO_3.out) hb); replace HB := Aside0.mk (below_step z0 hb)) | (go_at_call 27; (with_reducible refine (impl_FreeLetters.calls kj66 _ _ t625 t679 _ ?side1 ?side2 A90.out).mono ?_); (case side1 => exact zc (Kd.S_reads' HO_3.out).2.2); (case side2 => exact (Kd.S_reads' HO_3.out).2.1); rintro e w95 ⟨v680, rfl, ho0, hb⟩; replace HO_3 := Aside0.mk (Kd.S_elder' (zs HO_3.out) (Kd.R_base ho0) hb); have HO681 := Aside0.mk (Kd.R_lower ho0 (below_size z0)); replace HB := Aside0.mk (below_step z0 hb); (try clear hb); (try clear hb2); (try clear hk); (try clear hi); (try clear ho0); obtain ⟨Ao96, co96, eo96⟩ := Kd.R_slice HO681.out; subst eo96))
            go_meet
            case rel => exact ⟨_, (((t678 == 0) != ((t679.length : Int) == 0))), zd, H', ⟨by have := HJ7.out; have := HJ66.out; first | omega | exact Nat.le_refl _⟩, ⟨by (with_reducible repeat (first | apply Kd.S_alloc | apply Kd.S_drewN | apply Kd.S_drew)); exact Kd.S_mono HO_3.out (fun _ hk => trivial)⟩, ⟨z0⟩⟩
         case rest =>
          clear HC84
          try clear c1
          try clear c2
          try clear p2
          try clear c3
          try clear c4
          try clear c6
          try clear p6
          try clear c7
          try clear c8
          try clear c13
          try clear c13b0
          try clear c13b1
          try clear c13b2
          try clear c14
          try clear c15
          try clear c18
          try clear c18b0
          try clear c18b1
          try clear c18b2
          try clear c22
          try clear c26
          try clear c29
          try clear c29b0
          try clear c29b1
          try clear c30
          try clear c31
          try clear c32
          try clear c32b0
          try clear c32b1
          try clear c34
          try clear c35
          try clear c35b0
          try clear c35b1
          try clear c37
          try clear c38
          try clear c38b0
          try clear c38b1
          try clear c38b2
          try clear c40
          try clear c42
          try clear c46
          try clear c47
          try clear c48
          try clear c64
          try clear p64
          try clear c72
          try clear c72b0
          try clear c72b1
          try clear c74
          try clear c74b0
          try clear c74b1
          try clear c74b2
          try clear c75
          try clear c82
          try clear c83
          try clear c88
          try clear c88b0
          try clear p2
          obtain ⟨kq, x154_83, rfl, HA, HJ83, HO_3, HB⟩ := hcut
          cases kq with
          | zero => exact absurd HA.out (by simp [laws_FnGluings.j2])
          | succ kj83 =>
           have H := HA.out
           clear HA
           simp only [laws_FnGluings.j2] at H
           by_cases c97 : x154_83 = true
           ·
            subst c97
            rw [if_pos rfl] at H
            exact absurd H (by simp)
           ·
            replace c97 := Bool.eq_false_iff.mpr c97
            subst c97
            rw [if_neg (show ¬ (false = true) by decide)] at H
            replace H := Option.bind_eq_some_iff.mp H
            obtain ⟨t682, A980, H⟩ := H
            have A98 := Aside0.mk A980
            clear A980
            by_cases c99 : t682 = true
            ·
             subst c99
             rw [if_pos rfl] at H
             replace H := Option.bind_eq_some_iff.mp H
             obtain ⟨t683, A1000, H⟩ := H
             have A100 := Aside0.mk A1000
             clear A1000
             replace H := Option.bind_eq_some_iff.mp H
             obtain ⟨t684, A1010, H⟩ := H
             have A101 := Aside0.mk A1010
             clear A1010
             as_aux_lemma =>
              obtain rfl := Option.some.inj H
              go_wp2_with (first | ((with_reducible refine zg 29 rfl ?_); refine zl (some 156) Try.func29 #[.slice Ao68 t625.length co68] ?_; (with_reducible refine (impl_IsTwoSided.calls kj83 _ _ t625 true _ ?side1 ?side2 A98.out).mono ?_); (case side1 => exact zc (Kd.S_reads' HO_3.out).2.2); (case side2 => exact (Kd.S_reads' HO_3.out).2.1); rintro e w102 ⟨rfl, hb⟩; refine ⟨_, rfl, ?_⟩; replace HO_3 := Aside0.mk (Kd.S_below (zs HO_3.out) hb); replace HB := Aside0.mk (below_step z0 hb)) | (go_at_call 40; (with_reducible refine (impl_EulerOf.calls kj83 _ _ t625 t683 _ ?side1 ?side2 A100.out).mono ?_); (case side1 => exact zc (Kd.S_reads' HO_3.out).2.2); (case side2 => exact (Kd.S_reads' HO_3.out).2.1); rintro e w103 ⟨rfl, hb⟩; replace HO_3 := Aside0.mk (Kd.S_below (zs HO_3.out) hb); replace HB := Aside0.mk (below_step z0 hb)) | (go_at_call 42; (with_reducible refine (impl_CountBorders.calls kj83 _ _ t625 t684 _ ?side1 ?side2 A101.out).mono ?_); (case side1 => exact zc (Kd.S_reads' HO_3.out).2.2); (case side2 => exact (Kd.S_reads' HO_3.out).2.1); rintro e w104 ⟨rfl, hb⟩; replace HO_3 := Aside0.mk (Kd.S_below (zs HO_3.out) hb); replace HB := Aside0.mk (below_step z0 hb)))
              go_ret
              exact ⟨ze, z0⟩
            ·
             replace c99 := Bool.eq_false_iff.mpr c99
             subst c99
             rw [if_neg (show ¬ (false = true) by decide)] at H
             as_aux_lemma =>
              obtain rfl := Option.some.inj H
              go_wp2_with (first | ((with_reducible refine zg 29 rfl ?_); refine zl (some 156) Try.func29 #[.slice Ao68 t625.length co68] ?_; (with_reducible refine (impl_IsTwoSided.calls kj83 _ _ t625 false _ ?side1 ?side2 A98.out).mono ?_); (case side1 => exact zc (Kd.S_reads' HO_3.out).2.2); (case side2 => exact (Kd.S_reads' HO_3.out).2.1); rintro e w105 ⟨rfl, hb⟩; refine ⟨_, rfl, ?_⟩; replace HO_3 := Aside0.mk (Kd.S_below (zs HO_3.out) hb); replace HB := Aside0.mk (below_step z0 hb)))
              go_ret
              exact ⟨ze, z0⟩
        ·
         replace c83 := Bool.eq_false_iff.mpr c83
         subst c83
         rw [if_neg (show ¬ (false = true) by decide)] at H
         replace H := Option.bind_eq_some_iff.mp H
         obtain ⟨t672, A1060, H⟩ := H
         have A106 := Aside0.mk A1060
         clear A1060
         by_cases c107 : t672 = (-100)
         ·
          rw [if_pos c107] at H
          have c107b0 : (t672 == (-100)) = true := beq_iff_eq.mpr c107
          have c107b1 : (t672 != (-100)) = false := bne_eq_false_iff_eq.mpr c107
          clear c107
          replace H := Option.bind_eq_some_iff.mp H
          obtain ⟨t673, A1080, H⟩ := H
          have A108 := Aside0.mk A1080
          clear A1080
          by_cases c109 : t673 = (-1)
          ·
           rw [if_pos c109] at H
           have c109b0 : (t673 == (-1)) = true := beq_iff_eq.mpr c109
           have c109b1 : (t673 != (-1)) = false := bne_eq_false_iff_eq.mpr c109
           clear c109
           replace H := Option.bind_eq_some_iff.mp H
           obtain ⟨t674, A1100, H⟩ := H
           have A110 := Aside0.mk A1100
           clear A1100
           as_aux_lemma =>
            obtain rfl := Option.some.inj H
            go_wp2_with (first | ((with_reducible refine zg 40 rfl ?_); refine zl (some 124) Try.func40 #[.slice Ao68 t625.length co68] ?_; (with_reducible refine (impl_EulerOf.calls kj66 _ _ t625 t672 _ ?side1 ?side2 A106.out).mono ?_); (case side1 => exact zc (Kd.S_reads' HO_3.out).2.2); (case side2 => exact (Kd.S_reads' HO_3.out).2.1); rintro e w111 ⟨rfl, hb⟩; refine ⟨_, rfl, ?_⟩; replace HO_3 := Aside0.mk (Kd.S_below (zs HO_3.out) hb); replace HB := Aside0.mk (below_step z0 hb)) | (go_at_call 34; (with_reducible refine (impl_PartsOf.calls kj66 _ _ t625 t673 _ ?side1 ?side2 A108.out).mono ?_); (case side1 => exact zc (Kd.S_reads' HO_3.out).2.2); (case side2 => exact (Kd.S_reads' HO_3.out).2.1); rintro e w112 ⟨rfl, hb⟩; replace HO_3 := Aside0.mk (Kd.S_below (zs HO_3.out) hb); replace HB := Aside0.mk (below_step z0 hb)) | (go_at_call 42; (with_reducible refine (impl_CountBorders.calls kj66 _ _ t625 t674 _ ?side1 ?side2 A110.out).mono ?_); (case side1 => exact zc (Kd.S_reads' HO_3.out).2.2); (case side2 => exact (Kd.S_reads' HO_3.out).2.1); rintro e w113 ⟨rfl, hb⟩; replace HO_3 := Aside0.mk (Kd.S_below (zs HO_3.out) hb); replace HB := Aside0.mk (below_step z0 hb)))
            go_ret
            exact ⟨ze, z0⟩
          ·
           rw [if_neg c109] at H
           exact absurd H (by simp)
         ·
          rw [if_neg c107] at H
          exact absurd H (by simp)
noncomputable def laws_FnGluings.Pure : Prop := ∀ (l0 : List Int), l0.length ≤ maxLen → l0.length * 1 ≤ 140737488351232 → (∀ x ∈ l0, (Lit.int .u8 x).wf = true) → ∃ k, laws_FnGluings.f k l0 = some true
theorem laws_FnGluings.walk (P : laws_FnGluings.Pure) (a0 : Option Addr) (len0 cap0 : Nat) (z0 : List Int) (w : World) (w0 : (a0 = none ∧ len0 = 0 ∧ cap0 = 0 ∧ z0 = []) ∨ ∃ x, a0 = some x ∧ len0 ≤ cap0 ∧ cap0 ≤ maxLen ∧ z0.length = cap0 ∧ (∀ i, i < z0.length → w.cell? (x.add i) = some (.int .u8 (z0.getD i 0))) ∧ ∀ n ∈ z0, (Lit.int .u8 n).wf = true) (y0 : len0 * 1 ≤ 140737488351232) :
  Calls Try.prog 14 #[.slice a0 len0 cap0] w fun e w' => e = .returned (.bool true) ∧ Below w.heap.size w w' := by
 obtain ⟨l0, rfl, hr0, hm0, hw0, hc0⟩ := ReadsInt.ofRowC w0
 obtain ⟨k, h⟩ := P l0 hm0 y0 hw0
 refine (laws_FnGluings.calls k _ _ l0 true w (Kd.C_of_reads (d := (0 : Int)) (h1 := fun _ => rfl) hr0) hc0 h).mono ?_
 rintro e w' ⟨rfl, hd⟩
 exact ⟨rfl, hd⟩
end Go.Proofs.Ytfknffpfjoalkaa.QFnGluings
