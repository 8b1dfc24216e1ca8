-- Written by a program of this session (the kit's print, turned in places): the functions that the law FnNumbers comes to, and what their calls do.
import Derived.Test.YteeejdbdmfageaaDoorQFnNumbersx0
import Derived.Test.YteeejdbdmfageaaDoorQFnNumbersx3
import Derived.Test.YteeejdbdmfageaaDoorQFnNumbersx4
import Derived.Test.YteeejdbdmfageaaDoorHandJFnNumbers
namespace Go.Proofs.YteeejdbdmfageaaDoor.QFnNumbers
open Go.RowKit Go.Proofs.YteeejdbdmfageaaDoorW.PrintWords Go.Proofs.YteeejdbdmfageaaDoorW.PrintLast Go.Proofs.YteeejdbdmfageaaDoorW.PrintMore
attribute [local go_sem] max2_int min2_int max_two min_two max_three min_three max_four min_four   -- for this text's walks alone
set_option linter.unusedVariables false
set_option linter.unusedSimpArgs false

/-! ### laws_FnNumbers: function 5 -/
def laws_FnNumbers.j0 : Nat → List Int → Bool → Option (Bool)
  | 0, _, _ => none
  | k + 1, x0, x50 => if x50 = true then (none) else ((spec_DrawParseNumber.f k x0).bind fun t224 => ((impl_ParseNumber.f t224).bind fun bt225 => ((spec_ParseNumber.f k t224).bind fun bt227 => (if (bt225.2 == bt227.2) = true then (if bt225.2 = true then ((impl_FormatInt.f bt225.1).bind fun t229 => (if t229.toList = t224.toList then (some (decide (bt225.1 ≥ 0))) else (none))) else (some true)) else (none)))))
def laws_FnNumbers.f (k : Nat) (l0 : List Int) : Option (Bool) := (laws_big.f l0).bind fun t218 => (if t218 = true then (some true) else ((spec_DrawFormatInt.f k l0).bind fun t219 => ((impl_FormatInt.f t219).bind fun t220 => ((impl_ParseInt.f t220).bind fun bt221 => ((spec_FormatInt.f k t219).bind fun t223 => (if t220.toList = t223.toList then (if (t220.size : Int) ≤ 12 then (if (bt221.2 != true) = true then (none) else (if bt221.2 = true then (laws_FnNumbers.j0 k l0 (bt221.1 != t219)) else (laws_FnNumbers.j0 k l0 false))) else (if t219 < 0 then (if (bt221.2 != (decide ((t220.size : Int) ≤ 13))) = true then (none) else (if bt221.2 = true then (laws_FnNumbers.j0 k l0 (bt221.1 != t219)) else (laws_FnNumbers.j0 k l0 false))) else (if (bt221.2 != false) = true then (none) else (if bt221.2 = true then (laws_FnNumbers.j0 k l0 (bt221.1 != t219)) else (laws_FnNumbers.j0 k l0 false))))) else (none)))))))
theorem laws_FnNumbers.mono_l : ∀ k, (∀ y0 y1, LeO (laws_FnNumbers.j0 k y0 y1) (laws_FnNumbers.j0 (k + 1) y0 y1))
  | 0 => fun _ _ r h => by simp [laws_FnNumbers.j0] at h
  | k + 1 => by
    have ih0 := laws_FnNumbers.mono_l k
    · intro y0 y1
      unfold laws_FnNumbers.j0
      repeat' first
      | (with_reducible exact ih0 _ _)
      | (with_reducible exact spec_DrawFormatInt.mono _ _)
      | (with_reducible exact spec_DrawParseNumber.mono _ _)
      | (with_reducible exact spec_FormatInt.mono _ _)
      | (with_reducible exact spec_ParseNumber.mono _ _)
      | (with_reducible exact LeO.refl _)
      | (with_reducible exact LeO.none _)
      | (with_reducible refine LeO.ite ?_ ?_)
      | (with_reducible refine LeO.bind ?_ (fun _ => ?_))
      | exact ih0 _ _
      | exact spec_DrawFormatInt.mono _ _
      | exact spec_DrawParseNumber.mono _ _
      | exact spec_FormatInt.mono _ _
      | exact spec_ParseNumber.mono _ _
      | exact LeO.none _
      | refine LeO.ite ?_ ?_
      | refine LeO.bind ?_ (fun _ => ?_)
set_option maxHeartbeats 8000000 in
set_option maxRecDepth 100000 in
theorem laws_FnNumbers.calls (k : Nat) (A0 : Option Addr) (c0 : Nat) (l0 : List Int) (r : Bool) (w : World) (ht : Tab w) (hr0 : Kd.C (Kd.int .u8) w A0 l0.length l0) (hc0 : l0.length ≤ c0) (h : laws_FnNumbers.f k l0 = some r) :
    Calls Tryd.prog 5 #[.slice A0 l0.length c0] w fun e w' => e = .returned (.bool r) ∧ Below w.heap.size w w' := by
  have HT := Aside0.mk ht
  clear ht
  have HR0 := Aside0.mk hr0
  have HC0 := Aside0.mk hc0
  clear hr0 hc0
  have HB := Aside0.mk (Below.refl w.heap.size w)
  have H : ((laws_big.f l0).bind fun t218 => (if t218 = true then (some true) else ((spec_DrawFormatInt.f k l0).bind fun t219 => ((impl_FormatInt.f t219).bind fun t220 => ((impl_ParseInt.f t220).bind fun bt221 => ((spec_FormatInt.f k t219).bind fun t223 => (if t220.toList = t223.toList then (if (t220.size : Int) ≤ 12 then (if (bt221.2 != true) = true then (none) else (if bt221.2 = true then (laws_FnNumbers.j0 k l0 (bt221.1 != t219)) else (laws_FnNumbers.j0 k l0 false))) else (if t219 < 0 then (if (bt221.2 != (decide ((t220.size : Int) ≤ 13))) = true then (none) else (if bt221.2 = true then (laws_FnNumbers.j0 k l0 (bt221.1 != t219)) else (laws_FnNumbers.j0 k l0 false))) else (if (bt221.2 != false) = true then (none) else (if bt221.2 = true then (laws_FnNumbers.j0 k l0 (bt221.1 != t219)) else (laws_FnNumbers.j0 k l0 false))))) else (none)))))))) = some r := h
  clear h
  replace H := Option.bind_eq_some_iff.mp H
  obtain ⟨t218, A20, H⟩ := H
  replace H : (if t218 = true then (some true) else ((spec_DrawFormatInt.f k l0).bind fun t219 => ((impl_FormatInt.f t219).bind fun t220 => ((impl_ParseInt.f t220).bind fun bt221 => ((spec_FormatInt.f k t219).bind fun t223 => (if t220.toList = t223.toList then (if (t220.size : Int) ≤ 12 then (if (bt221.2 != true) = true then (none) else (if bt221.2 = true then (laws_FnNumbers.j0 k l0 (bt221.1 != t219)) else (laws_FnNumbers.j0 k l0 false))) else (if t219 < 0 then (if (bt221.2 != (decide ((t220.size : Int) ≤ 13))) = true then (none) else (if bt221.2 = true then (laws_FnNumbers.j0 k l0 (bt221.1 != t219)) else (laws_FnNumbers.j0 k l0 false))) else (if (bt221.2 != false) = true then (none) else (if bt221.2 = true then (laws_FnNumbers.j0 k l0 (bt221.1 != t219)) else (laws_FnNumbers.j0 k l0 false))))) else (none))))))) = some r := H
  have A2 := Aside0.mk A20
  clear A20
  by_cases c3 : t218 = true
  · subst c3
    have H1 : (some true) = some r := by rw [if_pos rfl] at H; exact H
    clear H
    have H := H1
    clear H1
    obtain rfl := Option.some.inj H
    go_enter Tryd.func5, Tryd.ntmps5
    go_wp2_with (first | ((with_reducible refine gate_callee (f := 10) rfl ?_); refine goesL_ (some 13) rfl rfl Tryd.func10 (by kernel_rfl) rfl #[.slice A0 l0.length c0] rfl (by (try simp only [List.map_toArray, List.map_cons, List.map_nil]); first | done | rfl | (simp only [List.length_drop, List.length_take]; rfl)) ?_; (with_reducible refine (laws_big.calls _ _ l0 true _ ?side1 ?side2 A2.out).mono ?_); (case side1 => repeat (first | exact HR0.out | (with_reducible refine Kd.C_alloc ?_ _) | (with_reducible refine Kd.C_drewN ?_ _) | (with_reducible refine Kd.C_drew ?_))); (case side2 => exact HC0.out); rintro e w' ⟨rfl, ⟨nd, rfl⟩⟩; refine ⟨_, rfl, ?_⟩))
    go_ret
    exact ⟨by first | rfl | (simp [errW_none, errW_some] <;> rfl) | (simp [*, errW_none, errW_some] <;> rfl), by repeat (first | (with_reducible first | exact HB.out | apply below_alloc | apply pw_below_drewN | apply below_drew1) | exact HB.out)⟩
  · replace c3 := Bool.eq_false_iff.mpr c3
    subst c3
    have H1 : ((spec_DrawFormatInt.f k l0).bind fun t219 => ((impl_FormatInt.f t219).bind fun t220 => ((impl_ParseInt.f t220).bind fun bt221 => ((spec_FormatInt.f k t219).bind fun t223 => (if t220.toList = t223.toList then (if (t220.size : Int) ≤ 12 then (if (bt221.2 != true) = true then (none) else (if bt221.2 = true then (laws_FnNumbers.j0 k l0 (bt221.1 != t219)) else (laws_FnNumbers.j0 k l0 false))) else (if t219 < 0 then (if (bt221.2 != (decide ((t220.size : Int) ≤ 13))) = true then (none) else (if bt221.2 = true then (laws_FnNumbers.j0 k l0 (bt221.1 != t219)) else (laws_FnNumbers.j0 k l0 false))) else (if (bt221.2 != false) = true then (none) else (if bt221.2 = true then (laws_FnNumbers.j0 k l0 (bt221.1 != t219)) else (laws_FnNumbers.j0 k l0 false))))) else (none)))))) = some r := by rw [if_neg (show ¬ (false = true) by decide)] at H; exact H
    clear H
    have H := H1
    clear H1
    replace H := Option.bind_eq_some_iff.mp H
    obtain ⟨t219, A40, H⟩ := H
    replace H : ((impl_FormatInt.f t219).bind fun t220 => ((impl_ParseInt.f t220).bind fun bt221 => ((spec_FormatInt.f k t219).bind fun t223 => (if t220.toList = t223.toList then (if (t220.size : Int) ≤ 12 then (if (bt221.2 != true) = true then (none) else (if bt221.2 = true then (laws_FnNumbers.j0 k l0 (bt221.1 != t219)) else (laws_FnNumbers.j0 k l0 false))) else (if t219 < 0 then (if (bt221.2 != (decide ((t220.size : Int) ≤ 13))) = true then (none) else (if bt221.2 = true then (laws_FnNumbers.j0 k l0 (bt221.1 != t219)) else (laws_FnNumbers.j0 k l0 false))) else (if (bt221.2 != false) = true then (none) else (if bt221.2 = true then (laws_FnNumbers.j0 k l0 (bt221.1 != t219)) else (laws_FnNumbers.j0 k l0 false))))) else (none))))) = some r := H
    have A4 := Aside0.mk A40
    clear A40
    replace H := Option.bind_eq_some_iff.mp H
    obtain ⟨t220, A50, H⟩ := H
    replace H : ((impl_ParseInt.f t220).bind fun bt221 => ((spec_FormatInt.f k t219).bind fun t223 => (if t220.toList = t223.toList then (if (t220.size : Int) ≤ 12 then (if (bt221.2 != true) = true then (none) else (if bt221.2 = true then (laws_FnNumbers.j0 k l0 (bt221.1 != t219)) else (laws_FnNumbers.j0 k l0 false))) else (if t219 < 0 then (if (bt221.2 != (decide ((t220.size : Int) ≤ 13))) = true then (none) else (if bt221.2 = true then (laws_FnNumbers.j0 k l0 (bt221.1 != t219)) else (laws_FnNumbers.j0 k l0 false))) else (if (bt221.2 != false) = true then (none) else (if bt221.2 = true then (laws_FnNumbers.j0 k l0 (bt221.1 != t219)) else (laws_FnNumbers.j0 k l0 false))))) else (none)))) = some r := H
    have A5 := Aside0.mk A50
    clear A50
    replace H := Option.bind_eq_some_iff.mp H
    obtain ⟨⟨t221, t222⟩, A60, H⟩ := H
    replace H : ((spec_FormatInt.f k t219).bind fun t223 => (if t220.toList = t223.toList then (if (t220.size : Int) ≤ 12 then (if (t222 != true) = true then (none) else (if t222 = true then (laws_FnNumbers.j0 k l0 (t221 != t219)) else (laws_FnNumbers.j0 k l0 false))) else (if t219 < 0 then (if (t222 != (decide ((t220.size : Int) ≤ 13))) = true then (none) else (if t222 = true then (laws_FnNumbers.j0 k l0 (t221 != t219)) else (laws_FnNumbers.j0 k l0 false))) else (if (t222 != false) = true then (none) else (if t222 = true then (laws_FnNumbers.j0 k l0 (t221 != t219)) else (laws_FnNumbers.j0 k l0 false))))) else (none))) = some r := H
    have A6 := Aside0.mk A60
    clear A60
    have HC7 := Aside0.mk H
    clear H
    go_enter Tryd.func5, Tryd.ntmps5
    go_upto_region 6 with (first | ((with_reducible refine gate_callee (f := 10) rfl ?_); refine goesL_ (some 13) rfl rfl Tryd.func10 (by kernel_rfl) rfl #[.slice A0 l0.length c0] rfl (by (try simp only [List.map_toArray, List.map_cons, List.map_nil]); first | done | rfl | (simp only [List.length_drop, List.length_take]; rfl)) ?_; (with_reducible refine (laws_big.calls _ _ l0 false _ ?side1 ?side2 A2.out).mono ?_); (case side1 => repeat (first | exact HR0.out | (with_reducible refine Kd.C_alloc ?_ _) | (with_reducible refine Kd.C_drewN ?_ _) | (with_reducible refine Kd.C_drew ?_))); (case side2 => exact HC0.out); rintro e w' ⟨rfl, ⟨nd, rfl⟩⟩; refine ⟨_, rfl, ?_⟩) | ((with_reducible refine gate_callee (f := 11) rfl ?_); refine goesL_ (some 15) rfl rfl Tryd.func11 (by kernel_rfl) rfl #[.slice A0 l0.length c0] rfl (by (try simp only [List.map_toArray, List.map_cons, List.map_nil]); first | done | rfl | (simp only [List.length_drop, List.length_take]; rfl)) ?_; (with_reducible refine (spec_DrawFormatInt.calls k _ _ l0 t219 _ ?side1 ?side2 A4.out).mono ?_); (case side1 => repeat (first | exact HR0.out | (with_reducible refine Kd.C_alloc ?_ _) | (with_reducible refine Kd.C_drewN ?_ _) | (with_reducible refine Kd.C_drew ?_))); (case side2 => exact HC0.out); rintro e w8 ⟨rfl, hb⟩; refine ⟨_, rfl, ?_⟩; have n0_ := Aside0.mk (below_step (by repeat (first | (with_reducible first | exact HB.out | apply below_alloc | apply pw_below_drewN | apply below_drew1) | exact HB.out)) hb); clear HB; have HB := n0_; clear n0_; (try clear hb); (try clear hb2); (try clear hk); (try clear hi)) | ((with_reducible refine gate_callee (f := 12) rfl ?_); refine goesL_ (some 17) rfl rfl Tryd.func12 (by kernel_rfl) rfl #[.int .i64 t219] rfl (by (try simp only [List.map_toArray, List.map_cons, List.map_nil]); first | done | rfl | (simp only [List.length_drop, List.length_take]; rfl)) ?_; (with_reducible refine (impl_FormatInt.calls t219 t220 _ ?hT A5.out).mono ?_); (case hT => exact tab_on HT.out (by repeat (first | (with_reducible first | exact HB.out | apply below_alloc | apply pw_below_drewN | apply below_drew1) | exact HB.out))); rintro e w9 ⟨rfl, hb⟩; refine ⟨_, rfl, ?_⟩; have n0_ := Aside0.mk (below_step (by repeat (first | (with_reducible first | exact HB.out | apply below_alloc | apply pw_below_drewN | apply below_drew1) | exact HB.out)) hb); clear HB; have HB := n0_; clear n0_; (try clear hb); (try clear hb2); (try clear hk); (try clear hi)) | ((with_reducible refine gate_callee (f := 7) rfl ?_); refine goesL_ (some 20) rfl rfl Tryd.func7 (by kernel_rfl) rfl #[.string t220] rfl (by (try simp only [List.map_toArray, List.map_cons, List.map_nil]); first | done | rfl | (simp only [List.length_drop, List.length_take]; rfl)) ?_; (with_reducible refine (impl_ParseInt.calls t220 t221 t222 _ ?hT A6.out).mono ?_); (case hT => exact tab_on HT.out (by repeat (first | (with_reducible first | exact HB.out | apply below_alloc | apply pw_below_drewN | apply below_drew1) | exact HB.out))); rintro e w10 ⟨rfl, hb⟩; refine ⟨_, rfl, ?_⟩; have n0_ := Aside0.mk (below_step (by repeat (first | (with_reducible first | exact HB.out | apply below_alloc | apply pw_below_drewN | apply below_drew1) | exact HB.out)) hb); clear HB; have HB := n0_; clear n0_; (try clear hb); (try clear hb2); (try clear hk); (try clear hi)))
    (try simp only [Act.put, List.setIfInBounds_toArray, List.set_cons_zero, List.set_cons_succ])
    go_cut [50] (fun v50 wc => ∃ (kq : Nat) (x50_6 : Bool), v50 = .bool x50_6 ∧ Aside0 (laws_FnNumbers.j0 kq l0 x50_6 = some r) ∧ Aside0 (kq ≤ k) ∧ Aside0 (Below w.heap.size w wc))
    case first =>
      have H := HC7.out
      clear HC7
      replace H := Option.bind_eq_some_iff.mp H
      obtain ⟨t223, A110, H⟩ := H
      replace H : (if t220.toList = t223.toList then (if (t220.size : Int) ≤ 12 then (if (t222 != true) = true then (none) else (if t222 = true then (laws_FnNumbers.j0 k l0 (t221 != t219)) else (laws_FnNumbers.j0 k l0 false))) else (if t219 < 0 then (if (t222 != (decide ((t220.size : Int) ≤ 13))) = true then (none) else (if t222 = true then (laws_FnNumbers.j0 k l0 (t221 != t219)) else (laws_FnNumbers.j0 k l0 false))) else (if (t222 != false) = true then (none) else (if t222 = true then (laws_FnNumbers.j0 k l0 (t221 != t219)) else (laws_FnNumbers.j0 k l0 false))))) else (none)) = some r := H
      have A11 := Aside0.mk A110
      clear A110
      by_cases c12 : t220.toList = t223.toList
      · rw [if_pos c12] at H
        have c12b0 : (t220.toList == t223.toList) = true := beq_iff_eq.mpr c12
        have c12b1 : (t220.toList != t223.toList) = false := bne_eq_false_iff_eq.mpr c12
        clear c12
        (first | rw [c12b0] | (simp only [i64_w, i32_w]; rw [c12b0]) | skip)
        by_cases c13 : (t220.size : Int) ≤ 12
        · rw [if_pos c13] at H
          have c13b0 : decide ((t220.size : Int) ≤ 12) = true := decide_eq_true c13
          have c13b1 : decide (t220.size ≤ 12) = true := decide_eq_true (by omega)
          clear c13
          by_cases c14 : (t222 != true) = true
          · rw [if_pos c14] at H
            exact absurd H (by simp)
          · rw [if_neg c14] at H
            have c14b0 : (t222 != true) = false := by simpa using c14
            (try (have c14b1 : decide (t222 = true) = true := by simpa using c14))
            (try (have c14b2 : (t222 == true) = true := by simpa using c14))
            clear c14
            by_cases c15 : t222 = true
            · subst c15
              have H1 : (laws_FnNumbers.j0 k l0 (t221 != t219)) = some r := by rw [if_pos rfl] at H; exact H
              clear H
              have H := H1
              clear H1
              have H' := Aside0.mk H
              clear H
              go_wp2_with (first | ((with_reducible refine gate_callee (f := 13) rfl ?_); refine goesL_ (some 25) rfl rfl Tryd.func13 (by kernel_rfl) rfl #[.int .i64 t219] rfl (by (try simp only [List.map_toArray, List.map_cons, List.map_nil]); first | done | rfl | (simp only [List.length_drop, List.length_take]; rfl)) ?_; (with_reducible refine (spec_FormatInt.calls k t219 t223 _ A11.out).mono ?_); rintro e w16 ⟨rfl, hb⟩; refine ⟨_, rfl, ?_⟩; have n0_ := Aside0.mk (below_step (by repeat (first | (with_reducible first | exact HB.out | apply below_alloc | apply pw_below_drewN | apply below_drew1) | exact HB.out)) hb); clear HB; have HB := n0_; clear n0_; (try clear hb); (try clear hb2); (try clear hk); (try clear hi)))
              go_meet
              case rel => exact ⟨_, ((t221 != t219)), (by first | rfl | (simp; done) | (simp [*]; done)), H', ⟨by first | omega | exact Nat.le_refl _⟩, ⟨by repeat (first | (with_reducible first | exact HB.out | apply below_alloc | apply pw_below_drewN | apply below_drew1) | exact HB.out)⟩⟩
            · replace c15 := Bool.eq_false_iff.mpr c15
              subst c15
              have H1 : (laws_FnNumbers.j0 k l0 false) = some r := by rw [if_neg (show ¬ (false = true) by decide)] at H; exact H
              clear H
              have H := H1
              clear H1
              have H' := Aside0.mk H
              clear H
              go_wp2_with (first | ((with_reducible refine gate_callee (f := 13) rfl ?_); refine goesL_ (some 25) rfl rfl Tryd.func13 (by kernel_rfl) rfl #[.int .i64 t219] rfl (by (try simp only [List.map_toArray, List.map_cons, List.map_nil]); first | done | rfl | (simp only [List.length_drop, List.length_take]; rfl)) ?_; (with_reducible refine (spec_FormatInt.calls k t219 t223 _ A11.out).mono ?_); rintro e w17 ⟨rfl, hb⟩; refine ⟨_, rfl, ?_⟩; have n0_ := Aside0.mk (below_step (by repeat (first | (with_reducible first | exact HB.out | apply below_alloc | apply pw_below_drewN | apply below_drew1) | exact HB.out)) hb); clear HB; have HB := n0_; clear n0_; (try clear hb); (try clear hb2); (try clear hk); (try clear hi)))
              go_meet
              case rel => exact ⟨_, (false), (by first | rfl | (simp; done) | (simp [*]; done)), H', ⟨by first | omega | exact Nat.le_refl _⟩, ⟨by repeat (first | (with_reducible first | exact HB.out | apply below_alloc | apply pw_below_drewN | apply below_drew1) | exact HB.out)⟩⟩
        · rw [if_neg c13] at H
          have c13b0 : decide ((t220.size : Int) ≤ 12) = false := decide_eq_false c13
          have c13b1 : decide (t220.size ≤ 12) = false := decide_eq_false (by omega)
          clear c13
          by_cases c18 : t219 < 0
          · rw [if_pos c18] at H
            have c18b0 : decide (t219 < 0) = true := decide_eq_true c18
            clear c18
            by_cases c19 : (t222 != (decide ((t220.size : Int) ≤ 13))) = true
            · rw [if_pos c19] at H
              exact absurd H (by simp)
            · rw [if_neg c19] at H
              have c19b0 : (t222 != (decide ((t220.size : Int) ≤ 13))) = false := by simpa using c19
              (try (have c19b1 : decide (t222 = (decide ((t220.size : Int) ≤ 13))) = true := by simpa using c19))
              (try (have c19b2 : (t222 == (decide ((t220.size : Int) ≤ 13))) = true := by simpa using c19))
              (try (have c19b3 : (!(t222 == (decide ((t220.size : Int) ≤ 13)))) = false := (by have h_ := c19; revert h_; generalize t222 = x_; generalize (decide ((t220.size : Int) ≤ 13)) = y_; cases x_ <;> cases y_ <;> simp)))
              clear c19
              by_cases c20 : t222 = true
              · subst c20
                have H1 : (laws_FnNumbers.j0 k l0 (t221 != t219)) = some r := by rw [if_pos rfl] at H; exact H
                clear H
                have H := H1
                clear H1
                have H' := Aside0.mk H
                clear H
                go_wp2_with (first | ((with_reducible refine gate_callee (f := 13) rfl ?_); refine goesL_ (some 25) rfl rfl Tryd.func13 (by kernel_rfl) rfl #[.int .i64 t219] rfl (by (try simp only [List.map_toArray, List.map_cons, List.map_nil]); first | done | rfl | (simp only [List.length_drop, List.length_take]; rfl)) ?_; (with_reducible refine (spec_FormatInt.calls k t219 t223 _ A11.out).mono ?_); rintro e w21 ⟨rfl, hb⟩; refine ⟨_, rfl, ?_⟩; have n0_ := Aside0.mk (below_step (by repeat (first | (with_reducible first | exact HB.out | apply below_alloc | apply pw_below_drewN | apply below_drew1) | exact HB.out)) hb); clear HB; have HB := n0_; clear n0_; (try clear hb); (try clear hb2); (try clear hk); (try clear hi)))
                go_meet
                case rel => exact ⟨_, ((t221 != t219)), (by first | rfl | (simp; done) | (simp [*]; done)), H', ⟨by first | omega | exact Nat.le_refl _⟩, ⟨by repeat (first | (with_reducible first | exact HB.out | apply below_alloc | apply pw_below_drewN | apply below_drew1) | exact HB.out)⟩⟩
              · replace c20 := Bool.eq_false_iff.mpr c20
                subst c20
                have H1 : (laws_FnNumbers.j0 k l0 false) = some r := by rw [if_neg (show ¬ (false = true) by decide)] at H; exact H
                clear H
                have H := H1
                clear H1
                have H' := Aside0.mk H
                clear H
                go_wp2_with (first | ((with_reducible refine gate_callee (f := 13) rfl ?_); refine goesL_ (some 25) rfl rfl Tryd.func13 (by kernel_rfl) rfl #[.int .i64 t219] rfl (by (try simp only [List.map_toArray, List.map_cons, List.map_nil]); first | done | rfl | (simp only [List.length_drop, List.length_take]; rfl)) ?_; (with_reducible refine (spec_FormatInt.calls k t219 t223 _ A11.out).mono ?_); rintro e w22 ⟨rfl, hb⟩; refine ⟨_, rfl, ?_⟩; have n0_ := Aside0.mk (below_step (by repeat (first | (with_reducible first | exact HB.out | apply below_alloc | apply pw_below_drewN | apply below_drew1) | exact HB.out)) hb); clear HB; have HB := n0_; clear n0_; (try clear hb); (try clear hb2); (try clear hk); (try clear hi)))
                go_meet
                case rel => exact ⟨_, (false), (by first | rfl | (simp; done) | (simp [*]; done)), H', ⟨by first | omega | exact Nat.le_refl _⟩, ⟨by repeat (first | (with_reducible first | exact HB.out | apply below_alloc | apply pw_below_drewN | apply below_drew1) | exact HB.out)⟩⟩
          · rw [if_neg c18] at H
            have c18b0 : decide (t219 < 0) = false := decide_eq_false c18
            clear c18
            by_cases c23 : (t222 != false) = true
            · rw [if_pos c23] at H
              exact absurd H (by simp)
            · rw [if_neg c23] at H
              have c23b0 : (t222 != false) = false := by simpa using c23
              (try (have c23b1 : decide (t222 = false) = true := by simpa using c23))
              (try (have c23b2 : (t222 == false) = true := by simpa using c23))
              clear c23
              by_cases c24 : t222 = true
              · subst c24
                have H1 : (laws_FnNumbers.j0 k l0 (t221 != t219)) = some r := by rw [if_pos rfl] at H; exact H
                clear H
                have H := H1
                clear H1
                have H' := Aside0.mk H
                clear H
                go_wp2_with (first | ((with_reducible refine gate_callee (f := 13) rfl ?_); refine goesL_ (some 25) rfl rfl Tryd.func13 (by kernel_rfl) rfl #[.int .i64 t219] rfl (by (try simp only [List.map_toArray, List.map_cons, List.map_nil]); first | done | rfl | (simp only [List.length_drop, List.length_take]; rfl)) ?_; (with_reducible refine (spec_FormatInt.calls k t219 t223 _ A11.out).mono ?_); rintro e w25 ⟨rfl, hb⟩; refine ⟨_, rfl, ?_⟩; have n0_ := Aside0.mk (below_step (by repeat (first | (with_reducible first | exact HB.out | apply below_alloc | apply pw_below_drewN | apply below_drew1) | exact HB.out)) hb); clear HB; have HB := n0_; clear n0_; (try clear hb); (try clear hb2); (try clear hk); (try clear hi)))
                go_meet
                case rel => exact ⟨_, ((t221 != t219)), (by first | rfl | (simp; done) | (simp [*]; done)), H', ⟨by first | omega | exact Nat.le_refl _⟩, ⟨by repeat (first | (with_reducible first | exact HB.out | apply below_alloc | apply pw_below_drewN | apply below_drew1) | exact HB.out)⟩⟩
              · replace c24 := Bool.eq_false_iff.mpr c24
                subst c24
                have H1 : (laws_FnNumbers.j0 k l0 false) = some r := by rw [if_neg (show ¬ (false = true) by decide)] at H; exact H
                clear H
                have H := H1
                clear H1
                have H' := Aside0.mk H
                clear H
                go_wp2_with (first | ((with_reducible refine gate_callee (f := 13) rfl ?_); refine goesL_ (some 25) rfl rfl Tryd.func13 (by kernel_rfl) rfl #[.int .i64 t219] rfl (by (try simp only [List.map_toArray, List.map_cons, List.map_nil]); first | done | rfl | (simp only [List.length_drop, List.length_take]; rfl)) ?_; (with_reducible refine (spec_FormatInt.calls k t219 t223 _ A11.out).mono ?_); rintro e w26 ⟨rfl, hb⟩; refine ⟨_, rfl, ?_⟩; have n0_ := Aside0.mk (below_step (by repeat (first | (with_reducible first | exact HB.out | apply below_alloc | apply pw_below_drewN | apply below_drew1) | exact HB.out)) hb); clear HB; have HB := n0_; clear n0_; (try clear hb); (try clear hb2); (try clear hk); (try clear hi)))
                go_meet
                case rel => exact ⟨_, (false), (by first | rfl | (simp; done) | (simp [*]; done)), H', ⟨by first | omega | exact Nat.le_refl _⟩, ⟨by repeat (first | (with_reducible first | exact HB.out | apply below_alloc | apply pw_below_drewN | apply below_drew1) | exact HB.out)⟩⟩
      · rw [if_neg c12] at H
        exact absurd H (by simp)
    case rest =>
      clear HC7
      try clear c1
      try clear c2
      try clear p2
      try clear c3
      try clear c5
      try clear c7
      try clear c10
      try clear c11
      try clear c12
      try clear c12b0
      try clear c12b1
      try clear c13
      try clear c13b0
      try clear c13b1
      try clear c14
      try clear c14b0
      try clear c14b1
      try clear c14b2
      try clear c15
      try clear c18
      try clear c18b0
      try clear c19
      try clear c19b0
      try clear c19b1
      try clear c19b2
      try clear c20
      try clear c23
      try clear c23b0
      try clear c23b1
      try clear c23b2
      try clear c24
      obtain ⟨kq, x50_6, rfl, HA, HJ6, HB⟩ := hcut
      cases kq with
      | zero => exact absurd HA.out (by simp [laws_FnNumbers.j0])
      | succ kj6 =>
        have H := HA.out
        clear HA
        simp only [laws_FnNumbers.j0] at H
        by_cases c27 : x50_6 = true
        · subst c27
          have H1 : (none) = some r := by rw [if_pos rfl] at H; exact H
          clear H
          have H := H1
          clear H1
          exact absurd H (by simp)
        · replace c27 := Bool.eq_false_iff.mpr c27
          subst c27
          have H1 : ((spec_DrawParseNumber.f kj6 l0).bind fun t224 => ((impl_ParseNumber.f t224).bind fun bt225 => ((spec_ParseNumber.f kj6 t224).bind fun bt227 => (if (bt225.2 == bt227.2) = true then (if bt225.2 = true then ((impl_FormatInt.f bt225.1).bind fun t229 => (if t229.toList = t224.toList then (some (decide (bt225.1 ≥ 0))) else (none))) else (some true)) else (none))))) = some r := by rw [if_neg (show ¬ (false = true) by decide)] at H; exact H
          clear H
          have H := H1
          clear H1
          replace H := Option.bind_eq_some_iff.mp H
          obtain ⟨t224, A280, H⟩ := H
          replace H : ((impl_ParseNumber.f t224).bind fun bt225 => ((spec_ParseNumber.f kj6 t224).bind fun bt227 => (if (bt225.2 == bt227.2) = true then (if bt225.2 = true then ((impl_FormatInt.f bt225.1).bind fun t229 => (if t229.toList = t224.toList then (some (decide (bt225.1 ≥ 0))) else (none))) else (some true)) else (none)))) = some r := H
          have A28 := Aside0.mk A280
          clear A280
          replace H := Option.bind_eq_some_iff.mp H
          obtain ⟨⟨t225, t226⟩, A290, H⟩ := H
          replace H : ((spec_ParseNumber.f kj6 t224).bind fun bt227 => (if (t226 == bt227.2) = true then (if t226 = true then ((impl_FormatInt.f t225).bind fun t229 => (if t229.toList = t224.toList then (some (decide (t225 ≥ 0))) else (none))) else (some true)) else (none))) = some r := H
          have A29 := Aside0.mk A290
          clear A290
          replace H := Option.bind_eq_some_iff.mp H
          obtain ⟨⟨t227, t228⟩, A300, H⟩ := H
          replace H : (if (t226 == t228) = true then (if t226 = true then ((impl_FormatInt.f t225).bind fun t229 => (if t229.toList = t224.toList then (some (decide (t225 ≥ 0))) else (none))) else (some true)) else (none)) = some r := H
          have A30 := Aside0.mk A300
          clear A300
          by_cases c31 : (t226 == t228) = true
          · rw [if_pos c31] at H
            have c31b0 : (t226 == t228) = true := c31
            (try (have c31b1 : decide (t226 = t228) = true := by simpa using c31))
            (try (have c31b2 : (t226 == t228) = true := by simpa using c31))
            (try (have c31b3 : (!(t226 == t228)) = false := (by have h_ := c31; revert h_; generalize t226 = x_; generalize t228 = y_; cases x_ <;> cases y_ <;> simp)))
            clear c31
            by_cases c32 : t226 = true
            · subst c32
              have H1 : ((impl_FormatInt.f t225).bind fun t229 => (if t229.toList = t224.toList then (some (decide (t225 ≥ 0))) else (none))) = some r := by rw [if_pos rfl] at H; exact H
              clear H
              have H := H1
              clear H1
              replace H := Option.bind_eq_some_iff.mp H
              obtain ⟨t229, A330, H⟩ := H
              replace H : (if t229.toList = t224.toList then (some (decide (t225 ≥ 0))) else (none)) = some r := H
              have A33 := Aside0.mk A330
              clear A330
              by_cases c34 : t229.toList = t224.toList
              · rw [if_pos c34] at H
                have c34b0 : (t229.toList == t224.toList) = true := beq_iff_eq.mpr c34
                have c34b1 : (t229.toList != t224.toList) = false := bne_eq_false_iff_eq.mpr c34
                clear c34
                obtain rfl := Option.some.inj H
                go_wp2_with (first | ((with_reducible refine gate_callee (f := 14) rfl ?_); refine goesL_ (some 52) rfl rfl Tryd.func14 (by kernel_rfl) rfl #[.slice A0 l0.length c0] rfl (by (try simp only [List.map_toArray, List.map_cons, List.map_nil]); first | done | rfl | (simp only [List.length_drop, List.length_take]; rfl)) ?_; (with_reducible refine (spec_DrawParseNumber.calls kj6 _ _ l0 t224 _ ?side1 ?side2 A28.out).mono ?_); (case side1 => repeat (first | exact (Kd.C_below HR0.out HB.out) | (with_reducible refine Kd.C_alloc ?_ _) | (with_reducible refine Kd.C_drewN ?_ _) | (with_reducible refine Kd.C_drew ?_))); (case side2 => exact HC0.out); rintro e w35 ⟨rfl, hb⟩; refine ⟨_, rfl, ?_⟩; have n0_ := Aside0.mk (below_step (by repeat (first | (with_reducible first | exact HB.out | apply below_alloc | apply pw_below_drewN | apply below_drew1) | exact HB.out)) hb); clear HB; have HB := n0_; clear n0_; (try clear hb); (try clear hb2); (try clear hk); (try clear hi)) | ((with_reducible refine gate_callee (f := 9) rfl ?_); refine goesL_ (some 55) rfl rfl Tryd.func9 (by kernel_rfl) rfl #[.string t224] rfl (by (try simp only [List.map_toArray, List.map_cons, List.map_nil]); first | done | rfl | (simp only [List.length_drop, List.length_take]; rfl)) ?_; (with_reducible refine (impl_ParseNumber.calls t224 t225 true _ ?hT A29.out).mono ?_); (case hT => exact tab_on HT.out (by repeat (first | (with_reducible first | exact HB.out | apply below_alloc | apply pw_below_drewN | apply below_drew1) | exact HB.out))); rintro e w36 ⟨rfl, hb⟩; refine ⟨_, rfl, ?_⟩; have n0_ := Aside0.mk (below_step (by repeat (first | (with_reducible first | exact HB.out | apply below_alloc | apply pw_below_drewN | apply below_drew1) | exact HB.out)) hb); clear HB; have HB := n0_; clear n0_; (try clear hb); (try clear hb2); (try clear hk); (try clear hi)) | ((with_reducible refine gate_callee (f := 8) rfl ?_); refine goesL_ (some 60) rfl rfl Tryd.func8 (by kernel_rfl) rfl #[.string t224] rfl (by (try simp only [List.map_toArray, List.map_cons, List.map_nil]); first | done | rfl | (simp only [List.length_drop, List.length_take]; rfl)) ?_; (with_reducible refine (spec_ParseNumber.calls kj6 t224 t227 t228 _ A30.out).mono ?_); rintro e w37 ⟨rfl, hb⟩; refine ⟨_, rfl, ?_⟩; have n0_ := Aside0.mk (below_step (by repeat (first | (with_reducible first | exact HB.out | apply below_alloc | apply pw_below_drewN | apply below_drew1) | exact HB.out)) hb); clear HB; have HB := n0_; clear n0_; (try clear hb); (try clear hb2); (try clear hk); (try clear hi)) | (go_at_call 12; (with_reducible refine (impl_FormatInt.calls t225 t229 _ ?hT A33.out).mono ?_); (case hT => exact tab_on HT.out (by repeat (first | (with_reducible first | exact HB.out | apply below_alloc | apply pw_below_drewN | apply below_drew1) | exact HB.out))); rintro e w38 ⟨rfl, hb⟩; have n0_ := Aside0.mk (below_step (by repeat (first | (with_reducible first | exact HB.out | apply below_alloc | apply pw_below_drewN | apply below_drew1) | exact HB.out)) hb); clear HB; have HB := n0_; clear n0_; (try clear hb); (try clear hb2); (try clear hk); (try clear hi)))
                go_ret
                exact ⟨by first | rfl | (simp [errW_none, errW_some] <;> rfl) | (simp [*, errW_none, errW_some] <;> rfl), by repeat (first | (with_reducible first | exact HB.out | apply below_alloc | apply pw_below_drewN | apply below_drew1) | exact HB.out)⟩
              · rw [if_neg c34] at H
                exact absurd H (by simp)
            · replace c32 := Bool.eq_false_iff.mpr c32
              subst c32
              have H1 : (some true) = some r := by rw [if_neg (show ¬ (false = true) by decide)] at H; exact H
              clear H
              have H := H1
              clear H1
              obtain rfl := Option.some.inj H
              go_wp2_with (first | ((with_reducible refine gate_callee (f := 14) rfl ?_); refine goesL_ (some 52) rfl rfl Tryd.func14 (by kernel_rfl) rfl #[.slice A0 l0.length c0] rfl (by (try simp only [List.map_toArray, List.map_cons, List.map_nil]); first | done | rfl | (simp only [List.length_drop, List.length_take]; rfl)) ?_; (with_reducible refine (spec_DrawParseNumber.calls kj6 _ _ l0 t224 _ ?side1 ?side2 A28.out).mono ?_); (case side1 => repeat (first | exact (Kd.C_below HR0.out HB.out) | (with_reducible refine Kd.C_alloc ?_ _) | (with_reducible refine Kd.C_drewN ?_ _) | (with_reducible refine Kd.C_drew ?_))); (case side2 => exact HC0.out); rintro e w39 ⟨rfl, hb⟩; refine ⟨_, rfl, ?_⟩; have n0_ := Aside0.mk (below_step (by repeat (first | (with_reducible first | exact HB.out | apply below_alloc | apply pw_below_drewN | apply below_drew1) | exact HB.out)) hb); clear HB; have HB := n0_; clear n0_; (try clear hb); (try clear hb2); (try clear hk); (try clear hi)) | ((with_reducible refine gate_callee (f := 9) rfl ?_); refine goesL_ (some 55) rfl rfl Tryd.func9 (by kernel_rfl) rfl #[.string t224] rfl (by (try simp only [List.map_toArray, List.map_cons, List.map_nil]); first | done | rfl | (simp only [List.length_drop, List.length_take]; rfl)) ?_; (with_reducible refine (impl_ParseNumber.calls t224 t225 false _ ?hT A29.out).mono ?_); (case hT => exact tab_on HT.out (by repeat (first | (with_reducible first | exact HB.out | apply below_alloc | apply pw_below_drewN | apply below_drew1) | exact HB.out))); rintro e w40 ⟨rfl, hb⟩; refine ⟨_, rfl, ?_⟩; have n0_ := Aside0.mk (below_step (by repeat (first | (with_reducible first | exact HB.out | apply below_alloc | apply pw_below_drewN | apply below_drew1) | exact HB.out)) hb); clear HB; have HB := n0_; clear n0_; (try clear hb); (try clear hb2); (try clear hk); (try clear hi)) | ((with_reducible refine gate_callee (f := 8) rfl ?_); refine goesL_ (some 60) rfl rfl Tryd.func8 (by kernel_rfl) rfl #[.string t224] rfl (by (try simp only [List.map_toArray, List.map_cons, List.map_nil]); first | done | rfl | (simp only [List.length_drop, List.length_take]; rfl)) ?_; (with_reducible refine (spec_ParseNumber.calls kj6 t224 t227 t228 _ A30.out).mono ?_); rintro e w41 ⟨rfl, hb⟩; refine ⟨_, rfl, ?_⟩; have n0_ := Aside0.mk (below_step (by repeat (first | (with_reducible first | exact HB.out | apply below_alloc | apply pw_below_drewN | apply below_drew1) | exact HB.out)) hb); clear HB; have HB := n0_; clear n0_; (try clear hb); (try clear hb2); (try clear hk); (try clear hi)))
              go_ret
              exact ⟨by first | rfl | (simp [errW_none, errW_some] <;> rfl) | (simp [*, errW_none, errW_some] <;> rfl), by repeat (first | (with_reducible first | exact HB.out | apply below_alloc | apply pw_below_drewN | apply below_drew1) | exact HB.out)⟩
          · rw [if_neg c31] at H
            exact absurd H (by simp)


end Go.Proofs.YteeejdbdmfageaaDoor.QFnNumbers
