-- Written by a program of this session (the kit's print, turned in places): the functions that the law FnExactSurfaceName comes to, and what their calls do.
import Derived.Test.YtehloilmokhmgaaDoorQFnExactSurfaceNamex0
import Derived.Test.YtehloilmokhmgaaDoorQFnExactSurfaceNamex1
import Derived.Test.YtehloilmokhmgaaDoorQFnExactSurfaceNamex2
import Derived.Test.YtehloilmokhmgaaDoorHandJFnExactSurfaceName
namespace Go.Proofs.YtehloilmokhmgaaDoor.QFnExactSurfaceName
open Go.RowKit Go.Proofs.YtehloilmokhmgaaDoorW.PrintWords Go.Proofs.YtehloilmokhmgaaDoorW.PrintLast Go.Proofs.YtehloilmokhmgaaDoorW.PrintMore
attribute [local go_sem] max2_int min2_int max_two min_two max_three min_three max_four min_four   -- for this text's walks alone
set_option linter.unusedVariables false
set_option linter.unusedSimpArgs false

/-! ### impl_SurfaceName: function 9 -/
def impl_SurfaceName.j0 : Nat → ByteArray → Bool → Int → Int → Int → Option (ByteArray)
  | 0, _, _, _, _, _ => none
  | k + 1, x3, x11, x149000, x149001, x149002 => if x11 = true then (if x149002 > 0 then ((impl_FormatInt.f x149002).bind fun t151 => (if 7 + t151.size ≤ 9223372036854775807 then (if 6 + (7 + t151.size) ≤ 9223372036854775807 then (some ((⟨#[115, 112, 104, 101, 114, 101]⟩ : ByteArray) ++ ((⟨#[32, 109, 105, 110, 117, 115, 32]⟩ : ByteArray) ++ t151))) else (none)) else (none))) else (some (⟨#[115, 112, 104, 101, 114, 101]⟩ : ByteArray))) else (if x149000 = 1 then (if x149002 > 0 then ((impl_FormatInt.f x149002).bind fun t152 => (if 7 + t152.size ≤ 9223372036854775807 then (if 5 + (7 + t152.size) ≤ 9223372036854775807 then (some ((⟨#[116, 111, 114, 117, 115]⟩ : ByteArray) ++ ((⟨#[32, 109, 105, 110, 117, 115, 32]⟩ : ByteArray) ++ t152))) else (none)) else (none))) else (some (⟨#[116, 111, 114, 117, 115]⟩ : ByteArray))) else (if x149000 = 2 then (if x149002 > 0 then ((impl_FormatInt.f x149002).bind fun t153 => (if 7 + t153.size ≤ 9223372036854775807 then (if 12 + (7 + t153.size) ≤ 9223372036854775807 then (some ((⟨#[100, 111, 117, 98, 108, 101, 32, 116, 111, 114, 117, 115]⟩ : ByteArray) ++ ((⟨#[32, 109, 105, 110, 117, 115, 32]⟩ : ByteArray) ++ t153))) else (none)) else (none))) else (some (⟨#[100, 111, 117, 98, 108, 101, 32, 116, 111, 114, 117, 115]⟩ : ByteArray))) else (if x149001 = 1 then (if x149002 > 0 then ((impl_FormatInt.f x149002).bind fun t154 => (if 7 + t154.size ≤ 9223372036854775807 then (if 16 + (7 + t154.size) ≤ 9223372036854775807 then (some ((⟨#[112, 114, 111, 106, 101, 99, 116, 105, 118, 101, 32, 112, 108, 97, 110, 101]⟩ : ByteArray) ++ ((⟨#[32, 109, 105, 110, 117, 115, 32]⟩ : ByteArray) ++ t154))) else (none)) else (none))) else (some (⟨#[112, 114, 111, 106, 101, 99, 116, 105, 118, 101, 32, 112, 108, 97, 110, 101]⟩ : ByteArray))) else (if x149001 = 2 then (if x149002 > 0 then ((impl_FormatInt.f x149002).bind fun t155 => (if 7 + t155.size ≤ 9223372036854775807 then (if 12 + (7 + t155.size) ≤ 9223372036854775807 then (some ((⟨#[107, 108, 101, 105, 110, 32, 98, 111, 116, 116, 108, 101]⟩ : ByteArray) ++ ((⟨#[32, 109, 105, 110, 117, 115, 32]⟩ : ByteArray) ++ t155))) else (none)) else (none))) else (some (⟨#[107, 108, 101, 105, 110, 32, 98, 111, 116, 116, 108, 101]⟩ : ByteArray))) else (if x149001 > 0 then ((impl_FormatInt.f x149001).bind fun t156 => (if t156.size + 10 ≤ 9223372036854775807 then (if x149002 > 0 then ((impl_FormatInt.f x149002).bind fun t157 => (if 7 + t157.size ≤ 9223372036854775807 then (if t156.size + 10 + (7 + t157.size) ≤ 9223372036854775807 then (some ((t156 ++ (⟨#[32, 99, 114, 111, 115, 115, 99, 97, 112, 115]⟩ : ByteArray)) ++ ((⟨#[32, 109, 105, 110, 117, 115, 32]⟩ : ByteArray) ++ t157))) else (none)) else (none))) else (some (t156 ++ (⟨#[32, 99, 114, 111, 115, 115, 99, 97, 112, 115]⟩ : ByteArray)))) else (none))) else (if x149002 > 0 then ((impl_FormatInt.f x149002).bind fun t158 => (if 7 + t158.size ≤ 9223372036854775807 then (if x3.size + (7 + t158.size) ≤ 9223372036854775807 then (some (x3 ++ ((⟨#[32, 109, 105, 110, 117, 115, 32]⟩ : ByteArray) ++ t158))) else (none)) else (none))) else (some x3)))))))
def impl_SurfaceName.f (k : Nat) (a0_0 : Int) (a0_1 : Int) (a0_2 : Int) : Option (ByteArray) := (impl_IsSurface.f a0_0 a0_1 a0_2).bind fun t149 => (if t149 = true then ((impl_FormatInt.f a0_0).bind fun t150 => (if t150.size + 8 ≤ 9223372036854775807 then (if a0_0 = 0 then (impl_SurfaceName.j0 k (t150 ++ (⟨#[32, 104, 97, 110, 100, 108, 101, 115]⟩ : ByteArray)) (a0_1 == 0) a0_0 a0_1 a0_2) else (impl_SurfaceName.j0 k (t150 ++ (⟨#[32, 104, 97, 110, 100, 108, 101, 115]⟩ : ByteArray)) false a0_0 a0_1 a0_2)) else (none))) else (some (⟨#[]⟩ : ByteArray)))
theorem impl_SurfaceName.mono_l : ∀ k, (∀ y0 y1 y2 y3 y4, LeO (impl_SurfaceName.j0 k y0 y1 y2 y3 y4) (impl_SurfaceName.j0 (k + 1) y0 y1 y2 y3 y4))
  | 0 => fun _ _ _ _ _ r h => by simp [impl_SurfaceName.j0] at h
  | k + 1 => by
    have ih0 := impl_SurfaceName.mono_l k
    · intro y0 y1 y2 y3 y4
      unfold impl_SurfaceName.j0
      repeat' first
      | (with_reducible exact ih0 _ _ _ _ _)
      | (with_reducible exact LeO.refl _)
      | (with_reducible exact LeO.none _)
      | (with_reducible refine LeO.ite ?_ ?_)
      | (with_reducible refine LeO.bind ?_ (fun _ => ?_))
      | exact ih0 _ _ _ _ _
      | exact LeO.none _
      | refine LeO.ite ?_ ?_
      | refine LeO.bind ?_ (fun _ => ?_)
theorem impl_SurfaceName.mono : ∀ a0 a1 a2 k, LeO (impl_SurfaceName.f k a0 a1 a2) (impl_SurfaceName.f (k + 1) a0 a1 a2) := by
  intro a0 a1 a2 k
  have ih0 := impl_SurfaceName.mono_l k
  unfold impl_SurfaceName.f
  repeat' first
      | (with_reducible exact ih0 _ _ _ _ _)
      | (with_reducible exact LeO.refl _)
      | (with_reducible exact LeO.none _)
      | (with_reducible refine LeO.ite ?_ ?_)
      | (with_reducible refine LeO.bind ?_ (fun _ => ?_))
      | exact ih0 _ _ _ _ _
      | exact LeO.none _
      | refine LeO.ite ?_ ?_
      | refine LeO.bind ?_ (fun _ => ?_)
set_option maxHeartbeats 8000000 in
set_option maxRecDepth 100000 in
theorem impl_SurfaceName.calls (k : Nat) (a0_0 : Int) (a0_1 : Int) (a0_2 : Int) (r : ByteArray) (w : World) (ht : Tab w) (h : impl_SurfaceName.f k a0_0 a0_1 a0_2 = some r) :
    Calls Tryd.prog 9 #[.agg #[.int .i64 a0_0, .int .i64 a0_1, .int .i64 a0_2]] w fun e w' => e = .returned (.string r) ∧ Below w.heap.size w w' := by
  have HT := Aside0.mk ht
  clear ht
  have hu27 := Tryd.underlying27
  have HB := Aside0.mk (Below.refl w.heap.size w)
  have H : ((impl_IsSurface.f a0_0 a0_1 a0_2).bind fun t149 => (if t149 = true then ((impl_FormatInt.f a0_0).bind fun t150 => (if t150.size + 8 ≤ 9223372036854775807 then (if a0_0 = 0 then (impl_SurfaceName.j0 k (t150 ++ (⟨#[32, 104, 97, 110, 100, 108, 101, 115]⟩ : ByteArray)) (a0_1 == 0) a0_0 a0_1 a0_2) else (impl_SurfaceName.j0 k (t150 ++ (⟨#[32, 104, 97, 110, 100, 108, 101, 115]⟩ : ByteArray)) false a0_0 a0_1 a0_2)) else (none))) else (some (⟨#[]⟩ : ByteArray)))) = some r := h
  clear h
  replace H := Option.bind_eq_some_iff.mp H
  obtain ⟨t149, A20, H⟩ := H
  replace H : (if t149 = true then ((impl_FormatInt.f a0_0).bind fun t150 => (if t150.size + 8 ≤ 9223372036854775807 then (if a0_0 = 0 then (impl_SurfaceName.j0 k (t150 ++ (⟨#[32, 104, 97, 110, 100, 108, 101, 115]⟩ : ByteArray)) (a0_1 == 0) a0_0 a0_1 a0_2) else (impl_SurfaceName.j0 k (t150 ++ (⟨#[32, 104, 97, 110, 100, 108, 101, 115]⟩ : ByteArray)) false a0_0 a0_1 a0_2)) else (none))) else (some (⟨#[]⟩ : ByteArray))) = some r := H
  have A2 := Aside0.mk A20
  clear A20
  by_cases c3 : t149 = true
  · subst c3
    have H1 : ((impl_FormatInt.f a0_0).bind fun t150 => (if t150.size + 8 ≤ 9223372036854775807 then (if a0_0 = 0 then (impl_SurfaceName.j0 k (t150 ++ (⟨#[32, 104, 97, 110, 100, 108, 101, 115]⟩ : ByteArray)) (a0_1 == 0) a0_0 a0_1 a0_2) else (impl_SurfaceName.j0 k (t150 ++ (⟨#[32, 104, 97, 110, 100, 108, 101, 115]⟩ : ByteArray)) false a0_0 a0_1 a0_2)) else (none))) = some r := by rw [if_pos rfl] at H; exact H
    clear H
    have H := H1
    clear H1
    replace H := Option.bind_eq_some_iff.mp H
    obtain ⟨t150, A40, H⟩ := H
    replace H : (if t150.size + 8 ≤ 9223372036854775807 then (if a0_0 = 0 then (impl_SurfaceName.j0 k (t150 ++ (⟨#[32, 104, 97, 110, 100, 108, 101, 115]⟩ : ByteArray)) (a0_1 == 0) a0_0 a0_1 a0_2) else (impl_SurfaceName.j0 k (t150 ++ (⟨#[32, 104, 97, 110, 100, 108, 101, 115]⟩ : ByteArray)) false a0_0 a0_1 a0_2)) else (none)) = some r := H
    have A4 := Aside0.mk A40
    clear A40
    by_cases c5 : t150.size + 8 ≤ 9223372036854775807
    · rw [if_pos c5] at H
      have c5b0 := eq_true c5
      have c5b1 : decide (t150.size + 8 ≤ 9223372036854775807) = true := decide_eq_true c5
      try have c5b2 : (9223372036854775807 < t150.size + 8) = False := eq_false (Nat.not_lt.2 c5)
      have HC6 := Aside0.mk H
      clear H
      go_enter Tryd.func9, Tryd.ntmps9
      go_upto_region 4 with (first | ((with_reducible refine gate_dst (N := 1) rfl ?_); refine box_event ?hg (N := 1) ?hd (cs := #[.int .i64 a0_0, .int .i64 a0_1, .int .i64 a0_2]) (t := 27) ?hr ?_; (case hd => rfl); (case hg => rfl); (case hr => first | (go_simp; done) | (go_simp; rfl)); intro gb148 hg w7 hbox hb; have n0_ := Aside0.mk (below_step (by repeat (first | (with_reducible first | exact HB.out | apply below_alloc | apply pw_below_drewN | apply below_drew1) | exact HB.out)) hb); have n1_ := Aside0.mk (hbox); have n2_ := Aside0.mk ((by rw [hg]; exact (below_size (by repeat (first | (with_reducible first | exact HB.out | apply below_alloc | apply pw_below_drewN | apply below_drew1) | exact HB.out))) : w.heap.size ≤ gb148)); have n3_ := Aside0.mk ((by rw [hg]; exact (below_size (by repeat (first | (with_reducible first | exact HB.out | apply below_alloc | apply pw_below_drewN | apply below_drew1) | exact HB.out))) : w.heap.size ≤ gb148)); clear HB; have HB := n0_; have BK148 := n1_; have GW148 := n2_; have GE148 := n3_; clear n0_ n1_ n2_ n3_; clear hb hbox hg; have hcz8_0 : w7.cell? ⟨gb148, 0, none⟩ = some (.int .i64 a0_0) := (blk_cell BK148.out 0).trans rfl; have hcz8_1 : w7.cell? ⟨gb148, 1, none⟩ = some (.int .i64 a0_1) := (blk_cell BK148.out 1).trans rfl; have hcz8_2 : w7.cell? ⟨gb148, 2, none⟩ = some (.int .i64 a0_2) := (blk_cell BK148.out 2).trans rfl; have hfz8_0 := blk_frozen BK148.out 0; have hfz8_1 := blk_frozen BK148.out 1; have hfz8_2 := blk_frozen BK148.out 2) | ((with_reducible refine gate_callee (f := 12) rfl ?_); refine goesL_ (some 5) rfl rfl Tryd.func12 (by kernel_rfl) rfl #[.agg #[.int .i64 a0_0, .int .i64 a0_1, .int .i64 a0_2]] rfl (by (try simp only [List.map_toArray, List.map_cons, List.map_nil]); first | done | rfl | (simp only [List.length_drop, List.length_take]; rfl)) ?_; (with_reducible refine (impl_IsSurface.calls a0_0 a0_1 a0_2 true _ A2.out).mono ?_); rintro e w9 ⟨rfl, hb⟩; refine ⟨_, rfl, ?_⟩; have n0_ := Aside0.mk (blk_below (g := gb148) (o := .cells #[.int .i64 a0_0, .int .i64 a0_1, .int .i64 a0_2] 27 (0, 0)) (by (with_reducible repeat (first | refine blk_drewN ?_ _ | refine blk_drew ?_ | refine blk_alloc ?_ _)); exact BK148.out) hb); have n1_ := Aside0.mk (below_step (by repeat (first | (with_reducible first | exact HB.out | apply below_alloc | apply pw_below_drewN | apply below_drew1 | refine below_set ?_ GE148.out) | exact HB.out)) hb); clear BK148; clear HB; have BK148 := n0_; have HB := n1_; clear n0_ n1_; (try clear hb); (try clear hb2); (try clear hk); (try clear hi); have hcz10_0 : w9.cell? ⟨gb148, 0, none⟩ = some (.int .i64 a0_0) := (blk_cell BK148.out 0).trans rfl; have hcz10_1 : w9.cell? ⟨gb148, 1, none⟩ = some (.int .i64 a0_1) := (blk_cell BK148.out 1).trans rfl; have hcz10_2 : w9.cell? ⟨gb148, 2, none⟩ = some (.int .i64 a0_2) := (blk_cell BK148.out 2).trans rfl; have hfz10_0 := blk_frozen BK148.out 0; have hfz10_1 := blk_frozen BK148.out 1; have hfz10_2 := blk_frozen BK148.out 2) | ((with_reducible refine gate_callee (f := 6) rfl ?_); refine goesL_ (some 9) rfl rfl Tryd.func6 (by kernel_rfl) rfl #[.int .i64 a0_0] rfl (by (try simp only [List.map_toArray, List.map_cons, List.map_nil]); first | done | rfl | (simp only [List.length_drop, List.length_take]; rfl)) ?_; (with_reducible refine (impl_FormatInt.calls a0_0 t150 _ ?hT A4.out).mono ?_); (case hT => exact tab_on HT.out (by repeat (first | (with_reducible first | exact HB.out | apply below_alloc | apply pw_below_drewN | apply below_drew1 | refine below_set ?_ GE148.out) | exact HB.out))); rintro e w11 ⟨rfl, hb⟩; refine ⟨_, rfl, ?_⟩; have n0_ := Aside0.mk (blk_below (g := gb148) (o := .cells #[.int .i64 a0_0, .int .i64 a0_1, .int .i64 a0_2] 27 (0, 0)) (by (with_reducible repeat (first | refine blk_drewN ?_ _ | refine blk_drew ?_ | refine blk_alloc ?_ _)); exact BK148.out) hb); have n1_ := Aside0.mk (below_step (by repeat (first | (with_reducible first | exact HB.out | apply below_alloc | apply pw_below_drewN | apply below_drew1 | refine below_set ?_ GE148.out) | exact HB.out)) hb); clear BK148; clear HB; have BK148 := n0_; have HB := n1_; clear n0_ n1_; (try clear hb); (try clear hb2); (try clear hk); (try clear hi)))
      (try simp only [Act.put, List.setIfInBounds_toArray, List.set_cons_zero, List.set_cons_succ])
      go_cut [11] (fun v11 wc => ∃ (kq : Nat) (x11_5 : Bool), v11 = .bool x11_5 ∧ Aside0 (impl_SurfaceName.j0 kq (t150 ++ (⟨#[32, 104, 97, 110, 100, 108, 101, 115]⟩ : ByteArray)) x11_5 a0_0 a0_1 a0_2 = some r) ∧ Aside0 (kq ≤ k) ∧ Aside0 (wc.heap[gb148]? = some (.cells #[.int .i64 a0_0, .int .i64 a0_1, .int .i64 a0_2] 27 (0, 0))) ∧ Aside0 (Below w.heap.size w wc))
      case first =>
        have H := HC6.out
        clear HC6
        by_cases c12 : a0_0 = 0
        · rw [if_pos c12] at H
          have c12b0 : (a0_0 == 0) = true := beq_iff_eq.mpr c12
          have c12b1 : (a0_0 != 0) = false := bne_eq_false_iff_eq.mpr c12
          clear c12
          (first | rw [c12b0] | (simp only [i64_w, i32_w]; rw [c12b0]) | skip)
          have H' := Aside0.mk H
          clear H
          have hcz13_0 : w11.cell? ⟨gb148, 0, none⟩ = some (.int .i64 a0_0) := (blk_cell BK148.out 0).trans rfl
          have hcz13_1 : w11.cell? ⟨gb148, 1, none⟩ = some (.int .i64 a0_1) := (blk_cell BK148.out 1).trans rfl
          have hcz13_2 : w11.cell? ⟨gb148, 2, none⟩ = some (.int .i64 a0_2) := (blk_cell BK148.out 2).trans rfl
          have hfz13_0 := blk_frozen BK148.out 0
          have hfz13_1 := blk_frozen BK148.out 1
          have hfz13_2 := blk_frozen BK148.out 2
          go_wp2
          go_meet
          case rel => exact ⟨_, ((a0_1 == 0)), (by first | rfl | (simp; done) | (simp [*]; done)), H', ⟨by first | omega | exact Nat.le_refl _⟩, ⟨by (with_reducible repeat (first | refine blk_drewN ?_ _ | refine blk_drew ?_ | refine blk_alloc ?_ _)); exact BK148.out⟩, ⟨by repeat (first | (with_reducible first | exact HB.out | apply below_alloc | apply pw_below_drewN | apply below_drew1 | refine below_set ?_ GE148.out) | exact HB.out)⟩⟩
        · rw [if_neg c12] at H
          have c12b0 : (a0_0 == 0) = false := beq_eq_false_iff_ne.mpr c12
          have c12b1 : (a0_0 != 0) = true := bne_iff_ne.mpr c12
          (first | rw [c12b0] | (simp only [i64_w, i32_w]; rw [c12b0]) | skip)
          have H' := Aside0.mk H
          clear H
          have hcz14_0 : w11.cell? ⟨gb148, 0, none⟩ = some (.int .i64 a0_0) := (blk_cell BK148.out 0).trans rfl
          have hcz14_1 : w11.cell? ⟨gb148, 1, none⟩ = some (.int .i64 a0_1) := (blk_cell BK148.out 1).trans rfl
          have hcz14_2 : w11.cell? ⟨gb148, 2, none⟩ = some (.int .i64 a0_2) := (blk_cell BK148.out 2).trans rfl
          have hfz14_0 := blk_frozen BK148.out 0
          have hfz14_1 := blk_frozen BK148.out 1
          have hfz14_2 := blk_frozen BK148.out 2
          go_wp2
          go_meet
          case rel => exact ⟨_, (false), (by first | rfl | (simp; done) | (simp [*]; done)), H', ⟨by first | omega | exact Nat.le_refl _⟩, ⟨by (with_reducible repeat (first | refine blk_drewN ?_ _ | refine blk_drew ?_ | refine blk_alloc ?_ _)); exact BK148.out⟩, ⟨by repeat (first | (with_reducible first | exact HB.out | apply below_alloc | apply pw_below_drewN | apply below_drew1 | refine below_set ?_ GE148.out) | exact HB.out)⟩⟩
      case rest =>
        clear HC6
        try clear c1
        try clear p2
        try clear c3
        try clear c5
        try clear c5b0
        try clear c5b1
        try clear c5b2
        try clear c6
        try clear c9
        try clear c12
        try clear c12b0
        try clear c12b1
        try clear hcz10_0
        try clear hcz10_1
        try clear hcz10_2
        try clear hcz13_0
        try clear hcz13_1
        try clear hcz13_2
        try clear hcz14_0
        try clear hcz14_1
        try clear hcz14_2
        try clear hcz8_0
        try clear hcz8_1
        try clear hcz8_2
        try clear hfz10_0
        try clear hfz10_1
        try clear hfz10_2
        try clear hfz13_0
        try clear hfz13_1
        try clear hfz13_2
        try clear hfz14_0
        try clear hfz14_1
        try clear hfz14_2
        try clear hfz8_0
        try clear hfz8_1
        try clear hfz8_2
        obtain ⟨kq, x11_5, rfl, HA, HJ5, BK148, HB⟩ := hcut
        cases kq with
        | zero => exact absurd HA.out (by simp [impl_SurfaceName.j0])
        | succ kj5 =>
          have H := HA.out
          clear HA
          simp only [impl_SurfaceName.j0] at H
          by_cases c15 : x11_5 = true
          · subst c15
            have H1 : (if a0_2 > 0 then ((impl_FormatInt.f a0_2).bind fun t151 => (if 7 + t151.size ≤ 9223372036854775807 then (if 6 + (7 + t151.size) ≤ 9223372036854775807 then (some ((⟨#[115, 112, 104, 101, 114, 101]⟩ : ByteArray) ++ ((⟨#[32, 109, 105, 110, 117, 115, 32]⟩ : ByteArray) ++ t151))) else (none)) else (none))) else (some (⟨#[115, 112, 104, 101, 114, 101]⟩ : ByteArray))) = some r := by rw [if_pos rfl] at H; exact H
            clear H
            have H := H1
            clear H1
            by_cases c16 : a0_2 > 0
            · rw [if_pos c16] at H
              have c16b0 : decide (0 < a0_2) = true := decide_eq_true c16
              clear c16
              replace H := Option.bind_eq_some_iff.mp H
              obtain ⟨t151, A170, H⟩ := H
              replace H : (if 7 + t151.size ≤ 9223372036854775807 then (if 6 + (7 + t151.size) ≤ 9223372036854775807 then (some ((⟨#[115, 112, 104, 101, 114, 101]⟩ : ByteArray) ++ ((⟨#[32, 109, 105, 110, 117, 115, 32]⟩ : ByteArray) ++ t151))) else (none)) else (none)) = some r := H
              have A17 := Aside0.mk A170
              clear A170
              by_cases c18 : 7 + t151.size ≤ 9223372036854775807
              · rw [if_pos c18] at H
                have c18b0 := eq_true c18
                have c18b1 : decide (7 + t151.size ≤ 9223372036854775807) = true := decide_eq_true c18
                try have c18b2 : (9223372036854775807 < 7 + t151.size) = False := eq_false (Nat.not_lt.2 c18)
                by_cases c19 : 6 + (7 + t151.size) ≤ 9223372036854775807
                · rw [if_pos c19] at H
                  have c19b0 := eq_true c19
                  have c19b1 : decide (6 + (7 + t151.size) ≤ 9223372036854775807) = true := decide_eq_true c19
                  try have c19b2 : (9223372036854775807 < 6 + (7 + t151.size)) = False := eq_false (Nat.not_lt.2 c19)
                  obtain rfl := Option.some.inj H
                  have hcz20_0 : wc.cell? ⟨gb148, 0, none⟩ = some (.int .i64 a0_0) := (blk_cell BK148.out 0).trans rfl
                  have hcz20_1 : wc.cell? ⟨gb148, 1, none⟩ = some (.int .i64 a0_1) := (blk_cell BK148.out 1).trans rfl
                  have hcz20_2 : wc.cell? ⟨gb148, 2, none⟩ = some (.int .i64 a0_2) := (blk_cell BK148.out 2).trans rfl
                  have hfz20_0 := blk_frozen BK148.out 0
                  have hfz20_1 := blk_frozen BK148.out 1
                  have hfz20_2 := blk_frozen BK148.out 2
                  go_wp2_with (first | ((with_reducible refine gate_callee (f := 6) rfl ?_); refine goesL_ (some 50) rfl rfl Tryd.func6 (by kernel_rfl) rfl #[.int .i64 a0_2] rfl (by (try simp only [List.map_toArray, List.map_cons, List.map_nil]); first | done | rfl | (simp only [List.length_drop, List.length_take]; rfl)) ?_; (with_reducible refine (impl_FormatInt.calls a0_2 t151 _ ?hT A17.out).mono ?_); (case hT => exact tab_on HT.out (by repeat (first | (with_reducible first | exact HB.out | apply below_alloc | apply pw_below_drewN | apply below_drew1 | refine below_set ?_ GE148.out) | exact HB.out))); rintro e w21 ⟨rfl, hb⟩; refine ⟨_, rfl, ?_⟩; have n0_ := Aside0.mk (blk_below (g := gb148) (o := .cells #[.int .i64 a0_0, .int .i64 a0_1, .int .i64 a0_2] 27 (0, 0)) (by (with_reducible repeat (first | refine blk_drewN ?_ _ | refine blk_drew ?_ | refine blk_alloc ?_ _)); exact BK148.out) hb); have n1_ := Aside0.mk (below_step (by repeat (first | (with_reducible first | exact HB.out | apply below_alloc | apply pw_below_drewN | apply below_drew1 | refine below_set ?_ GE148.out) | exact HB.out)) hb); clear BK148; clear HB; have BK148 := n0_; have HB := n1_; clear n0_ n1_; (try clear hb); (try clear hb2); (try clear hk); (try clear hi)))
                  go_ret
                  exact ⟨by first | rfl | (simp [errW_none, errW_some] <;> rfl) | (simp [*, errW_none, errW_some] <;> rfl), by repeat (first | (with_reducible first | exact HB.out | apply below_alloc | apply pw_below_drewN | apply below_drew1 | refine below_set ?_ GE148.out) | exact HB.out)⟩
                · rw [if_neg c19] at H
                  exact absurd H (by simp)
              · rw [if_neg c18] at H
                exact absurd H (by simp)
            · rw [if_neg c16] at H
              have c16b0 : decide (0 < a0_2) = false := decide_eq_false c16
              clear c16
              obtain rfl := Option.some.inj H
              have hcz22_0 : wc.cell? ⟨gb148, 0, none⟩ = some (.int .i64 a0_0) := (blk_cell BK148.out 0).trans rfl
              have hcz22_1 : wc.cell? ⟨gb148, 1, none⟩ = some (.int .i64 a0_1) := (blk_cell BK148.out 1).trans rfl
              have hcz22_2 : wc.cell? ⟨gb148, 2, none⟩ = some (.int .i64 a0_2) := (blk_cell BK148.out 2).trans rfl
              have hfz22_0 := blk_frozen BK148.out 0
              have hfz22_1 := blk_frozen BK148.out 1
              have hfz22_2 := blk_frozen BK148.out 2
              go_wp2
              go_ret
              exact ⟨by first | rfl | (simp [errW_none, errW_some] <;> rfl) | (simp [*, errW_none, errW_some] <;> rfl), by repeat (first | (with_reducible first | exact HB.out | apply below_alloc | apply pw_below_drewN | apply below_drew1 | refine below_set ?_ GE148.out) | exact HB.out)⟩
          · replace c15 := Bool.eq_false_iff.mpr c15
            subst c15
            have H1 : (if a0_0 = 1 then (if a0_2 > 0 then ((impl_FormatInt.f a0_2).bind fun t152 => (if 7 + t152.size ≤ 9223372036854775807 then (if 5 + (7 + t152.size) ≤ 9223372036854775807 then (some ((⟨#[116, 111, 114, 117, 115]⟩ : ByteArray) ++ ((⟨#[32, 109, 105, 110, 117, 115, 32]⟩ : ByteArray) ++ t152))) else (none)) else (none))) else (some (⟨#[116, 111, 114, 117, 115]⟩ : ByteArray))) else (if a0_0 = 2 then (if a0_2 > 0 then ((impl_FormatInt.f a0_2).bind fun t153 => (if 7 + t153.size ≤ 9223372036854775807 then (if 12 + (7 + t153.size) ≤ 9223372036854775807 then (some ((⟨#[100, 111, 117, 98, 108, 101, 32, 116, 111, 114, 117, 115]⟩ : ByteArray) ++ ((⟨#[32, 109, 105, 110, 117, 115, 32]⟩ : ByteArray) ++ t153))) else (none)) else (none))) else (some (⟨#[100, 111, 117, 98, 108, 101, 32, 116, 111, 114, 117, 115]⟩ : ByteArray))) else (if a0_1 = 1 then (if a0_2 > 0 then ((impl_FormatInt.f a0_2).bind fun t154 => (if 7 + t154.size ≤ 9223372036854775807 then (if 16 + (7 + t154.size) ≤ 9223372036854775807 then (some ((⟨#[112, 114, 111, 106, 101, 99, 116, 105, 118, 101, 32, 112, 108, 97, 110, 101]⟩ : ByteArray) ++ ((⟨#[32, 109, 105, 110, 117, 115, 32]⟩ : ByteArray) ++ t154))) else (none)) else (none))) else (some (⟨#[112, 114, 111, 106, 101, 99, 116, 105, 118, 101, 32, 112, 108, 97, 110, 101]⟩ : ByteArray))) else (if a0_1 = 2 then (if a0_2 > 0 then ((impl_FormatInt.f a0_2).bind fun t155 => (if 7 + t155.size ≤ 9223372036854775807 then (if 12 + (7 + t155.size) ≤ 9223372036854775807 then (some ((⟨#[107, 108, 101, 105, 110, 32, 98, 111, 116, 116, 108, 101]⟩ : ByteArray) ++ ((⟨#[32, 109, 105, 110, 117, 115, 32]⟩ : ByteArray) ++ t155))) else (none)) else (none))) else (some (⟨#[107, 108, 101, 105, 110, 32, 98, 111, 116, 116, 108, 101]⟩ : ByteArray))) else (if a0_1 > 0 then ((impl_FormatInt.f a0_1).bind fun t156 => (if t156.size + 10 ≤ 9223372036854775807 then (if a0_2 > 0 then ((impl_FormatInt.f a0_2).bind fun t157 => (if 7 + t157.size ≤ 9223372036854775807 then (if t156.size + 10 + (7 + t157.size) ≤ 9223372036854775807 then (some ((t156 ++ (⟨#[32, 99, 114, 111, 115, 115, 99, 97, 112, 115]⟩ : ByteArray)) ++ ((⟨#[32, 109, 105, 110, 117, 115, 32]⟩ : ByteArray) ++ t157))) else (none)) else (none))) else (some (t156 ++ (⟨#[32, 99, 114, 111, 115, 115, 99, 97, 112, 115]⟩ : ByteArray)))) else (none))) else (if a0_2 > 0 then ((impl_FormatInt.f a0_2).bind fun t158 => (if 7 + t158.size ≤ 9223372036854775807 then (if (t150 ++ (⟨#[32, 104, 97, 110, 100, 108, 101, 115]⟩ : ByteArray)).size + (7 + t158.size) ≤ 9223372036854775807 then (some ((t150 ++ (⟨#[32, 104, 97, 110, 100, 108, 101, 115]⟩ : ByteArray)) ++ ((⟨#[32, 109, 105, 110, 117, 115, 32]⟩ : ByteArray) ++ t158))) else (none)) else (none))) else (some (t150 ++ (⟨#[32, 104, 97, 110, 100, 108, 101, 115]⟩ : ByteArray))))))))) = some r := by rw [if_neg (show ¬ (false = true) by decide)] at H; exact H
            clear H
            have H := H1
            clear H1
            by_cases c23 : a0_0 = 1
            · rw [if_pos c23] at H
              have c23b0 : (a0_0 == 1) = true := beq_iff_eq.mpr c23
              have c23b1 : (a0_0 != 1) = false := bne_eq_false_iff_eq.mpr c23
              clear c23
              by_cases c24 : a0_2 > 0
              · rw [if_pos c24] at H
                have c24b0 : decide (0 < a0_2) = true := decide_eq_true c24
                clear c24
                replace H := Option.bind_eq_some_iff.mp H
                obtain ⟨t152, A250, H⟩ := H
                replace H : (if 7 + t152.size ≤ 9223372036854775807 then (if 5 + (7 + t152.size) ≤ 9223372036854775807 then (some ((⟨#[116, 111, 114, 117, 115]⟩ : ByteArray) ++ ((⟨#[32, 109, 105, 110, 117, 115, 32]⟩ : ByteArray) ++ t152))) else (none)) else (none)) = some r := H
                have A25 := Aside0.mk A250
                clear A250
                by_cases c26 : 7 + t152.size ≤ 9223372036854775807
                · rw [if_pos c26] at H
                  have c26b0 := eq_true c26
                  have c26b1 : decide (7 + t152.size ≤ 9223372036854775807) = true := decide_eq_true c26
                  try have c26b2 : (9223372036854775807 < 7 + t152.size) = False := eq_false (Nat.not_lt.2 c26)
                  by_cases c27 : 5 + (7 + t152.size) ≤ 9223372036854775807
                  · rw [if_pos c27] at H
                    have c27b0 := eq_true c27
                    have c27b1 : decide (5 + (7 + t152.size) ≤ 9223372036854775807) = true := decide_eq_true c27
                    try have c27b2 : (9223372036854775807 < 5 + (7 + t152.size)) = False := eq_false (Nat.not_lt.2 c27)
                    obtain rfl := Option.some.inj H
                    have hcz28_0 : wc.cell? ⟨gb148, 0, none⟩ = some (.int .i64 a0_0) := (blk_cell BK148.out 0).trans rfl
                    have hcz28_1 : wc.cell? ⟨gb148, 1, none⟩ = some (.int .i64 a0_1) := (blk_cell BK148.out 1).trans rfl
                    have hcz28_2 : wc.cell? ⟨gb148, 2, none⟩ = some (.int .i64 a0_2) := (blk_cell BK148.out 2).trans rfl
                    have hfz28_0 := blk_frozen BK148.out 0
                    have hfz28_1 := blk_frozen BK148.out 1
                    have hfz28_2 := blk_frozen BK148.out 2
                    go_wp2_with (first | ((with_reducible refine gate_callee (f := 6) rfl ?_); refine goesL_ (some 50) rfl rfl Tryd.func6 (by kernel_rfl) rfl #[.int .i64 a0_2] rfl (by (try simp only [List.map_toArray, List.map_cons, List.map_nil]); first | done | rfl | (simp only [List.length_drop, List.length_take]; rfl)) ?_; (with_reducible refine (impl_FormatInt.calls a0_2 t152 _ ?hT A25.out).mono ?_); (case hT => exact tab_on HT.out (by repeat (first | (with_reducible first | exact HB.out | apply below_alloc | apply pw_below_drewN | apply below_drew1 | refine below_set ?_ GE148.out) | exact HB.out))); rintro e w29 ⟨rfl, hb⟩; refine ⟨_, rfl, ?_⟩; have n0_ := Aside0.mk (blk_below (g := gb148) (o := .cells #[.int .i64 a0_0, .int .i64 a0_1, .int .i64 a0_2] 27 (0, 0)) (by (with_reducible repeat (first | refine blk_drewN ?_ _ | refine blk_drew ?_ | refine blk_alloc ?_ _)); exact BK148.out) hb); have n1_ := Aside0.mk (below_step (by repeat (first | (with_reducible first | exact HB.out | apply below_alloc | apply pw_below_drewN | apply below_drew1 | refine below_set ?_ GE148.out) | exact HB.out)) hb); clear BK148; clear HB; have BK148 := n0_; have HB := n1_; clear n0_ n1_; (try clear hb); (try clear hb2); (try clear hk); (try clear hi)))
                    go_ret
                    exact ⟨by first | rfl | (simp [errW_none, errW_some] <;> rfl) | (simp [*, errW_none, errW_some] <;> rfl), by repeat (first | (with_reducible first | exact HB.out | apply below_alloc | apply pw_below_drewN | apply below_drew1 | refine below_set ?_ GE148.out) | exact HB.out)⟩
                  · rw [if_neg c27] at H
                    exact absurd H (by simp)
                · rw [if_neg c26] at H
                  exact absurd H (by simp)
              · rw [if_neg c24] at H
                have c24b0 : decide (0 < a0_2) = false := decide_eq_false c24
                clear c24
                obtain rfl := Option.some.inj H
                have hcz30_0 : wc.cell? ⟨gb148, 0, none⟩ = some (.int .i64 a0_0) := (blk_cell BK148.out 0).trans rfl
                have hcz30_1 : wc.cell? ⟨gb148, 1, none⟩ = some (.int .i64 a0_1) := (blk_cell BK148.out 1).trans rfl
                have hcz30_2 : wc.cell? ⟨gb148, 2, none⟩ = some (.int .i64 a0_2) := (blk_cell BK148.out 2).trans rfl
                have hfz30_0 := blk_frozen BK148.out 0
                have hfz30_1 := blk_frozen BK148.out 1
                have hfz30_2 := blk_frozen BK148.out 2
                go_wp2
                go_ret
                exact ⟨by first | rfl | (simp [errW_none, errW_some] <;> rfl) | (simp [*, errW_none, errW_some] <;> rfl), by repeat (first | (with_reducible first | exact HB.out | apply below_alloc | apply pw_below_drewN | apply below_drew1 | refine below_set ?_ GE148.out) | exact HB.out)⟩
            · rw [if_neg c23] at H
              have c23b0 : (a0_0 == 1) = false := beq_eq_false_iff_ne.mpr c23
              have c23b1 : (a0_0 != 1) = true := bne_iff_ne.mpr c23
              by_cases c31 : a0_0 = 2
              · rw [if_pos c31] at H
                have c31b0 : (a0_0 == 2) = true := beq_iff_eq.mpr c31
                have c31b1 : (a0_0 != 2) = false := bne_eq_false_iff_eq.mpr c31
                clear c31
                by_cases c32 : a0_2 > 0
                · rw [if_pos c32] at H
                  have c32b0 : decide (0 < a0_2) = true := decide_eq_true c32
                  clear c32
                  replace H := Option.bind_eq_some_iff.mp H
                  obtain ⟨t153, A330, H⟩ := H
                  replace H : (if 7 + t153.size ≤ 9223372036854775807 then (if 12 + (7 + t153.size) ≤ 9223372036854775807 then (some ((⟨#[100, 111, 117, 98, 108, 101, 32, 116, 111, 114, 117, 115]⟩ : ByteArray) ++ ((⟨#[32, 109, 105, 110, 117, 115, 32]⟩ : ByteArray) ++ t153))) else (none)) else (none)) = some r := H
                  have A33 := Aside0.mk A330
                  clear A330
                  by_cases c34 : 7 + t153.size ≤ 9223372036854775807
                  · rw [if_pos c34] at H
                    have c34b0 := eq_true c34
                    have c34b1 : decide (7 + t153.size ≤ 9223372036854775807) = true := decide_eq_true c34
                    try have c34b2 : (9223372036854775807 < 7 + t153.size) = False := eq_false (Nat.not_lt.2 c34)
                    by_cases c35 : 12 + (7 + t153.size) ≤ 9223372036854775807
                    · rw [if_pos c35] at H
                      have c35b0 := eq_true c35
                      have c35b1 : decide (12 + (7 + t153.size) ≤ 9223372036854775807) = true := decide_eq_true c35
                      try have c35b2 : (9223372036854775807 < 12 + (7 + t153.size)) = False := eq_false (Nat.not_lt.2 c35)
                      obtain rfl := Option.some.inj H
                      have hcz36_0 : wc.cell? ⟨gb148, 0, none⟩ = some (.int .i64 a0_0) := (blk_cell BK148.out 0).trans rfl
                      have hcz36_1 : wc.cell? ⟨gb148, 1, none⟩ = some (.int .i64 a0_1) := (blk_cell BK148.out 1).trans rfl
                      have hcz36_2 : wc.cell? ⟨gb148, 2, none⟩ = some (.int .i64 a0_2) := (blk_cell BK148.out 2).trans rfl
                      have hfz36_0 := blk_frozen BK148.out 0
                      have hfz36_1 := blk_frozen BK148.out 1
                      have hfz36_2 := blk_frozen BK148.out 2
                      go_wp2_with (first | ((with_reducible refine gate_callee (f := 6) rfl ?_); refine goesL_ (some 50) rfl rfl Tryd.func6 (by kernel_rfl) rfl #[.int .i64 a0_2] rfl (by (try simp only [List.map_toArray, List.map_cons, List.map_nil]); first | done | rfl | (simp only [List.length_drop, List.length_take]; rfl)) ?_; (with_reducible refine (impl_FormatInt.calls a0_2 t153 _ ?hT A33.out).mono ?_); (case hT => exact tab_on HT.out (by repeat (first | (with_reducible first | exact HB.out | apply below_alloc | apply pw_below_drewN | apply below_drew1 | refine below_set ?_ GE148.out) | exact HB.out))); rintro e w37 ⟨rfl, hb⟩; refine ⟨_, rfl, ?_⟩; have n0_ := Aside0.mk (blk_below (g := gb148) (o := .cells #[.int .i64 a0_0, .int .i64 a0_1, .int .i64 a0_2] 27 (0, 0)) (by (with_reducible repeat (first | refine blk_drewN ?_ _ | refine blk_drew ?_ | refine blk_alloc ?_ _)); exact BK148.out) hb); have n1_ := Aside0.mk (below_step (by repeat (first | (with_reducible first | exact HB.out | apply below_alloc | apply pw_below_drewN | apply below_drew1 | refine below_set ?_ GE148.out) | exact HB.out)) hb); clear BK148; clear HB; have BK148 := n0_; have HB := n1_; clear n0_ n1_; (try clear hb); (try clear hb2); (try clear hk); (try clear hi)))
                      go_ret
                      exact ⟨by first | rfl | (simp [errW_none, errW_some] <;> rfl) | (simp [*, errW_none, errW_some] <;> rfl), by repeat (first | (with_reducible first | exact HB.out | apply below_alloc | apply pw_below_drewN | apply below_drew1 | refine below_set ?_ GE148.out) | exact HB.out)⟩
                    · rw [if_neg c35] at H
                      exact absurd H (by simp)
                  · rw [if_neg c34] at H
                    exact absurd H (by simp)
                · rw [if_neg c32] at H
                  have c32b0 : decide (0 < a0_2) = false := decide_eq_false c32
                  clear c32
                  obtain rfl := Option.some.inj H
                  have hcz38_0 : wc.cell? ⟨gb148, 0, none⟩ = some (.int .i64 a0_0) := (blk_cell BK148.out 0).trans rfl
                  have hcz38_1 : wc.cell? ⟨gb148, 1, none⟩ = some (.int .i64 a0_1) := (blk_cell BK148.out 1).trans rfl
                  have hcz38_2 : wc.cell? ⟨gb148, 2, none⟩ = some (.int .i64 a0_2) := (blk_cell BK148.out 2).trans rfl
                  have hfz38_0 := blk_frozen BK148.out 0
                  have hfz38_1 := blk_frozen BK148.out 1
                  have hfz38_2 := blk_frozen BK148.out 2
                  go_wp2
                  go_ret
                  exact ⟨by first | rfl | (simp [errW_none, errW_some] <;> rfl) | (simp [*, errW_none, errW_some] <;> rfl), by repeat (first | (with_reducible first | exact HB.out | apply below_alloc | apply pw_below_drewN | apply below_drew1 | refine below_set ?_ GE148.out) | exact HB.out)⟩
              · rw [if_neg c31] at H
                have c31b0 : (a0_0 == 2) = false := beq_eq_false_iff_ne.mpr c31
                have c31b1 : (a0_0 != 2) = true := bne_iff_ne.mpr c31
                by_cases c39 : a0_1 = 1
                · rw [if_pos c39] at H
                  have c39b0 : (a0_1 == 1) = true := beq_iff_eq.mpr c39
                  have c39b1 : (a0_1 != 1) = false := bne_eq_false_iff_eq.mpr c39
                  clear c39
                  by_cases c40 : a0_2 > 0
                  · rw [if_pos c40] at H
                    have c40b0 : decide (0 < a0_2) = true := decide_eq_true c40
                    clear c40
                    replace H := Option.bind_eq_some_iff.mp H
                    obtain ⟨t154, A410, H⟩ := H
                    replace H : (if 7 + t154.size ≤ 9223372036854775807 then (if 16 + (7 + t154.size) ≤ 9223372036854775807 then (some ((⟨#[112, 114, 111, 106, 101, 99, 116, 105, 118, 101, 32, 112, 108, 97, 110, 101]⟩ : ByteArray) ++ ((⟨#[32, 109, 105, 110, 117, 115, 32]⟩ : ByteArray) ++ t154))) else (none)) else (none)) = some r := H
                    have A41 := Aside0.mk A410
                    clear A410
                    by_cases c42 : 7 + t154.size ≤ 9223372036854775807
                    · rw [if_pos c42] at H
                      have c42b0 := eq_true c42
                      have c42b1 : decide (7 + t154.size ≤ 9223372036854775807) = true := decide_eq_true c42
                      try have c42b2 : (9223372036854775807 < 7 + t154.size) = False := eq_false (Nat.not_lt.2 c42)
                      by_cases c43 : 16 + (7 + t154.size) ≤ 9223372036854775807
                      · rw [if_pos c43] at H
                        have c43b0 := eq_true c43
                        have c43b1 : decide (16 + (7 + t154.size) ≤ 9223372036854775807) = true := decide_eq_true c43
                        try have c43b2 : (9223372036854775807 < 16 + (7 + t154.size)) = False := eq_false (Nat.not_lt.2 c43)
                        obtain rfl := Option.some.inj H
                        have hcz44_0 : wc.cell? ⟨gb148, 0, none⟩ = some (.int .i64 a0_0) := (blk_cell BK148.out 0).trans rfl
                        have hcz44_1 : wc.cell? ⟨gb148, 1, none⟩ = some (.int .i64 a0_1) := (blk_cell BK148.out 1).trans rfl
                        have hcz44_2 : wc.cell? ⟨gb148, 2, none⟩ = some (.int .i64 a0_2) := (blk_cell BK148.out 2).trans rfl
                        have hfz44_0 := blk_frozen BK148.out 0
                        have hfz44_1 := blk_frozen BK148.out 1
                        have hfz44_2 := blk_frozen BK148.out 2
                        go_wp2_with (first | ((with_reducible refine gate_callee (f := 6) rfl ?_); refine goesL_ (some 50) rfl rfl Tryd.func6 (by kernel_rfl) rfl #[.int .i64 a0_2] rfl (by (try simp only [List.map_toArray, List.map_cons, List.map_nil]); first | done | rfl | (simp only [List.length_drop, List.length_take]; rfl)) ?_; (with_reducible refine (impl_FormatInt.calls a0_2 t154 _ ?hT A41.out).mono ?_); (case hT => exact tab_on HT.out (by repeat (first | (with_reducible first | exact HB.out | apply below_alloc | apply pw_below_drewN | apply below_drew1 | refine below_set ?_ GE148.out) | exact HB.out))); rintro e w45 ⟨rfl, hb⟩; refine ⟨_, rfl, ?_⟩; have n0_ := Aside0.mk (blk_below (g := gb148) (o := .cells #[.int .i64 a0_0, .int .i64 a0_1, .int .i64 a0_2] 27 (0, 0)) (by (with_reducible repeat (first | refine blk_drewN ?_ _ | refine blk_drew ?_ | refine blk_alloc ?_ _)); exact BK148.out) hb); have n1_ := Aside0.mk (below_step (by repeat (first | (with_reducible first | exact HB.out | apply below_alloc | apply pw_below_drewN | apply below_drew1 | refine below_set ?_ GE148.out) | exact HB.out)) hb); clear BK148; clear HB; have BK148 := n0_; have HB := n1_; clear n0_ n1_; (try clear hb); (try clear hb2); (try clear hk); (try clear hi)))
                        go_ret
                        exact ⟨by first | rfl | (simp [errW_none, errW_some] <;> rfl) | (simp [*, errW_none, errW_some] <;> rfl), by repeat (first | (with_reducible first | exact HB.out | apply below_alloc | apply pw_below_drewN | apply below_drew1 | refine below_set ?_ GE148.out) | exact HB.out)⟩
                      · rw [if_neg c43] at H
                        exact absurd H (by simp)
                    · rw [if_neg c42] at H
                      exact absurd H (by simp)
                  · rw [if_neg c40] at H
                    have c40b0 : decide (0 < a0_2) = false := decide_eq_false c40
                    clear c40
                    obtain rfl := Option.some.inj H
                    have hcz46_0 : wc.cell? ⟨gb148, 0, none⟩ = some (.int .i64 a0_0) := (blk_cell BK148.out 0).trans rfl
                    have hcz46_1 : wc.cell? ⟨gb148, 1, none⟩ = some (.int .i64 a0_1) := (blk_cell BK148.out 1).trans rfl
                    have hcz46_2 : wc.cell? ⟨gb148, 2, none⟩ = some (.int .i64 a0_2) := (blk_cell BK148.out 2).trans rfl
                    have hfz46_0 := blk_frozen BK148.out 0
                    have hfz46_1 := blk_frozen BK148.out 1
                    have hfz46_2 := blk_frozen BK148.out 2
                    go_wp2
                    go_ret
                    exact ⟨by first | rfl | (simp [errW_none, errW_some] <;> rfl) | (simp [*, errW_none, errW_some] <;> rfl), by repeat (first | (with_reducible first | exact HB.out | apply below_alloc | apply pw_below_drewN | apply below_drew1 | refine below_set ?_ GE148.out) | exact HB.out)⟩
                · rw [if_neg c39] at H
                  have c39b0 : (a0_1 == 1) = false := beq_eq_false_iff_ne.mpr c39
                  have c39b1 : (a0_1 != 1) = true := bne_iff_ne.mpr c39
                  by_cases c47 : a0_1 = 2
                  · rw [if_pos c47] at H
                    have c47b0 : (a0_1 == 2) = true := beq_iff_eq.mpr c47
                    have c47b1 : (a0_1 != 2) = false := bne_eq_false_iff_eq.mpr c47
                    clear c47
                    by_cases c48 : a0_2 > 0
                    · rw [if_pos c48] at H
                      have c48b0 : decide (0 < a0_2) = true := decide_eq_true c48
                      clear c48
                      replace H := Option.bind_eq_some_iff.mp H
                      obtain ⟨t155, A490, H⟩ := H
                      replace H : (if 7 + t155.size ≤ 9223372036854775807 then (if 12 + (7 + t155.size) ≤ 9223372036854775807 then (some ((⟨#[107, 108, 101, 105, 110, 32, 98, 111, 116, 116, 108, 101]⟩ : ByteArray) ++ ((⟨#[32, 109, 105, 110, 117, 115, 32]⟩ : ByteArray) ++ t155))) else (none)) else (none)) = some r := H
                      have A49 := Aside0.mk A490
                      clear A490
                      by_cases c50 : 7 + t155.size ≤ 9223372036854775807
                      · rw [if_pos c50] at H
                        have c50b0 := eq_true c50
                        have c50b1 : decide (7 + t155.size ≤ 9223372036854775807) = true := decide_eq_true c50
                        try have c50b2 : (9223372036854775807 < 7 + t155.size) = False := eq_false (Nat.not_lt.2 c50)
                        by_cases c51 : 12 + (7 + t155.size) ≤ 9223372036854775807
                        · rw [if_pos c51] at H
                          have c51b0 := eq_true c51
                          have c51b1 : decide (12 + (7 + t155.size) ≤ 9223372036854775807) = true := decide_eq_true c51
                          try have c51b2 : (9223372036854775807 < 12 + (7 + t155.size)) = False := eq_false (Nat.not_lt.2 c51)
                          obtain rfl := Option.some.inj H
                          have hcz52_0 : wc.cell? ⟨gb148, 0, none⟩ = some (.int .i64 a0_0) := (blk_cell BK148.out 0).trans rfl
                          have hcz52_1 : wc.cell? ⟨gb148, 1, none⟩ = some (.int .i64 a0_1) := (blk_cell BK148.out 1).trans rfl
                          have hcz52_2 : wc.cell? ⟨gb148, 2, none⟩ = some (.int .i64 a0_2) := (blk_cell BK148.out 2).trans rfl
                          have hfz52_0 := blk_frozen BK148.out 0
                          have hfz52_1 := blk_frozen BK148.out 1
                          have hfz52_2 := blk_frozen BK148.out 2
                          go_wp2_with (first | ((with_reducible refine gate_callee (f := 6) rfl ?_); refine goesL_ (some 50) rfl rfl Tryd.func6 (by kernel_rfl) rfl #[.int .i64 a0_2] rfl (by (try simp only [List.map_toArray, List.map_cons, List.map_nil]); first | done | rfl | (simp only [List.length_drop, List.length_take]; rfl)) ?_; (with_reducible refine (impl_FormatInt.calls a0_2 t155 _ ?hT A49.out).mono ?_); (case hT => exact tab_on HT.out (by repeat (first | (with_reducible first | exact HB.out | apply below_alloc | apply pw_below_drewN | apply below_drew1 | refine below_set ?_ GE148.out) | exact HB.out))); rintro e w53 ⟨rfl, hb⟩; refine ⟨_, rfl, ?_⟩; have n0_ := Aside0.mk (blk_below (g := gb148) (o := .cells #[.int .i64 a0_0, .int .i64 a0_1, .int .i64 a0_2] 27 (0, 0)) (by (with_reducible repeat (first | refine blk_drewN ?_ _ | refine blk_drew ?_ | refine blk_alloc ?_ _)); exact BK148.out) hb); have n1_ := Aside0.mk (below_step (by repeat (first | (with_reducible first | exact HB.out | apply below_alloc | apply pw_below_drewN | apply below_drew1 | refine below_set ?_ GE148.out) | exact HB.out)) hb); clear BK148; clear HB; have BK148 := n0_; have HB := n1_; clear n0_ n1_; (try clear hb); (try clear hb2); (try clear hk); (try clear hi)))
                          go_ret
                          exact ⟨by first | rfl | (simp [errW_none, errW_some] <;> rfl) | (simp [*, errW_none, errW_some] <;> rfl), by repeat (first | (with_reducible first | exact HB.out | apply below_alloc | apply pw_below_drewN | apply below_drew1 | refine below_set ?_ GE148.out) | exact HB.out)⟩
                        · rw [if_neg c51] at H
                          exact absurd H (by simp)
                      · rw [if_neg c50] at H
                        exact absurd H (by simp)
                    · rw [if_neg c48] at H
                      have c48b0 : decide (0 < a0_2) = false := decide_eq_false c48
                      clear c48
                      obtain rfl := Option.some.inj H
                      have hcz54_0 : wc.cell? ⟨gb148, 0, none⟩ = some (.int .i64 a0_0) := (blk_cell BK148.out 0).trans rfl
                      have hcz54_1 : wc.cell? ⟨gb148, 1, none⟩ = some (.int .i64 a0_1) := (blk_cell BK148.out 1).trans rfl
                      have hcz54_2 : wc.cell? ⟨gb148, 2, none⟩ = some (.int .i64 a0_2) := (blk_cell BK148.out 2).trans rfl
                      have hfz54_0 := blk_frozen BK148.out 0
                      have hfz54_1 := blk_frozen BK148.out 1
                      have hfz54_2 := blk_frozen BK148.out 2
                      go_wp2
                      go_ret
                      exact ⟨by first | rfl | (simp [errW_none, errW_some] <;> rfl) | (simp [*, errW_none, errW_some] <;> rfl), by repeat (first | (with_reducible first | exact HB.out | apply below_alloc | apply pw_below_drewN | apply below_drew1 | refine below_set ?_ GE148.out) | exact HB.out)⟩
                  · rw [if_neg c47] at H
                    have c47b0 : (a0_1 == 2) = false := beq_eq_false_iff_ne.mpr c47
                    have c47b1 : (a0_1 != 2) = true := bne_iff_ne.mpr c47
                    by_cases c55 : a0_1 > 0
                    · rw [if_pos c55] at H
                      have c55b0 : decide (0 < a0_1) = true := decide_eq_true c55
                      clear c55
                      replace H := Option.bind_eq_some_iff.mp H
                      obtain ⟨t156, A560, H⟩ := H
                      replace H : (if t156.size + 10 ≤ 9223372036854775807 then (if a0_2 > 0 then ((impl_FormatInt.f a0_2).bind fun t157 => (if 7 + t157.size ≤ 9223372036854775807 then (if t156.size + 10 + (7 + t157.size) ≤ 9223372036854775807 then (some ((t156 ++ (⟨#[32, 99, 114, 111, 115, 115, 99, 97, 112, 115]⟩ : ByteArray)) ++ ((⟨#[32, 109, 105, 110, 117, 115, 32]⟩ : ByteArray) ++ t157))) else (none)) else (none))) else (some (t156 ++ (⟨#[32, 99, 114, 111, 115, 115, 99, 97, 112, 115]⟩ : ByteArray)))) else (none)) = some r := H
                      have A56 := Aside0.mk A560
                      clear A560
                      by_cases c57 : t156.size + 10 ≤ 9223372036854775807
                      · rw [if_pos c57] at H
                        have c57b0 := eq_true c57
                        have c57b1 : decide (t156.size + 10 ≤ 9223372036854775807) = true := decide_eq_true c57
                        try have c57b2 : (9223372036854775807 < t156.size + 10) = False := eq_false (Nat.not_lt.2 c57)
                        by_cases c58 : a0_2 > 0
                        · rw [if_pos c58] at H
                          have c58b0 : decide (0 < a0_2) = true := decide_eq_true c58
                          clear c58
                          replace H := Option.bind_eq_some_iff.mp H
                          obtain ⟨t157, A590, H⟩ := H
                          replace H : (if 7 + t157.size ≤ 9223372036854775807 then (if t156.size + 10 + (7 + t157.size) ≤ 9223372036854775807 then (some ((t156 ++ (⟨#[32, 99, 114, 111, 115, 115, 99, 97, 112, 115]⟩ : ByteArray)) ++ ((⟨#[32, 109, 105, 110, 117, 115, 32]⟩ : ByteArray) ++ t157))) else (none)) else (none)) = some r := H
                          have A59 := Aside0.mk A590
                          clear A590
                          by_cases c60 : 7 + t157.size ≤ 9223372036854775807
                          · rw [if_pos c60] at H
                            have c60b0 := eq_true c60
                            have c60b1 : decide (7 + t157.size ≤ 9223372036854775807) = true := decide_eq_true c60
                            try have c60b2 : (9223372036854775807 < 7 + t157.size) = False := eq_false (Nat.not_lt.2 c60)
                            by_cases c61 : t156.size + 10 + (7 + t157.size) ≤ 9223372036854775807
                            · rw [if_pos c61] at H
                              have c61b0 := eq_true c61
                              have c61b1 : decide (t156.size + 10 + (7 + t157.size) ≤ 9223372036854775807) = true := decide_eq_true c61
                              try have c61b2 : (9223372036854775807 < t156.size + 10 + (7 + t157.size)) = False := eq_false (Nat.not_lt.2 c61)
                              obtain rfl := Option.some.inj H
                              have hcz62_0 : wc.cell? ⟨gb148, 0, none⟩ = some (.int .i64 a0_0) := (blk_cell BK148.out 0).trans rfl
                              have hcz62_1 : wc.cell? ⟨gb148, 1, none⟩ = some (.int .i64 a0_1) := (blk_cell BK148.out 1).trans rfl
                              have hcz62_2 : wc.cell? ⟨gb148, 2, none⟩ = some (.int .i64 a0_2) := (blk_cell BK148.out 2).trans rfl
                              have hfz62_0 := blk_frozen BK148.out 0
                              have hfz62_1 := blk_frozen BK148.out 1
                              have hfz62_2 := blk_frozen BK148.out 2
                              go_wp2_with (first | ((with_reducible refine gate_callee (f := 6) rfl ?_); refine goesL_ (some 42) rfl rfl Tryd.func6 (by kernel_rfl) rfl #[.int .i64 a0_1] rfl (by (try simp only [List.map_toArray, List.map_cons, List.map_nil]); first | done | rfl | (simp only [List.length_drop, List.length_take]; rfl)) ?_; (with_reducible refine (impl_FormatInt.calls a0_1 t156 _ ?hT A56.out).mono ?_); (case hT => exact tab_on HT.out (by repeat (first | (with_reducible first | exact HB.out | apply below_alloc | apply pw_below_drewN | apply below_drew1 | refine below_set ?_ GE148.out) | exact HB.out))); rintro e w63 ⟨rfl, hb⟩; refine ⟨_, rfl, ?_⟩; have n0_ := Aside0.mk (blk_below (g := gb148) (o := .cells #[.int .i64 a0_0, .int .i64 a0_1, .int .i64 a0_2] 27 (0, 0)) (by (with_reducible repeat (first | refine blk_drewN ?_ _ | refine blk_drew ?_ | refine blk_alloc ?_ _)); exact BK148.out) hb); have n1_ := Aside0.mk (below_step (by repeat (first | (with_reducible first | exact HB.out | apply below_alloc | apply pw_below_drewN | apply below_drew1 | refine below_set ?_ GE148.out) | exact HB.out)) hb); clear BK148; clear HB; have BK148 := n0_; have HB := n1_; clear n0_ n1_; (try clear hb); (try clear hb2); (try clear hk); (try clear hi); have hcz64_0 : w63.cell? ⟨gb148, 0, none⟩ = some (.int .i64 a0_0) := (blk_cell BK148.out 0).trans rfl; have hcz64_1 : w63.cell? ⟨gb148, 1, none⟩ = some (.int .i64 a0_1) := (blk_cell BK148.out 1).trans rfl; have hcz64_2 : w63.cell? ⟨gb148, 2, none⟩ = some (.int .i64 a0_2) := (blk_cell BK148.out 2).trans rfl; have hfz64_0 := blk_frozen BK148.out 0; have hfz64_1 := blk_frozen BK148.out 1; have hfz64_2 := blk_frozen BK148.out 2) | ((with_reducible refine gate_callee (f := 6) rfl ?_); refine goesL_ (some 50) rfl rfl Tryd.func6 (by kernel_rfl) rfl #[.int .i64 a0_2] rfl (by (try simp only [List.map_toArray, List.map_cons, List.map_nil]); first | done | rfl | (simp only [List.length_drop, List.length_take]; rfl)) ?_; (with_reducible refine (impl_FormatInt.calls a0_2 t157 _ ?hT A59.out).mono ?_); (case hT => exact tab_on HT.out (by repeat (first | (with_reducible first | exact HB.out | apply below_alloc | apply pw_below_drewN | apply below_drew1 | refine below_set ?_ GE148.out) | exact HB.out))); rintro e w65 ⟨rfl, hb⟩; refine ⟨_, rfl, ?_⟩; have n0_ := Aside0.mk (blk_below (g := gb148) (o := .cells #[.int .i64 a0_0, .int .i64 a0_1, .int .i64 a0_2] 27 (0, 0)) (by (with_reducible repeat (first | refine blk_drewN ?_ _ | refine blk_drew ?_ | refine blk_alloc ?_ _)); exact BK148.out) hb); have n1_ := Aside0.mk (below_step (by repeat (first | (with_reducible first | exact HB.out | apply below_alloc | apply pw_below_drewN | apply below_drew1 | refine below_set ?_ GE148.out) | exact HB.out)) hb); clear BK148; clear HB; have BK148 := n0_; have HB := n1_; clear n0_ n1_; (try clear hb); (try clear hb2); (try clear hk); (try clear hi)))
                              go_ret
                              exact ⟨by first | rfl | (simp [errW_none, errW_some] <;> rfl) | (simp [*, errW_none, errW_some] <;> rfl), by repeat (first | (with_reducible first | exact HB.out | apply below_alloc | apply pw_below_drewN | apply below_drew1 | refine below_set ?_ GE148.out) | exact HB.out)⟩
                            · rw [if_neg c61] at H
                              exact absurd H (by simp)
                          · rw [if_neg c60] at H
                            exact absurd H (by simp)
                        · rw [if_neg c58] at H
                          have c58b0 : decide (0 < a0_2) = false := decide_eq_false c58
                          clear c58
                          obtain rfl := Option.some.inj H
                          have hcz66_0 : wc.cell? ⟨gb148, 0, none⟩ = some (.int .i64 a0_0) := (blk_cell BK148.out 0).trans rfl
                          have hcz66_1 : wc.cell? ⟨gb148, 1, none⟩ = some (.int .i64 a0_1) := (blk_cell BK148.out 1).trans rfl
                          have hcz66_2 : wc.cell? ⟨gb148, 2, none⟩ = some (.int .i64 a0_2) := (blk_cell BK148.out 2).trans rfl
                          have hfz66_0 := blk_frozen BK148.out 0
                          have hfz66_1 := blk_frozen BK148.out 1
                          have hfz66_2 := blk_frozen BK148.out 2
                          go_wp2_with (first | ((with_reducible refine gate_callee (f := 6) rfl ?_); refine goesL_ (some 42) rfl rfl Tryd.func6 (by kernel_rfl) rfl #[.int .i64 a0_1] rfl (by (try simp only [List.map_toArray, List.map_cons, List.map_nil]); first | done | rfl | (simp only [List.length_drop, List.length_take]; rfl)) ?_; (with_reducible refine (impl_FormatInt.calls a0_1 t156 _ ?hT A56.out).mono ?_); (case hT => exact tab_on HT.out (by repeat (first | (with_reducible first | exact HB.out | apply below_alloc | apply pw_below_drewN | apply below_drew1 | refine below_set ?_ GE148.out) | exact HB.out))); rintro e w67 ⟨rfl, hb⟩; refine ⟨_, rfl, ?_⟩; have n0_ := Aside0.mk (blk_below (g := gb148) (o := .cells #[.int .i64 a0_0, .int .i64 a0_1, .int .i64 a0_2] 27 (0, 0)) (by (with_reducible repeat (first | refine blk_drewN ?_ _ | refine blk_drew ?_ | refine blk_alloc ?_ _)); exact BK148.out) hb); have n1_ := Aside0.mk (below_step (by repeat (first | (with_reducible first | exact HB.out | apply below_alloc | apply pw_below_drewN | apply below_drew1 | refine below_set ?_ GE148.out) | exact HB.out)) hb); clear BK148; clear HB; have BK148 := n0_; have HB := n1_; clear n0_ n1_; (try clear hb); (try clear hb2); (try clear hk); (try clear hi); have hcz68_0 : w67.cell? ⟨gb148, 0, none⟩ = some (.int .i64 a0_0) := (blk_cell BK148.out 0).trans rfl; have hcz68_1 : w67.cell? ⟨gb148, 1, none⟩ = some (.int .i64 a0_1) := (blk_cell BK148.out 1).trans rfl; have hcz68_2 : w67.cell? ⟨gb148, 2, none⟩ = some (.int .i64 a0_2) := (blk_cell BK148.out 2).trans rfl; have hfz68_0 := blk_frozen BK148.out 0; have hfz68_1 := blk_frozen BK148.out 1; have hfz68_2 := blk_frozen BK148.out 2))
                          go_ret
                          exact ⟨by first | rfl | (simp [errW_none, errW_some] <;> rfl) | (simp [*, errW_none, errW_some] <;> rfl), by repeat (first | (with_reducible first | exact HB.out | apply below_alloc | apply pw_below_drewN | apply below_drew1 | refine below_set ?_ GE148.out) | exact HB.out)⟩
                      · rw [if_neg c57] at H
                        exact absurd H (by simp)
                    · rw [if_neg c55] at H
                      have c55b0 : decide (0 < a0_1) = false := decide_eq_false c55
                      clear c55
                      by_cases c69 : a0_2 > 0
                      · rw [if_pos c69] at H
                        have c69b0 : decide (0 < a0_2) = true := decide_eq_true c69
                        clear c69
                        replace H := Option.bind_eq_some_iff.mp H
                        obtain ⟨t158, A700, H⟩ := H
                        replace H : (if 7 + t158.size ≤ 9223372036854775807 then (if (t150 ++ (⟨#[32, 104, 97, 110, 100, 108, 101, 115]⟩ : ByteArray)).size + (7 + t158.size) ≤ 9223372036854775807 then (some ((t150 ++ (⟨#[32, 104, 97, 110, 100, 108, 101, 115]⟩ : ByteArray)) ++ ((⟨#[32, 109, 105, 110, 117, 115, 32]⟩ : ByteArray) ++ t158))) else (none)) else (none)) = some r := H
                        have A70 := Aside0.mk A700
                        clear A700
                        by_cases c71 : 7 + t158.size ≤ 9223372036854775807
                        · rw [if_pos c71] at H
                          have c71b0 := eq_true c71
                          have c71b1 : decide (7 + t158.size ≤ 9223372036854775807) = true := decide_eq_true c71
                          try have c71b2 : (9223372036854775807 < 7 + t158.size) = False := eq_false (Nat.not_lt.2 c71)
                          by_cases c72 : (t150 ++ (⟨#[32, 104, 97, 110, 100, 108, 101, 115]⟩ : ByteArray)).size + (7 + t158.size) ≤ 9223372036854775807
                          · rw [if_pos c72] at H
                            have c72b0 := eq_true c72
                            have c72b1 : decide ((t150 ++ (⟨#[32, 104, 97, 110, 100, 108, 101, 115]⟩ : ByteArray)).size + (7 + t158.size) ≤ 9223372036854775807) = true := decide_eq_true c72
                            try have c72b2 : (9223372036854775807 < (t150 ++ (⟨#[32, 104, 97, 110, 100, 108, 101, 115]⟩ : ByteArray)).size + (7 + t158.size)) = False := eq_false (Nat.not_lt.2 c72)
                            have c72b3 : (9223372036854775807 < t150.size + 8 + (7 + t158.size)) = False := eq_false (by have h_ := c72; rw [ByteArray.size_append] at h_; exact Nat.not_lt.2 h_)
                            obtain rfl := Option.some.inj H
                            have hcz73_0 : wc.cell? ⟨gb148, 0, none⟩ = some (.int .i64 a0_0) := (blk_cell BK148.out 0).trans rfl
                            have hcz73_1 : wc.cell? ⟨gb148, 1, none⟩ = some (.int .i64 a0_1) := (blk_cell BK148.out 1).trans rfl
                            have hcz73_2 : wc.cell? ⟨gb148, 2, none⟩ = some (.int .i64 a0_2) := (blk_cell BK148.out 2).trans rfl
                            have hfz73_0 := blk_frozen BK148.out 0
                            have hfz73_1 := blk_frozen BK148.out 1
                            have hfz73_2 := blk_frozen BK148.out 2
                            go_wp2_with (first | ((with_reducible refine gate_callee (f := 6) rfl ?_); refine goesL_ (some 50) rfl rfl Tryd.func6 (by kernel_rfl) rfl #[.int .i64 a0_2] rfl (by (try simp only [List.map_toArray, List.map_cons, List.map_nil]); first | done | rfl | (simp only [List.length_drop, List.length_take]; rfl)) ?_; (with_reducible refine (impl_FormatInt.calls a0_2 t158 _ ?hT A70.out).mono ?_); (case hT => exact tab_on HT.out (by repeat (first | (with_reducible first | exact HB.out | apply below_alloc | apply pw_below_drewN | apply below_drew1 | refine below_set ?_ GE148.out) | exact HB.out))); rintro e w74 ⟨rfl, hb⟩; refine ⟨_, rfl, ?_⟩; have n0_ := Aside0.mk (blk_below (g := gb148) (o := .cells #[.int .i64 a0_0, .int .i64 a0_1, .int .i64 a0_2] 27 (0, 0)) (by (with_reducible repeat (first | refine blk_drewN ?_ _ | refine blk_drew ?_ | refine blk_alloc ?_ _)); exact BK148.out) hb); have n1_ := Aside0.mk (below_step (by repeat (first | (with_reducible first | exact HB.out | apply below_alloc | apply pw_below_drewN | apply below_drew1 | refine below_set ?_ GE148.out) | exact HB.out)) hb); clear BK148; clear HB; have BK148 := n0_; have HB := n1_; clear n0_ n1_; (try clear hb); (try clear hb2); (try clear hk); (try clear hi)))
                            go_ret
                            exact ⟨by first | rfl | (simp [errW_none, errW_some] <;> rfl) | (simp [*, errW_none, errW_some] <;> rfl), by repeat (first | (with_reducible first | exact HB.out | apply below_alloc | apply pw_below_drewN | apply below_drew1 | refine below_set ?_ GE148.out) | exact HB.out)⟩
                          · rw [if_neg c72] at H
                            exact absurd H (by simp)
                        · rw [if_neg c71] at H
                          exact absurd H (by simp)
                      · rw [if_neg c69] at H
                        have c69b0 : decide (0 < a0_2) = false := decide_eq_false c69
                        clear c69
                        obtain rfl := Option.some.inj H
                        have hcz75_0 : wc.cell? ⟨gb148, 0, none⟩ = some (.int .i64 a0_0) := (blk_cell BK148.out 0).trans rfl
                        have hcz75_1 : wc.cell? ⟨gb148, 1, none⟩ = some (.int .i64 a0_1) := (blk_cell BK148.out 1).trans rfl
                        have hcz75_2 : wc.cell? ⟨gb148, 2, none⟩ = some (.int .i64 a0_2) := (blk_cell BK148.out 2).trans rfl
                        have hfz75_0 := blk_frozen BK148.out 0
                        have hfz75_1 := blk_frozen BK148.out 1
                        have hfz75_2 := blk_frozen BK148.out 2
                        go_wp2
                        go_ret
                        exact ⟨by first | rfl | (simp [errW_none, errW_some] <;> rfl) | (simp [*, errW_none, errW_some] <;> rfl), by repeat (first | (with_reducible first | exact HB.out | apply below_alloc | apply pw_below_drewN | apply below_drew1 | refine below_set ?_ GE148.out) | exact HB.out)⟩
    · rw [if_neg c5] at H
      exact absurd H (by simp)
  · replace c3 := Bool.eq_false_iff.mpr c3
    subst c3
    have H1 : (some (⟨#[]⟩ : ByteArray)) = some r := by rw [if_neg (show ¬ (false = true) by decide)] at H; exact H
    clear H
    have H := H1
    clear H1
    obtain rfl := Option.some.inj H
    go_enter Tryd.func9, Tryd.ntmps9
    go_wp2_with (first | ((with_reducible refine gate_dst (N := 1) rfl ?_); refine box_event ?hg (N := 1) ?hd (cs := #[.int .i64 a0_0, .int .i64 a0_1, .int .i64 a0_2]) (t := 27) ?hr ?_; (case hd => rfl); (case hg => rfl); (case hr => first | (go_simp; done) | (go_simp; rfl)); intro gb148 hg w76 hbox hb; have n0_ := Aside0.mk (below_step (by repeat (first | (with_reducible first | exact HB.out | apply below_alloc | apply pw_below_drewN | apply below_drew1) | exact HB.out)) hb); have n1_ := Aside0.mk (hbox); have n2_ := Aside0.mk ((by rw [hg]; exact (below_size (by repeat (first | (with_reducible first | exact HB.out | apply below_alloc | apply pw_below_drewN | apply below_drew1) | exact HB.out))) : w.heap.size ≤ gb148)); have n3_ := Aside0.mk ((by rw [hg]; exact (below_size (by repeat (first | (with_reducible first | exact HB.out | apply below_alloc | apply pw_below_drewN | apply below_drew1) | exact HB.out))) : w.heap.size ≤ gb148)); clear HB; have HB := n0_; have BK148 := n1_; have GW148 := n2_; have GE148 := n3_; clear n0_ n1_ n2_ n3_; clear hb hbox hg; have hcz77_0 : w76.cell? ⟨gb148, 0, none⟩ = some (.int .i64 a0_0) := (blk_cell BK148.out 0).trans rfl; have hcz77_1 : w76.cell? ⟨gb148, 1, none⟩ = some (.int .i64 a0_1) := (blk_cell BK148.out 1).trans rfl; have hcz77_2 : w76.cell? ⟨gb148, 2, none⟩ = some (.int .i64 a0_2) := (blk_cell BK148.out 2).trans rfl; have hfz77_0 := blk_frozen BK148.out 0; have hfz77_1 := blk_frozen BK148.out 1; have hfz77_2 := blk_frozen BK148.out 2) | ((with_reducible refine gate_callee (f := 12) rfl ?_); refine goesL_ (some 5) rfl rfl Tryd.func12 (by kernel_rfl) rfl #[.agg #[.int .i64 a0_0, .int .i64 a0_1, .int .i64 a0_2]] rfl (by (try simp only [List.map_toArray, List.map_cons, List.map_nil]); first | done | rfl | (simp only [List.length_drop, List.length_take]; rfl)) ?_; (with_reducible refine (impl_IsSurface.calls a0_0 a0_1 a0_2 false _ A2.out).mono ?_); rintro e w78 ⟨rfl, hb⟩; refine ⟨_, rfl, ?_⟩; have n0_ := Aside0.mk (blk_below (g := gb148) (o := .cells #[.int .i64 a0_0, .int .i64 a0_1, .int .i64 a0_2] 27 (0, 0)) (by (with_reducible repeat (first | refine blk_drewN ?_ _ | refine blk_drew ?_ | refine blk_alloc ?_ _)); exact BK148.out) hb); have n1_ := Aside0.mk (below_step (by repeat (first | (with_reducible first | exact HB.out | apply below_alloc | apply pw_below_drewN | apply below_drew1 | refine below_set ?_ GE148.out) | exact HB.out)) hb); clear BK148; clear HB; have BK148 := n0_; have HB := n1_; clear n0_ n1_; (try clear hb); (try clear hb2); (try clear hk); (try clear hi)))
    go_ret
    exact ⟨by first | rfl | (simp [errW_none, errW_some] <;> rfl) | (simp [*, errW_none, errW_some] <;> rfl), by repeat (first | (with_reducible first | exact HB.out | apply below_alloc | apply pw_below_drewN | apply below_drew1 | refine below_set ?_ GE148.out) | exact HB.out)⟩

/-! ### laws_FnExactSurfaceName: function 4 -/
def laws_FnExactSurfaceName.f (k : Nat) (a0_0 : Int) (a0_1 : Int) (a0_2 : Int) : Option (Bool) := (laws_toSurface.f a0_0 a0_1 a0_2).bind fun bt160 => ((spec_SurfaceName.f k bt160.1 bt160.2.1 bt160.2.2).bind fun t163 => ((laws_toSurface.f a0_0 a0_1 a0_2).bind fun bt164 => ((impl_SurfaceName.f k bt164.1 bt164.2.1 bt164.2.2).bind fun t167 => (if t167.toList = t163.toList then (some true) else (some false)))))
theorem laws_FnExactSurfaceName.mono : ∀ a0 a1 a2 k, LeO (laws_FnExactSurfaceName.f k a0 a1 a2) (laws_FnExactSurfaceName.f (k + 1) a0 a1 a2) := by
  intro a0 a1 a2 k
  unfold laws_FnExactSurfaceName.f
  repeat' first
      | (with_reducible exact impl_SurfaceName.mono _ _ _ _)
      | (with_reducible exact spec_SurfaceName.mono _ _ _ _)
      | (with_reducible exact LeO.refl _)
      | (with_reducible exact LeO.none _)
      | (with_reducible refine LeO.ite ?_ ?_)
      | (with_reducible refine LeO.bind ?_ (fun _ => ?_))
      | exact impl_SurfaceName.mono _ _ _ _
      | exact spec_SurfaceName.mono _ _ _ _
      | exact LeO.none _
      | refine LeO.ite ?_ ?_
      | refine LeO.bind ?_ (fun _ => ?_)
set_option maxHeartbeats 8000000 in
set_option maxRecDepth 100000 in
theorem laws_FnExactSurfaceName.calls (k : Nat) (a0_0 : Int) (a0_1 : Int) (a0_2 : Int) (r : Bool) (w : World) (ht : Tab w) (h : laws_FnExactSurfaceName.f k a0_0 a0_1 a0_2 = some r) :
    Calls Tryd.prog 4 #[.agg #[.int .i64 a0_0, .int .i64 a0_1, .int .i64 a0_2]] w fun e w' => e = .returned (.bool r) ∧ Below w.heap.size w w' := by
  have HT := Aside0.mk ht
  clear ht
  have hu25 := Tryd.underlying25
  have HB := Aside0.mk (Below.refl w.heap.size w)
  have H : ((laws_toSurface.f a0_0 a0_1 a0_2).bind fun bt160 => ((spec_SurfaceName.f k bt160.1 bt160.2.1 bt160.2.2).bind fun t163 => ((laws_toSurface.f a0_0 a0_1 a0_2).bind fun bt164 => ((impl_SurfaceName.f k bt164.1 bt164.2.1 bt164.2.2).bind fun t167 => (if t167.toList = t163.toList then (some true) else (some false)))))) = some r := h
  clear h
  replace H := Option.bind_eq_some_iff.mp H
  obtain ⟨⟨t160, t161, t162⟩, A20, H⟩ := H
  replace H : ((spec_SurfaceName.f k t160 t161 t162).bind fun t163 => ((laws_toSurface.f a0_0 a0_1 a0_2).bind fun bt164 => ((impl_SurfaceName.f k bt164.1 bt164.2.1 bt164.2.2).bind fun t167 => (if t167.toList = t163.toList then (some true) else (some false))))) = some r := H
  have A2 := Aside0.mk A20
  clear A20
  replace H := Option.bind_eq_some_iff.mp H
  obtain ⟨t163, A30, H⟩ := H
  replace H : ((laws_toSurface.f a0_0 a0_1 a0_2).bind fun bt164 => ((impl_SurfaceName.f k bt164.1 bt164.2.1 bt164.2.2).bind fun t167 => (if t167.toList = t163.toList then (some true) else (some false)))) = some r := H
  have A3 := Aside0.mk A30
  clear A30
  replace H := Option.bind_eq_some_iff.mp H
  obtain ⟨⟨t164, t165, t166⟩, A40, H⟩ := H
  replace H : ((impl_SurfaceName.f k t164 t165 t166).bind fun t167 => (if t167.toList = t163.toList then (some true) else (some false))) = some r := H
  have A4 := Aside0.mk A40
  clear A40
  replace H := Option.bind_eq_some_iff.mp H
  obtain ⟨t167, A50, H⟩ := H
  replace H : (if t167.toList = t163.toList then (some true) else (some false)) = some r := H
  have A5 := Aside0.mk A50
  clear A50
  by_cases c6 : t167.toList = t163.toList
  · rw [if_pos c6] at H
    have c6b0 : (t167.toList == t163.toList) = true := beq_iff_eq.mpr c6
    have c6b1 : (t167.toList != t163.toList) = false := bne_eq_false_iff_eq.mpr c6
    clear c6
    obtain rfl := Option.some.inj H
    go_enter Tryd.func4, Tryd.ntmps4
    go_wp2_with (first | ((with_reducible refine gate_dst (N := 1) rfl ?_); refine box_event ?hg (N := 1) ?hd (cs := #[.int .i64 a0_0, .int .i64 a0_1, .int .i64 a0_2]) (t := 25) ?hr ?_; (case hd => rfl); (case hg => rfl); (case hr => first | (go_simp; done) | (go_simp; rfl)); intro gb159 hg w7 hbox hb; have n0_ := Aside0.mk (below_step (by repeat (first | (with_reducible first | exact HB.out | apply below_alloc | apply pw_below_drewN | apply below_drew1) | exact HB.out)) hb); have n1_ := Aside0.mk (hbox); have n2_ := Aside0.mk ((by rw [hg]; exact (below_size (by repeat (first | (with_reducible first | exact HB.out | apply below_alloc | apply pw_below_drewN | apply below_drew1) | exact HB.out))) : w.heap.size ≤ gb159)); have n3_ := Aside0.mk ((by rw [hg]; exact (below_size (by repeat (first | (with_reducible first | exact HB.out | apply below_alloc | apply pw_below_drewN | apply below_drew1) | exact HB.out))) : w.heap.size ≤ gb159)); clear HB; have HB := n0_; have BK159 := n1_; have GW159 := n2_; have GE159 := n3_; clear n0_ n1_ n2_ n3_; clear hb hbox hg; have hcz8_0 : w7.cell? ⟨gb159, 0, none⟩ = some (.int .i64 a0_0) := (blk_cell BK159.out 0).trans rfl; have hcz8_1 : w7.cell? ⟨gb159, 1, none⟩ = some (.int .i64 a0_1) := (blk_cell BK159.out 1).trans rfl; have hcz8_2 : w7.cell? ⟨gb159, 2, none⟩ = some (.int .i64 a0_2) := (blk_cell BK159.out 2).trans rfl; have hfz8_0 := blk_frozen BK159.out 0; have hfz8_1 := blk_frozen BK159.out 1; have hfz8_2 := blk_frozen BK159.out 2) | ((with_reducible refine gate_callee (f := 8) rfl ?_); refine goesL_ (some 6) rfl rfl Tryd.func8 (by kernel_rfl) rfl #[.agg #[.int .i64 a0_0, .int .i64 a0_1, .int .i64 a0_2]] rfl (by (try simp only [List.map_toArray, List.map_cons, List.map_nil]); first | done | rfl | (simp only [List.length_drop, List.length_take]; rfl)) ?_; (with_reducible refine (laws_toSurface.calls a0_0 a0_1 a0_2 t160 t161 t162 _ A2.out).mono ?_); rintro e w9 ⟨rfl, hb⟩; refine ⟨_, rfl, ?_⟩; have n0_ := Aside0.mk (blk_below (g := gb159) (o := .cells #[.int .i64 a0_0, .int .i64 a0_1, .int .i64 a0_2] 25 (0, 0)) (by (with_reducible repeat (first | refine blk_drewN ?_ _ | refine blk_drew ?_ | refine blk_alloc ?_ _)); exact BK159.out) hb); have n1_ := Aside0.mk (below_step (by repeat (first | (with_reducible first | exact HB.out | apply below_alloc | apply pw_below_drewN | apply below_drew1 | refine below_set ?_ GE159.out) | exact HB.out)) hb); clear BK159; clear HB; have BK159 := n0_; have HB := n1_; clear n0_ n1_; (try clear hb); (try clear hb2); (try clear hk); (try clear hi)) | ((with_reducible refine gate_callee (f := 7) rfl ?_); refine goesL_ (some 7) rfl rfl Tryd.func7 (by kernel_rfl) rfl #[.agg #[.int .i64 t160, .int .i64 t161, .int .i64 t162]] rfl (by (try simp only [List.map_toArray, List.map_cons, List.map_nil]); first | done | rfl | (simp only [List.length_drop, List.length_take]; rfl)) ?_; (with_reducible refine (spec_SurfaceName.calls k t160 t161 t162 t163 _ A3.out).mono ?_); rintro e w10 ⟨rfl, hb⟩; refine ⟨_, rfl, ?_⟩; have n0_ := Aside0.mk (blk_below (g := gb159) (o := .cells #[.int .i64 a0_0, .int .i64 a0_1, .int .i64 a0_2] 25 (0, 0)) (by (with_reducible repeat (first | refine blk_drewN ?_ _ | refine blk_drew ?_ | refine blk_alloc ?_ _)); exact BK159.out) hb); have n1_ := Aside0.mk (below_step (by repeat (first | (with_reducible first | exact HB.out | apply below_alloc | apply pw_below_drewN | apply below_drew1 | refine below_set ?_ GE159.out) | exact HB.out)) hb); clear BK159; clear HB; have BK159 := n0_; have HB := n1_; clear n0_ n1_; (try clear hb); (try clear hb2); (try clear hk); (try clear hi); have hcz11_0 : w10.cell? ⟨gb159, 0, none⟩ = some (.int .i64 a0_0) := (blk_cell BK159.out 0).trans rfl; have hcz11_1 : w10.cell? ⟨gb159, 1, none⟩ = some (.int .i64 a0_1) := (blk_cell BK159.out 1).trans rfl; have hcz11_2 : w10.cell? ⟨gb159, 2, none⟩ = some (.int .i64 a0_2) := (blk_cell BK159.out 2).trans rfl; have hfz11_0 := blk_frozen BK159.out 0; have hfz11_1 := blk_frozen BK159.out 1; have hfz11_2 := blk_frozen BK159.out 2) | ((with_reducible refine gate_callee (f := 8) rfl ?_); refine goesL_ (some 9) rfl rfl Tryd.func8 (by kernel_rfl) rfl #[.agg #[.int .i64 a0_0, .int .i64 a0_1, .int .i64 a0_2]] rfl (by (try simp only [List.map_toArray, List.map_cons, List.map_nil]); first | done | rfl | (simp only [List.length_drop, List.length_take]; rfl)) ?_; (with_reducible refine (laws_toSurface.calls a0_0 a0_1 a0_2 t164 t165 t166 _ A4.out).mono ?_); rintro e w12 ⟨rfl, hb⟩; refine ⟨_, rfl, ?_⟩; have n0_ := Aside0.mk (blk_below (g := gb159) (o := .cells #[.int .i64 a0_0, .int .i64 a0_1, .int .i64 a0_2] 25 (0, 0)) (by (with_reducible repeat (first | refine blk_drewN ?_ _ | refine blk_drew ?_ | refine blk_alloc ?_ _)); exact BK159.out) hb); have n1_ := Aside0.mk (below_step (by repeat (first | (with_reducible first | exact HB.out | apply below_alloc | apply pw_below_drewN | apply below_drew1 | refine below_set ?_ GE159.out) | exact HB.out)) hb); clear BK159; clear HB; have BK159 := n0_; have HB := n1_; clear n0_ n1_; (try clear hb); (try clear hb2); (try clear hk); (try clear hi)) | ((with_reducible refine gate_callee (f := 9) rfl ?_); refine goesL_ (some 10) rfl rfl Tryd.func9 (by kernel_rfl) rfl #[.agg #[.int .i64 t164, .int .i64 t165, .int .i64 t166]] rfl (by (try simp only [List.map_toArray, List.map_cons, List.map_nil]); first | done | rfl | (simp only [List.length_drop, List.length_take]; rfl)) ?_; (with_reducible refine (impl_SurfaceName.calls k t164 t165 t166 t167 _ ?hT A5.out).mono ?_); (case hT => exact tab_on HT.out (by repeat (first | (with_reducible first | exact HB.out | apply below_alloc | apply pw_below_drewN | apply below_drew1 | refine below_set ?_ GE159.out) | exact HB.out))); rintro e w13 ⟨rfl, hb⟩; refine ⟨_, rfl, ?_⟩; have n0_ := Aside0.mk (blk_below (g := gb159) (o := .cells #[.int .i64 a0_0, .int .i64 a0_1, .int .i64 a0_2] 25 (0, 0)) (by (with_reducible repeat (first | refine blk_drewN ?_ _ | refine blk_drew ?_ | refine blk_alloc ?_ _)); exact BK159.out) hb); have n1_ := Aside0.mk (below_step (by repeat (first | (with_reducible first | exact HB.out | apply below_alloc | apply pw_below_drewN | apply below_drew1 | refine below_set ?_ GE159.out) | exact HB.out)) hb); clear BK159; clear HB; have BK159 := n0_; have HB := n1_; clear n0_ n1_; (try clear hb); (try clear hb2); (try clear hk); (try clear hi)))
    go_ret
    exact ⟨by first | rfl | (simp [errW_none, errW_some] <;> rfl) | (simp [*, errW_none, errW_some] <;> rfl), by repeat (first | (with_reducible first | exact HB.out | apply below_alloc | apply pw_below_drewN | apply below_drew1 | refine below_set ?_ GE159.out) | exact HB.out)⟩
  · rw [if_neg c6] at H
    have c6b0 : (t167.toList == t163.toList) = false := beq_eq_false_iff_ne.mpr c6
    have c6b1 : (t167.toList != t163.toList) = true := bne_iff_ne.mpr c6
    obtain rfl := Option.some.inj H
    go_enter Tryd.func4, Tryd.ntmps4
    go_wp2_with (first | ((with_reducible refine gate_dst (N := 1) rfl ?_); refine box_event ?hg (N := 1) ?hd (cs := #[.int .i64 a0_0, .int .i64 a0_1, .int .i64 a0_2]) (t := 25) ?hr ?_; (case hd => rfl); (case hg => rfl); (case hr => first | (go_simp; done) | (go_simp; rfl)); intro gb159 hg w14 hbox hb; have n0_ := Aside0.mk (below_step (by repeat (first | (with_reducible first | exact HB.out | apply below_alloc | apply pw_below_drewN | apply below_drew1) | exact HB.out)) hb); have n1_ := Aside0.mk (hbox); have n2_ := Aside0.mk ((by rw [hg]; exact (below_size (by repeat (first | (with_reducible first | exact HB.out | apply below_alloc | apply pw_below_drewN | apply below_drew1) | exact HB.out))) : w.heap.size ≤ gb159)); have n3_ := Aside0.mk ((by rw [hg]; exact (below_size (by repeat (first | (with_reducible first | exact HB.out | apply below_alloc | apply pw_below_drewN | apply below_drew1) | exact HB.out))) : w.heap.size ≤ gb159)); clear HB; have HB := n0_; have BK159 := n1_; have GW159 := n2_; have GE159 := n3_; clear n0_ n1_ n2_ n3_; clear hb hbox hg; have hcz15_0 : w14.cell? ⟨gb159, 0, none⟩ = some (.int .i64 a0_0) := (blk_cell BK159.out 0).trans rfl; have hcz15_1 : w14.cell? ⟨gb159, 1, none⟩ = some (.int .i64 a0_1) := (blk_cell BK159.out 1).trans rfl; have hcz15_2 : w14.cell? ⟨gb159, 2, none⟩ = some (.int .i64 a0_2) := (blk_cell BK159.out 2).trans rfl; have hfz15_0 := blk_frozen BK159.out 0; have hfz15_1 := blk_frozen BK159.out 1; have hfz15_2 := blk_frozen BK159.out 2) | ((with_reducible refine gate_callee (f := 8) rfl ?_); refine goesL_ (some 6) rfl rfl Tryd.func8 (by kernel_rfl) rfl #[.agg #[.int .i64 a0_0, .int .i64 a0_1, .int .i64 a0_2]] rfl (by (try simp only [List.map_toArray, List.map_cons, List.map_nil]); first | done | rfl | (simp only [List.length_drop, List.length_take]; rfl)) ?_; (with_reducible refine (laws_toSurface.calls a0_0 a0_1 a0_2 t160 t161 t162 _ A2.out).mono ?_); rintro e w16 ⟨rfl, hb⟩; refine ⟨_, rfl, ?_⟩; have n0_ := Aside0.mk (blk_below (g := gb159) (o := .cells #[.int .i64 a0_0, .int .i64 a0_1, .int .i64 a0_2] 25 (0, 0)) (by (with_reducible repeat (first | refine blk_drewN ?_ _ | refine blk_drew ?_ | refine blk_alloc ?_ _)); exact BK159.out) hb); have n1_ := Aside0.mk (below_step (by repeat (first | (with_reducible first | exact HB.out | apply below_alloc | apply pw_below_drewN | apply below_drew1 | refine below_set ?_ GE159.out) | exact HB.out)) hb); clear BK159; clear HB; have BK159 := n0_; have HB := n1_; clear n0_ n1_; (try clear hb); (try clear hb2); (try clear hk); (try clear hi)) | ((with_reducible refine gate_callee (f := 7) rfl ?_); refine goesL_ (some 7) rfl rfl Tryd.func7 (by kernel_rfl) rfl #[.agg #[.int .i64 t160, .int .i64 t161, .int .i64 t162]] rfl (by (try simp only [List.map_toArray, List.map_cons, List.map_nil]); first | done | rfl | (simp only [List.length_drop, List.length_take]; rfl)) ?_; (with_reducible refine (spec_SurfaceName.calls k t160 t161 t162 t163 _ A3.out).mono ?_); rintro e w17 ⟨rfl, hb⟩; refine ⟨_, rfl, ?_⟩; have n0_ := Aside0.mk (blk_below (g := gb159) (o := .cells #[.int .i64 a0_0, .int .i64 a0_1, .int .i64 a0_2] 25 (0, 0)) (by (with_reducible repeat (first | refine blk_drewN ?_ _ | refine blk_drew ?_ | refine blk_alloc ?_ _)); exact BK159.out) hb); have n1_ := Aside0.mk (below_step (by repeat (first | (with_reducible first | exact HB.out | apply below_alloc | apply pw_below_drewN | apply below_drew1 | refine below_set ?_ GE159.out) | exact HB.out)) hb); clear BK159; clear HB; have BK159 := n0_; have HB := n1_; clear n0_ n1_; (try clear hb); (try clear hb2); (try clear hk); (try clear hi); have hcz18_0 : w17.cell? ⟨gb159, 0, none⟩ = some (.int .i64 a0_0) := (blk_cell BK159.out 0).trans rfl; have hcz18_1 : w17.cell? ⟨gb159, 1, none⟩ = some (.int .i64 a0_1) := (blk_cell BK159.out 1).trans rfl; have hcz18_2 : w17.cell? ⟨gb159, 2, none⟩ = some (.int .i64 a0_2) := (blk_cell BK159.out 2).trans rfl; have hfz18_0 := blk_frozen BK159.out 0; have hfz18_1 := blk_frozen BK159.out 1; have hfz18_2 := blk_frozen BK159.out 2) | ((with_reducible refine gate_callee (f := 8) rfl ?_); refine goesL_ (some 9) rfl rfl Tryd.func8 (by kernel_rfl) rfl #[.agg #[.int .i64 a0_0, .int .i64 a0_1, .int .i64 a0_2]] rfl (by (try simp only [List.map_toArray, List.map_cons, List.map_nil]); first | done | rfl | (simp only [List.length_drop, List.length_take]; rfl)) ?_; (with_reducible refine (laws_toSurface.calls a0_0 a0_1 a0_2 t164 t165 t166 _ A4.out).mono ?_); rintro e w19 ⟨rfl, hb⟩; refine ⟨_, rfl, ?_⟩; have n0_ := Aside0.mk (blk_below (g := gb159) (o := .cells #[.int .i64 a0_0, .int .i64 a0_1, .int .i64 a0_2] 25 (0, 0)) (by (with_reducible repeat (first | refine blk_drewN ?_ _ | refine blk_drew ?_ | refine blk_alloc ?_ _)); exact BK159.out) hb); have n1_ := Aside0.mk (below_step (by repeat (first | (with_reducible first | exact HB.out | apply below_alloc | apply pw_below_drewN | apply below_drew1 | refine below_set ?_ GE159.out) | exact HB.out)) hb); clear BK159; clear HB; have BK159 := n0_; have HB := n1_; clear n0_ n1_; (try clear hb); (try clear hb2); (try clear hk); (try clear hi)) | ((with_reducible refine gate_callee (f := 9) rfl ?_); refine goesL_ (some 10) rfl rfl Tryd.func9 (by kernel_rfl) rfl #[.agg #[.int .i64 t164, .int .i64 t165, .int .i64 t166]] rfl (by (try simp only [List.map_toArray, List.map_cons, List.map_nil]); first | done | rfl | (simp only [List.length_drop, List.length_take]; rfl)) ?_; (with_reducible refine (impl_SurfaceName.calls k t164 t165 t166 t167 _ ?hT A5.out).mono ?_); (case hT => exact tab_on HT.out (by repeat (first | (with_reducible first | exact HB.out | apply below_alloc | apply pw_below_drewN | apply below_drew1 | refine below_set ?_ GE159.out) | exact HB.out))); rintro e w20 ⟨rfl, hb⟩; refine ⟨_, rfl, ?_⟩; have n0_ := Aside0.mk (blk_below (g := gb159) (o := .cells #[.int .i64 a0_0, .int .i64 a0_1, .int .i64 a0_2] 25 (0, 0)) (by (with_reducible repeat (first | refine blk_drewN ?_ _ | refine blk_drew ?_ | refine blk_alloc ?_ _)); exact BK159.out) hb); have n1_ := Aside0.mk (below_step (by repeat (first | (with_reducible first | exact HB.out | apply below_alloc | apply pw_below_drewN | apply below_drew1 | refine below_set ?_ GE159.out) | exact HB.out)) hb); clear BK159; clear HB; have BK159 := n0_; have HB := n1_; clear n0_ n1_; (try clear hb); (try clear hb2); (try clear hk); (try clear hi)))
    go_ret
    exact ⟨by first | rfl | (simp [errW_none, errW_some] <;> rfl) | (simp [*, errW_none, errW_some] <;> rfl), by repeat (first | (with_reducible first | exact HB.out | apply below_alloc | apply pw_below_drewN | apply below_drew1 | refine below_set ?_ GE159.out) | exact HB.out)⟩

end Go.Proofs.YtehloilmokhmgaaDoor.QFnExactSurfaceName
