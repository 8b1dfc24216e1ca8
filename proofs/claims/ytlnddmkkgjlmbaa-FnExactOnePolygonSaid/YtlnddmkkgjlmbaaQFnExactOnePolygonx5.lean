-- Written by a program of this session (the kit's print, turned in places): the functions that the law FnExactOnePolygon comes to, and what their calls do.
import Derived.Test.YtlnddmkkgjlmbaaQFnExactOnePolygonx0
import Derived.Test.YtlnddmkkgjlmbaaQFnExactOnePolygonx2
import Derived.Test.YtlnddmkkgjlmbaaQFnExactOnePolygonx4
namespace Go.Proofs.Ytlnddmkkgjlmbaa.QFnExactOnePolygon
open Go.RowKit Go.Proofs.YtlnddmkkgjlmbaaW.PrintWords Go.Proofs.YtlnddmkkgjlmbaaW.PrintLast Go.Proofs.YtlnddmkkgjlmbaaW.PrintMore
attribute [local go_sem] max2_int min2_int max_two min_two max_three min_three max_four min_four   -- for this text's walks alone
set_option linter.unusedVariables false
set_option linter.unusedSimpArgs false
mutual
def spec_GluePolygons.j0 : Nat → List (List Int) → Int → Bool → Option ((List (List Int)) × Bool)
  | 0, _, _, _ => none
  | k + 1, x0, x1, x25 => if x25 = true then (some ((([] : List (List Int))), false)) else (spec_GluePolygons.l0 k x0 x1 (-1) (-1) 0)
def spec_GluePolygons.l0 : Nat → List (List Int) → Int → Int → Int → Int → Option ((List (List Int)) × Bool)
  | 0, _, _, _, _, _ => none
  | k + 1, x0, x1, x6, x7, x8 => if x8 < (x0.length : Int) then (if 0 ≤ x8 then ((spec_l5Count.f k (rd_L1 x0 x8) x1).bind fun t174 => (if t174 = 1 then (if x6 < 0 then (spec_GluePolygons.l0 k x0 x1 x8 x7 (wrap64 (x8 + 1))) else (spec_GluePolygons.l0 k x0 x1 x6 x8 (wrap64 (x8 + 1)))) else (spec_GluePolygons.l0 k x0 x1 x6 x7 (wrap64 (x8 + 1))))) else (none)) else (if x7 < 0 then (some ((([] : List (List Int))), false)) else (if 0 ≤ x6 then (if x6 < (x0.length : Int) then ((some (([] : List Int) : List Int)).bind fun y179 => (if 0 ≤ x7 then (if x7 < (x0.length : Int) then (if y179.length + (rd_L1 x0 x7).length < 17592186044416 then ((some (y179 ++ (rd_L1 x0 x7) : List Int)).bind fun y183 => ((spec_l5At.f k (rd_L1 x0 x6) x1).bind fun t186 => ((spec_l5At.f k y183 x1).bind fun t187 => (if 0 ≤ t187 then (if t187 < (y183.length : Int) then (if 0 ≤ t186 then (if t186 < ((rd_L1 x0 x6).length : Int) then (if (rd y183 t187) = (rd (rd_L1 x0 x6) t186) then ((spec_l2Inverse.f k y183).bind fun t190 => (spec_GluePolygons.j2 k x0 x1 x6 x7 (rd_L1 x0 x6) t190 t186)) else (spec_GluePolygons.j2 k x0 x1 x6 x7 (rd_L1 x0 x6) y183 t186)) else (none)) else (none)) else (none)) else (none))))) else (none)) else (none)) else (none))) else (none)) else (none)))
def spec_GluePolygons.j2 : Nat → List (List Int) → Int → Int → Int → List Int → List Int → Int → Option ((List (List Int)) × Bool)
  | 0, _, _, _, _, _, _, _ => none
  | k + 1, x0, x1, x6, x7, x9, x10, x11 => (spec_l5At.f k x10 x1).bind fun t193 => ((some (([] : List Int) : List Int)).bind fun y194 => (if 0 ≤ x11 then (if x11 ≤ (x9.length : Int) then (if y194.length + (x9.take (x11 : Int).toNat).length < 17592186044416 then ((some (y194 ++ (x9.take (x11 : Int).toNat) : List Int)).bind fun y198 => (if 0 ≤ (wrap64 (t193 + 1)) then (if (wrap64 (t193 + 1)) ≤ (x10.length : Int) then ((some (x10.drop ((wrap64 (t193 + 1)) : Int).toNat : List Int)).bind fun y201 => (if y198.length + y201.length < 17592186044416 then ((some (y198 ++ y201 : List Int)).bind fun y205 => (if 0 ≤ t193 then (if t193 ≤ (x10.length : Int) then ((some (x10.take (t193 : Int).toNat : List Int)).bind fun y208 => (if y205.length + y208.length < 17592186044416 then ((some (y205 ++ y208 : List Int)).bind fun y212 => (if 0 ≤ (wrap64 (x11 + 1)) then (if (wrap64 (x11 + 1)) ≤ (x9.length : Int) then (if y212.length + (x9.drop ((wrap64 (x11 + 1)) : Int).toNat).length < 17592186044416 then ((some (y212 ++ (x9.drop ((wrap64 (x11 + 1)) : Int).toNat) : List Int)).bind fun y216 => (if (y216.length : Int) = 0 then (some ((([] : List (List Int))), false)) else (spec_GluePolygons.l1 k x0 x6 x7 y216 (([] : List (List Int))) 0))) else (none)) else (none)) else (none))) else (none))) else (none)) else (none))) else (none))) else (none)) else (none))) else (none)) else (none)) else (none)))
def spec_GluePolygons.l1 : Nat → List (List Int) → Int → Int → List Int → List (List Int) → Int → Option ((List (List Int)) × Bool)
  | 0, _, _, _, _, _, _ => none
  | k + 1, x0, x6, x7, x13, x14, x15 => if x15 < (x0.length : Int) then (if x15 = x6 then ((some (([] : List Int) : List Int)).bind fun y229 => (if y229.length + x13.length < 17592186044416 then (if x14.length < 5864062014805 then (spec_GluePolygons.l1 k x0 x6 x7 x13 (x14 ++ [(y229 ++ x13)]) (wrap64 (x15 + 1))) else (none)) else (none))) else (if x15 = x7 then (spec_GluePolygons.l1 k x0 x6 x7 x13 x14 (wrap64 (x15 + 1))) else ((some (([] : List Int) : List Int)).bind fun y238 => (if 0 ≤ x15 then (if y238.length + (rd_L1 x0 x15).length < 17592186044416 then (if x14.length < 5864062014805 then (spec_GluePolygons.l1 k x0 x6 x7 x13 (x14 ++ [(y238 ++ (rd_L1 x0 x15))]) (wrap64 (x15 + 1))) else (none)) else (none)) else (none))))) else ((spec_l5Right.f k x14).bind fun bt225 => (some (bt225.1, bt225.2)))
end
def spec_GluePolygons.f (k : Nat) (l0 : List (List Int)) (a1 : Int) : Option ((List (List Int)) × Bool) := (spec_IsGluing.f k l0).bind fun t168 => (if t168 = true then ((spec_l1In.f a1 1 8).bind fun t169 => (spec_GluePolygons.j0 k l0 a1 (!t169))) else (spec_GluePolygons.j0 k l0 a1 true))
theorem spec_GluePolygons.mono_l : ∀ k, (∀ y0 y1 y2, LeO (spec_GluePolygons.j0 k y0 y1 y2) (spec_GluePolygons.j0 (k + 1) y0 y1 y2)) ∧ (∀ y0 y1 y2 y3 y4, LeO (spec_GluePolygons.l0 k y0 y1 y2 y3 y4) (spec_GluePolygons.l0 (k + 1) y0 y1 y2 y3 y4)) ∧ (∀ y0 y1 y2 y3 y4 y5 y6, LeO (spec_GluePolygons.j2 k y0 y1 y2 y3 y4 y5 y6) (spec_GluePolygons.j2 (k + 1) y0 y1 y2 y3 y4 y5 y6)) ∧ (∀ y0 y1 y2 y3 y4 y5, LeO (spec_GluePolygons.l1 k y0 y1 y2 y3 y4 y5) (spec_GluePolygons.l1 (k + 1) y0 y1 y2 y3 y4 y5))
  | 0 => ⟨fun _ _ _ r h => by simp [spec_GluePolygons.j0] at h, fun _ _ _ _ _ r h => by simp [spec_GluePolygons.l0] at h, fun _ _ _ _ _ _ _ r h => by simp [spec_GluePolygons.j2] at h, fun _ _ _ _ _ _ r h => by simp [spec_GluePolygons.l1] at h⟩
  | k + 1 => by
    obtain ⟨ih0, ih1, ih2, ih3⟩ := spec_GluePolygons.mono_l k
    refine ⟨?_, ?_, ?_, ?_⟩
    · intro y0 y1 y2
      unfold spec_GluePolygons.j0
      repeat' first
      | (with_reducible exact ih0 _ _ _)
      | (with_reducible exact ih1 _ _ _ _ _)
      | (with_reducible exact ih2 _ _ _ _ _ _ _)
      | (with_reducible exact ih3 _ _ _ _ _ _)
      | (with_reducible exact spec_IsGluing.mono _ _)
      | (with_reducible exact spec_l2Inverse.mono _ _)
      | (with_reducible exact spec_l5At.mono _ _ _)
      | (with_reducible exact spec_l5Count.mono _ _ _)
      | (with_reducible exact spec_l5Right.mono _ _)
      | (with_reducible exact LeO.refl _)
      | (with_reducible exact LeO.none _)
      | (with_reducible refine LeO.ite ?_ ?_)
      | (with_reducible refine LeO.bind ?_ (fun _ => ?_))
      | exact ih0 _ _ _
      | exact ih1 _ _ _ _ _
      | exact ih2 _ _ _ _ _ _ _
      | exact ih3 _ _ _ _ _ _
      | exact spec_IsGluing.mono _ _
      | exact spec_l2Inverse.mono _ _
      | exact spec_l5At.mono _ _ _
      | exact spec_l5Count.mono _ _ _
      | exact spec_l5Right.mono _ _
      | exact LeO.none _
      | refine LeO.ite ?_ ?_
      | refine LeO.bind ?_ (fun _ => ?_)
    · intro y0 y1 y2 y3 y4
      unfold spec_GluePolygons.l0
      repeat' first
      | (with_reducible exact ih0 _ _ _)
      | (with_reducible exact ih1 _ _ _ _ _)
      | (with_reducible exact ih2 _ _ _ _ _ _ _)
      | (with_reducible exact ih3 _ _ _ _ _ _)
      | (with_reducible exact spec_IsGluing.mono _ _)
      | (with_reducible exact spec_l2Inverse.mono _ _)
      | (with_reducible exact spec_l5At.mono _ _ _)
      | (with_reducible exact spec_l5Count.mono _ _ _)
      | (with_reducible exact spec_l5Right.mono _ _)
      | (with_reducible exact LeO.refl _)
      | (with_reducible exact LeO.none _)
      | (with_reducible refine LeO.ite ?_ ?_)
      | (with_reducible refine LeO.bind ?_ (fun _ => ?_))
      | exact ih0 _ _ _
      | exact ih1 _ _ _ _ _
      | exact ih2 _ _ _ _ _ _ _
      | exact ih3 _ _ _ _ _ _
      | exact spec_IsGluing.mono _ _
      | exact spec_l2Inverse.mono _ _
      | exact spec_l5At.mono _ _ _
      | exact spec_l5Count.mono _ _ _
      | exact spec_l5Right.mono _ _
      | exact LeO.none _
      | refine LeO.ite ?_ ?_
      | refine LeO.bind ?_ (fun _ => ?_)
    · intro y0 y1 y2 y3 y4 y5 y6
      unfold spec_GluePolygons.j2
      repeat' first
      | (with_reducible exact ih0 _ _ _)
      | (with_reducible exact ih1 _ _ _ _ _)
      | (with_reducible exact ih2 _ _ _ _ _ _ _)
      | (with_reducible exact ih3 _ _ _ _ _ _)
      | (with_reducible exact spec_IsGluing.mono _ _)
      | (with_reducible exact spec_l2Inverse.mono _ _)
      | (with_reducible exact spec_l5At.mono _ _ _)
      | (with_reducible exact spec_l5Count.mono _ _ _)
      | (with_reducible exact spec_l5Right.mono _ _)
      | (with_reducible exact LeO.refl _)
      | (with_reducible exact LeO.none _)
      | (with_reducible refine LeO.ite ?_ ?_)
      | (with_reducible refine LeO.bind ?_ (fun _ => ?_))
      | exact ih0 _ _ _
      | exact ih1 _ _ _ _ _
      | exact ih2 _ _ _ _ _ _ _
      | exact ih3 _ _ _ _ _ _
      | exact spec_IsGluing.mono _ _
      | exact spec_l2Inverse.mono _ _
      | exact spec_l5At.mono _ _ _
      | exact spec_l5Count.mono _ _ _
      | exact spec_l5Right.mono _ _
      | exact LeO.none _
      | refine LeO.ite ?_ ?_
      | refine LeO.bind ?_ (fun _ => ?_)
    · intro y0 y1 y2 y3 y4 y5
      unfold spec_GluePolygons.l1
      repeat' first
      | (with_reducible exact ih0 _ _ _)
      | (with_reducible exact ih1 _ _ _ _ _)
      | (with_reducible exact ih2 _ _ _ _ _ _ _)
      | (with_reducible exact ih3 _ _ _ _ _ _)
      | (with_reducible exact spec_IsGluing.mono _ _)
      | (with_reducible exact spec_l2Inverse.mono _ _)
      | (with_reducible exact spec_l5At.mono _ _ _)
      | (with_reducible exact spec_l5Count.mono _ _ _)
      | (with_reducible exact spec_l5Right.mono _ _)
      | (with_reducible exact LeO.refl _)
      | (with_reducible exact LeO.none _)
      | (with_reducible refine LeO.ite ?_ ?_)
      | (with_reducible refine LeO.bind ?_ (fun _ => ?_))
      | exact ih0 _ _ _
      | exact ih1 _ _ _ _ _
      | exact ih2 _ _ _ _ _ _ _
      | exact ih3 _ _ _ _ _ _
      | exact spec_IsGluing.mono _ _
      | exact spec_l2Inverse.mono _ _
      | exact spec_l5At.mono _ _ _
      | exact spec_l5Count.mono _ _ _
      | exact spec_l5Right.mono _ _
      | exact LeO.none _
      | refine LeO.ite ?_ ?_
      | refine LeO.bind ?_ (fun _ => ?_)
theorem spec_GluePolygons.mono : ∀ a0 a1 k, LeO (spec_GluePolygons.f k a0 a1) (spec_GluePolygons.f (k + 1) a0 a1) := by
  intro a0 a1 k
  obtain ⟨ih0, ih1, ih2, ih3⟩ := spec_GluePolygons.mono_l k
  unfold spec_GluePolygons.f
  repeat' first
      | (with_reducible exact ih0 _ _ _)
      | (with_reducible exact ih1 _ _ _ _ _)
      | (with_reducible exact ih2 _ _ _ _ _ _ _)
      | (with_reducible exact ih3 _ _ _ _ _ _)
      | (with_reducible exact spec_IsGluing.mono _ _)
      | (with_reducible exact spec_l2Inverse.mono _ _)
      | (with_reducible exact spec_l5At.mono _ _ _)
      | (with_reducible exact spec_l5Count.mono _ _ _)
      | (with_reducible exact spec_l5Right.mono _ _)
      | (with_reducible exact LeO.refl _)
      | (with_reducible exact LeO.none _)
      | (with_reducible refine LeO.ite ?_ ?_)
      | (with_reducible refine LeO.bind ?_ (fun _ => ?_))
      | exact ih0 _ _ _
      | exact ih1 _ _ _ _ _
      | exact ih2 _ _ _ _ _ _ _
      | exact ih3 _ _ _ _ _ _
      | exact spec_IsGluing.mono _ _
      | exact spec_l2Inverse.mono _ _
      | exact spec_l5At.mono _ _ _
      | exact spec_l5Count.mono _ _ _
      | exact spec_l5Right.mono _ _
      | exact LeO.none _
      | refine LeO.ite ?_ ?_
      | refine LeO.bind ?_ (fun _ => ?_)
def spec_GluePolygons.T17 : Bool × List (List Nat × List Nat) := (true, [([], []), ([], []), ([], []), ([1, 2], [1, 2]), ([0, 3], [0, 3]), ([4], [4]), ([], []), ([], []), ([6, 7], [6, 7]), ([8], [8]), ([5, 9], [5, 9])])
def spec_GluePolygons.B17 : List Nat := [0, 0, 0, 6, 15, 31, 0, 0, 192, 448, 1023]
theorem spec_GluePolygons.tab17 : rtab .any (opsOf Try.f29 17) = spec_GluePolygons.T17 := by kernel_rfl
theorem spec_GluePolygons.bits17 : waitsOk spec_GluePolygons.T17.2 spec_GluePolygons.B17 = true := by kernel_rfl
def spec_GluePolygons.T20 : Bool × List (List Nat × List Nat) := (true, [([], []), ([], []), ([], []), ([1, 2], [1, 2]), ([0, 3], [0, 3]), ([], []), ([], []), ([6], [6]), ([5, 7], [5, 7]), ([4, 8, 4], [4, 8]), ([], []), ([], []), ([10, 11], [10, 11]), ([9, 12, 9], [9, 12]), ([], []), ([], []), ([15], [15]), ([14, 16], [14, 16]), ([13, 17, 13], [13, 17]), ([18, 18, 0, 1, 2, 3, 4, 5, 6, 7, 8, 9, 10, 11, 12, 13, 14, 15, 16, 17, 18], [18])])
def spec_GluePolygons.B20 : List Nat := [0, 0, 0, 6, 15, 0, 0, 64, 224, 511, 0, 0, 3072, 8191, 0, 0, 32768, 114688, 262143, 524287]
theorem spec_GluePolygons.tab20 : rtab .any (opsOf Try.f29 20) = spec_GluePolygons.T20 := by kernel_rfl
theorem spec_GluePolygons.bits20 : waitsOk spec_GluePolygons.T20.2 spec_GluePolygons.B20 = true := by kernel_rfl
set_option maxHeartbeats 8000000 in
set_option maxRecDepth 100000 in
theorem spec_GluePolygons.calls (k : Nat) (A0 : Option Addr) (c0 : Nat) (l0 : List (List Int)) (a1 : Int) (r1 : List (List Int)) (r2 : Bool) (w : World) (hr0 : Kd.C (Kd.slice 3 (Kd.int .i64)) w A0 l0.length l0) (hc0 : l0.length ≤ c0) (h : spec_GluePolygons.f k l0 a1 = some (r1, r2)) :
    Calls Try.prog 29 #[.slice A0 l0.length c0, .int .i64 a1] w fun e w' => ∃ v0_ : Value, e = .returned (.tuple #[v0_, .bool r2]) ∧ Kd.S (Kd.slice 3 (Kd.int .i64)) 47 w' w.heap.size (fun k_ => (w.heap.size ≤ k_)) v0_ r1 ∧ Below w.heap.size w w' := by
  have HR0 := Aside0.mk hr0
  have HC0 := Aside0.mk hc0
  clear hr0 hc0
  have HB := Aside0.mk (Below.refl w.heap.size w)
  have H : ((spec_IsGluing.f k l0).bind fun t168 => (if t168 = true then ((spec_l1In.f a1 1 8).bind fun t169 => (spec_GluePolygons.j0 k l0 a1 (!t169))) else (spec_GluePolygons.j0 k l0 a1 true))) = some (r1, r2) := h
  clear h
  have HC3 := Aside0.mk H
  clear H
  go_enter Try.func29, Try.ntmps29
  go_upto_region 1 with (fail)
  go_cut [25] (fun v25 wc => ∃ (kq : Nat) (x25_2 : Bool), v25 = .bool x25_2 ∧ Aside0 (spec_GluePolygons.j0 kq l0 a1 x25_2 = some (r1, r2)) ∧ Aside0 (kq ≤ k) ∧ Aside0 (Below w.heap.size w wc))
  case first =>
    have H := HC3.out
    clear HC3
    replace H := Option.bind_eq_some_iff.mp H
    obtain ⟨t168, A40, H⟩ := H
    replace H : (if t168 = true then ((spec_l1In.f a1 1 8).bind fun t169 => (spec_GluePolygons.j0 k l0 a1 (!t169))) else (spec_GluePolygons.j0 k l0 a1 true)) = some (r1, r2) := H
    have A4 := Aside0.mk A40
    clear A40
    by_cases c5 : t168 = true
    · subst c5
      have H1 : ((spec_l1In.f a1 1 8).bind fun t169 => (spec_GluePolygons.j0 k l0 a1 (!t169))) = some (r1, r2) := by rw [if_pos rfl] at H; exact H
      clear H
      have H := H1
      clear H1
      replace H := Option.bind_eq_some_iff.mp H
      obtain ⟨t169, A60, H⟩ := H
      replace H : (spec_GluePolygons.j0 k l0 a1 (!t169)) = some (r1, r2) := H
      have A6 := Aside0.mk A60
      clear A60
      have H' := Aside0.mk H
      clear H
      go_wp2_with (first | ((with_reducible refine gate_callee (f := 52) rfl ?_); refine goesL_ (some 19) rfl rfl Try.func52 (by kernel_rfl) rfl #[.slice A0 l0.length c0] rfl (by (try simp only [List.map_toArray, List.map_cons, List.map_nil]); first | done | rfl | (simp only [List.length_drop, List.length_take]; rfl)) ?_; (with_reducible refine (spec_IsGluing.calls k _ _ l0 true _ ?side1 ?side2 A4.out).mono ?_); (case side1 => repeat (first | exact (Kd.C_below HR0.out HB.out) | (with_reducible refine Kd.C_alloc ?_ _) | (with_reducible refine Kd.C_drewN ?_ _) | (with_reducible refine Kd.C_drew ?_))); (case side2 => exact HC0.out); rintro e w7 ⟨rfl, hb⟩; refine ⟨_, rfl, ?_⟩; have n0_ := Aside0.mk (below_step (by repeat (first | (with_reducible first | exact HB.out | apply below_alloc | apply pw_below_drewN | apply below_drew1) | exact HB.out)) hb); clear HB; have HB := n0_; clear n0_; (try clear hb); (try clear hb2); (try clear hk); (try clear hi)) | (go_at_call 53; (with_reducible refine (spec_l1In.calls a1 1 8 t169 _ A6.out).mono ?_); rintro e w' ⟨rfl, ⟨nd, rfl⟩⟩))
      go_meet
      case rel => exact ⟨_, (!t169), (by first | rfl | (simp; done) | (simp [*]; done)), H', ⟨by first | omega | exact Nat.le_refl _⟩, ⟨by repeat (first | (with_reducible first | exact HB.out | apply below_alloc | apply pw_below_drewN | apply below_drew1) | exact HB.out)⟩⟩
    · replace c5 := Bool.eq_false_iff.mpr c5
      subst c5
      have H1 : (spec_GluePolygons.j0 k l0 a1 true) = some (r1, r2) := by rw [if_neg (show ¬ (false = true) by decide)] at H; exact H
      clear H
      have H := H1
      clear H1
      have H' := Aside0.mk H
      clear H
      go_wp2_with (first | ((with_reducible refine gate_callee (f := 52) rfl ?_); refine goesL_ (some 19) rfl rfl Try.func52 (by kernel_rfl) rfl #[.slice A0 l0.length c0] rfl (by (try simp only [List.map_toArray, List.map_cons, List.map_nil]); first | done | rfl | (simp only [List.length_drop, List.length_take]; rfl)) ?_; (with_reducible refine (spec_IsGluing.calls k _ _ l0 false _ ?side1 ?side2 A4.out).mono ?_); (case side1 => repeat (first | exact (Kd.C_below HR0.out HB.out) | (with_reducible refine Kd.C_alloc ?_ _) | (with_reducible refine Kd.C_drewN ?_ _) | (with_reducible refine Kd.C_drew ?_))); (case side2 => exact HC0.out); rintro e w8 ⟨rfl, hb⟩; refine ⟨_, rfl, ?_⟩; have n0_ := Aside0.mk (below_step (by repeat (first | (with_reducible first | exact HB.out | apply below_alloc | apply pw_below_drewN | apply below_drew1) | exact HB.out)) hb); clear HB; have HB := n0_; clear n0_; (try clear hb); (try clear hb2); (try clear hk); (try clear hi)))
      go_meet
      case rel => exact ⟨_, (true), (by first | rfl | (simp; done) | (simp [*]; done)), H', ⟨by first | omega | exact Nat.le_refl _⟩, ⟨by repeat (first | (with_reducible first | exact HB.out | apply below_alloc | apply pw_below_drewN | apply below_drew1) | exact HB.out)⟩⟩
  case rest =>
    clear HC3
    try clear c2
    try clear p2
    try clear c5
    obtain ⟨kq, x25_2, rfl, HA, HJ2, HB⟩ := hcut
    cases kq with
    | zero => exact absurd HA.out (by simp [spec_GluePolygons.j0])
    | succ kj2 =>
      have H := HA.out
      clear HA
      simp only [spec_GluePolygons.j0] at H
      by_cases c9 : x25_2 = true
      · subst c9
        have H1 : (some ((([] : List (List Int))), false)) = some (r1, r2) := by rw [if_pos rfl] at H; exact H
        clear H
        have H := H1
        clear H1
        obtain ⟨y170, hy170⟩ : ∃ y_ : List (List Int), y_ = (([] : List (List Int))) := ⟨_, rfl⟩
        replace H : (some (y170, false)) = some (r1, r2) := by first | (rw [hy170]; with_reducible exact H) | (have H2_ := (Option.bind_some _ _).symm.trans H; rw [hy170]; with_reducible exact H2_) | (have H2_ := (Option.bind_some _ _).symm.trans H; with_reducible exact H2_) | with_reducible exact H | (rw [hy170]; exact H) | exact H
        have Ny170 := Aside0.mk hy170
        clear hy170
        simp only [Option.some.injEq, Prod.mk.injEq] at H
        obtain ⟨rfl, rfl⟩ := H
        go_wp2_with (first | ((with_reducible refine gate_dst (N := 26) rfl ?_); refine Kd.S_lit (Kd.slice 3 (Kd.int .i64)) _ 47 ?hg (N := 26) ?hd (xs := ([] : List (List Int))) (inner := []) (ok := fun _ => True) (okp := fun _ => True) ?hr ?hp (fun _ hk => hk) trivial (Below.refl _ _) (Nat.le_refl _) (by simp) ?_; (case hd => rfl); (case hg => rfl); (case hr => first | (go_simp; done) | (go_simp; rfl)); (case hp => exact (Reps.none _ _)); intro v171 w10 ho11 hb hg_ hnew_; clear hg_ hnew_; (first | rw [← Ny170.out] at ho11 | (simp only [Int.reduceToNat] at ho11; rw [← Ny170.out] at ho11)); have n0_ := Aside0.mk (Kd.S_lower (Kd.S_newM (M := fun k_ => (w.heap.size ≤ k_)) ho11 (below_size (by repeat (first | (with_reducible first | exact HB.out | apply below_alloc | apply pw_below_drewN | apply below_drew1) | exact HB.out))) (fun k_ h_ => h_)) (below_size (by repeat (first | (with_reducible first | exact HB.out | apply below_alloc | apply pw_below_drewN | apply below_drew1) | exact HB.out)))); have n1_ := Aside0.mk (below_step (by repeat (first | (with_reducible first | exact HB.out | apply below_alloc | apply pw_below_drewN | apply below_drew1) | exact HB.out)) hb); clear HB; have HO172 := n0_; have HB := n1_; clear n0_ n1_; clear hb ho11))
        go_ret2
        exact ⟨_, by first | rfl | (simp [errW_none, errW_some] <;> rfl) | (simp [*, errW_none, errW_some] <;> rfl), S_id0 (by (with_reducible repeat (first | apply Kd.S_alloc | apply Kd.S_drewN | apply Kd.S_drew)); exact Kd.S_mono HO172.out (fun _ hk => hk.1)), by repeat (first | (with_reducible first | exact HB.out | apply below_alloc | apply pw_below_drewN | apply below_drew1) | exact HB.out)⟩
      · replace c9 := Bool.eq_false_iff.mpr c9
        subst c9
        have H1 : (spec_GluePolygons.l0 kj2 l0 a1 (-1) (-1) 0) = some (r1, r2) := by rw [if_neg (show ¬ (false = true) by decide)] at H; exact H
        clear H
        have H := H1
        clear H1
        have H' := Aside0.mk H
        clear H
        go_wp2
        go_loopg [6, 7, 8] kj2 (fun kq v6 v7 v8 w' => ∃ (x6_2 : Int) (x7_2 : Int) (x8_2 : Int), v6 = .int .i64 x6_2 ∧ v7 = .int .i64 x7_2 ∧ v8 = .int .i64 x8_2 ∧ Aside0 (spec_GluePolygons.l0 kq l0 a1 x6_2 x7_2 x8_2 = some (r1, r2)) ∧ Aside0 (kq ≤ kj2) ∧ Aside0 (Below w.heap.size w w'))
        case atStart => exact ⟨((-1)), ((-1)), (0), (by first | rfl | (simp; done) | (simp [*]; done)), (by first | rfl | (simp; done) | (simp [*]; done)), (by first | rfl | (simp; done) | (simp [*]; done)), H', ⟨Nat.le_refl _⟩, ⟨by repeat (first | (with_reducible first | exact HB.out | apply below_alloc | apply pw_below_drewN | apply below_drew1) | exact HB.out)⟩⟩
        case round =>
          clear H'
          try clear c2
          try clear p2
          try clear c5
          try clear c9
          try clear p2
          obtain ⟨x6_2, x7_2, x8_2, rfl, rfl, rfl, HA, HK2, HB⟩ := hrel
          cases gk with
          | zero => exact absurd HA.out (by simp [spec_GluePolygons.l0])
          | succ k2 =>
            have H := HA.out
            clear HA
            simp only [spec_GluePolygons.l0] at H
            by_cases c12 : x8_2 < (l0.length : Int)
            · rw [if_pos c12] at H
              have c12b0 : decide (x8_2 < (l0.length : Int)) = true := decide_eq_true c12
              clear c12
              by_cases c13 : 0 ≤ x8_2
              · rw [if_pos c13] at H
                have c13b0 : decide (0 ≤ x8_2) = true := decide_eq_true c13
                clear c13
                replace H := Option.bind_eq_some_iff.mp H
                obtain ⟨t174, A140, H⟩ := H
                replace H : (if t174 = 1 then (if x6_2 < 0 then (spec_GluePolygons.l0 k2 l0 a1 x8_2 x7_2 (wrap64 (x8_2 + 1))) else (spec_GluePolygons.l0 k2 l0 a1 x6_2 x8_2 (wrap64 (x8_2 + 1)))) else (spec_GluePolygons.l0 k2 l0 a1 x6_2 x7_2 (wrap64 (x8_2 + 1)))) = some (r1, r2) := H
                have A14 := Aside0.mk A140
                clear A140
                by_cases c15 : t174 = 1
                · rw [if_pos c15] at H
                  have c15b0 : (t174 == 1) = true := beq_iff_eq.mpr c15
                  have c15b1 : (t174 != 1) = false := bne_eq_false_iff_eq.mpr c15
                  clear c15
                  by_cases c16 : x6_2 < 0
                  · rw [if_pos c16] at H
                    have c16b0 : decide (x6_2 < 0) = true := decide_eq_true c16
                    clear c16
                    have H' := Aside0.mk H
                    clear H
                    have p173 : 0 ≤ (x8_2 : Int) := of_decide_eq_true (by first | (with_reducible assumption) | assumption)
                    have q173 : x8_2 < (l0.length : Int) := of_decide_eq_true (by first | (with_reducible assumption) | assumption)
                    obtain ⟨ad173, A173_0, c173_0, e173, hx173_0, hl173_0, hi173_0⟩ := at_L1 HR0.out x8_2 p173 q173
                    cases e173
                    replace hx173_0 := (HB.out.cell (World.block_lt_of_cell? w _ hx173_0)).trans hx173_0
                    have HR173_0 := Aside0.mk hi173_0
                    have HC173_0 := Aside0.mk hl173_0
                    clear hi173_0 hl173_0
                    replace p173 := eq_true p173
                    replace q173 := eq_true q173
                    go_wp2_with (first | ((with_reducible refine gate_callee (f := 77) rfl ?_); refine goesL_ (some 38) rfl rfl Try.func77 (by kernel_rfl) rfl #[.slice A173_0 (rd_L1 l0 x8_2).length c173_0, .int .i64 a1] rfl (by (try simp only [List.map_toArray, List.map_cons, List.map_nil]); first | done | rfl | (simp only [List.length_drop, List.length_take]; rfl)) ?_; (with_reducible refine (spec_l5Count.calls k2 _ _ (rd_L1 l0 x8_2) a1 t174 _ ?side1 ?side2 A14.out).mono ?_); (case side1 => repeat (first | exact (Kd.C_below HR173_0.out HB.out) | (with_reducible refine Kd.C_alloc ?_ _) | (with_reducible refine Kd.C_drewN ?_ _) | (with_reducible refine Kd.C_drew ?_))); (case side2 => exact HC173_0.out); rintro e w' ⟨rfl, ⟨nd, rfl⟩⟩; refine ⟨_, rfl, ?_⟩))
                    go_roundg k2
                    case measure => have := HJ2.out; have := HK2.out; omega
                    case rel => exact ⟨(x8_2), (x7_2), (wrap64 (x8_2 + 1)), (by first | rfl | (simp; done) | (simp [*]; done)), (by first | rfl | (simp; done) | (simp [*]; done)), (by first | rfl | (simp; done) | (simp [*]; done)), H', ⟨by have := HJ2.out; have := HK2.out; omega⟩, ⟨by repeat (first | (with_reducible first | exact HB.out | apply below_alloc | apply pw_below_drewN | apply below_drew1) | exact HB.out)⟩⟩
                  · rw [if_neg c16] at H
                    have c16b0 : decide (x6_2 < 0) = false := decide_eq_false c16
                    clear c16
                    have H' := Aside0.mk H
                    clear H
                    have p173 : 0 ≤ (x8_2 : Int) := of_decide_eq_true (by first | (with_reducible assumption) | assumption)
                    have q173 : x8_2 < (l0.length : Int) := of_decide_eq_true (by first | (with_reducible assumption) | assumption)
                    obtain ⟨ad173, A173_0, c173_0, e173, hx173_0, hl173_0, hi173_0⟩ := at_L1 HR0.out x8_2 p173 q173
                    cases e173
                    replace hx173_0 := (HB.out.cell (World.block_lt_of_cell? w _ hx173_0)).trans hx173_0
                    have HR173_0 := Aside0.mk hi173_0
                    have HC173_0 := Aside0.mk hl173_0
                    clear hi173_0 hl173_0
                    replace p173 := eq_true p173
                    replace q173 := eq_true q173
                    go_wp2_with (first | ((with_reducible refine gate_callee (f := 77) rfl ?_); refine goesL_ (some 38) rfl rfl Try.func77 (by kernel_rfl) rfl #[.slice A173_0 (rd_L1 l0 x8_2).length c173_0, .int .i64 a1] rfl (by (try simp only [List.map_toArray, List.map_cons, List.map_nil]); first | done | rfl | (simp only [List.length_drop, List.length_take]; rfl)) ?_; (with_reducible refine (spec_l5Count.calls k2 _ _ (rd_L1 l0 x8_2) a1 t174 _ ?side1 ?side2 A14.out).mono ?_); (case side1 => repeat (first | exact (Kd.C_below HR173_0.out HB.out) | (with_reducible refine Kd.C_alloc ?_ _) | (with_reducible refine Kd.C_drewN ?_ _) | (with_reducible refine Kd.C_drew ?_))); (case side2 => exact HC173_0.out); rintro e w' ⟨rfl, ⟨nd, rfl⟩⟩; refine ⟨_, rfl, ?_⟩))
                    go_roundg k2
                    case measure => have := HJ2.out; have := HK2.out; omega
                    case rel => exact ⟨(x6_2), (x8_2), (wrap64 (x8_2 + 1)), (by first | rfl | (simp; done) | (simp [*]; done)), (by first | rfl | (simp; done) | (simp [*]; done)), (by first | rfl | (simp; done) | (simp [*]; done)), H', ⟨by have := HJ2.out; have := HK2.out; omega⟩, ⟨by repeat (first | (with_reducible first | exact HB.out | apply below_alloc | apply pw_below_drewN | apply below_drew1) | exact HB.out)⟩⟩
                · rw [if_neg c15] at H
                  have c15b0 : (t174 == 1) = false := beq_eq_false_iff_ne.mpr c15
                  have c15b1 : (t174 != 1) = true := bne_iff_ne.mpr c15
                  have H' := Aside0.mk H
                  clear H
                  have p173 : 0 ≤ (x8_2 : Int) := of_decide_eq_true (by first | (with_reducible assumption) | assumption)
                  have q173 : x8_2 < (l0.length : Int) := of_decide_eq_true (by first | (with_reducible assumption) | assumption)
                  obtain ⟨ad173, A173_0, c173_0, e173, hx173_0, hl173_0, hi173_0⟩ := at_L1 HR0.out x8_2 p173 q173
                  cases e173
                  replace hx173_0 := (HB.out.cell (World.block_lt_of_cell? w _ hx173_0)).trans hx173_0
                  have HR173_0 := Aside0.mk hi173_0
                  have HC173_0 := Aside0.mk hl173_0
                  clear hi173_0 hl173_0
                  replace p173 := eq_true p173
                  replace q173 := eq_true q173
                  go_wp2_with (first | ((with_reducible refine gate_callee (f := 77) rfl ?_); refine goesL_ (some 38) rfl rfl Try.func77 (by kernel_rfl) rfl #[.slice A173_0 (rd_L1 l0 x8_2).length c173_0, .int .i64 a1] rfl (by (try simp only [List.map_toArray, List.map_cons, List.map_nil]); first | done | rfl | (simp only [List.length_drop, List.length_take]; rfl)) ?_; (with_reducible refine (spec_l5Count.calls k2 _ _ (rd_L1 l0 x8_2) a1 t174 _ ?side1 ?side2 A14.out).mono ?_); (case side1 => repeat (first | exact (Kd.C_below HR173_0.out HB.out) | (with_reducible refine Kd.C_alloc ?_ _) | (with_reducible refine Kd.C_drewN ?_ _) | (with_reducible refine Kd.C_drew ?_))); (case side2 => exact HC173_0.out); rintro e w' ⟨rfl, ⟨nd, rfl⟩⟩; refine ⟨_, rfl, ?_⟩))
                  go_roundg k2
                  case measure => have := HJ2.out; have := HK2.out; omega
                  case rel => exact ⟨(x6_2), (x7_2), (wrap64 (x8_2 + 1)), (by first | rfl | (simp; done) | (simp [*]; done)), (by first | rfl | (simp; done) | (simp [*]; done)), (by first | rfl | (simp; done) | (simp [*]; done)), H', ⟨by have := HJ2.out; have := HK2.out; omega⟩, ⟨by repeat (first | (with_reducible first | exact HB.out | apply below_alloc | apply pw_below_drewN | apply below_drew1) | exact HB.out)⟩⟩
              · rw [if_neg c13] at H
                exact absurd H (by simp)
            · rw [if_neg c12] at H
              have c12b0 : decide (x8_2 < (l0.length : Int)) = false := decide_eq_false c12
              clear c12
              by_cases c17 : x7_2 < 0
              · rw [if_pos c17] at H
                have c17b0 : decide (x7_2 < 0) = true := decide_eq_true c17
                clear c17
                obtain ⟨y175, hy175⟩ : ∃ y_ : List (List Int), y_ = (([] : List (List Int))) := ⟨_, rfl⟩
                replace H : (some (y175, false)) = some (r1, r2) := by first | (rw [hy175]; with_reducible exact H) | (have H2_ := (Option.bind_some _ _).symm.trans H; rw [hy175]; with_reducible exact H2_) | (have H2_ := (Option.bind_some _ _).symm.trans H; with_reducible exact H2_) | with_reducible exact H | (rw [hy175]; exact H) | exact H
                have Ny175 := Aside0.mk hy175
                clear hy175
                simp only [Option.some.injEq, Prod.mk.injEq] at H
                obtain ⟨rfl, rfl⟩ := H
                go_wp2_with (first | ((with_reducible refine gate_dst (N := 46) rfl ?_); refine Kd.S_lit (Kd.slice 3 (Kd.int .i64)) _ 47 ?hg (N := 46) ?hd (xs := ([] : List (List Int))) (inner := []) (ok := fun _ => True) (okp := fun _ => True) ?hr ?hp (fun _ hk => hk) trivial (Below.refl _ _) (Nat.le_refl _) (by simp) ?_; (case hd => rfl); (case hg => rfl); (case hr => first | (go_simp; done) | (go_simp; rfl)); (case hp => exact (Reps.none _ _)); intro v176 w18 ho19 hb hg_ hnew_; clear hg_ hnew_; (first | rw [← Ny175.out] at ho19 | (simp only [Int.reduceToNat] at ho19; rw [← Ny175.out] at ho19)); have n0_ := Aside0.mk (Kd.S_lower (Kd.S_newM (M := fun k_ => (w.heap.size ≤ k_)) ho19 (below_size (by repeat (first | (with_reducible first | exact HB.out | apply below_alloc | apply pw_below_drewN | apply below_drew1) | exact HB.out))) (fun k_ h_ => h_)) (below_size (by repeat (first | (with_reducible first | exact HB.out | apply below_alloc | apply pw_below_drewN | apply below_drew1) | exact HB.out)))); have n1_ := Aside0.mk (below_step (by repeat (first | (with_reducible first | exact HB.out | apply below_alloc | apply pw_below_drewN | apply below_drew1) | exact HB.out)) hb); clear HB; have HO177 := n0_; have HB := n1_; clear n0_ n1_; clear hb ho19))
                go_ret2
                exact ⟨_, by first | rfl | (simp [errW_none, errW_some] <;> rfl) | (simp [*, errW_none, errW_some] <;> rfl), S_id0 (by (with_reducible repeat (first | apply Kd.S_alloc | apply Kd.S_drewN | apply Kd.S_drew)); exact Kd.S_mono HO177.out (fun _ hk => hk.1)), by repeat (first | (with_reducible first | exact HB.out | apply below_alloc | apply pw_below_drewN | apply below_drew1) | exact HB.out)⟩
              · rw [if_neg c17] at H
                have c17b0 : decide (x7_2 < 0) = false := decide_eq_false c17
                clear c17
                by_cases c20 : 0 ≤ x6_2
                · rw [if_pos c20] at H
                  have c20b0 : decide (0 ≤ x6_2) = true := decide_eq_true c20
                  clear c20
                  by_cases c21 : x6_2 < (l0.length : Int)
                  · rw [if_pos c21] at H
                    have c21b0 : decide (x6_2 < (l0.length : Int)) = true := decide_eq_true c21
                    clear c21
                    obtain ⟨y179, hy179⟩ : ∃ y_ : List Int, y_ = (([] : List Int)) := ⟨_, rfl⟩
                    replace H : (if 0 ≤ x7_2 then (if x7_2 < (l0.length : Int) then (if y179.length + (rd_L1 l0 x7_2).length < 17592186044416 then ((some (y179 ++ (rd_L1 l0 x7_2) : List Int)).bind fun y183 => ((spec_l5At.f k2 (rd_L1 l0 x6_2) a1).bind fun t186 => ((spec_l5At.f k2 y183 a1).bind fun t187 => (if 0 ≤ t187 then (if t187 < (y183.length : Int) then (if 0 ≤ t186 then (if t186 < ((rd_L1 l0 x6_2).length : Int) then (if (rd y183 t187) = (rd (rd_L1 l0 x6_2) t186) then ((spec_l2Inverse.f k2 y183).bind fun t190 => (spec_GluePolygons.j2 k2 l0 a1 x6_2 x7_2 (rd_L1 l0 x6_2) t190 t186)) else (spec_GluePolygons.j2 k2 l0 a1 x6_2 x7_2 (rd_L1 l0 x6_2) y183 t186)) else (none)) else (none)) else (none)) else (none))))) else (none)) else (none)) else (none)) = some (r1, r2) := by first | (rw [hy179]; with_reducible exact H) | (have H2_ := (Option.bind_some _ _).symm.trans H; rw [hy179]; with_reducible exact H2_) | (have H2_ := (Option.bind_some _ _).symm.trans H; with_reducible exact H2_) | with_reducible exact H | (rw [hy179]; exact H) | exact H
                    have Ny179 := Aside0.mk hy179
                    clear hy179
                    by_cases c22 : 0 ≤ x7_2
                    · rw [if_pos c22] at H
                      have c22b0 : decide (0 ≤ x7_2) = true := decide_eq_true c22
                      clear c22
                      by_cases c23 : x7_2 < (l0.length : Int)
                      · rw [if_pos c23] at H
                        have c23b0 : decide (x7_2 < (l0.length : Int)) = true := decide_eq_true c23
                        clear c23
                        by_cases c24 : y179.length + (rd_L1 l0 x7_2).length < 17592186044416
                        · rw [if_pos c24] at H
                          have LMc24 := Aside0.mk c24
                          clear c24
                          obtain ⟨y183, hy183⟩ : ∃ y_ : List Int, y_ = (y179 ++ (rd_L1 l0 x7_2)) := ⟨_, rfl⟩
                          replace H : ((spec_l5At.f k2 (rd_L1 l0 x6_2) a1).bind fun t186 => ((spec_l5At.f k2 y183 a1).bind fun t187 => (if 0 ≤ t187 then (if t187 < (y183.length : Int) then (if 0 ≤ t186 then (if t186 < ((rd_L1 l0 x6_2).length : Int) then (if (rd y183 t187) = (rd (rd_L1 l0 x6_2) t186) then ((spec_l2Inverse.f k2 y183).bind fun t190 => (spec_GluePolygons.j2 k2 l0 a1 x6_2 x7_2 (rd_L1 l0 x6_2) t190 t186)) else (spec_GluePolygons.j2 k2 l0 a1 x6_2 x7_2 (rd_L1 l0 x6_2) y183 t186)) else (none)) else (none)) else (none)) else (none)))) = some (r1, r2) := by first | (rw [hy183]; with_reducible exact H) | (have H2_ := (Option.bind_some _ _).symm.trans H; rw [hy183]; with_reducible exact H2_) | (have H2_ := (Option.bind_some _ _).symm.trans H; with_reducible exact H2_) | with_reducible exact H | (rw [hy183]; exact H) | exact H
                          have Ny183 := Aside0.mk hy183
                          clear hy183
                          replace H := Option.bind_eq_some_iff.mp H
                          obtain ⟨t186, A250, H⟩ := H
                          replace H : ((spec_l5At.f k2 y183 a1).bind fun t187 => (if 0 ≤ t187 then (if t187 < (y183.length : Int) then (if 0 ≤ t186 then (if t186 < ((rd_L1 l0 x6_2).length : Int) then (if (rd y183 t187) = (rd (rd_L1 l0 x6_2) t186) then ((spec_l2Inverse.f k2 y183).bind fun t190 => (spec_GluePolygons.j2 k2 l0 a1 x6_2 x7_2 (rd_L1 l0 x6_2) t190 t186)) else (spec_GluePolygons.j2 k2 l0 a1 x6_2 x7_2 (rd_L1 l0 x6_2) y183 t186)) else (none)) else (none)) else (none)) else (none))) = some (r1, r2) := H
                          have A25 := Aside0.mk A250
                          clear A250
                          replace H := Option.bind_eq_some_iff.mp H
                          obtain ⟨t187, A260, H⟩ := H
                          replace H : (if 0 ≤ t187 then (if t187 < (y183.length : Int) then (if 0 ≤ t186 then (if t186 < ((rd_L1 l0 x6_2).length : Int) then (if (rd y183 t187) = (rd (rd_L1 l0 x6_2) t186) then ((spec_l2Inverse.f k2 y183).bind fun t190 => (spec_GluePolygons.j2 k2 l0 a1 x6_2 x7_2 (rd_L1 l0 x6_2) t190 t186)) else (spec_GluePolygons.j2 k2 l0 a1 x6_2 x7_2 (rd_L1 l0 x6_2) y183 t186)) else (none)) else (none)) else (none)) else (none)) = some (r1, r2) := H
                          have A26 := Aside0.mk A260
                          clear A260
                          by_cases c27 : 0 ≤ t187
                          · rw [if_pos c27] at H
                            have c27b0 : decide (0 ≤ t187) = true := decide_eq_true c27
                            clear c27
                            by_cases c28 : t187 < (y183.length : Int)
                            · rw [if_pos c28] at H
                              have c28b0 : decide (t187 < (y183.length : Int)) = true := decide_eq_true c28
                              clear c28
                              by_cases c29 : 0 ≤ t186
                              · rw [if_pos c29] at H
                                have c29b0 : decide (0 ≤ t186) = true := decide_eq_true c29
                                clear c29
                                by_cases c30 : t186 < ((rd_L1 l0 x6_2).length : Int)
                                · rw [if_pos c30] at H
                                  have c30b0 : decide (t186 < ((rd_L1 l0 x6_2).length : Int)) = true := decide_eq_true c30
                                  clear c30
                                  have HC31 := Aside0.mk H
                                  clear H
                                  have p178 : 0 ≤ (x6_2 : Int) := of_decide_eq_true (by first | (with_reducible assumption) | assumption)
                                  have q178 : x6_2 < (l0.length : Int) := of_decide_eq_true (by first | (with_reducible assumption) | assumption)
                                  obtain ⟨ad178, A178_0, c178_0, e178, hx178_0, hl178_0, hi178_0⟩ := at_L1 HR0.out x6_2 p178 q178
                                  cases e178
                                  replace hx178_0 := (HB.out.cell (World.block_lt_of_cell? w _ hx178_0)).trans hx178_0
                                  have HR178_0 := Aside0.mk hi178_0
                                  have HC178_0 := Aside0.mk hl178_0
                                  clear hi178_0 hl178_0
                                  replace p178 := eq_true p178
                                  replace q178 := eq_true q178
                                  try go_wp2_with (first | ((with_reducible refine gate_dst (N := 51) rfl ?_); refine Kd.R_lit (Kd.int .i64) _ 3 ?hg (N := 51) ?hd (xs := ([] : List Int)) (inner := []) (ok := fun _ => True) (okp := fun _ => True) ?hr ?hp (fun _ hk => hk) trivial (Below.refl _ _) (Nat.le_refl _) (by simp) ?_; (case hd => rfl); (case hg => rfl); (case hr => first | (go_simp; done) | (go_simp; rfl)); (case hp => exact (Reps.none _ _)); intro v180 w32 ho33 hb hg_ hnew_; clear hg_ hnew_; (first | rw [← Ny179.out] at ho33 | (simp only [Int.reduceToNat] at ho33; rw [← Ny179.out] at ho33)); have n0_ := Aside0.mk (Kd.R_lower (Kd.R_newM (M := fun k_ => (w.heap.size ≤ k_)) ho33 (below_size (by repeat (first | (with_reducible first | exact HB.out | apply below_alloc | apply pw_below_drewN | apply below_drew1) | exact HB.out))) (fun k_ h_ => h_)) (below_size (by repeat (first | (with_reducible first | exact HB.out | apply below_alloc | apply pw_below_drewN | apply below_drew1) | exact HB.out)))); have n1_ := Aside0.mk (below_step (by repeat (first | (with_reducible first | exact HB.out | apply below_alloc | apply pw_below_drewN | apply below_drew1) | exact HB.out)) hb); clear HB; have HO181 := n0_; have HB := n1_; clear n0_ n1_; clear hb ho33; have p182 : 0 ≤ (x7_2 : Int) := of_decide_eq_true (by first | (with_reducible assumption) | assumption); have q182 : x7_2 < (l0.length : Int) := of_decide_eq_true (by first | (with_reducible assumption) | assumption); obtain ⟨ad182, A182_0, c182_0, e182, hx182_0, hl182_0, hi182_0⟩ := at_L1 HR0.out x7_2 p182 q182; obtain rfl : ad178 = ad182 := (by injection e182); replace hx182_0 := (HB.out.cell (World.block_lt_of_cell? w _ hx182_0)).trans hx182_0; have HR182_0 := Aside0.mk hi182_0; have HC182_0 := Aside0.mk hl182_0; clear hi182_0 hl182_0; replace p182 := eq_true p182; replace q182 := eq_true q182) | ((with_reducible refine gate_builtin (b := .append) (xs := #[.tmp 51, .tmp 55]) rfl ?_); at_builtin; refine Kd.R_append_rows (Kd.int .i64) (w0 := w) w.heap.size rfl (.tmp 51) (.tmp 55) 47 3 (.int .i64 0) 8 rfl Try.underlying47 info3 rfl (by decide) (by omega) v180 y179 (rd_L1 l0 x7_2) _ _ _ (fun k_ => (w.heap.size ≤ k_)) (fun _ => False) rfl rfl ?aO ?aR (fun _ _ h => h) (fun _ h => h.elim) ?aF ?aB ?aS ?aL ?_; (case aR => repeat (first | exact (Kd.C_below HR182_0.out HB.out) | (with_reducible refine Kd.C_alloc ?_ _) | (with_reducible refine Kd.C_drewN ?_ _) | (with_reducible refine Kd.C_drew ?_))); (case aB => exact (by repeat (first | (with_reducible first | exact HB.out | apply below_alloc | apply pw_below_drewN | apply below_drew1) | exact HB.out))); (case aF => exact (fun k_ hk => (Nat.le_trans (below_size (by repeat (first | (with_reducible first | exact HB.out | apply below_alloc | apply pw_below_drewN | apply below_drew1) | exact HB.out))) hk))); (case aO => exact (by (with_reducible repeat (first | apply Kd.R_alloc | apply Kd.R_drewN | apply Kd.R_drew)); exact Kd.R_mono HO181.out (fun _ hk => hk.1))); (case aS => exact (below_size (by repeat (first | (with_reducible first | exact HB.out | apply below_alloc | apply pw_below_drewN | apply below_drew1) | exact HB.out)))); (case aL => have := LMc24.out; omega); intro v184 w34 ho hb hg hat; rw [← Ny183.out] at ho; have n0_ := Aside0.mk (hb); have n1_ := Aside0.mk (ho); clear HB; clear HO181; have HB := n0_; have HO185 := n1_; clear n0_ n1_; clear ho hb hg hat) | ((with_reducible refine gate_callee (f := 78) rfl ?_); refine goesL_ (some 59) rfl rfl Try.func78 (by kernel_rfl) rfl #[.slice A178_0 (rd_L1 l0 x6_2).length c178_0, .int .i64 a1] rfl (by (try simp only [List.map_toArray, List.map_cons, List.map_nil]); first | done | rfl | (simp only [List.length_drop, List.length_take]; rfl)) ?_; (with_reducible refine (spec_l5At.calls k2 _ _ (rd_L1 l0 x6_2) a1 t186 _ ?side1 ?side2 A25.out).mono ?_); (case side1 => repeat (first | exact (Kd.C_below HR178_0.out HB.out) | (with_reducible refine Kd.C_alloc ?_ _) | (with_reducible refine Kd.C_drewN ?_ _) | (with_reducible refine Kd.C_drew ?_))); (case side2 => exact HC178_0.out); rintro e w' ⟨rfl, ⟨nd, rfl⟩⟩; refine ⟨_, rfl, ?_⟩))
                                  (try (rw [drewN_self w34]; generalize hq_ : World.drewN w34 _ = w34; have n0_ : Aside0 (Kd.R (Kd.int .i64) 3 w34 w.heap.size (fun k_ => (w.heap.size ≤ k_)) v184 y183) := ⟨by rw [← hq_]; exact (by (with_reducible repeat (first | apply Kd.R_alloc | apply Kd.R_drewN | apply Kd.R_drew)); exact HO185.out)⟩; have n1_ : Aside0 (Below w.heap.size w w34) := ⟨by rw [← hq_]; exact (by repeat (first | (with_reducible first | exact HB.out | apply below_alloc | apply pw_below_drewN | apply below_drew1) | exact HB.out))⟩; clear HO185 HB hq_; have HO185 := n0_; have HB := n1_; clear n0_ n1_))
                                  have n0_ := Aside0.mk (Kd.R_drew HO185.out)
                                  have n1_ := Aside0.mk (below_drew1 HB.out)
                                  clear HO185
                                  clear HB
                                  have HO185 := n0_
                                  have HB := n1_
                                  clear n0_ n1_
                                  have p189 : 0 ≤ (t186 : Int) := of_decide_eq_true (by first | (with_reducible assumption) | assumption)
                                  have q189 : t186 < ((rd_L1 l0 x6_2).length : Int) := of_decide_eq_true (by first | (with_reducible assumption) | assumption)
                                  obtain ⟨ad189, e189, hx189_0⟩ := Kd.at_int HR178_0.out t186 p189 q189
                                  have hw189_0 := hx189_0
                                  cases e189
                                  replace hx189_0 := (HB.out.cell (World.block_lt_of_cell? w _ hx189_0)).trans hx189_0
                                  replace p189 := eq_true p189
                                  replace q189 := eq_true q189
                                  obtain ⟨Ao36, co36, eo36⟩ := Kd.R_slice HO185.out
                                  (first | subst eo36 | (injection eo36 with f1_ f2_ f3_; have f4_ := f1_.symm; have f5_ := f3_.symm; clear f1_ f2_ f3_; subst f4_; subst f5_))
                                  have p188 : 0 ≤ (t187 : Int) := of_decide_eq_true (by first | (with_reducible assumption) | assumption)
                                  have q188 : t187 < (y183.length : Int) := of_decide_eq_true (by first | (with_reducible assumption) | assumption)
                                  obtain ⟨ad188, e188, hx188_0⟩ := Kd.at_int (Kd.R_reads' HO185.out).2.2 t187 p188 q188
                                  cases e188
                                  replace p188 := eq_true p188
                                  replace q188 := eq_true q188
                                  refine start_ (n := 11) (S := fun w' => w'.cell? (ad189.add (t186).toNat) = some (.int .i64 (rd (rd_L1 l0 x6_2) t186)) ∧ w'.cell? (ad188.add (t187).toNat) = some (.int .i64 (rd y183 t187))) (ds := []) #[false, false, false, false, false, false, false, false, false, false, false] (by kernel_rfl) rfl rfl ⟨((HB.out.cell (World.block_lt_of_cell? w _ hw189_0)).trans hw189_0), hx188_0⟩ (fun hHeld => ?_); refine with_tabW spec_GluePolygons.tab17 spec_GluePolygons.bits17 (fun HT_ HW_ => ?_)
                                  generalize w34.drew = w35 at HO185 HB hx188_0 hx189_0 hHeld ⊢
                                  refine pure_ (i := 0) (N := some 60) (v := ?_) (a' := ?_) #[true, false, false, false, false, false, false, false, false, false, false] rfl rfl (any_of HT_.out (by kernel_rfl)) (fun _ _ _ h => h) (Or.inl ⟨by rfl, ?_⟩) ?_ ?_
                                  rotate_left
                                  · intro w'
                                    go_simp
                                    with_reducible rfl
                                  rotate_left
                                  · simp only [Act.put, List.setIfInBounds_toArray, List.set_cons_zero, List.set_cons_succ, i64_w, i32_w]
                                    rfl
                                  refine pure_ (i := 1) (N := some 61) (v := ?_) (a' := ?_) #[true, true, false, false, false, false, false, false, false, false, false] rfl rfl (any_of HT_.out (by kernel_rfl)) (fun _ _ _ h => h) (Or.inl ⟨by rfl, ?_⟩) ?_ ?_
                                  rotate_left
                                  · intro w'
                                    go_simp
                                    with_reducible rfl
                                  rotate_left
                                  · simp only [Act.put, List.setIfInBounds_toArray, List.set_cons_zero, List.set_cons_succ, i64_w, i32_w]
                                    rfl
                                  refine pure_ (i := 2) (N := some 62) (v := ?_) (a' := ?_) #[true, true, true, false, false, false, false, false, false, false, false] rfl rfl (any_of HT_.out (by kernel_rfl)) (fun _ _ _ h => h) (Or.inl ⟨by rfl, ?_⟩) ?_ ?_
                                  rotate_left
                                  · intro w'
                                    go_simp
                                    with_reducible rfl
                                  rotate_left
                                  · simp only [Act.put, List.setIfInBounds_toArray, List.set_cons_zero, List.set_cons_succ, i64_w, i32_w]
                                    rfl
                                  refine pure_ (i := 6) (N := some 66) (v := ?_) (a' := ?_) #[true, true, true, false, false, false, true, false, false, false, false] rfl rfl (any_of HT_.out (by kernel_rfl)) (fun _ _ _ h => h) (Or.inl ⟨by rfl, ?_⟩) ?_ ?_
                                  rotate_left
                                  · intro w'
                                    go_simp
                                    with_reducible rfl
                                  rotate_left
                                  · simp only [Act.put, List.setIfInBounds_toArray, List.set_cons_zero, List.set_cons_succ, i64_w, i32_w]
                                    rfl
                                  refine pure_ (i := 7) (N := some 67) (v := ?_) (a' := ?_) #[true, true, true, false, false, false, true, true, false, false, false] rfl rfl (any_of HT_.out (by kernel_rfl)) (fun _ _ _ h => h) (Or.inl ⟨by rfl, ?_⟩) ?_ ?_
                                  rotate_left
                                  · intro w'
                                    go_simp
                                    with_reducible rfl
                                  rotate_left
                                  · simp only [Act.put, List.setIfInBounds_toArray, List.set_cons_zero, List.set_cons_succ, i64_w, i32_w]
                                    rfl
                                  refine pure_ (i := 8) (N := some 68) (v := ?_) (a' := ?_) #[true, true, true, false, false, false, true, true, true, false, false] rfl rfl (any_of HT_.out (by kernel_rfl)) (fun _ _ _ h => h) (Or.inl ⟨by rfl, ?_⟩) ?_ ?_
                                  rotate_left
                                  · intro w'
                                    go_simp
                                    with_reducible rfl
                                  rotate_left
                                  · simp only [Act.put, List.setIfInBounds_toArray, List.set_cons_zero, List.set_cons_succ, i64_w, i32_w]
                                    rfl
                                  refine take_ (i := 9) (N := some 69) (v := ?_) (a' := ?_) #[true, true, true, false, false, false, true, true, true, true, false] rfl rfl (take_ofW HT_.out HW_.out (by kernel_rfl)) (fun _ _ _ h => h) (Or.inl ⟨by rfl, ?_⟩) hHeld ?_ ?_
                                  rotate_left
                                  · rintro w' ⟨s0, s1⟩
                                    go_simp
                                    with_reducible rfl
                                  rotate_left
                                  · simp only [Act.put, List.setIfInBounds_toArray, List.set_cons_zero, List.set_cons_succ, i64_w, i32_w]
                                    rfl
                                  refine one_ (i := 3) (N := some 63) #[true, true, true, true, false, false, true, true, true, true, false] rfl rfl (one_of HT_.out (by kernel_rfl)) (by decide) (fun K hK => ?_)
                                  refine goes_ Try.func78 (by kernel_rfl) rfl #[.slice (some ad188) y183.length co36, .int .i64 a1] (by rfl) rfl rfl (by (try simp only [List.map_toArray, List.map_cons, List.map_nil]); first | done | rfl | (simp only [List.length_drop, List.length_take]; rfl)) ?_
                                  with_reducible refine (spec_l5At.calls k2 _ _ y183 a1 t187 _ ?side1 ?side2 A26.out).mono ?_
                                  (case side1 => repeat (first | exact (Kd.R_reads' HO185.out).2.2 | (with_reducible refine Kd.C_alloc ?_ _) | (with_reducible refine Kd.C_drewN ?_ _) | (with_reducible refine Kd.C_drew ?_)))
                                  (case side2 => exact (Kd.R_reads' HO185.out).2.1)
                                  rintro e w' ⟨rfl, ⟨nd, rfl⟩⟩
                                  refine ⟨_, rfl, ?_⟩
                                  refine hK.out _ _ ⟨((HB.out.cell (World.block_lt_of_cell? w _ hw189_0)).trans hw189_0), hHeld.2⟩ (fun hHeld => ?_)
                                  clear hK K
                                  refine norm_ (a' := ?_) ?_ ?_
                                  rotate_left
                                  · show Act.put _ (some 63) _ = _
                                    simp only [Act.put, List.setIfInBounds_toArray, List.set_cons_zero, List.set_cons_succ, i64_w, i32_w]
                                    rfl
                                  refine pure_ (i := 4) (N := some 64) (v := ?_) (a' := ?_) #[true, true, true, true, true, false, true, true, true, true, false] rfl rfl (any_of HT_.out (by kernel_rfl)) (fun _ _ _ h => h) (Or.inl ⟨by rfl, ?_⟩) ?_ ?_
                                  rotate_left
                                  · intro w'
                                    go_simp
                                    with_reducible rfl
                                  rotate_left
                                  · simp only [Act.put, List.setIfInBounds_toArray, List.set_cons_zero, List.set_cons_succ, i64_w, i32_w]
                                    rfl
                                  refine take_ (i := 5) (N := some 65) (v := ?_) (a' := ?_) #[true, true, true, true, true, true, true, true, true, true, false] rfl rfl (take_ofW HT_.out HW_.out (by kernel_rfl)) (fun _ _ _ h => h) (Or.inl ⟨by rfl, ?_⟩) hHeld ?_ ?_
                                  rotate_left
                                  · rintro w' ⟨s0, s1⟩
                                    go_simp
                                    with_reducible rfl
                                  rotate_left
                                  · simp only [Act.put, List.setIfInBounds_toArray, List.set_cons_zero, List.set_cons_succ, i64_w, i32_w]
                                    rfl
                                  refine pure_ (i := 10) (N := some 70) (v := ?_) (a' := ?_) #[true, true, true, true, true, true, true, true, true, true, true] rfl rfl (any_of HT_.out (by kernel_rfl)) (fun _ _ _ h => h) (Or.inl ⟨by rfl, ?_⟩) ?_ ?_
                                  rotate_left
                                  · intro w'
                                    go_simp
                                    with_reducible rfl
                                  rotate_left
                                  · simp only [Act.put, List.setIfInBounds_toArray, List.set_cons_zero, List.set_cons_succ, i64_w, i32_w]
                                    rfl
                                  refine done_ (done_of HT_.out (by kernel_rfl)) ?_
                                  go_upto_if 70 with (fail)
                                  go_cut [10] (fun v10 wc => ∃ (kq : Nat) (x10_30 : List Int), Aside0 (spec_GluePolygons.j2 kq l0 a1 x6_2 x7_2 (rd_L1 l0 x6_2) x10_30 t186 = some (r1, r2)) ∧ Aside0 (kq ≤ k2) ∧ Aside0 (Kd.R (Kd.int .i64) 3 wc w.heap.size (fun k_ => (w.heap.size ≤ k_)) v10 x10_30) ∧ Aside0 (Below w.heap.size w wc))
                                  case first =>
                                    have H := HC31.out
                                    clear HC31
                                    by_cases c37 : (rd y183 t187) = (rd (rd_L1 l0 x6_2) t186)
                                    · rw [if_pos c37] at H
                                      have c37b0 : ((rd y183 t187) == (rd (rd_L1 l0 x6_2) t186)) = true := beq_iff_eq.mpr c37
                                      have c37b1 : ((rd y183 t187) != (rd (rd_L1 l0 x6_2) t186)) = false := bne_eq_false_iff_eq.mpr c37
                                      clear c37
                                      (first | rw [c37b0] | (simp only [i64_w, i32_w]; rw [c37b0]) | skip)
                                      replace H := Option.bind_eq_some_iff.mp H
                                      obtain ⟨t190, A380, H⟩ := H
                                      replace H : (spec_GluePolygons.j2 k2 l0 a1 x6_2 x7_2 (rd_L1 l0 x6_2) t190 t186) = some (r1, r2) := H
                                      have A38 := Aside0.mk A380
                                      clear A380
                                      have H' := Aside0.mk H
                                      clear H
                                      go_wp2_with (first | ((with_reducible refine gate_callee (f := 55) rfl ?_); refine goesL_ (some 72) rfl rfl Try.func55 (by kernel_rfl) rfl #[.slice (some ad188) y183.length co36] rfl (by (try simp only [List.map_toArray, List.map_cons, List.map_nil]); first | done | rfl | (simp only [List.length_drop, List.length_take]; rfl)) ?_; (with_reducible refine (spec_l2Inverse.calls k2 _ _ y183 t190 _ ?side1 ?side2 A38.out).mono ?_); (case side1 => repeat (first | exact (Kd.R_reads' HO185.out).2.2 | (with_reducible refine Kd.C_alloc ?_ _) | (with_reducible refine Kd.C_drewN ?_ _) | (with_reducible refine Kd.C_drew ?_))); (case side2 => exact (Kd.R_reads' HO185.out).2.1); rintro e w39 ⟨v191, rfl, ho0, hb⟩; refine ⟨_, rfl, ?_⟩; have n0_ := Aside0.mk (Kd.R_elder' (by (with_reducible repeat (first | apply Kd.R_alloc | apply Kd.R_drewN | apply Kd.R_drew)); exact HO185.out) (Kd.R_base ho0) hb); have n1_ := Aside0.mk (Kd.R_lower (Kd.R_new' (Kd.R_newM (M := fun k_ => (w.heap.size ≤ k_)) ho0 (below_size (by repeat (first | (with_reducible first | exact HB.out | apply below_alloc | apply pw_below_drewN | apply below_drew1) | exact HB.out))) (fun k_ h_ => h_)) (Kd.R_lt (by (with_reducible repeat (first | apply Kd.R_alloc | apply Kd.R_drewN | apply Kd.R_drew)); exact HO185.out))) (below_size (by repeat (first | (with_reducible first | exact HB.out | apply below_alloc | apply pw_below_drewN | apply below_drew1) | exact HB.out)))); have n2_ := Aside0.mk (below_step (by repeat (first | (with_reducible first | exact HB.out | apply below_alloc | apply pw_below_drewN | apply below_drew1) | exact HB.out)) hb); clear HO185; clear HB; have HO185 := n0_; have HO192 := n1_; have HB := n2_; clear n0_ n1_ n2_; (try clear hb); (try clear hb2); (try clear hk); (try clear hi); (try clear ho0)))
                                      go_meet
                                      case rel => exact ⟨_, (t190), H', ⟨by have := HJ2.out; have := HK2.out; first | omega | exact Nat.le_refl _⟩, ⟨by (with_reducible repeat (first | apply Kd.R_alloc | apply Kd.R_drewN | apply Kd.R_drew)); exact Kd.R_mono HO192.out (fun _ hk => hk.1.1)⟩, ⟨by repeat (first | (with_reducible first | exact HB.out | apply below_alloc | apply pw_below_drewN | apply below_drew1) | exact HB.out)⟩⟩
                                    · rw [if_neg c37] at H
                                      have c37b0 : ((rd y183 t187) == (rd (rd_L1 l0 x6_2) t186)) = false := beq_eq_false_iff_ne.mpr c37
                                      have c37b1 : ((rd y183 t187) != (rd (rd_L1 l0 x6_2) t186)) = true := bne_iff_ne.mpr c37
                                      (first | rw [c37b0] | (simp only [i64_w, i32_w]; rw [c37b0]) | skip)
                                      have H' := Aside0.mk H
                                      clear H
                                      go_wp2
                                      go_meet
                                      case rel => exact ⟨_, (y183), H', ⟨by have := HJ2.out; have := HK2.out; first | omega | exact Nat.le_refl _⟩, ⟨by (with_reducible repeat (first | apply Kd.R_alloc | apply Kd.R_drewN | apply Kd.R_drew)); exact HO185.out⟩, ⟨by repeat (first | (with_reducible first | exact HB.out | apply below_alloc | apply pw_below_drewN | apply below_drew1) | exact HB.out)⟩⟩
                                  case rest =>
                                    clear HC31
                                    try clear c1
                                    try clear p1
                                    try clear q1
                                    try clear hx1
                                    try clear c2
                                    try clear p2
                                    try clear c3
                                    try clear c5
                                    try clear p6
                                    try clear c7
                                    try clear c9
                                    try clear c12
                                    try clear c12b0
                                    try clear c13
                                    try clear c13b0
                                    try clear c15
                                    try clear c15b0
                                    try clear c15b1
                                    try clear c16
                                    try clear c16b0
                                    try clear c17
                                    try clear c17b0
                                    try clear p17
                                    try clear q17
                                    try clear hx17
                                    try clear c18
                                    try clear p18
                                    try clear q18
                                    try clear hx18
                                    try clear c20
                                    try clear c20b0
                                    try clear c21
                                    try clear c21b0
                                    try clear c22
                                    try clear c22b0
                                    try clear c23
                                    try clear c23b0
                                    try clear c24
                                    try clear c27
                                    try clear c27b0
                                    try clear c28
                                    try clear c28b0
                                    try clear c29
                                    try clear c29b0
                                    try clear c30
                                    try clear c30b0
                                    try clear c37
                                    try clear c37b0
                                    try clear c37b1
                                    try clear hx173_0
                                    try clear hx178_0
                                    try clear hx182_0
                                    try clear hx188_0
                                    try clear hx189_0
                                    try clear p173
                                    try clear p178
                                    try clear p182
                                    try clear p188
                                    try clear p189
                                    try clear p2
                                    try clear q173
                                    try clear q178
                                    try clear q182
                                    try clear q188
                                    try clear q189
                                    obtain ⟨kq, x10_30, HA, HJ30, HO_10, HB⟩ := hcut
                                    cases kq with
                                    | zero => exact absurd HA.out (by simp [spec_GluePolygons.j2])
                                    | succ kj30 =>
                                      have H := HA.out
                                      clear HA
                                      simp only [spec_GluePolygons.j2] at H
                                      replace H := Option.bind_eq_some_iff.mp H
                                      obtain ⟨t193, A400, H⟩ := H
                                      replace H : ((some (([] : List Int) : List Int)).bind fun y194 => (if 0 ≤ t186 then (if t186 ≤ ((rd_L1 l0 x6_2).length : Int) then (if y194.length + ((rd_L1 l0 x6_2).take (t186 : Int).toNat).length < 17592186044416 then ((some (y194 ++ ((rd_L1 l0 x6_2).take (t186 : Int).toNat) : List Int)).bind fun y198 => (if 0 ≤ (wrap64 (t193 + 1)) then (if (wrap64 (t193 + 1)) ≤ (x10_30.length : Int) then ((some (x10_30.drop ((wrap64 (t193 + 1)) : Int).toNat : List Int)).bind fun y201 => (if y198.length + y201.length < 17592186044416 then ((some (y198 ++ y201 : List Int)).bind fun y205 => (if 0 ≤ t193 then (if t193 ≤ (x10_30.length : Int) then ((some (x10_30.take (t193 : Int).toNat : List Int)).bind fun y208 => (if y205.length + y208.length < 17592186044416 then ((some (y205 ++ y208 : List Int)).bind fun y212 => (if 0 ≤ (wrap64 (t186 + 1)) then (if (wrap64 (t186 + 1)) ≤ ((rd_L1 l0 x6_2).length : Int) then (if y212.length + ((rd_L1 l0 x6_2).drop ((wrap64 (t186 + 1)) : Int).toNat).length < 17592186044416 then ((some (y212 ++ ((rd_L1 l0 x6_2).drop ((wrap64 (t186 + 1)) : Int).toNat) : List Int)).bind fun y216 => (if (y216.length : Int) = 0 then (some ((([] : List (List Int))), false)) else (spec_GluePolygons.l1 kj30 l0 x6_2 x7_2 y216 (([] : List (List Int))) 0))) else (none)) else (none)) else (none))) else (none))) else (none)) else (none))) else (none))) else (none)) else (none))) else (none)) else (none)) else (none))) = some (r1, r2) := H
                                      have A40 := Aside0.mk A400
                                      clear A400
                                      obtain ⟨y194, hy194⟩ : ∃ y_ : List Int, y_ = (([] : List Int)) := ⟨_, rfl⟩
                                      replace H : (if 0 ≤ t186 then (if t186 ≤ ((rd_L1 l0 x6_2).length : Int) then (if y194.length + ((rd_L1 l0 x6_2).take (t186 : Int).toNat).length < 17592186044416 then ((some (y194 ++ ((rd_L1 l0 x6_2).take (t186 : Int).toNat) : List Int)).bind fun y198 => (if 0 ≤ (wrap64 (t193 + 1)) then (if (wrap64 (t193 + 1)) ≤ (x10_30.length : Int) then ((some (x10_30.drop ((wrap64 (t193 + 1)) : Int).toNat : List Int)).bind fun y201 => (if y198.length + y201.length < 17592186044416 then ((some (y198 ++ y201 : List Int)).bind fun y205 => (if 0 ≤ t193 then (if t193 ≤ (x10_30.length : Int) then ((some (x10_30.take (t193 : Int).toNat : List Int)).bind fun y208 => (if y205.length + y208.length < 17592186044416 then ((some (y205 ++ y208 : List Int)).bind fun y212 => (if 0 ≤ (wrap64 (t186 + 1)) then (if (wrap64 (t186 + 1)) ≤ ((rd_L1 l0 x6_2).length : Int) then (if y212.length + ((rd_L1 l0 x6_2).drop ((wrap64 (t186 + 1)) : Int).toNat).length < 17592186044416 then ((some (y212 ++ ((rd_L1 l0 x6_2).drop ((wrap64 (t186 + 1)) : Int).toNat) : List Int)).bind fun y216 => (if (y216.length : Int) = 0 then (some ((([] : List (List Int))), false)) else (spec_GluePolygons.l1 kj30 l0 x6_2 x7_2 y216 (([] : List (List Int))) 0))) else (none)) else (none)) else (none))) else (none))) else (none)) else (none))) else (none))) else (none)) else (none))) else (none)) else (none)) else (none)) = some (r1, r2) := by first | (rw [hy194]; with_reducible exact H) | (have H2_ := (Option.bind_some _ _).symm.trans H; rw [hy194]; with_reducible exact H2_) | (have H2_ := (Option.bind_some _ _).symm.trans H; with_reducible exact H2_) | with_reducible exact H | (rw [hy194]; exact H) | exact H
                                      have Ny194 := Aside0.mk hy194
                                      clear hy194
                                      by_cases c41 : 0 ≤ t186
                                      · rw [if_pos c41] at H
                                        have c41b0 := eq_true c41
                                        have c41b1 : decide (0 ≤ t186) = true := decide_eq_true c41
                                        clear c41
                                        by_cases c42 : t186 ≤ ((rd_L1 l0 x6_2).length : Int)
                                        · rw [if_pos c42] at H
                                          have c42b0 := eq_true c42
                                          have c42b1 : decide (t186 ≤ ((rd_L1 l0 x6_2).length : Int)) = true := decide_eq_true c42
                                          clear c42
                                          by_cases c43 : y194.length + ((rd_L1 l0 x6_2).take (t186 : Int).toNat).length < 17592186044416
                                          · rw [if_pos c43] at H
                                            have LMc43 := Aside0.mk c43
                                            clear c43
                                            obtain ⟨y198, hy198⟩ : ∃ y_ : List Int, y_ = (y194 ++ ((rd_L1 l0 x6_2).take (t186 : Int).toNat)) := ⟨_, rfl⟩
                                            replace H : (if 0 ≤ (wrap64 (t193 + 1)) then (if (wrap64 (t193 + 1)) ≤ (x10_30.length : Int) then ((some (x10_30.drop ((wrap64 (t193 + 1)) : Int).toNat : List Int)).bind fun y201 => (if y198.length + y201.length < 17592186044416 then ((some (y198 ++ y201 : List Int)).bind fun y205 => (if 0 ≤ t193 then (if t193 ≤ (x10_30.length : Int) then ((some (x10_30.take (t193 : Int).toNat : List Int)).bind fun y208 => (if y205.length + y208.length < 17592186044416 then ((some (y205 ++ y208 : List Int)).bind fun y212 => (if 0 ≤ (wrap64 (t186 + 1)) then (if (wrap64 (t186 + 1)) ≤ ((rd_L1 l0 x6_2).length : Int) then (if y212.length + ((rd_L1 l0 x6_2).drop ((wrap64 (t186 + 1)) : Int).toNat).length < 17592186044416 then ((some (y212 ++ ((rd_L1 l0 x6_2).drop ((wrap64 (t186 + 1)) : Int).toNat) : List Int)).bind fun y216 => (if (y216.length : Int) = 0 then (some ((([] : List (List Int))), false)) else (spec_GluePolygons.l1 kj30 l0 x6_2 x7_2 y216 (([] : List (List Int))) 0))) else (none)) else (none)) else (none))) else (none))) else (none)) else (none))) else (none))) else (none)) else (none)) = some (r1, r2) := by first | (rw [hy198]; with_reducible exact H) | (have H2_ := (Option.bind_some _ _).symm.trans H; rw [hy198]; with_reducible exact H2_) | (have H2_ := (Option.bind_some _ _).symm.trans H; with_reducible exact H2_) | with_reducible exact H | (rw [hy198]; exact H) | exact H
                                            have Ny198 := Aside0.mk hy198
                                            clear hy198
                                            obtain ⟨ji44, hji44⟩ : ∃ j_ : Int, (wrap64 (t193 + 1)) = j_ := ⟨_, rfl⟩
                                            replace H : (if 0 ≤ (ji44) then (if (ji44) ≤ (x10_30.length : Int) then ((some (x10_30.drop ((ji44) : Int).toNat : List Int)).bind fun y201 => (if y198.length + y201.length < 17592186044416 then ((some (y198 ++ y201 : List Int)).bind fun y205 => (if 0 ≤ t193 then (if t193 ≤ (x10_30.length : Int) then ((some (x10_30.take (t193 : Int).toNat : List Int)).bind fun y208 => (if y205.length + y208.length < 17592186044416 then ((some (y205 ++ y208 : List Int)).bind fun y212 => (if 0 ≤ (wrap64 (t186 + 1)) then (if (wrap64 (t186 + 1)) ≤ ((rd_L1 l0 x6_2).length : Int) then (if y212.length + ((rd_L1 l0 x6_2).drop ((wrap64 (t186 + 1)) : Int).toNat).length < 17592186044416 then ((some (y212 ++ ((rd_L1 l0 x6_2).drop ((wrap64 (t186 + 1)) : Int).toNat) : List Int)).bind fun y216 => (if (y216.length : Int) = 0 then (some ((([] : List (List Int))), false)) else (spec_GluePolygons.l1 kj30 l0 x6_2 x7_2 y216 (([] : List (List Int))) 0))) else (none)) else (none)) else (none))) else (none))) else (none)) else (none))) else (none))) else (none)) else (none)) = some (r1, r2) := by first | (rw [hji44] at H; exact H) | (simp only [hji44] at H ⊢; exact H)
                                            (try rw [hji44] at A40)
                                            have hji44w : (IntKind.i64.wrap (t193 + 1)) = ji44 := (i64_w _).trans hji44
                                            by_cases c45 : 0 ≤ (ji44)
                                            · rw [if_pos c45] at H
                                              have c45b0 := eq_true c45
                                              have c45b1 : decide (0 ≤ (ji44)) = true := decide_eq_true c45
                                              clear c45
                                              by_cases c46 : (ji44) ≤ (x10_30.length : Int)
                                              · rw [if_pos c46] at H
                                                have c46b0 := eq_true c46
                                                have c46b1 : decide ((ji44) ≤ (x10_30.length : Int)) = true := decide_eq_true c46
                                                clear c46
                                                obtain ⟨y201, hy201⟩ : ∃ y_ : List Int, y_ = (x10_30.drop ((ji44) : Int).toNat) := ⟨_, rfl⟩
                                                replace H : (if y198.length + y201.length < 17592186044416 then ((some (y198 ++ y201 : List Int)).bind fun y205 => (if 0 ≤ t193 then (if t193 ≤ (x10_30.length : Int) then ((some (x10_30.take (t193 : Int).toNat : List Int)).bind fun y208 => (if y205.length + y208.length < 17592186044416 then ((some (y205 ++ y208 : List Int)).bind fun y212 => (if 0 ≤ (wrap64 (t186 + 1)) then (if (wrap64 (t186 + 1)) ≤ ((rd_L1 l0 x6_2).length : Int) then (if y212.length + ((rd_L1 l0 x6_2).drop ((wrap64 (t186 + 1)) : Int).toNat).length < 17592186044416 then ((some (y212 ++ ((rd_L1 l0 x6_2).drop ((wrap64 (t186 + 1)) : Int).toNat) : List Int)).bind fun y216 => (if (y216.length : Int) = 0 then (some ((([] : List (List Int))), false)) else (spec_GluePolygons.l1 kj30 l0 x6_2 x7_2 y216 (([] : List (List Int))) 0))) else (none)) else (none)) else (none))) else (none))) else (none)) else (none))) else (none)) = some (r1, r2) := by first | (rw [hy201]; with_reducible exact H) | (have H2_ := (Option.bind_some _ _).symm.trans H; rw [hy201]; with_reducible exact H2_) | (have H2_ := (Option.bind_some _ _).symm.trans H; with_reducible exact H2_) | with_reducible exact H | (rw [hy201]; exact H) | exact H
                                                have Ny201 := Aside0.mk hy201
                                                clear hy201
                                                by_cases c47 : y198.length + y201.length < 17592186044416
                                                · rw [if_pos c47] at H
                                                  have LMc47 := Aside0.mk c47
                                                  clear c47
                                                  obtain ⟨y205, hy205⟩ : ∃ y_ : List Int, y_ = (y198 ++ y201) := ⟨_, rfl⟩
                                                  replace H : (if 0 ≤ t193 then (if t193 ≤ (x10_30.length : Int) then ((some (x10_30.take (t193 : Int).toNat : List Int)).bind fun y208 => (if y205.length + y208.length < 17592186044416 then ((some (y205 ++ y208 : List Int)).bind fun y212 => (if 0 ≤ (wrap64 (t186 + 1)) then (if (wrap64 (t186 + 1)) ≤ ((rd_L1 l0 x6_2).length : Int) then (if y212.length + ((rd_L1 l0 x6_2).drop ((wrap64 (t186 + 1)) : Int).toNat).length < 17592186044416 then ((some (y212 ++ ((rd_L1 l0 x6_2).drop ((wrap64 (t186 + 1)) : Int).toNat) : List Int)).bind fun y216 => (if (y216.length : Int) = 0 then (some ((([] : List (List Int))), false)) else (spec_GluePolygons.l1 kj30 l0 x6_2 x7_2 y216 (([] : List (List Int))) 0))) else (none)) else (none)) else (none))) else (none))) else (none)) else (none)) = some (r1, r2) := by first | (rw [hy205]; with_reducible exact H) | (have H2_ := (Option.bind_some _ _).symm.trans H; rw [hy205]; with_reducible exact H2_) | (have H2_ := (Option.bind_some _ _).symm.trans H; with_reducible exact H2_) | with_reducible exact H | (rw [hy205]; exact H) | exact H
                                                  have Ny205 := Aside0.mk hy205
                                                  clear hy205
                                                  by_cases c48 : 0 ≤ t193
                                                  · rw [if_pos c48] at H
                                                    have c48b0 := eq_true c48
                                                    have c48b1 : decide (0 ≤ t193) = true := decide_eq_true c48
                                                    clear c48
                                                    by_cases c49 : t193 ≤ (x10_30.length : Int)
                                                    · rw [if_pos c49] at H
                                                      have c49b0 := eq_true c49
                                                      have c49b1 : decide (t193 ≤ (x10_30.length : Int)) = true := decide_eq_true c49
                                                      clear c49
                                                      obtain ⟨y208, hy208⟩ : ∃ y_ : List Int, y_ = (x10_30.take (t193 : Int).toNat) := ⟨_, rfl⟩
                                                      replace H : (if y205.length + y208.length < 17592186044416 then ((some (y205 ++ y208 : List Int)).bind fun y212 => (if 0 ≤ (wrap64 (t186 + 1)) then (if (wrap64 (t186 + 1)) ≤ ((rd_L1 l0 x6_2).length : Int) then (if y212.length + ((rd_L1 l0 x6_2).drop ((wrap64 (t186 + 1)) : Int).toNat).length < 17592186044416 then ((some (y212 ++ ((rd_L1 l0 x6_2).drop ((wrap64 (t186 + 1)) : Int).toNat) : List Int)).bind fun y216 => (if (y216.length : Int) = 0 then (some ((([] : List (List Int))), false)) else (spec_GluePolygons.l1 kj30 l0 x6_2 x7_2 y216 (([] : List (List Int))) 0))) else (none)) else (none)) else (none))) else (none)) = some (r1, r2) := by first | (rw [hy208]; with_reducible exact H) | (have H2_ := (Option.bind_some _ _).symm.trans H; rw [hy208]; with_reducible exact H2_) | (have H2_ := (Option.bind_some _ _).symm.trans H; with_reducible exact H2_) | with_reducible exact H | (rw [hy208]; exact H) | exact H
                                                      have Ny208 := Aside0.mk hy208
                                                      clear hy208
                                                      by_cases c50 : y205.length + y208.length < 17592186044416
                                                      · rw [if_pos c50] at H
                                                        have LMc50 := Aside0.mk c50
                                                        clear c50
                                                        obtain ⟨y212, hy212⟩ : ∃ y_ : List Int, y_ = (y205 ++ y208) := ⟨_, rfl⟩
                                                        replace H : (if 0 ≤ (wrap64 (t186 + 1)) then (if (wrap64 (t186 + 1)) ≤ ((rd_L1 l0 x6_2).length : Int) then (if y212.length + ((rd_L1 l0 x6_2).drop ((wrap64 (t186 + 1)) : Int).toNat).length < 17592186044416 then ((some (y212 ++ ((rd_L1 l0 x6_2).drop ((wrap64 (t186 + 1)) : Int).toNat) : List Int)).bind fun y216 => (if (y216.length : Int) = 0 then (some ((([] : List (List Int))), false)) else (spec_GluePolygons.l1 kj30 l0 x6_2 x7_2 y216 (([] : List (List Int))) 0))) else (none)) else (none)) else (none)) = some (r1, r2) := by first | (rw [hy212]; with_reducible exact H) | (have H2_ := (Option.bind_some _ _).symm.trans H; rw [hy212]; with_reducible exact H2_) | (have H2_ := (Option.bind_some _ _).symm.trans H; with_reducible exact H2_) | with_reducible exact H | (rw [hy212]; exact H) | exact H
                                                        have Ny212 := Aside0.mk hy212
                                                        clear hy212
                                                        obtain ⟨ji51, hji51⟩ : ∃ j_ : Int, (wrap64 (t186 + 1)) = j_ := ⟨_, rfl⟩
                                                        replace H : (if 0 ≤ (ji51) then (if (ji51) ≤ ((rd_L1 l0 x6_2).length : Int) then (if y212.length + ((rd_L1 l0 x6_2).drop ((ji51) : Int).toNat).length < 17592186044416 then ((some (y212 ++ ((rd_L1 l0 x6_2).drop ((ji51) : Int).toNat) : List Int)).bind fun y216 => (if (y216.length : Int) = 0 then (some ((([] : List (List Int))), false)) else (spec_GluePolygons.l1 kj30 l0 x6_2 x7_2 y216 (([] : List (List Int))) 0))) else (none)) else (none)) else (none)) = some (r1, r2) := by first | (rw [hji51] at H; exact H) | (simp only [hji51] at H ⊢; exact H)
                                                        (try rw [hji51] at A40)
                                                        have hji51w : (IntKind.i64.wrap (t186 + 1)) = ji51 := (i64_w _).trans hji51
                                                        by_cases c52 : 0 ≤ (ji51)
                                                        · rw [if_pos c52] at H
                                                          have c52b0 := eq_true c52
                                                          have c52b1 : decide (0 ≤ (ji51)) = true := decide_eq_true c52
                                                          clear c52
                                                          by_cases c53 : (ji51) ≤ ((rd_L1 l0 x6_2).length : Int)
                                                          · rw [if_pos c53] at H
                                                            have c53b0 := eq_true c53
                                                            have c53b1 : decide ((ji51) ≤ ((rd_L1 l0 x6_2).length : Int)) = true := decide_eq_true c53
                                                            clear c53
                                                            by_cases c54 : y212.length + ((rd_L1 l0 x6_2).drop ((ji51) : Int).toNat).length < 17592186044416
                                                            · rw [if_pos c54] at H
                                                              have LMc54 := Aside0.mk c54
                                                              clear c54
                                                              obtain ⟨y216, hy216⟩ : ∃ y_ : List Int, y_ = (y212 ++ ((rd_L1 l0 x6_2).drop ((ji51) : Int).toNat)) := ⟨_, rfl⟩
                                                              replace H : (if (y216.length : Int) = 0 then (some ((([] : List (List Int))), false)) else (spec_GluePolygons.l1 kj30 l0 x6_2 x7_2 y216 (([] : List (List Int))) 0)) = some (r1, r2) := by first | (rw [hy216]; with_reducible exact H) | (have H2_ := (Option.bind_some _ _).symm.trans H; rw [hy216]; with_reducible exact H2_) | (have H2_ := (Option.bind_some _ _).symm.trans H; with_reducible exact H2_) | with_reducible exact H | (rw [hy216]; exact H) | exact H
                                                              have Ny216 := Aside0.mk hy216
                                                              clear hy216
                                                              by_cases c55 : (y216.length : Int) = 0
                                                              · rw [if_pos c55] at H
                                                                have c55b0 : ((y216.length : Int) == 0) = true := beq_iff_eq.mpr c55
                                                                have c55b1 : ((y216.length : Int) != 0) = false := bne_eq_false_iff_eq.mpr c55
                                                                clear c55
                                                                obtain ⟨y219, hy219⟩ : ∃ y_ : List (List Int), y_ = (([] : List (List Int))) := ⟨_, rfl⟩
                                                                replace H : (some (y219, false)) = some (r1, r2) := by first | (rw [hy219]; with_reducible exact H) | (have H2_ := (Option.bind_some _ _).symm.trans H; rw [hy219]; with_reducible exact H2_) | (have H2_ := (Option.bind_some _ _).symm.trans H; with_reducible exact H2_) | with_reducible exact H | (rw [hy219]; exact H) | exact H
                                                                have Ny219 := Aside0.mk hy219
                                                                clear hy219
                                                                simp only [Option.some.injEq, Prod.mk.injEq] at H
                                                                obtain ⟨rfl, rfl⟩ := H
                                                                obtain ⟨Ao56, co56, eo56⟩ := Kd.R_slice HO_10.out
                                                                subst eo56
                                                                try go_wp2_with (first | ((with_reducible refine gate_callee (f := 78) rfl ?_); refine goesL_ (some 75) rfl rfl Try.func78 (by kernel_rfl) rfl #[.slice Ao56 x10_30.length co56, .int .i64 a1] rfl (by (try simp only [List.map_toArray, List.map_cons, List.map_nil]); first | done | rfl | (simp only [List.length_drop, List.length_take]; rfl)) ?_; (with_reducible refine (spec_l5At.calls kj30 _ _ x10_30 a1 t193 _ ?side1 ?side2 A40.out).mono ?_); (case side1 => repeat (first | exact (Kd.R_reads' HO_10.out).2.2 | (with_reducible refine Kd.C_alloc ?_ _) | (with_reducible refine Kd.C_drewN ?_ _) | (with_reducible refine Kd.C_drew ?_))); (case side2 => exact (Kd.R_reads' HO_10.out).2.1); rintro e w' ⟨rfl, ⟨nd, rfl⟩⟩; refine ⟨_, rfl, ?_⟩))
                                                                (try (rw [drewN_self wc]; generalize hq_ : World.drewN wc _ = wc; have n0_ : Aside0 (Kd.R (Kd.int .i64) 3 wc w.heap.size (fun k_ => (w.heap.size ≤ k_)) (.slice Ao56 x10_30.length co56) x10_30) := ⟨by rw [← hq_]; exact (by (with_reducible repeat (first | apply Kd.R_alloc | apply Kd.R_drewN | apply Kd.R_drew)); exact HO_10.out)⟩; have n1_ : Aside0 (Below w.heap.size w wc) := ⟨by rw [← hq_]; exact (by repeat (first | (with_reducible first | exact HB.out | apply below_alloc | apply pw_below_drewN | apply below_drew1) | exact HB.out))⟩; clear HO_10 HB hq_; have HO_10 := n0_; have HB := n1_; clear n0_ n1_))
                                                                have n0_ := Aside0.mk (Kd.R_drew HO_10.out)
                                                                have n1_ := Aside0.mk (below_drew1 HB.out)
                                                                clear HO_10
                                                                clear HB
                                                                have HO_10 := n0_
                                                                have HB := n1_
                                                                clear n0_ n1_
                                                                obtain ⟨i058, hi058, _, hsz58, _⟩ := info_parts info3
                                                                obtain ⟨hcut58, hA58, hC58⟩ := print_take_of (P := Try.prog) (Value.int .i64) 0 47 3 .i64 Try.underlying47 hi058 hsz58 (some ad189) c178_0 (rd_L1 l0 x6_2) t186 (of_decide_eq_true (by first | (with_reducible assumption) | assumption)) (of_decide_eq_true (by first | (with_reducible assumption) | assumption)) HC178_0.out
                                                                have HR197 := Aside0.mk (Kd.C_of_reads (h1 := fun _ => rfl) (hA58 _ (Kd.reads_of_C HR178_0.out)))
                                                                have HC197 := Aside0.mk hC58
                                                                clear hA58 hC58 hi058 hsz58
                                                                have q59 : ((ji44) : Int) ≤ ((x10_30.length : Int) : Int) := of_decide_eq_true (by first | (with_reducible assumption) | assumption)
                                                                obtain ⟨i059, hi059, _, hsz59, _⟩ := info_parts info3
                                                                have hroom59 : x10_30.length ≤ co56 := (Kd.R_reads' HO_10.out).2.1
                                                                have hC59 : Kd.C (Kd.int .i64) _ Ao56 x10_30.length x10_30 := (Kd.R_reads' HO_10.out).2.2
                                                                have q059 : (0 : Int) ≤ ((ji44) : Int) := of_decide_eq_true (by first | (with_reducible assumption) | assumption)
                                                                have hcut59 := cut_from (P := Try.prog) 47 3 .i64 Try.underlying47 hi059 1 hsz59 Ao56 x10_30.length co56 (ji44) q059 q59
                                                                have hr59 := Kd.C_drop (m := ((ji44) : Int).toNat) (c := co56) hC59 (by omega) hroom59
                                                                obtain ⟨A59, hA59⟩ : ∃ A1, A1 = (if co56 = ((ji44) : Int).toNat then Ao56 else (Ao56 : Option Addr).map (·.add (((ji44) : Int).toNat * 1))) := ⟨_, rfl⟩
                                                                obtain ⟨c59, hc59⟩ : ∃ c1, c1 = co56 - ((ji44) : Int).toNat := ⟨_, rfl⟩
                                                                have hy59 : y201.length = x10_30.length - ((ji44) : Int).toNat := (by rw [Ny201.out, List.length_drop] <;> omega)
                                                                rw [show (x10_30).drop ((ji44) : Int).toNat = y201 from Ny201.out.symm] at hr59
                                                                replace hr59 : Kd.C (Kd.int .i64) _ A59 y201.length y201 := (by rw [hA59]; exact hr59)
                                                                rw [← hy59, ← hA59, ← hc59] at hcut59
                                                                have HR204 := Aside0.mk hr59
                                                                have HC204 := Aside0.mk (show y201.length ≤ c59 from by rw [hy59, hc59]; exact Nat.sub_le_sub_right hroom59 _)
                                                                clear hr59 hC59 hroom59 hi059 hsz59 hc59
                                                                have KY59 := Aside0.mk hy59
                                                                have KA59 := Aside0.mk hA59
                                                                clear hy59 hA59
                                                                have KL59 := Aside0.mk (show ((ji44) : Int).toNat ≤ x10_30.length from by omega)
                                                                replace q59 := eq_true q59
                                                                have q60 : (t193 : Int) ≤ ((x10_30.length : Int) : Int) := of_decide_eq_true (by first | (with_reducible assumption) | assumption)
                                                                obtain ⟨i060, hi060, _, hsz60, _⟩ := info_parts info3
                                                                have hroom60 : x10_30.length ≤ co56 := (Kd.R_reads' HO_10.out).2.1
                                                                have hC60 : Kd.C (Kd.int .i64) _ Ao56 x10_30.length x10_30 := (Kd.R_reads' HO_10.out).2.2
                                                                have hcut60 := cut_to (P := Try.prog) 47 3 .i64 Try.underlying47 hi060 Ao56 x10_30.length co56 t193 (of_decide_eq_true (by first | (with_reducible assumption) | assumption)) q60 hroom60
                                                                have hr60 := Kd.C_take (m := (t193 : Int).toNat) hC60 (by omega)
                                                                have hy60 : y208.length = (t193 : Int).toNat := (by rw [Ny208.out, List.length_take]; omega)
                                                                rw [← Ny208.out] at hr60
                                                                rw [← hy60] at hcut60
                                                                have HR211 := Aside0.mk hr60
                                                                have HC211 := Aside0.mk (show y208.length ≤ co56 from by omega)
                                                                clear hr60 hC60 hroom60 hi060 hsz60
                                                                have KY60 := Aside0.mk hy60
                                                                clear hy60
                                                                have KL60 := Aside0.mk (show (t193 : Int).toNat ≤ x10_30.length from by omega)
                                                                replace q60 := eq_true q60
                                                                obtain ⟨i061, hi061, _, hsz61, _⟩ := info_parts info3
                                                                obtain ⟨A61, hcut61, hA61, hC61⟩ := print_drop_of (P := Try.prog) (Value.int .i64) 0 47 3 .i64 Try.underlying47 hi061 hsz61 (some ad189) c178_0 (rd_L1 l0 x6_2) (ji51) (of_decide_eq_true (by first | (with_reducible assumption) | assumption)) (of_decide_eq_true (by first | (with_reducible assumption) | assumption)) HC178_0.out
                                                                have HR215 := Aside0.mk (Kd.C_of_reads (h1 := fun _ => rfl) (hA61 _ (Kd.reads_of_C HR178_0.out)))
                                                                have HC215 := Aside0.mk hC61
                                                                clear hA61 hC61 hi061 hsz61
                                                                refine start_ (n := 20) (S := fun w' => True) (ds := []) #[false, false, false, false, false, false, false, false, false, false, false, false, false, false, false, false, false, false, false, false] (by kernel_rfl) rfl rfl trivial (fun hHeld => ?_); refine with_tabW spec_GluePolygons.tab20 spec_GluePolygons.bits20 (fun HT_ HW_ => ?_)
                                                                generalize wc.drew = w57 at HO_10 HB HR197 HR204 HR211 HR215 hHeld ⊢
                                                                refine pure_ (i := 1) (N := some 77) (v := ?_) (a' := ?_) #[false, true, false, false, false, false, false, false, false, false, false, false, false, false, false, false, false, false, false, false] rfl rfl (any_of HT_.out (by kernel_rfl)) (fun _ _ _ h => h) (Or.inl ⟨by rfl, ?_⟩) ?_ ?_
                                                                rotate_left
                                                                · intro w'
                                                                  go_simp
                                                                  with_reducible rfl
                                                                rotate_left
                                                                · simp only [Act.put, List.setIfInBounds_toArray, List.set_cons_zero, List.set_cons_succ, i64_w, i32_w]
                                                                  rfl
                                                                refine pure_ (i := 2) (N := some 78) (v := ?_) (a' := ?_) #[false, true, true, false, false, false, false, false, false, false, false, false, false, false, false, false, false, false, false, false] rfl rfl (any_of HT_.out (by kernel_rfl)) (fun _ _ _ h => h) (Or.inl ⟨by rfl, ?_⟩) ?_ ?_
                                                                rotate_left
                                                                · intro w'
                                                                  go_simp
                                                                  with_reducible rfl
                                                                rotate_left
                                                                · simp only [Act.put, List.setIfInBounds_toArray, List.set_cons_zero, List.set_cons_succ, i64_w, i32_w]
                                                                  rfl
                                                                refine pure_ (i := 3) (N := some 79) (v := ?_) (a' := ?_) #[false, true, true, true, false, false, false, false, false, false, false, false, false, false, false, false, false, false, false, false] rfl rfl (any_of HT_.out (by kernel_rfl)) (fun _ _ _ h => h) (Or.inl ⟨by rfl, ?_⟩) ?_ ?_
                                                                rotate_left
                                                                · intro w'
                                                                  go_simp
                                                                  with_reducible rfl
                                                                rotate_left
                                                                · simp only [Act.put, List.setIfInBounds_toArray, List.set_cons_zero, List.set_cons_succ, i64_w, i32_w]
                                                                  rfl
                                                                refine pure_ (i := 5) (N := some 81) (v := ?_) (a' := ?_) #[false, true, true, true, false, true, false, false, false, false, false, false, false, false, false, false, false, false, false, false] rfl rfl (any_of HT_.out (by kernel_rfl)) (fun _ _ _ h => h) (Or.inl ⟨by rfl, ?_⟩) ?_ ?_
                                                                rotate_left
                                                                · intro w'
                                                                  go_simp
                                                                  with_reducible rfl
                                                                rotate_left
                                                                · simp only [Act.put, List.setIfInBounds_toArray, List.set_cons_zero, List.set_cons_succ, i64_w, i32_w]
                                                                  rfl
                                                                refine pure_ (i := 6) (N := some 82) (v := ?_) (a' := ?_) #[false, true, true, true, false, true, true, false, false, false, false, false, false, false, false, false, false, false, false, false] rfl rfl (any_of HT_.out (by kernel_rfl)) (fun _ _ _ h => h) (Or.inl ⟨by rfl, ?_⟩) ?_ ?_
                                                                rotate_left
                                                                · intro w'
                                                                  go_simp
                                                                  with_reducible rfl
                                                                rotate_left
                                                                · simp only [Act.put, List.setIfInBounds_toArray, List.set_cons_zero, List.set_cons_succ, i64_w, i32_w]
                                                                  rfl
                                                                refine pure_ (i := 7) (N := some 83) (v := ?_) (a' := ?_) #[false, true, true, true, false, true, true, true, false, false, false, false, false, false, false, false, false, false, false, false] rfl rfl (any_of HT_.out (by kernel_rfl)) (fun _ _ _ h => h) (Or.inl ⟨by rfl, ?_⟩) ?_ ?_
                                                                rotate_left
                                                                · intro w'
                                                                  go_simp
                                                                  with_reducible rfl
                                                                rotate_left
                                                                · simp only [Act.put, List.setIfInBounds_toArray, List.set_cons_zero, List.set_cons_succ, i64_w, i32_w]
                                                                  rfl
                                                                refine pure_ (i := 8) (N := some 84) (v := ?_) (a' := ?_) #[false, true, true, true, false, true, true, true, true, false, false, false, false, false, false, false, false, false, false, false] rfl rfl (any_of HT_.out (by kernel_rfl)) (fun _ _ _ h => h) (Or.inl ⟨by rfl, ?_⟩) ?_ ?_
                                                                rotate_left
                                                                · intro w'
                                                                  go_simp
                                                                  with_reducible rfl
                                                                rotate_left
                                                                · simp only [Act.put, List.setIfInBounds_toArray, List.set_cons_zero, List.set_cons_succ, i64_w, i32_w]
                                                                  rfl
                                                                refine pure_ (i := 10) (N := some 86) (v := ?_) (a' := ?_) #[false, true, true, true, false, true, true, true, true, false, true, false, false, false, false, false, false, false, false, false] rfl rfl (any_of HT_.out (by kernel_rfl)) (fun _ _ _ h => h) (Or.inl ⟨by rfl, ?_⟩) ?_ ?_
                                                                rotate_left
                                                                · intro w'
                                                                  go_simp
                                                                  with_reducible rfl
                                                                rotate_left
                                                                · simp only [Act.put, List.setIfInBounds_toArray, List.set_cons_zero, List.set_cons_succ, i64_w, i32_w]
                                                                  rfl
                                                                refine pure_ (i := 11) (N := some 87) (v := ?_) (a' := ?_) #[false, true, true, true, false, true, true, true, true, false, true, true, false, false, false, false, false, false, false, false] rfl rfl (any_of HT_.out (by kernel_rfl)) (fun _ _ _ h => h) (Or.inl ⟨by rfl, ?_⟩) ?_ ?_
                                                                rotate_left
                                                                · intro w'
                                                                  go_simp
                                                                  with_reducible rfl
                                                                rotate_left
                                                                · simp only [Act.put, List.setIfInBounds_toArray, List.set_cons_zero, List.set_cons_succ, i64_w, i32_w]
                                                                  rfl
                                                                refine pure_ (i := 12) (N := some 88) (v := ?_) (a' := ?_) #[false, true, true, true, false, true, true, true, true, false, true, true, true, false, false, false, false, false, false, false] rfl rfl (any_of HT_.out (by kernel_rfl)) (fun _ _ _ h => h) (Or.inl ⟨by rfl, ?_⟩) ?_ ?_
                                                                rotate_left
                                                                · intro w'
                                                                  go_simp
                                                                  with_reducible rfl
                                                                rotate_left
                                                                · simp only [Act.put, List.setIfInBounds_toArray, List.set_cons_zero, List.set_cons_succ, i64_w, i32_w]
                                                                  rfl
                                                                refine pure_ (i := 14) (N := some 90) (v := ?_) (a' := ?_) #[false, true, true, true, false, true, true, true, true, false, true, true, true, false, true, false, false, false, false, false] rfl rfl (any_of HT_.out (by kernel_rfl)) (fun _ _ _ h => h) (Or.inl ⟨by rfl, ?_⟩) ?_ ?_
                                                                rotate_left
                                                                · intro w'
                                                                  go_simp
                                                                  with_reducible rfl
                                                                rotate_left
                                                                · simp only [Act.put, List.setIfInBounds_toArray, List.set_cons_zero, List.set_cons_succ, i64_w, i32_w]
                                                                  rfl
                                                                refine pure_ (i := 15) (N := some 91) (v := ?_) (a' := ?_) #[false, true, true, true, false, true, true, true, true, false, true, true, true, false, true, true, false, false, false, false] rfl rfl (any_of HT_.out (by kernel_rfl)) (fun _ _ _ h => h) (Or.inl ⟨by rfl, ?_⟩) ?_ ?_
                                                                rotate_left
                                                                · intro w'
                                                                  go_simp
                                                                  with_reducible rfl
                                                                rotate_left
                                                                · simp only [Act.put, List.setIfInBounds_toArray, List.set_cons_zero, List.set_cons_succ, i64_w, i32_w]
                                                                  rfl
                                                                refine pure_ (i := 16) (N := some 92) (v := ?_) (a' := ?_) #[false, true, true, true, false, true, true, true, true, false, true, true, true, false, true, true, true, false, false, false] rfl rfl (any_of HT_.out (by kernel_rfl)) (fun _ _ _ h => h) (Or.inl ⟨by rfl, ?_⟩) ?_ ?_
                                                                rotate_left
                                                                · intro w'
                                                                  go_simp
                                                                  with_reducible rfl
                                                                rotate_left
                                                                · simp only [Act.put, List.setIfInBounds_toArray, List.set_cons_zero, List.set_cons_succ, i64_w, i32_w]
                                                                  rfl
                                                                refine pure_ (i := 17) (N := some 93) (v := ?_) (a' := ?_) #[false, true, true, true, false, true, true, true, true, false, true, true, true, false, true, true, true, true, false, false] rfl rfl (any_of HT_.out (by kernel_rfl)) (fun _ _ _ h => h) (Or.inl ⟨by rfl, ?_⟩) ?_ ?_
                                                                rotate_left
                                                                · intro w'
                                                                  go_simp
                                                                  with_reducible rfl
                                                                rotate_left
                                                                · simp only [Act.put, List.setIfInBounds_toArray, List.set_cons_zero, List.set_cons_succ, i64_w, i32_w]
                                                                  rfl
                                                                refine one_ (i := 0) (N := some 76) #[true, true, true, true, false, true, true, true, true, false, true, true, true, false, true, true, true, true, false, false] rfl rfl (one_of HT_.out (by kernel_rfl)) (by decide) (fun K hK => ?_)
                                                                refine Kd.R_lit_step (Kd.int .i64) _ 3 ?hg (N := 76) ?hd (xs := ([] : List Int)) (inner := []) (ok := fun _ => True) (okp := fun _ => True) ?hr ?hp (fun _ hk => hk) trivial (Below.refl _ _) (Nat.le_refl _) (by simp) ?_; (case hd => rfl); (case hg => rfl); (case hr => first | (go_simp; done) | (go_simp; rfl)); (case hp => exact (Reps.none _ _))
                                                                intro v195 w62 ho63 hb hg_ hnew_
                                                                clear hg_ hnew_
                                                                (first | rw [← Ny194.out] at ho63 | (simp only [Int.reduceToNat] at ho63; rw [← Ny194.out] at ho63))
                                                                have n0_ := Aside0.mk (Kd.R_elder' (by (with_reducible repeat (first | apply Kd.R_alloc | apply Kd.R_drewN | apply Kd.R_drew)); exact HO_10.out) (Kd.R_base ho63) hb)
                                                                have n1_ := Aside0.mk (Kd.R_lower (Kd.R_new' (Kd.R_newM (M := fun k_ => (w.heap.size ≤ k_)) ho63 (below_size (by repeat (first | (with_reducible first | exact HB.out | apply below_alloc | apply pw_below_drewN | apply below_drew1) | exact HB.out))) (fun k_ h_ => h_)) (Kd.R_lt (by (with_reducible repeat (first | apply Kd.R_alloc | apply Kd.R_drewN | apply Kd.R_drew)); exact HO_10.out))) (below_size (by repeat (first | (with_reducible first | exact HB.out | apply below_alloc | apply pw_below_drewN | apply below_drew1) | exact HB.out))))
                                                                have n2_ := Aside0.mk (Kd.C_below (by repeat (first | (with_reducible exact HR204.out) | (with_reducible refine Kd.C_alloc ?_ _) | (with_reducible refine Kd.C_drewN ?_ _) | (with_reducible refine Kd.C_drew ?_) | exact HR204.out)) hb)
                                                                have n3_ := Aside0.mk (Kd.C_below (by repeat (first | (with_reducible exact HR211.out) | (with_reducible refine Kd.C_alloc ?_ _) | (with_reducible refine Kd.C_drewN ?_ _) | (with_reducible refine Kd.C_drew ?_) | exact HR211.out)) hb)
                                                                have n4_ := Aside0.mk (below_step (by repeat (first | (with_reducible first | exact HB.out | apply below_alloc | apply pw_below_drewN | apply below_drew1) | exact HB.out)) hb)
                                                                clear HO_10
                                                                clear HR204
                                                                clear HR211
                                                                clear HB
                                                                have HO_10 := n0_
                                                                have HO196 := n1_
                                                                have HR204 := n2_
                                                                have HR211 := n3_
                                                                have HB := n4_
                                                                clear n0_ n1_ n2_ n3_ n4_
                                                                clear hb ho63
                                                                refine hK.out _ _ trivial (fun hHeld => ?_)
                                                                clear hK K
                                                                refine norm_ (a' := ?_) ?_ ?_
                                                                rotate_left
                                                                · show Act.put _ (some 76) _ = _
                                                                  simp only [Act.put, List.setIfInBounds_toArray, List.set_cons_zero, List.set_cons_succ, i64_w, i32_w]
                                                                  rfl
                                                                refine one_ (i := 4) (N := some 80) #[true, true, true, true, true, true, true, true, true, false, true, true, true, false, true, true, true, true, false, false] rfl rfl (one_of HT_.out (by kernel_rfl)) (by decide) (fun K hK => ?_)
                                                                refine Kd.R_append_rows_step (Kd.int .i64) (w0 := w) w.heap.size (by rfl) (.tmp 76) (.tmp 79) 47 3 (.int .i64 0) 8 rfl Try.underlying47 info3 rfl (by decide) (by omega) v195 y194 ((rd_L1 l0 x6_2).take (t186 : Int).toNat) _ _ _ (fun k_ => (w.heap.size ≤ k_) ∧ some k_ ≠ (.slice Ao56 x10_30.length co56 : Value).ownBlock) (fun _ => False) rfl rfl ?aO ?aR (fun _ _ h => h) (fun _ h => h.elim) ?aF ?aB ?aS ?aL ?_
                                                                (case aR => first | (rw [← show ((rd_L1 l0 x6_2).take (t186 : Int).toNat).length = t186.toNat from (by rw [List.length_take]; have h_ : (t186 : Int) ≤ ((rd_L1 l0 x6_2).length : Int) := of_decide_eq_true (by first | (with_reducible assumption) | assumption); omega)]; (repeat (first | exact (Kd.C_below HR197.out HB.out) | (with_reducible refine Kd.C_alloc ?_ _) | (with_reducible refine Kd.C_drewN ?_ _) | (with_reducible refine Kd.C_drew ?_))); done) | (refine (congrArg (fun n_ => ReadsRow _ _ _ _ n_ _) (show ((rd_L1 l0 x6_2).take (t186 : Int).toNat).length = t186.toNat from (by rw [List.length_take]; have h_ : (t186 : Int) ≤ ((rd_L1 l0 x6_2).length : Int) := of_decide_eq_true (by first | (with_reducible assumption) | assumption); omega))).mp ?_; (repeat (first | exact (Kd.C_below HR197.out HB.out) | (with_reducible refine Kd.C_alloc ?_ _) | (with_reducible refine Kd.C_drewN ?_ _) | (with_reducible refine Kd.C_drew ?_))); done) | (repeat (first | exact (Kd.C_below HR197.out HB.out) | (with_reducible refine Kd.C_alloc ?_ _) | (with_reducible refine Kd.C_drewN ?_ _) | (with_reducible refine Kd.C_drew ?_))))
                                                                (case aB => exact (by repeat (first | (with_reducible first | exact HB.out | apply below_alloc | apply pw_below_drewN | apply below_drew1) | exact HB.out)))
                                                                (case aF => exact (fun k_ hk => ⟨(Nat.le_trans (below_size (by repeat (first | (with_reducible first | exact HB.out | apply below_alloc | apply pw_below_drewN | apply below_drew1) | exact HB.out))) hk), Kd.fresh' (Kd.R_lt (by (with_reducible repeat (first | apply Kd.R_alloc | apply Kd.R_drewN | apply Kd.R_drew)); exact HO_10.out)) k_ hk⟩))
                                                                (case aO => exact (by (with_reducible repeat (first | apply Kd.R_alloc | apply Kd.R_drewN | apply Kd.R_drew)); exact Kd.R_mono HO196.out (fun _ hk => ⟨hk.1.1, hk.2⟩)))
                                                                (case aS => exact (below_size (by repeat (first | (with_reducible first | exact HB.out | apply below_alloc | apply pw_below_drewN | apply below_drew1) | exact HB.out))))
                                                                (case aL => have := LMc43.out; have hlx_ := (show ((rd_L1 l0 x6_2).take (t186 : Int).toNat).length = t186.toNat from (by rw [List.length_take]; have h_ : (t186 : Int) ≤ ((rd_L1 l0 x6_2).length : Int) := of_decide_eq_true (by first | (with_reducible assumption) | assumption); omega)); omega)
                                                                intro v199 w64 ho hb hg hat
                                                                rw [← Ny198.out] at ho
                                                                have n0_ := Aside0.mk (Kd.R_after (ok := (fun k_ => (w.heap.size ≤ k_))) (by (with_reducible repeat (first | apply Kd.R_alloc | apply Kd.R_drewN | apply Kd.R_drew)); exact HO_10.out) hg hat)
                                                                have n1_ := Aside0.mk (hb)
                                                                have n2_ := Aside0.mk ((show Kd.C (Kd.int .i64) w64 A59 y201.length y201 from by rw [Ny201.out, KA59.out]; exact Kd.C_drop (m := ((ji44) : Int).toNat) (c := co56) ((Kd.R_reads' (Kd.R_after (ok := (fun k_ => (w.heap.size ≤ k_))) (by (with_reducible repeat (first | apply Kd.R_alloc | apply Kd.R_drewN | apply Kd.R_drew)); exact HO_10.out) hg hat)).2.2) KL59.out ((Kd.R_reads' (Kd.R_after (ok := (fun k_ => (w.heap.size ≤ k_))) (by (with_reducible repeat (first | apply Kd.R_alloc | apply Kd.R_drewN | apply Kd.R_drew)); exact HO_10.out) hg hat)).2.1)))
                                                                have n3_ := Aside0.mk ((show Kd.C (Kd.int .i64) w64 Ao56 y208.length y208 from by rw [Ny208.out]; exact Kd.C_take (m := (t193 : Int).toNat) ((Kd.R_reads' (Kd.R_after (ok := (fun k_ => (w.heap.size ≤ k_))) (by (with_reducible repeat (first | apply Kd.R_alloc | apply Kd.R_drewN | apply Kd.R_drew)); exact HO_10.out) hg hat)).2.2) KL60.out))
                                                                have n4_ := Aside0.mk (ho)
                                                                clear HO_10
                                                                clear HB
                                                                clear HR204
                                                                clear HR211
                                                                clear HO196
                                                                have HO_10 := n0_
                                                                have HB := n1_
                                                                have HR204 := n2_
                                                                have HR211 := n3_
                                                                have HO200 := n4_
                                                                clear n0_ n1_ n2_ n3_ n4_
                                                                clear ho hb hg hat
                                                                refine hK.out _ _ trivial (fun hHeld => ?_)
                                                                clear hK K
                                                                refine norm_ (a' := ?_) ?_ ?_
                                                                rotate_left
                                                                · show Act.put _ (some 80) _ = _
                                                                  simp only [Act.put, List.setIfInBounds_toArray, List.set_cons_zero, List.set_cons_succ, i64_w, i32_w]
                                                                  rfl
                                                                refine one_ (i := 9) (N := some 85) #[true, true, true, true, true, true, true, true, true, true, true, true, true, false, true, true, true, true, false, false] rfl rfl (one_of HT_.out (by kernel_rfl)) (by decide) (fun K hK => ?_)
                                                                refine Kd.R_append_rows_step (Kd.int .i64) (w0 := w) w.heap.size (by rfl) (.tmp 80) (.tmp 84) 47 3 (.int .i64 0) 8 rfl Try.underlying47 info3 rfl (by decide) (by omega) v199 y198 y201 _ _ _ (fun k_ => (w.heap.size ≤ k_) ∧ some k_ ≠ (.slice Ao56 x10_30.length co56 : Value).ownBlock) (fun _ => False) rfl rfl ?aO ?aR (fun _ _ h => h) (fun _ h => h.elim) ?aF ?aB ?aS ?aL ?_
                                                                (case aR => repeat (first | exact (by repeat (first | (with_reducible exact HR204.out) | (with_reducible refine Kd.C_alloc ?_ _) | (with_reducible refine Kd.C_drewN ?_ _) | (with_reducible refine Kd.C_drew ?_) | exact HR204.out)) | (with_reducible refine Kd.C_alloc ?_ _) | (with_reducible refine Kd.C_drewN ?_ _) | (with_reducible refine Kd.C_drew ?_)))
                                                                (case aB => exact (by repeat (first | (with_reducible first | exact HB.out | apply below_alloc | apply pw_below_drewN | apply below_drew1) | exact HB.out)))
                                                                (case aF => exact (fun k_ hk => ⟨(Nat.le_trans (below_size (by repeat (first | (with_reducible first | exact HB.out | apply below_alloc | apply pw_below_drewN | apply below_drew1) | exact HB.out))) hk), Kd.fresh' (Kd.R_lt (by (with_reducible repeat (first | apply Kd.R_alloc | apply Kd.R_drewN | apply Kd.R_drew)); exact HO_10.out)) k_ hk⟩))
                                                                (case aO => exact (by (with_reducible repeat (first | apply Kd.R_alloc | apply Kd.R_drewN | apply Kd.R_drew)); exact HO200.out))
                                                                (case aS => exact (below_size (by repeat (first | (with_reducible first | exact HB.out | apply below_alloc | apply pw_below_drewN | apply below_drew1) | exact HB.out))))
                                                                (case aL => have := LMc47.out; omega)
                                                                intro v206 w65 ho hb hg hat
                                                                rw [← Ny205.out] at ho
                                                                have n0_ := Aside0.mk (Kd.R_after (ok := (fun k_ => (w.heap.size ≤ k_))) (by (with_reducible repeat (first | apply Kd.R_alloc | apply Kd.R_drewN | apply Kd.R_drew)); exact HO_10.out) hg hat)
                                                                have n1_ := Aside0.mk (hb)
                                                                have n2_ := Aside0.mk ((show Kd.C (Kd.int .i64) w65 A59 y201.length y201 from by rw [Ny201.out, KA59.out]; exact Kd.C_drop (m := ((ji44) : Int).toNat) (c := co56) ((Kd.R_reads' (Kd.R_after (ok := (fun k_ => (w.heap.size ≤ k_))) (by (with_reducible repeat (first | apply Kd.R_alloc | apply Kd.R_drewN | apply Kd.R_drew)); exact HO_10.out) hg hat)).2.2) KL59.out ((Kd.R_reads' (Kd.R_after (ok := (fun k_ => (w.heap.size ≤ k_))) (by (with_reducible repeat (first | apply Kd.R_alloc | apply Kd.R_drewN | apply Kd.R_drew)); exact HO_10.out) hg hat)).2.1)))
                                                                have n3_ := Aside0.mk ((show Kd.C (Kd.int .i64) w65 Ao56 y208.length y208 from by rw [Ny208.out]; exact Kd.C_take (m := (t193 : Int).toNat) ((Kd.R_reads' (Kd.R_after (ok := (fun k_ => (w.heap.size ≤ k_))) (by (with_reducible repeat (first | apply Kd.R_alloc | apply Kd.R_drewN | apply Kd.R_drew)); exact HO_10.out) hg hat)).2.2) KL60.out))
                                                                have n4_ := Aside0.mk (ho)
                                                                clear HO_10
                                                                clear HB
                                                                clear HR204
                                                                clear HR211
                                                                clear HO200
                                                                have HO_10 := n0_
                                                                have HB := n1_
                                                                have HR204 := n2_
                                                                have HR211 := n3_
                                                                have HO207 := n4_
                                                                clear n0_ n1_ n2_ n3_ n4_
                                                                clear ho hb hg hat
                                                                refine hK.out _ _ trivial (fun hHeld => ?_)
                                                                clear hK K
                                                                refine norm_ (a' := ?_) ?_ ?_
                                                                rotate_left
                                                                · show Act.put _ (some 85) _ = _
                                                                  simp only [Act.put, List.setIfInBounds_toArray, List.set_cons_zero, List.set_cons_succ, i64_w, i32_w]
                                                                  rfl
                                                                refine one_ (i := 13) (N := some 89) #[true, true, true, true, true, true, true, true, true, true, true, true, true, true, true, true, true, true, false, false] rfl rfl (one_of HT_.out (by kernel_rfl)) (by decide) (fun K hK => ?_)
                                                                refine Kd.R_append_rows_step (Kd.int .i64) (w0 := w) w.heap.size (by rfl) (.tmp 85) (.tmp 88) 47 3 (.int .i64 0) 8 rfl Try.underlying47 info3 rfl (by decide) (by omega) v206 y205 y208 _ _ _ (fun k_ => (w.heap.size ≤ k_) ∧ some k_ ≠ (.slice Ao56 x10_30.length co56 : Value).ownBlock) (fun _ => False) rfl rfl ?aO ?aR (fun _ _ h => h) (fun _ h => h.elim) ?aF ?aB ?aS ?aL ?_
                                                                (case aR => repeat (first | exact (by repeat (first | (with_reducible exact HR211.out) | (with_reducible refine Kd.C_alloc ?_ _) | (with_reducible refine Kd.C_drewN ?_ _) | (with_reducible refine Kd.C_drew ?_) | exact HR211.out)) | (with_reducible refine Kd.C_alloc ?_ _) | (with_reducible refine Kd.C_drewN ?_ _) | (with_reducible refine Kd.C_drew ?_)))
                                                                (case aB => exact (by repeat (first | (with_reducible first | exact HB.out | apply below_alloc | apply pw_below_drewN | apply below_drew1) | exact HB.out)))
                                                                (case aF => exact (fun k_ hk => ⟨(Nat.le_trans (below_size (by repeat (first | (with_reducible first | exact HB.out | apply below_alloc | apply pw_below_drewN | apply below_drew1) | exact HB.out))) hk), Kd.fresh' (Kd.R_lt (by (with_reducible repeat (first | apply Kd.R_alloc | apply Kd.R_drewN | apply Kd.R_drew)); exact HO_10.out)) k_ hk⟩))
                                                                (case aO => exact (by (with_reducible repeat (first | apply Kd.R_alloc | apply Kd.R_drewN | apply Kd.R_drew)); exact HO207.out))
                                                                (case aS => exact (below_size (by repeat (first | (with_reducible first | exact HB.out | apply below_alloc | apply pw_below_drewN | apply below_drew1) | exact HB.out))))
                                                                (case aL => have := LMc50.out; omega)
                                                                intro v213 w66 ho hb hg hat
                                                                rw [← Ny212.out] at ho
                                                                have n0_ := Aside0.mk (Kd.R_after (ok := (fun k_ => (w.heap.size ≤ k_))) (by (with_reducible repeat (first | apply Kd.R_alloc | apply Kd.R_drewN | apply Kd.R_drew)); exact HO_10.out) hg hat)
                                                                have n1_ := Aside0.mk (hb)
                                                                have n2_ := Aside0.mk ((show Kd.C (Kd.int .i64) w66 A59 y201.length y201 from by rw [Ny201.out, KA59.out]; exact Kd.C_drop (m := ((ji44) : Int).toNat) (c := co56) ((Kd.R_reads' (Kd.R_after (ok := (fun k_ => (w.heap.size ≤ k_))) (by (with_reducible repeat (first | apply Kd.R_alloc | apply Kd.R_drewN | apply Kd.R_drew)); exact HO_10.out) hg hat)).2.2) KL59.out ((Kd.R_reads' (Kd.R_after (ok := (fun k_ => (w.heap.size ≤ k_))) (by (with_reducible repeat (first | apply Kd.R_alloc | apply Kd.R_drewN | apply Kd.R_drew)); exact HO_10.out) hg hat)).2.1)))
                                                                have n3_ := Aside0.mk ((show Kd.C (Kd.int .i64) w66 Ao56 y208.length y208 from by rw [Ny208.out]; exact Kd.C_take (m := (t193 : Int).toNat) ((Kd.R_reads' (Kd.R_after (ok := (fun k_ => (w.heap.size ≤ k_))) (by (with_reducible repeat (first | apply Kd.R_alloc | apply Kd.R_drewN | apply Kd.R_drew)); exact HO_10.out) hg hat)).2.2) KL60.out))
                                                                have n4_ := Aside0.mk (ho)
                                                                clear HO_10
                                                                clear HB
                                                                clear HR204
                                                                clear HR211
                                                                clear HO207
                                                                have HO_10 := n0_
                                                                have HB := n1_
                                                                have HR204 := n2_
                                                                have HR211 := n3_
                                                                have HO214 := n4_
                                                                clear n0_ n1_ n2_ n3_ n4_
                                                                clear ho hb hg hat
                                                                refine hK.out _ _ trivial (fun hHeld => ?_)
                                                                clear hK K
                                                                refine norm_ (a' := ?_) ?_ ?_
                                                                rotate_left
                                                                · show Act.put _ (some 89) _ = _
                                                                  simp only [Act.put, List.setIfInBounds_toArray, List.set_cons_zero, List.set_cons_succ, i64_w, i32_w]
                                                                  rfl
                                                                refine one_ (i := 18) (N := some 94) #[true, true, true, true, true, true, true, true, true, true, true, true, true, true, true, true, true, true, true, false] rfl rfl (one_of HT_.out (by kernel_rfl)) (by decide) (fun K hK => ?_)
                                                                refine Kd.R_append_rows_step (Kd.int .i64) (w0 := w) w.heap.size (by rfl) (.tmp 89) (.tmp 93) 47 3 (.int .i64 0) 8 rfl Try.underlying47 info3 rfl (by decide) (by omega) v213 y212 ((rd_L1 l0 x6_2).drop ((ji51) : Int).toNat) _ _ _ (fun k_ => (w.heap.size ≤ k_) ∧ some k_ ≠ (.slice Ao56 x10_30.length co56 : Value).ownBlock) (fun _ => False) rfl rfl ?aO ?aR (fun _ _ h => h) (fun _ h => h.elim) ?aF ?aB ?aS ?aL ?_
                                                                (case aR => first | (rw [← show ((rd_L1 l0 x6_2).drop ((ji51) : Int).toNat).length = ((rd_L1 l0 x6_2).length - (ji51).toNat) from List.length_drop]; (repeat (first | exact (Kd.C_below HR215.out HB.out) | (with_reducible refine Kd.C_alloc ?_ _) | (with_reducible refine Kd.C_drewN ?_ _) | (with_reducible refine Kd.C_drew ?_))); done) | (refine (congrArg (fun n_ => ReadsRow _ _ _ _ n_ _) (show ((rd_L1 l0 x6_2).drop ((ji51) : Int).toNat).length = ((rd_L1 l0 x6_2).length - (ji51).toNat) from List.length_drop)).mp ?_; (repeat (first | exact (Kd.C_below HR215.out HB.out) | (with_reducible refine Kd.C_alloc ?_ _) | (with_reducible refine Kd.C_drewN ?_ _) | (with_reducible refine Kd.C_drew ?_))); done) | (repeat (first | exact (Kd.C_below HR215.out HB.out) | (with_reducible refine Kd.C_alloc ?_ _) | (with_reducible refine Kd.C_drewN ?_ _) | (with_reducible refine Kd.C_drew ?_))))
                                                                (case aB => exact (by repeat (first | (with_reducible first | exact HB.out | apply below_alloc | apply pw_below_drewN | apply below_drew1) | exact HB.out)))
                                                                (case aF => exact (fun k_ hk => ⟨(Nat.le_trans (below_size (by repeat (first | (with_reducible first | exact HB.out | apply below_alloc | apply pw_below_drewN | apply below_drew1) | exact HB.out))) hk), Kd.fresh' (Kd.R_lt (by (with_reducible repeat (first | apply Kd.R_alloc | apply Kd.R_drewN | apply Kd.R_drew)); exact HO_10.out)) k_ hk⟩))
                                                                (case aO => exact (by (with_reducible repeat (first | apply Kd.R_alloc | apply Kd.R_drewN | apply Kd.R_drew)); exact HO214.out))
                                                                (case aS => exact (below_size (by repeat (first | (with_reducible first | exact HB.out | apply below_alloc | apply pw_below_drewN | apply below_drew1) | exact HB.out))))
                                                                (case aL => have := LMc54.out; have hlx_ := (show ((rd_L1 l0 x6_2).drop ((ji51) : Int).toNat).length = ((rd_L1 l0 x6_2).length - (ji51).toNat) from List.length_drop); omega)
                                                                intro v217 w67 ho hb hg hat
                                                                rw [← Ny216.out] at ho
                                                                have n0_ := Aside0.mk (Kd.R_after (ok := (fun k_ => (w.heap.size ≤ k_))) (by (with_reducible repeat (first | apply Kd.R_alloc | apply Kd.R_drewN | apply Kd.R_drew)); exact HO_10.out) hg hat)
                                                                have n1_ := Aside0.mk (hb)
                                                                have n2_ := Aside0.mk ((show Kd.C (Kd.int .i64) w67 A59 y201.length y201 from by rw [Ny201.out, KA59.out]; exact Kd.C_drop (m := ((ji44) : Int).toNat) (c := co56) ((Kd.R_reads' (Kd.R_after (ok := (fun k_ => (w.heap.size ≤ k_))) (by (with_reducible repeat (first | apply Kd.R_alloc | apply Kd.R_drewN | apply Kd.R_drew)); exact HO_10.out) hg hat)).2.2) KL59.out ((Kd.R_reads' (Kd.R_after (ok := (fun k_ => (w.heap.size ≤ k_))) (by (with_reducible repeat (first | apply Kd.R_alloc | apply Kd.R_drewN | apply Kd.R_drew)); exact HO_10.out) hg hat)).2.1)))
                                                                have n3_ := Aside0.mk ((show Kd.C (Kd.int .i64) w67 Ao56 y208.length y208 from by rw [Ny208.out]; exact Kd.C_take (m := (t193 : Int).toNat) ((Kd.R_reads' (Kd.R_after (ok := (fun k_ => (w.heap.size ≤ k_))) (by (with_reducible repeat (first | apply Kd.R_alloc | apply Kd.R_drewN | apply Kd.R_drew)); exact HO_10.out) hg hat)).2.2) KL60.out))
                                                                have n4_ := Aside0.mk (ho)
                                                                clear HO_10
                                                                clear HB
                                                                clear HR204
                                                                clear HR211
                                                                clear HO214
                                                                have HO_10 := n0_
                                                                have HB := n1_
                                                                have HR204 := n2_
                                                                have HR211 := n3_
                                                                have HO218 := n4_
                                                                clear n0_ n1_ n2_ n3_ n4_
                                                                clear ho hb hg hat
                                                                refine hK.out _ _ trivial (fun hHeld => ?_)
                                                                clear hK K
                                                                refine norm_ (a' := ?_) ?_ ?_
                                                                rotate_left
                                                                · show Act.put _ (some 94) _ = _
                                                                  simp only [Act.put, List.setIfInBounds_toArray, List.set_cons_zero, List.set_cons_succ, i64_w, i32_w]
                                                                  rfl
                                                                refine pure_ (i := 19) (N := some 13) (v := ?_) (a' := ?_) #[true, true, true, true, true, true, true, true, true, true, true, true, true, true, true, true, true, true, true, true] rfl rfl (any_of HT_.out (by kernel_rfl)) (fun _ _ _ h => h) (Or.inl ⟨by rfl, ?_⟩) ?_ ?_
                                                                rotate_left
                                                                · intro w'
                                                                  go_simp
                                                                  with_reducible rfl
                                                                rotate_left
                                                                · simp only [Act.put, List.setIfInBounds_toArray, List.set_cons_zero, List.set_cons_succ, i64_w, i32_w]
                                                                  rfl
                                                                refine done_ (done_of HT_.out (by kernel_rfl)) ?_
                                                                obtain ⟨Ao68, co68, eo68⟩ := Kd.R_slice HO218.out
                                                                subst eo68
                                                                try go_wp2_with (first | ((with_reducible refine gate_dst (N := 98) rfl ?_); refine Kd.S_lit (Kd.slice 3 (Kd.int .i64)) _ 47 ?hg (N := 98) ?hd (xs := ([] : List (List Int))) (inner := []) (ok := fun _ => True) (okp := fun _ => True) ?hr ?hp (fun _ hk => hk) trivial (Below.refl _ _) (Nat.le_refl _) (by simp) ?_; (case hd => rfl); (case hg => rfl); (case hr => first | (go_simp; done) | (go_simp; rfl)); (case hp => exact (Reps.none _ _)); intro v220 w69 ho70 hb hg_ hnew_; clear hg_ hnew_; (first | rw [← Ny219.out] at ho70 | (simp only [Int.reduceToNat] at ho70; rw [← Ny219.out] at ho70)); have n0_ := Aside0.mk (Kd.R_below (by (with_reducible repeat (first | apply Kd.R_alloc | apply Kd.R_drewN | apply Kd.R_drew)); exact HO_10.out) hb); have n1_ := Aside0.mk (Kd.R_below (by (with_reducible repeat (first | apply Kd.R_alloc | apply Kd.R_drewN | apply Kd.R_drew)); exact HO218.out) hb); have n2_ := Aside0.mk (Kd.S_lower (Kd.S_new' (Kd.S_new' (Kd.S_newM (M := fun k_ => (w.heap.size ≤ k_)) ho70 (below_size (by repeat (first | (with_reducible first | exact HB.out | apply below_alloc | apply pw_below_drewN | apply below_drew1) | exact HB.out))) (fun k_ h_ => h_)) (Kd.R_lt (by (with_reducible repeat (first | apply Kd.R_alloc | apply Kd.R_drewN | apply Kd.R_drew)); exact HO_10.out))) (Kd.R_lt (by (with_reducible repeat (first | apply Kd.R_alloc | apply Kd.R_drewN | apply Kd.R_drew)); exact HO218.out))) (below_size (by repeat (first | (with_reducible first | exact HB.out | apply below_alloc | apply pw_below_drewN | apply below_drew1) | exact HB.out)))); have n3_ := Aside0.mk (Kd.C_below (by repeat (first | (with_reducible exact HR204.out) | (with_reducible refine Kd.C_alloc ?_ _) | (with_reducible refine Kd.C_drewN ?_ _) | (with_reducible refine Kd.C_drew ?_) | exact HR204.out)) hb); have n4_ := Aside0.mk (Kd.C_below (by repeat (first | (with_reducible exact HR211.out) | (with_reducible refine Kd.C_alloc ?_ _) | (with_reducible refine Kd.C_drewN ?_ _) | (with_reducible refine Kd.C_drew ?_) | exact HR211.out)) hb); have n5_ := Aside0.mk (below_step (by repeat (first | (with_reducible first | exact HB.out | apply below_alloc | apply pw_below_drewN | apply below_drew1) | exact HB.out)) hb); clear HO_10; clear HO218; clear HR204; clear HR211; clear HB; have HO_10 := n0_; have HO218 := n1_; have HO221 := n2_; have HR204 := n3_; have HR211 := n4_; have HB := n5_; clear n0_ n1_ n2_ n3_ n4_ n5_; clear hb ho70))
                                                                go_ret2
                                                                exact ⟨_, by first | rfl | (simp [errW_none, errW_some] <;> rfl) | (simp only [← hji44, ← hji51]; first | rfl | (simp [errW_none, errW_some] <;> rfl)) | (simp [*, errW_none, errW_some] <;> rfl), S_id0 (by (with_reducible repeat (first | apply Kd.S_alloc | apply Kd.S_drewN | apply Kd.S_drew)); exact Kd.S_mono HO221.out (fun _ hk => hk.1.1.1)), by repeat (first | (with_reducible first | exact HB.out | apply below_alloc | apply pw_below_drewN | apply below_drew1) | exact HB.out)⟩
                                                              · rw [if_neg c55] at H
                                                                have c55b0 : ((y216.length : Int) == 0) = false := beq_eq_false_iff_ne.mpr c55
                                                                have c55b1 : ((y216.length : Int) != 0) = true := bne_iff_ne.mpr c55
                                                                have c55b2 : ¬ (y216 = []) := fun h_ => c55 (by rw [h_]; rfl)
                                                                obtain ⟨y222, hy222⟩ : ∃ y_ : List (List Int), y_ = (([] : List (List Int))) := ⟨_, rfl⟩
                                                                replace H : (spec_GluePolygons.l1 kj30 l0 x6_2 x7_2 y216 y222 0) = some (r1, r2) := by first | (rw [hy222]; with_reducible exact H) | (have H2_ := (Option.bind_some _ _).symm.trans H; rw [hy222]; with_reducible exact H2_) | (have H2_ := (Option.bind_some _ _).symm.trans H; with_reducible exact H2_) | with_reducible exact H | (rw [hy222]; exact H) | exact H
                                                                have Ny222 := Aside0.mk hy222
                                                                clear hy222
                                                                have H' := Aside0.mk H
                                                                clear H
                                                                obtain ⟨Ao71, co71, eo71⟩ := Kd.R_slice HO_10.out
                                                                subst eo71
                                                                try go_wp2_with (first | ((with_reducible refine gate_callee (f := 78) rfl ?_); refine goesL_ (some 75) rfl rfl Try.func78 (by kernel_rfl) rfl #[.slice Ao71 x10_30.length co71, .int .i64 a1] rfl (by (try simp only [List.map_toArray, List.map_cons, List.map_nil]); first | done | rfl | (simp only [List.length_drop, List.length_take]; rfl)) ?_; (with_reducible refine (spec_l5At.calls kj30 _ _ x10_30 a1 t193 _ ?side1 ?side2 A40.out).mono ?_); (case side1 => repeat (first | exact (Kd.R_reads' HO_10.out).2.2 | (with_reducible refine Kd.C_alloc ?_ _) | (with_reducible refine Kd.C_drewN ?_ _) | (with_reducible refine Kd.C_drew ?_))); (case side2 => exact (Kd.R_reads' HO_10.out).2.1); rintro e w' ⟨rfl, ⟨nd, rfl⟩⟩; refine ⟨_, rfl, ?_⟩))
                                                                (try (rw [drewN_self wc]; generalize hq_ : World.drewN wc _ = wc; have n0_ : Aside0 (Kd.R (Kd.int .i64) 3 wc w.heap.size (fun k_ => (w.heap.size ≤ k_)) (.slice Ao71 x10_30.length co71) x10_30) := ⟨by rw [← hq_]; exact (by (with_reducible repeat (first | apply Kd.R_alloc | apply Kd.R_drewN | apply Kd.R_drew)); exact HO_10.out)⟩; have n1_ : Aside0 (Below w.heap.size w wc) := ⟨by rw [← hq_]; exact (by repeat (first | (with_reducible first | exact HB.out | apply below_alloc | apply pw_below_drewN | apply below_drew1) | exact HB.out))⟩; clear HO_10 HB hq_; have HO_10 := n0_; have HB := n1_; clear n0_ n1_))
                                                                have n0_ := Aside0.mk (Kd.R_drew HO_10.out)
                                                                have n1_ := Aside0.mk (below_drew1 HB.out)
                                                                clear HO_10
                                                                clear HB
                                                                have HO_10 := n0_
                                                                have HB := n1_
                                                                clear n0_ n1_
                                                                obtain ⟨i073, hi073, _, hsz73, _⟩ := info_parts info3
                                                                obtain ⟨hcut73, hA73, hC73⟩ := print_take_of (P := Try.prog) (Value.int .i64) 0 47 3 .i64 Try.underlying47 hi073 hsz73 (some ad189) c178_0 (rd_L1 l0 x6_2) t186 (of_decide_eq_true (by first | (with_reducible assumption) | assumption)) (of_decide_eq_true (by first | (with_reducible assumption) | assumption)) HC178_0.out
                                                                have HR197 := Aside0.mk (Kd.C_of_reads (h1 := fun _ => rfl) (hA73 _ (Kd.reads_of_C HR178_0.out)))
                                                                have HC197 := Aside0.mk hC73
                                                                clear hA73 hC73 hi073 hsz73
                                                                have q74 : ((ji44) : Int) ≤ ((x10_30.length : Int) : Int) := of_decide_eq_true (by first | (with_reducible assumption) | assumption)
                                                                obtain ⟨i074, hi074, _, hsz74, _⟩ := info_parts info3
                                                                have hroom74 : x10_30.length ≤ co71 := (Kd.R_reads' HO_10.out).2.1
                                                                have hC74 : Kd.C (Kd.int .i64) _ Ao71 x10_30.length x10_30 := (Kd.R_reads' HO_10.out).2.2
                                                                have q074 : (0 : Int) ≤ ((ji44) : Int) := of_decide_eq_true (by first | (with_reducible assumption) | assumption)
                                                                have hcut74 := cut_from (P := Try.prog) 47 3 .i64 Try.underlying47 hi074 1 hsz74 Ao71 x10_30.length co71 (ji44) q074 q74
                                                                have hr74 := Kd.C_drop (m := ((ji44) : Int).toNat) (c := co71) hC74 (by omega) hroom74
                                                                obtain ⟨A74, hA74⟩ : ∃ A1, A1 = (if co71 = ((ji44) : Int).toNat then Ao71 else (Ao71 : Option Addr).map (·.add (((ji44) : Int).toNat * 1))) := ⟨_, rfl⟩
                                                                obtain ⟨c74, hc74⟩ : ∃ c1, c1 = co71 - ((ji44) : Int).toNat := ⟨_, rfl⟩
                                                                have hy74 : y201.length = x10_30.length - ((ji44) : Int).toNat := (by rw [Ny201.out, List.length_drop] <;> omega)
                                                                rw [show (x10_30).drop ((ji44) : Int).toNat = y201 from Ny201.out.symm] at hr74
                                                                replace hr74 : Kd.C (Kd.int .i64) _ A74 y201.length y201 := (by rw [hA74]; exact hr74)
                                                                rw [← hy74, ← hA74, ← hc74] at hcut74
                                                                have HR204 := Aside0.mk hr74
                                                                have HC204 := Aside0.mk (show y201.length ≤ c74 from by rw [hy74, hc74]; exact Nat.sub_le_sub_right hroom74 _)
                                                                clear hr74 hC74 hroom74 hi074 hsz74 hc74
                                                                have KY74 := Aside0.mk hy74
                                                                have KA74 := Aside0.mk hA74
                                                                clear hy74 hA74
                                                                have KL74 := Aside0.mk (show ((ji44) : Int).toNat ≤ x10_30.length from by omega)
                                                                replace q74 := eq_true q74
                                                                have q75 : (t193 : Int) ≤ ((x10_30.length : Int) : Int) := of_decide_eq_true (by first | (with_reducible assumption) | assumption)
                                                                obtain ⟨i075, hi075, _, hsz75, _⟩ := info_parts info3
                                                                have hroom75 : x10_30.length ≤ co71 := (Kd.R_reads' HO_10.out).2.1
                                                                have hC75 : Kd.C (Kd.int .i64) _ Ao71 x10_30.length x10_30 := (Kd.R_reads' HO_10.out).2.2
                                                                have hcut75 := cut_to (P := Try.prog) 47 3 .i64 Try.underlying47 hi075 Ao71 x10_30.length co71 t193 (of_decide_eq_true (by first | (with_reducible assumption) | assumption)) q75 hroom75
                                                                have hr75 := Kd.C_take (m := (t193 : Int).toNat) hC75 (by omega)
                                                                have hy75 : y208.length = (t193 : Int).toNat := (by rw [Ny208.out, List.length_take]; omega)
                                                                rw [← Ny208.out] at hr75
                                                                rw [← hy75] at hcut75
                                                                have HR211 := Aside0.mk hr75
                                                                have HC211 := Aside0.mk (show y208.length ≤ co71 from by omega)
                                                                clear hr75 hC75 hroom75 hi075 hsz75
                                                                have KY75 := Aside0.mk hy75
                                                                clear hy75
                                                                have KL75 := Aside0.mk (show (t193 : Int).toNat ≤ x10_30.length from by omega)
                                                                replace q75 := eq_true q75
                                                                obtain ⟨i076, hi076, _, hsz76, _⟩ := info_parts info3
                                                                obtain ⟨A76, hcut76, hA76, hC76⟩ := print_drop_of (P := Try.prog) (Value.int .i64) 0 47 3 .i64 Try.underlying47 hi076 hsz76 (some ad189) c178_0 (rd_L1 l0 x6_2) (ji51) (of_decide_eq_true (by first | (with_reducible assumption) | assumption)) (of_decide_eq_true (by first | (with_reducible assumption) | assumption)) HC178_0.out
                                                                have HR215 := Aside0.mk (Kd.C_of_reads (h1 := fun _ => rfl) (hA76 _ (Kd.reads_of_C HR178_0.out)))
                                                                have HC215 := Aside0.mk hC76
                                                                clear hA76 hC76 hi076 hsz76
                                                                refine start_ (n := 20) (S := fun w' => True) (ds := []) #[false, false, false, false, false, false, false, false, false, false, false, false, false, false, false, false, false, false, false, false] (by kernel_rfl) rfl rfl trivial (fun hHeld => ?_); refine with_tabW spec_GluePolygons.tab20 spec_GluePolygons.bits20 (fun HT_ HW_ => ?_)
                                                                generalize wc.drew = w72 at HO_10 HB HR197 HR204 HR211 HR215 hHeld ⊢
                                                                refine pure_ (i := 1) (N := some 77) (v := ?_) (a' := ?_) #[false, true, false, false, false, false, false, false, false, false, false, false, false, false, false, false, false, false, false, false] rfl rfl (any_of HT_.out (by kernel_rfl)) (fun _ _ _ h => h) (Or.inl ⟨by rfl, ?_⟩) ?_ ?_
                                                                rotate_left
                                                                · intro w'
                                                                  go_simp
                                                                  with_reducible rfl
                                                                rotate_left
                                                                · simp only [Act.put, List.setIfInBounds_toArray, List.set_cons_zero, List.set_cons_succ, i64_w, i32_w]
                                                                  rfl
                                                                refine pure_ (i := 2) (N := some 78) (v := ?_) (a' := ?_) #[false, true, true, false, false, false, false, false, false, false, false, false, false, false, false, false, false, false, false, false] rfl rfl (any_of HT_.out (by kernel_rfl)) (fun _ _ _ h => h) (Or.inl ⟨by rfl, ?_⟩) ?_ ?_
                                                                rotate_left
                                                                · intro w'
                                                                  go_simp
                                                                  with_reducible rfl
                                                                rotate_left
                                                                · simp only [Act.put, List.setIfInBounds_toArray, List.set_cons_zero, List.set_cons_succ, i64_w, i32_w]
                                                                  rfl
                                                                refine pure_ (i := 3) (N := some 79) (v := ?_) (a' := ?_) #[false, true, true, true, false, false, false, false, false, false, false, false, false, false, false, false, false, false, false, false] rfl rfl (any_of HT_.out (by kernel_rfl)) (fun _ _ _ h => h) (Or.inl ⟨by rfl, ?_⟩) ?_ ?_
                                                                rotate_left
                                                                · intro w'
                                                                  go_simp
                                                                  with_reducible rfl
                                                                rotate_left
                                                                · simp only [Act.put, List.setIfInBounds_toArray, List.set_cons_zero, List.set_cons_succ, i64_w, i32_w]
                                                                  rfl
                                                                refine pure_ (i := 5) (N := some 81) (v := ?_) (a' := ?_) #[false, true, true, true, false, true, false, false, false, false, false, false, false, false, false, false, false, false, false, false] rfl rfl (any_of HT_.out (by kernel_rfl)) (fun _ _ _ h => h) (Or.inl ⟨by rfl, ?_⟩) ?_ ?_
                                                                rotate_left
                                                                · intro w'
                                                                  go_simp
                                                                  with_reducible rfl
                                                                rotate_left
                                                                · simp only [Act.put, List.setIfInBounds_toArray, List.set_cons_zero, List.set_cons_succ, i64_w, i32_w]
                                                                  rfl
                                                                refine pure_ (i := 6) (N := some 82) (v := ?_) (a' := ?_) #[false, true, true, true, false, true, true, false, false, false, false, false, false, false, false, false, false, false, false, false] rfl rfl (any_of HT_.out (by kernel_rfl)) (fun _ _ _ h => h) (Or.inl ⟨by rfl, ?_⟩) ?_ ?_
                                                                rotate_left
                                                                · intro w'
                                                                  go_simp
                                                                  with_reducible rfl
                                                                rotate_left
                                                                · simp only [Act.put, List.setIfInBounds_toArray, List.set_cons_zero, List.set_cons_succ, i64_w, i32_w]
                                                                  rfl
                                                                refine pure_ (i := 7) (N := some 83) (v := ?_) (a' := ?_) #[false, true, true, true, false, true, true, true, false, false, false, false, false, false, false, false, false, false, false, false] rfl rfl (any_of HT_.out (by kernel_rfl)) (fun _ _ _ h => h) (Or.inl ⟨by rfl, ?_⟩) ?_ ?_
                                                                rotate_left
                                                                · intro w'
                                                                  go_simp
                                                                  with_reducible rfl
                                                                rotate_left
                                                                · simp only [Act.put, List.setIfInBounds_toArray, List.set_cons_zero, List.set_cons_succ, i64_w, i32_w]
                                                                  rfl
                                                                refine pure_ (i := 8) (N := some 84) (v := ?_) (a' := ?_) #[false, true, true, true, false, true, true, true, true, false, false, false, false, false, false, false, false, false, false, false] rfl rfl (any_of HT_.out (by kernel_rfl)) (fun _ _ _ h => h) (Or.inl ⟨by rfl, ?_⟩) ?_ ?_
                                                                rotate_left
                                                                · intro w'
                                                                  go_simp
                                                                  with_reducible rfl
                                                                rotate_left
                                                                · simp only [Act.put, List.setIfInBounds_toArray, List.set_cons_zero, List.set_cons_succ, i64_w, i32_w]
                                                                  rfl
                                                                refine pure_ (i := 10) (N := some 86) (v := ?_) (a' := ?_) #[false, true, true, true, false, true, true, true, true, false, true, false, false, false, false, false, false, false, false, false] rfl rfl (any_of HT_.out (by kernel_rfl)) (fun _ _ _ h => h) (Or.inl ⟨by rfl, ?_⟩) ?_ ?_
                                                                rotate_left
                                                                · intro w'
                                                                  go_simp
                                                                  with_reducible rfl
                                                                rotate_left
                                                                · simp only [Act.put, List.setIfInBounds_toArray, List.set_cons_zero, List.set_cons_succ, i64_w, i32_w]
                                                                  rfl
                                                                refine pure_ (i := 11) (N := some 87) (v := ?_) (a' := ?_) #[false, true, true, true, false, true, true, true, true, false, true, true, false, false, false, false, false, false, false, false] rfl rfl (any_of HT_.out (by kernel_rfl)) (fun _ _ _ h => h) (Or.inl ⟨by rfl, ?_⟩) ?_ ?_
                                                                rotate_left
                                                                · intro w'
                                                                  go_simp
                                                                  with_reducible rfl
                                                                rotate_left
                                                                · simp only [Act.put, List.setIfInBounds_toArray, List.set_cons_zero, List.set_cons_succ, i64_w, i32_w]
                                                                  rfl
                                                                refine pure_ (i := 12) (N := some 88) (v := ?_) (a' := ?_) #[false, true, true, true, false, true, true, true, true, false, true, true, true, false, false, false, false, false, false, false] rfl rfl (any_of HT_.out (by kernel_rfl)) (fun _ _ _ h => h) (Or.inl ⟨by rfl, ?_⟩) ?_ ?_
                                                                rotate_left
                                                                · intro w'
                                                                  go_simp
                                                                  with_reducible rfl
                                                                rotate_left
                                                                · simp only [Act.put, List.setIfInBounds_toArray, List.set_cons_zero, List.set_cons_succ, i64_w, i32_w]
                                                                  rfl
                                                                refine pure_ (i := 14) (N := some 90) (v := ?_) (a' := ?_) #[false, true, true, true, false, true, true, true, true, false, true, true, true, false, true, false, false, false, false, false] rfl rfl (any_of HT_.out (by kernel_rfl)) (fun _ _ _ h => h) (Or.inl ⟨by rfl, ?_⟩) ?_ ?_
                                                                rotate_left
                                                                · intro w'
                                                                  go_simp
                                                                  with_reducible rfl
                                                                rotate_left
                                                                · simp only [Act.put, List.setIfInBounds_toArray, List.set_cons_zero, List.set_cons_succ, i64_w, i32_w]
                                                                  rfl
                                                                refine pure_ (i := 15) (N := some 91) (v := ?_) (a' := ?_) #[false, true, true, true, false, true, true, true, true, false, true, true, true, false, true, true, false, false, false, false] rfl rfl (any_of HT_.out (by kernel_rfl)) (fun _ _ _ h => h) (Or.inl ⟨by rfl, ?_⟩) ?_ ?_
                                                                rotate_left
                                                                · intro w'
                                                                  go_simp
                                                                  with_reducible rfl
                                                                rotate_left
                                                                · simp only [Act.put, List.setIfInBounds_toArray, List.set_cons_zero, List.set_cons_succ, i64_w, i32_w]
                                                                  rfl
                                                                refine pure_ (i := 16) (N := some 92) (v := ?_) (a' := ?_) #[false, true, true, true, false, true, true, true, true, false, true, true, true, false, true, true, true, false, false, false] rfl rfl (any_of HT_.out (by kernel_rfl)) (fun _ _ _ h => h) (Or.inl ⟨by rfl, ?_⟩) ?_ ?_
                                                                rotate_left
                                                                · intro w'
                                                                  go_simp
                                                                  with_reducible rfl
                                                                rotate_left
                                                                · simp only [Act.put, List.setIfInBounds_toArray, List.set_cons_zero, List.set_cons_succ, i64_w, i32_w]
                                                                  rfl
                                                                refine pure_ (i := 17) (N := some 93) (v := ?_) (a' := ?_) #[false, true, true, true, false, true, true, true, true, false, true, true, true, false, true, true, true, true, false, false] rfl rfl (any_of HT_.out (by kernel_rfl)) (fun _ _ _ h => h) (Or.inl ⟨by rfl, ?_⟩) ?_ ?_
                                                                rotate_left
                                                                · intro w'
                                                                  go_simp
                                                                  with_reducible rfl
                                                                rotate_left
                                                                · simp only [Act.put, List.setIfInBounds_toArray, List.set_cons_zero, List.set_cons_succ, i64_w, i32_w]
                                                                  rfl
                                                                refine one_ (i := 0) (N := some 76) #[true, true, true, true, false, true, true, true, true, false, true, true, true, false, true, true, true, true, false, false] rfl rfl (one_of HT_.out (by kernel_rfl)) (by decide) (fun K hK => ?_)
                                                                refine Kd.R_lit_step (Kd.int .i64) _ 3 ?hg (N := 76) ?hd (xs := ([] : List Int)) (inner := []) (ok := fun _ => True) (okp := fun _ => True) ?hr ?hp (fun _ hk => hk) trivial (Below.refl _ _) (Nat.le_refl _) (by simp) ?_; (case hd => rfl); (case hg => rfl); (case hr => first | (go_simp; done) | (go_simp; rfl)); (case hp => exact (Reps.none _ _))
                                                                intro v195 w77 ho78 hb hg_ hnew_
                                                                clear hg_ hnew_
                                                                (first | rw [← Ny194.out] at ho78 | (simp only [Int.reduceToNat] at ho78; rw [← Ny194.out] at ho78))
                                                                have n0_ := Aside0.mk (Kd.R_elder' (by (with_reducible repeat (first | apply Kd.R_alloc | apply Kd.R_drewN | apply Kd.R_drew)); exact HO_10.out) (Kd.R_base ho78) hb)
                                                                have n1_ := Aside0.mk (Kd.R_lower (Kd.R_new' (Kd.R_newM (M := fun k_ => (w.heap.size ≤ k_)) ho78 (below_size (by repeat (first | (with_reducible first | exact HB.out | apply below_alloc | apply pw_below_drewN | apply below_drew1) | exact HB.out))) (fun k_ h_ => h_)) (Kd.R_lt (by (with_reducible repeat (first | apply Kd.R_alloc | apply Kd.R_drewN | apply Kd.R_drew)); exact HO_10.out))) (below_size (by repeat (first | (with_reducible first | exact HB.out | apply below_alloc | apply pw_below_drewN | apply below_drew1) | exact HB.out))))
                                                                have n2_ := Aside0.mk (Kd.C_below (by repeat (first | (with_reducible exact HR204.out) | (with_reducible refine Kd.C_alloc ?_ _) | (with_reducible refine Kd.C_drewN ?_ _) | (with_reducible refine Kd.C_drew ?_) | exact HR204.out)) hb)
                                                                have n3_ := Aside0.mk (Kd.C_below (by repeat (first | (with_reducible exact HR211.out) | (with_reducible refine Kd.C_alloc ?_ _) | (with_reducible refine Kd.C_drewN ?_ _) | (with_reducible refine Kd.C_drew ?_) | exact HR211.out)) hb)
                                                                have n4_ := Aside0.mk (below_step (by repeat (first | (with_reducible first | exact HB.out | apply below_alloc | apply pw_below_drewN | apply below_drew1) | exact HB.out)) hb)
                                                                clear HO_10
                                                                clear HR204
                                                                clear HR211
                                                                clear HB
                                                                have HO_10 := n0_
                                                                have HO196 := n1_
                                                                have HR204 := n2_
                                                                have HR211 := n3_
                                                                have HB := n4_
                                                                clear n0_ n1_ n2_ n3_ n4_
                                                                clear hb ho78
                                                                refine hK.out _ _ trivial (fun hHeld => ?_)
                                                                clear hK K
                                                                refine norm_ (a' := ?_) ?_ ?_
                                                                rotate_left
                                                                · show Act.put _ (some 76) _ = _
                                                                  simp only [Act.put, List.setIfInBounds_toArray, List.set_cons_zero, List.set_cons_succ, i64_w, i32_w]
                                                                  rfl
                                                                refine one_ (i := 4) (N := some 80) #[true, true, true, true, true, true, true, true, true, false, true, true, true, false, true, true, true, true, false, false] rfl rfl (one_of HT_.out (by kernel_rfl)) (by decide) (fun K hK => ?_)
                                                                refine Kd.R_append_rows_step (Kd.int .i64) (w0 := w) w.heap.size (by rfl) (.tmp 76) (.tmp 79) 47 3 (.int .i64 0) 8 rfl Try.underlying47 info3 rfl (by decide) (by omega) v195 y194 ((rd_L1 l0 x6_2).take (t186 : Int).toNat) _ _ _ (fun k_ => (w.heap.size ≤ k_) ∧ some k_ ≠ (.slice Ao71 x10_30.length co71 : Value).ownBlock) (fun _ => False) rfl rfl ?aO ?aR (fun _ _ h => h) (fun _ h => h.elim) ?aF ?aB ?aS ?aL ?_
                                                                (case aR => first | (rw [← show ((rd_L1 l0 x6_2).take (t186 : Int).toNat).length = t186.toNat from (by rw [List.length_take]; have h_ : (t186 : Int) ≤ ((rd_L1 l0 x6_2).length : Int) := of_decide_eq_true (by first | (with_reducible assumption) | assumption); omega)]; (repeat (first | exact (Kd.C_below HR197.out HB.out) | (with_reducible refine Kd.C_alloc ?_ _) | (with_reducible refine Kd.C_drewN ?_ _) | (with_reducible refine Kd.C_drew ?_))); done) | (refine (congrArg (fun n_ => ReadsRow _ _ _ _ n_ _) (show ((rd_L1 l0 x6_2).take (t186 : Int).toNat).length = t186.toNat from (by rw [List.length_take]; have h_ : (t186 : Int) ≤ ((rd_L1 l0 x6_2).length : Int) := of_decide_eq_true (by first | (with_reducible assumption) | assumption); omega))).mp ?_; (repeat (first | exact (Kd.C_below HR197.out HB.out) | (with_reducible refine Kd.C_alloc ?_ _) | (with_reducible refine Kd.C_drewN ?_ _) | (with_reducible refine Kd.C_drew ?_))); done) | (repeat (first | exact (Kd.C_below HR197.out HB.out) | (with_reducible refine Kd.C_alloc ?_ _) | (with_reducible refine Kd.C_drewN ?_ _) | (with_reducible refine Kd.C_drew ?_))))
                                                                (case aB => exact (by repeat (first | (with_reducible first | exact HB.out | apply below_alloc | apply pw_below_drewN | apply below_drew1) | exact HB.out)))
                                                                (case aF => exact (fun k_ hk => ⟨(Nat.le_trans (below_size (by repeat (first | (with_reducible first | exact HB.out | apply below_alloc | apply pw_below_drewN | apply below_drew1) | exact HB.out))) hk), Kd.fresh' (Kd.R_lt (by (with_reducible repeat (first | apply Kd.R_alloc | apply Kd.R_drewN | apply Kd.R_drew)); exact HO_10.out)) k_ hk⟩))
                                                                (case aO => exact (by (with_reducible repeat (first | apply Kd.R_alloc | apply Kd.R_drewN | apply Kd.R_drew)); exact Kd.R_mono HO196.out (fun _ hk => ⟨hk.1.1, hk.2⟩)))
                                                                (case aS => exact (below_size (by repeat (first | (with_reducible first | exact HB.out | apply below_alloc | apply pw_below_drewN | apply below_drew1) | exact HB.out))))
                                                                (case aL => have := LMc43.out; have hlx_ := (show ((rd_L1 l0 x6_2).take (t186 : Int).toNat).length = t186.toNat from (by rw [List.length_take]; have h_ : (t186 : Int) ≤ ((rd_L1 l0 x6_2).length : Int) := of_decide_eq_true (by first | (with_reducible assumption) | assumption); omega)); omega)
                                                                intro v199 w79 ho hb hg hat
                                                                rw [← Ny198.out] at ho
                                                                have n0_ := Aside0.mk (Kd.R_after (ok := (fun k_ => (w.heap.size ≤ k_))) (by (with_reducible repeat (first | apply Kd.R_alloc | apply Kd.R_drewN | apply Kd.R_drew)); exact HO_10.out) hg hat)
                                                                have n1_ := Aside0.mk (hb)
                                                                have n2_ := Aside0.mk ((show Kd.C (Kd.int .i64) w79 A74 y201.length y201 from by rw [Ny201.out, KA74.out]; exact Kd.C_drop (m := ((ji44) : Int).toNat) (c := co71) ((Kd.R_reads' (Kd.R_after (ok := (fun k_ => (w.heap.size ≤ k_))) (by (with_reducible repeat (first | apply Kd.R_alloc | apply Kd.R_drewN | apply Kd.R_drew)); exact HO_10.out) hg hat)).2.2) KL74.out ((Kd.R_reads' (Kd.R_after (ok := (fun k_ => (w.heap.size ≤ k_))) (by (with_reducible repeat (first | apply Kd.R_alloc | apply Kd.R_drewN | apply Kd.R_drew)); exact HO_10.out) hg hat)).2.1)))
                                                                have n3_ := Aside0.mk ((show Kd.C (Kd.int .i64) w79 Ao71 y208.length y208 from by rw [Ny208.out]; exact Kd.C_take (m := (t193 : Int).toNat) ((Kd.R_reads' (Kd.R_after (ok := (fun k_ => (w.heap.size ≤ k_))) (by (with_reducible repeat (first | apply Kd.R_alloc | apply Kd.R_drewN | apply Kd.R_drew)); exact HO_10.out) hg hat)).2.2) KL75.out))
                                                                have n4_ := Aside0.mk (ho)
                                                                clear HO_10
                                                                clear HB
                                                                clear HR204
                                                                clear HR211
                                                                clear HO196
                                                                have HO_10 := n0_
                                                                have HB := n1_
                                                                have HR204 := n2_
                                                                have HR211 := n3_
                                                                have HO200 := n4_
                                                                clear n0_ n1_ n2_ n3_ n4_
                                                                clear ho hb hg hat
                                                                refine hK.out _ _ trivial (fun hHeld => ?_)
                                                                clear hK K
                                                                refine norm_ (a' := ?_) ?_ ?_
                                                                rotate_left
                                                                · show Act.put _ (some 80) _ = _
                                                                  simp only [Act.put, List.setIfInBounds_toArray, List.set_cons_zero, List.set_cons_succ, i64_w, i32_w]
                                                                  rfl
                                                                refine one_ (i := 9) (N := some 85) #[true, true, true, true, true, true, true, true, true, true, true, true, true, false, true, true, true, true, false, false] rfl rfl (one_of HT_.out (by kernel_rfl)) (by decide) (fun K hK => ?_)
                                                                refine Kd.R_append_rows_step (Kd.int .i64) (w0 := w) w.heap.size (by rfl) (.tmp 80) (.tmp 84) 47 3 (.int .i64 0) 8 rfl Try.underlying47 info3 rfl (by decide) (by omega) v199 y198 y201 _ _ _ (fun k_ => (w.heap.size ≤ k_) ∧ some k_ ≠ (.slice Ao71 x10_30.length co71 : Value).ownBlock) (fun _ => False) rfl rfl ?aO ?aR (fun _ _ h => h) (fun _ h => h.elim) ?aF ?aB ?aS ?aL ?_
                                                                (case aR => repeat (first | exact (by repeat (first | (with_reducible exact HR204.out) | (with_reducible refine Kd.C_alloc ?_ _) | (with_reducible refine Kd.C_drewN ?_ _) | (with_reducible refine Kd.C_drew ?_) | exact HR204.out)) | (with_reducible refine Kd.C_alloc ?_ _) | (with_reducible refine Kd.C_drewN ?_ _) | (with_reducible refine Kd.C_drew ?_)))
                                                                (case aB => exact (by repeat (first | (with_reducible first | exact HB.out | apply below_alloc | apply pw_below_drewN | apply below_drew1) | exact HB.out)))
                                                                (case aF => exact (fun k_ hk => ⟨(Nat.le_trans (below_size (by repeat (first | (with_reducible first | exact HB.out | apply below_alloc | apply pw_below_drewN | apply below_drew1) | exact HB.out))) hk), Kd.fresh' (Kd.R_lt (by (with_reducible repeat (first | apply Kd.R_alloc | apply Kd.R_drewN | apply Kd.R_drew)); exact HO_10.out)) k_ hk⟩))
                                                                (case aO => exact (by (with_reducible repeat (first | apply Kd.R_alloc | apply Kd.R_drewN | apply Kd.R_drew)); exact HO200.out))
                                                                (case aS => exact (below_size (by repeat (first | (with_reducible first | exact HB.out | apply below_alloc | apply pw_below_drewN | apply below_drew1) | exact HB.out))))
                                                                (case aL => have := LMc47.out; omega)
                                                                intro v206 w80 ho hb hg hat
                                                                rw [← Ny205.out] at ho
                                                                have n0_ := Aside0.mk (Kd.R_after (ok := (fun k_ => (w.heap.size ≤ k_))) (by (with_reducible repeat (first | apply Kd.R_alloc | apply Kd.R_drewN | apply Kd.R_drew)); exact HO_10.out) hg hat)
                                                                have n1_ := Aside0.mk (hb)
                                                                have n2_ := Aside0.mk ((show Kd.C (Kd.int .i64) w80 A74 y201.length y201 from by rw [Ny201.out, KA74.out]; exact Kd.C_drop (m := ((ji44) : Int).toNat) (c := co71) ((Kd.R_reads' (Kd.R_after (ok := (fun k_ => (w.heap.size ≤ k_))) (by (with_reducible repeat (first | apply Kd.R_alloc | apply Kd.R_drewN | apply Kd.R_drew)); exact HO_10.out) hg hat)).2.2) KL74.out ((Kd.R_reads' (Kd.R_after (ok := (fun k_ => (w.heap.size ≤ k_))) (by (with_reducible repeat (first | apply Kd.R_alloc | apply Kd.R_drewN | apply Kd.R_drew)); exact HO_10.out) hg hat)).2.1)))
                                                                have n3_ := Aside0.mk ((show Kd.C (Kd.int .i64) w80 Ao71 y208.length y208 from by rw [Ny208.out]; exact Kd.C_take (m := (t193 : Int).toNat) ((Kd.R_reads' (Kd.R_after (ok := (fun k_ => (w.heap.size ≤ k_))) (by (with_reducible repeat (first | apply Kd.R_alloc | apply Kd.R_drewN | apply Kd.R_drew)); exact HO_10.out) hg hat)).2.2) KL75.out))
                                                                have n4_ := Aside0.mk (ho)
                                                                clear HO_10
                                                                clear HB
                                                                clear HR204
                                                                clear HR211
                                                                clear HO200
                                                                have HO_10 := n0_
                                                                have HB := n1_
                                                                have HR204 := n2_
                                                                have HR211 := n3_
                                                                have HO207 := n4_
                                                                clear n0_ n1_ n2_ n3_ n4_
                                                                clear ho hb hg hat
                                                                refine hK.out _ _ trivial (fun hHeld => ?_)
                                                                clear hK K
                                                                refine norm_ (a' := ?_) ?_ ?_
                                                                rotate_left
                                                                · show Act.put _ (some 85) _ = _
                                                                  simp only [Act.put, List.setIfInBounds_toArray, List.set_cons_zero, List.set_cons_succ, i64_w, i32_w]
                                                                  rfl
                                                                refine one_ (i := 13) (N := some 89) #[true, true, true, true, true, true, true, true, true, true, true, true, true, true, true, true, true, true, false, false] rfl rfl (one_of HT_.out (by kernel_rfl)) (by decide) (fun K hK => ?_)
                                                                refine Kd.R_append_rows_step (Kd.int .i64) (w0 := w) w.heap.size (by rfl) (.tmp 85) (.tmp 88) 47 3 (.int .i64 0) 8 rfl Try.underlying47 info3 rfl (by decide) (by omega) v206 y205 y208 _ _ _ (fun k_ => (w.heap.size ≤ k_) ∧ some k_ ≠ (.slice Ao71 x10_30.length co71 : Value).ownBlock) (fun _ => False) rfl rfl ?aO ?aR (fun _ _ h => h) (fun _ h => h.elim) ?aF ?aB ?aS ?aL ?_
                                                                (case aR => repeat (first | exact (by repeat (first | (with_reducible exact HR211.out) | (with_reducible refine Kd.C_alloc ?_ _) | (with_reducible refine Kd.C_drewN ?_ _) | (with_reducible refine Kd.C_drew ?_) | exact HR211.out)) | (with_reducible refine Kd.C_alloc ?_ _) | (with_reducible refine Kd.C_drewN ?_ _) | (with_reducible refine Kd.C_drew ?_)))
                                                                (case aB => exact (by repeat (first | (with_reducible first | exact HB.out | apply below_alloc | apply pw_below_drewN | apply below_drew1) | exact HB.out)))
                                                                (case aF => exact (fun k_ hk => ⟨(Nat.le_trans (below_size (by repeat (first | (with_reducible first | exact HB.out | apply below_alloc | apply pw_below_drewN | apply below_drew1) | exact HB.out))) hk), Kd.fresh' (Kd.R_lt (by (with_reducible repeat (first | apply Kd.R_alloc | apply Kd.R_drewN | apply Kd.R_drew)); exact HO_10.out)) k_ hk⟩))
                                                                (case aO => exact (by (with_reducible repeat (first | apply Kd.R_alloc | apply Kd.R_drewN | apply Kd.R_drew)); exact HO207.out))
                                                                (case aS => exact (below_size (by repeat (first | (with_reducible first | exact HB.out | apply below_alloc | apply pw_below_drewN | apply below_drew1) | exact HB.out))))
                                                                (case aL => have := LMc50.out; omega)
                                                                intro v213 w81 ho hb hg hat
                                                                rw [← Ny212.out] at ho
                                                                have n0_ := Aside0.mk (Kd.R_after (ok := (fun k_ => (w.heap.size ≤ k_))) (by (with_reducible repeat (first | apply Kd.R_alloc | apply Kd.R_drewN | apply Kd.R_drew)); exact HO_10.out) hg hat)
                                                                have n1_ := Aside0.mk (hb)
                                                                have n2_ := Aside0.mk ((show Kd.C (Kd.int .i64) w81 A74 y201.length y201 from by rw [Ny201.out, KA74.out]; exact Kd.C_drop (m := ((ji44) : Int).toNat) (c := co71) ((Kd.R_reads' (Kd.R_after (ok := (fun k_ => (w.heap.size ≤ k_))) (by (with_reducible repeat (first | apply Kd.R_alloc | apply Kd.R_drewN | apply Kd.R_drew)); exact HO_10.out) hg hat)).2.2) KL74.out ((Kd.R_reads' (Kd.R_after (ok := (fun k_ => (w.heap.size ≤ k_))) (by (with_reducible repeat (first | apply Kd.R_alloc | apply Kd.R_drewN | apply Kd.R_drew)); exact HO_10.out) hg hat)).2.1)))
                                                                have n3_ := Aside0.mk ((show Kd.C (Kd.int .i64) w81 Ao71 y208.length y208 from by rw [Ny208.out]; exact Kd.C_take (m := (t193 : Int).toNat) ((Kd.R_reads' (Kd.R_after (ok := (fun k_ => (w.heap.size ≤ k_))) (by (with_reducible repeat (first | apply Kd.R_alloc | apply Kd.R_drewN | apply Kd.R_drew)); exact HO_10.out) hg hat)).2.2) KL75.out))
                                                                have n4_ := Aside0.mk (ho)
                                                                clear HO_10
                                                                clear HB
                                                                clear HR204
                                                                clear HR211
                                                                clear HO207
                                                                have HO_10 := n0_
                                                                have HB := n1_
                                                                have HR204 := n2_
                                                                have HR211 := n3_
                                                                have HO214 := n4_
                                                                clear n0_ n1_ n2_ n3_ n4_
                                                                clear ho hb hg hat
                                                                refine hK.out _ _ trivial (fun hHeld => ?_)
                                                                clear hK K
                                                                refine norm_ (a' := ?_) ?_ ?_
                                                                rotate_left
                                                                · show Act.put _ (some 89) _ = _
                                                                  simp only [Act.put, List.setIfInBounds_toArray, List.set_cons_zero, List.set_cons_succ, i64_w, i32_w]
                                                                  rfl
                                                                refine one_ (i := 18) (N := some 94) #[true, true, true, true, true, true, true, true, true, true, true, true, true, true, true, true, true, true, true, false] rfl rfl (one_of HT_.out (by kernel_rfl)) (by decide) (fun K hK => ?_)
                                                                refine Kd.R_append_rows_step (Kd.int .i64) (w0 := w) w.heap.size (by rfl) (.tmp 89) (.tmp 93) 47 3 (.int .i64 0) 8 rfl Try.underlying47 info3 rfl (by decide) (by omega) v213 y212 ((rd_L1 l0 x6_2).drop ((ji51) : Int).toNat) _ _ _ (fun k_ => (w.heap.size ≤ k_) ∧ some k_ ≠ (.slice Ao71 x10_30.length co71 : Value).ownBlock) (fun _ => False) rfl rfl ?aO ?aR (fun _ _ h => h) (fun _ h => h.elim) ?aF ?aB ?aS ?aL ?_
                                                                (case aR => first | (rw [← show ((rd_L1 l0 x6_2).drop ((ji51) : Int).toNat).length = ((rd_L1 l0 x6_2).length - (ji51).toNat) from List.length_drop]; (repeat (first | exact (Kd.C_below HR215.out HB.out) | (with_reducible refine Kd.C_alloc ?_ _) | (with_reducible refine Kd.C_drewN ?_ _) | (with_reducible refine Kd.C_drew ?_))); done) | (refine (congrArg (fun n_ => ReadsRow _ _ _ _ n_ _) (show ((rd_L1 l0 x6_2).drop ((ji51) : Int).toNat).length = ((rd_L1 l0 x6_2).length - (ji51).toNat) from List.length_drop)).mp ?_; (repeat (first | exact (Kd.C_below HR215.out HB.out) | (with_reducible refine Kd.C_alloc ?_ _) | (with_reducible refine Kd.C_drewN ?_ _) | (with_reducible refine Kd.C_drew ?_))); done) | (repeat (first | exact (Kd.C_below HR215.out HB.out) | (with_reducible refine Kd.C_alloc ?_ _) | (with_reducible refine Kd.C_drewN ?_ _) | (with_reducible refine Kd.C_drew ?_))))
                                                                (case aB => exact (by repeat (first | (with_reducible first | exact HB.out | apply below_alloc | apply pw_below_drewN | apply below_drew1) | exact HB.out)))
                                                                (case aF => exact (fun k_ hk => ⟨(Nat.le_trans (below_size (by repeat (first | (with_reducible first | exact HB.out | apply below_alloc | apply pw_below_drewN | apply below_drew1) | exact HB.out))) hk), Kd.fresh' (Kd.R_lt (by (with_reducible repeat (first | apply Kd.R_alloc | apply Kd.R_drewN | apply Kd.R_drew)); exact HO_10.out)) k_ hk⟩))
                                                                (case aO => exact (by (with_reducible repeat (first | apply Kd.R_alloc | apply Kd.R_drewN | apply Kd.R_drew)); exact HO214.out))
                                                                (case aS => exact (below_size (by repeat (first | (with_reducible first | exact HB.out | apply below_alloc | apply pw_below_drewN | apply below_drew1) | exact HB.out))))
                                                                (case aL => have := LMc54.out; have hlx_ := (show ((rd_L1 l0 x6_2).drop ((ji51) : Int).toNat).length = ((rd_L1 l0 x6_2).length - (ji51).toNat) from List.length_drop); omega)
                                                                intro v217 w82 ho hb hg hat
                                                                rw [← Ny216.out] at ho
                                                                have n0_ := Aside0.mk (Kd.R_after (ok := (fun k_ => (w.heap.size ≤ k_))) (by (with_reducible repeat (first | apply Kd.R_alloc | apply Kd.R_drewN | apply Kd.R_drew)); exact HO_10.out) hg hat)
                                                                have n1_ := Aside0.mk (hb)
                                                                have n2_ := Aside0.mk ((show Kd.C (Kd.int .i64) w82 A74 y201.length y201 from by rw [Ny201.out, KA74.out]; exact Kd.C_drop (m := ((ji44) : Int).toNat) (c := co71) ((Kd.R_reads' (Kd.R_after (ok := (fun k_ => (w.heap.size ≤ k_))) (by (with_reducible repeat (first | apply Kd.R_alloc | apply Kd.R_drewN | apply Kd.R_drew)); exact HO_10.out) hg hat)).2.2) KL74.out ((Kd.R_reads' (Kd.R_after (ok := (fun k_ => (w.heap.size ≤ k_))) (by (with_reducible repeat (first | apply Kd.R_alloc | apply Kd.R_drewN | apply Kd.R_drew)); exact HO_10.out) hg hat)).2.1)))
                                                                have n3_ := Aside0.mk ((show Kd.C (Kd.int .i64) w82 Ao71 y208.length y208 from by rw [Ny208.out]; exact Kd.C_take (m := (t193 : Int).toNat) ((Kd.R_reads' (Kd.R_after (ok := (fun k_ => (w.heap.size ≤ k_))) (by (with_reducible repeat (first | apply Kd.R_alloc | apply Kd.R_drewN | apply Kd.R_drew)); exact HO_10.out) hg hat)).2.2) KL75.out))
                                                                have n4_ := Aside0.mk (ho)
                                                                clear HO_10
                                                                clear HB
                                                                clear HR204
                                                                clear HR211
                                                                clear HO214
                                                                have HO_10 := n0_
                                                                have HB := n1_
                                                                have HR204 := n2_
                                                                have HR211 := n3_
                                                                have HO218 := n4_
                                                                clear n0_ n1_ n2_ n3_ n4_
                                                                clear ho hb hg hat
                                                                refine hK.out _ _ trivial (fun hHeld => ?_)
                                                                clear hK K
                                                                refine norm_ (a' := ?_) ?_ ?_
                                                                rotate_left
                                                                · show Act.put _ (some 94) _ = _
                                                                  simp only [Act.put, List.setIfInBounds_toArray, List.set_cons_zero, List.set_cons_succ, i64_w, i32_w]
                                                                  rfl
                                                                refine pure_ (i := 19) (N := some 13) (v := ?_) (a' := ?_) #[true, true, true, true, true, true, true, true, true, true, true, true, true, true, true, true, true, true, true, true] rfl rfl (any_of HT_.out (by kernel_rfl)) (fun _ _ _ h => h) (Or.inl ⟨by rfl, ?_⟩) ?_ ?_
                                                                rotate_left
                                                                · intro w'
                                                                  go_simp
                                                                  with_reducible rfl
                                                                rotate_left
                                                                · simp only [Act.put, List.setIfInBounds_toArray, List.set_cons_zero, List.set_cons_succ, i64_w, i32_w]
                                                                  rfl
                                                                refine done_ (done_of HT_.out (by kernel_rfl)) ?_
                                                                obtain ⟨Ao83, co83, eo83⟩ := Kd.R_slice HO218.out
                                                                subst eo83
                                                                try go_wp2_with (first | ((with_reducible refine gate_dst (N := 99) rfl ?_); refine Kd.S_lit (Kd.slice 3 (Kd.int .i64)) _ 47 ?hg (N := 99) ?hd (xs := ([] : List (List Int))) (inner := []) (ok := fun _ => True) (okp := fun _ => True) ?hr ?hp (fun _ hk => hk) trivial (Below.refl _ _) (Nat.le_refl _) (by simp) ?_; (case hd => rfl); (case hg => rfl); (case hr => first | (go_simp; done) | (go_simp; rfl)); (case hp => exact (Reps.none _ _)); intro v223 w84 ho85 hb hg_ hnew_; clear hg_ hnew_; (first | rw [← Ny222.out] at ho85 | (simp only [Int.reduceToNat] at ho85; rw [← Ny222.out] at ho85)); have n0_ := Aside0.mk (Kd.R_below (by (with_reducible repeat (first | apply Kd.R_alloc | apply Kd.R_drewN | apply Kd.R_drew)); exact HO_10.out) hb); have n1_ := Aside0.mk (Kd.R_below (by (with_reducible repeat (first | apply Kd.R_alloc | apply Kd.R_drewN | apply Kd.R_drew)); exact HO218.out) hb); have n2_ := Aside0.mk (Kd.S_lower (Kd.S_new' (Kd.S_new' (Kd.S_newM (M := fun k_ => (w.heap.size ≤ k_)) ho85 (below_size (by repeat (first | (with_reducible first | exact HB.out | apply below_alloc | apply pw_below_drewN | apply below_drew1) | exact HB.out))) (fun k_ h_ => h_)) (Kd.R_lt (by (with_reducible repeat (first | apply Kd.R_alloc | apply Kd.R_drewN | apply Kd.R_drew)); exact HO_10.out))) (Kd.R_lt (by (with_reducible repeat (first | apply Kd.R_alloc | apply Kd.R_drewN | apply Kd.R_drew)); exact HO218.out))) (below_size (by repeat (first | (with_reducible first | exact HB.out | apply below_alloc | apply pw_below_drewN | apply below_drew1) | exact HB.out)))); have n3_ := Aside0.mk (Kd.C_below (by repeat (first | (with_reducible exact HR204.out) | (with_reducible refine Kd.C_alloc ?_ _) | (with_reducible refine Kd.C_drewN ?_ _) | (with_reducible refine Kd.C_drew ?_) | exact HR204.out)) hb); have n4_ := Aside0.mk (Kd.C_below (by repeat (first | (with_reducible exact HR211.out) | (with_reducible refine Kd.C_alloc ?_ _) | (with_reducible refine Kd.C_drewN ?_ _) | (with_reducible refine Kd.C_drew ?_) | exact HR211.out)) hb); have n5_ := Aside0.mk (below_step (by repeat (first | (with_reducible first | exact HB.out | apply below_alloc | apply pw_below_drewN | apply below_drew1) | exact HB.out)) hb); clear HO_10; clear HO218; clear HR204; clear HR211; clear HB; have HO_10 := n0_; have HO218 := n1_; have HO224 := n2_; have HR204 := n3_; have HR211 := n4_; have HB := n5_; clear n0_ n1_ n2_ n3_ n4_ n5_; clear hb ho85))
                                                                go_loopg [14, 15] kj30 (fun kq v14 v15 w' => ∃ (x14_4 : List (List Int)) (x15_4 : Int) (A0_ : Option Addr) (c0_ : Nat) (z0_ : List Int), v15 = .int .i64 x15_4 ∧ Aside0 (spec_GluePolygons.l1 kq l0 x6_2 x7_2 y216 x14_4 x15_4 = some (r1, r2)) ∧ Aside0 (kq ≤ kj30) ∧ Aside0 (0 ≤ x15_4) ∧ Aside0 (x15_4 ≤ x6_2 → Ao83 = A0_ ∧ co83 = c0_ ∧ y216 = z0_) ∧ Aside0 (Kd.R (Kd.int .i64) 3 w' w.heap.size (fun k_ => (w.heap.size ≤ k_)) (.slice A0_ z0_.length c0_) z0_) ∧ Aside0 (Kd.S (Kd.slice 3 (Kd.int .i64)) 47 w' w.heap.size (fun k_ => (w.heap.size ≤ k_) ∧ some k_ ≠ ((.slice A0_ z0_.length c0_) : Value).ownBlock) v14 x14_4) ∧ Aside0 (Below w.heap.size w w'))
                                                                case atStart => exact ⟨(y222), (0), Ao83, co83, y216, (by first | rfl | (simp; done) | (simp [*]; done)), H', ⟨Nat.le_refl _⟩, ⟨Int.le_refl 0⟩, ⟨fun _ => ⟨rfl, rfl, rfl⟩⟩, ⟨by (with_reducible repeat (first | apply Kd.R_alloc | apply Kd.R_drewN | apply Kd.R_drew)); exact Kd.R_mono HO218.out (fun _ hk => hk.1)⟩, ⟨by (with_reducible repeat (first | apply Kd.S_alloc | apply Kd.S_drewN | apply Kd.S_drew)); exact Kd.S_mono HO224.out (fun _ hk => ⟨hk.1.1.1, hk.2⟩)⟩, ⟨by repeat (first | (with_reducible first | exact HB.out | apply below_alloc | apply pw_below_drewN | apply below_drew1) | exact HB.out)⟩⟩
                                                                case round =>
                                                                  clear H'
                                                                  try clear c1
                                                                  try clear p2
                                                                  try clear c4
                                                                  try clear c5
                                                                  try clear c7
                                                                  try clear q7
                                                                  try clear c17
                                                                  try clear c43
                                                                  try clear c47
                                                                  try clear c50
                                                                  try clear c54
                                                                  try clear c55
                                                                  try clear c55b0
                                                                  try clear c55b1
                                                                  try clear c55b2
                                                                  try clear c74
                                                                  try clear q74
                                                                  try clear q75
                                                                  try clear c78
                                                                  try clear q074
                                                                  try clear q74
                                                                  try clear q75
                                                                  obtain ⟨x14_4, x15_4, A0_, c0_, z0_, rfl, HA, HK4, HNN_, HEQ_, HO_13, HO_14, HB⟩ := hrel
                                                                  cases gk with
                                                                  | zero => exact absurd HA.out (by simp [spec_GluePolygons.l1])
                                                                  | succ k4 =>
                                                                    have H := HA.out
                                                                    clear HA
                                                                    simp only [spec_GluePolygons.l1] at H
                                                                    by_cases c86 : x15_4 < (l0.length : Int)
                                                                    · rw [if_pos c86] at H
                                                                      have c86b0 : decide (x15_4 < (l0.length : Int)) = true := decide_eq_true c86
                                                                      clear c86
                                                                      by_cases c87 : x15_4 = x6_2
                                                                      · rw [if_pos c87] at H
                                                                        obtain ⟨rfl, rfl, rfl⟩ := HEQ_.out (Int.le_of_eq c87)
                                                                        have E_ := Aside0.mk c87
                                                                        have c87b0 : (x15_4 == x6_2) = true := beq_iff_eq.mpr c87
                                                                        have c87b1 : (x15_4 != x6_2) = false := bne_eq_false_iff_eq.mpr c87
                                                                        clear c87
                                                                        obtain ⟨y229, hy229⟩ : ∃ y_ : List Int, y_ = (([] : List Int)) := ⟨_, rfl⟩
                                                                        replace H : (if y229.length + y216.length < 17592186044416 then (if x14_4.length < 5864062014805 then (spec_GluePolygons.l1 k4 l0 x6_2 x7_2 y216 (x14_4 ++ [(y229 ++ y216)]) (wrap64 (x15_4 + 1))) else (none)) else (none)) = some (r1, r2) := by first | (rw [hy229]; with_reducible exact H) | (have H2_ := (Option.bind_some _ _).symm.trans H; rw [hy229]; with_reducible exact H2_) | (have H2_ := (Option.bind_some _ _).symm.trans H; with_reducible exact H2_) | with_reducible exact H | (rw [hy229]; exact H) | exact H
                                                                        have Ny229 := Aside0.mk hy229
                                                                        clear hy229
                                                                        by_cases c88 : y229.length + y216.length < 17592186044416
                                                                        · rw [if_pos c88] at H
                                                                          have LMc88 := Aside0.mk c88
                                                                          clear c88
                                                                          obtain ⟨y232, hy232⟩ : ∃ y_ : List Int, y_ = (y229 ++ y216) := ⟨_, rfl⟩
                                                                          replace H : (if x14_4.length < 5864062014805 then (spec_GluePolygons.l1 k4 l0 x6_2 x7_2 y216 (x14_4 ++ [y232]) (wrap64 (x15_4 + 1))) else (none)) = some (r1, r2) := by first | (rw [hy232]; with_reducible exact H) | (have H2_ := (Option.bind_some _ _).symm.trans H; rw [hy232]; with_reducible exact H2_) | (have H2_ := (Option.bind_some _ _).symm.trans H; with_reducible exact H2_) | with_reducible exact H | (rw [hy232]; exact H) | exact H
                                                                          have Ny232 := Aside0.mk hy232
                                                                          clear hy232
                                                                          by_cases c89 : x14_4.length < 5864062014805
                                                                          · rw [if_pos c89] at H
                                                                            have LMc89 := Aside0.mk c89
                                                                            clear c89
                                                                            obtain ⟨y235, hy235⟩ : ∃ y_ : List (List Int), y_ = (x14_4 ++ [y232]) := ⟨_, rfl⟩
                                                                            replace H : (spec_GluePolygons.l1 k4 l0 x6_2 x7_2 y216 y235 (wrap64 (x15_4 + 1))) = some (r1, r2) := by first | (rw [hy235]; with_reducible exact H) | (have H2_ := (Option.bind_some _ _).symm.trans H; rw [hy235]; with_reducible exact H2_) | (have H2_ := (Option.bind_some _ _).symm.trans H; with_reducible exact H2_) | with_reducible exact H | (rw [hy235]; exact H) | exact H
                                                                            have Ny235 := Aside0.mk hy235
                                                                            clear hy235
                                                                            have H' := Aside0.mk H
                                                                            clear H
                                                                            have Nq_ : y235 = x14_4 ++ [y216] := by rw [Ny235.out, Ny232.out, Ny229.out, List.nil_append]
                                                                            have Nq2_ := Aside0.mk Nq_
                                                                            clear Nq_
                                                                            go_wp2_with ((with_reducible refine gate_builtin (b := .append) (xs := #[.tmp 109, .tmp 111]) rfl ?_); at_builtin; refine Kd.S_append (Kd.slice 3 (Kd.int .i64)) (w0 := w) w.heap.size rfl (.tmp 109) (.tmp 111) 22 47 (.slice none 0 0) 24 rfl Try.underlying22 info47 rfl (by decide) (by omega) u14 x14_4 y216 [.slice Ao83 y216.length co83] (fun k_ => (w.heap.size ≤ k_)) (fun k_ => some k_ = (.slice Ao83 y216.length co83 : Value).ownBlock) rfl rfl ?aP (fun k_ hk_ => (Kd.R_mono (ok' := fun k_ => ((fun k_ => (w.heap.size ≤ k_))) k_ ∧ some k_ ≠ (u14 : Value).ownBlock) (Kd.R_apart' (HO_13.out) (Kd.S_typed HO_14.out) (by decide)) (fun k_ hk => hk)).1 k_ hk_.symm) ?aF ?aO ?aB ?aS ?aL ?_; (case aP => exact Kd.M_row (Kd.R_mono (Kd.R_tight rfl (Kd.R_mono (ok' := fun k_ => ((fun k_ => (w.heap.size ≤ k_))) k_ ∧ some k_ ≠ (u14 : Value).ownBlock) (Kd.R_apart' (HO_13.out) (Kd.S_typed HO_14.out) (by decide)) (fun k_ hk => hk))) (fun _ h_ => h_))); (case aB => exact (by repeat (first | (with_reducible first | exact HB.out | apply below_alloc | apply pw_below_drewN | apply below_drew1) | exact HB.out))); (case aF => exact (fun k_ hk => (Nat.le_trans (below_size (by repeat (first | (with_reducible first | exact HB.out | apply below_alloc | apply pw_below_drewN | apply below_drew1) | exact HB.out))) hk))); (case aO => exact (by (with_reducible repeat (first | apply Kd.S_alloc | apply Kd.S_drewN | apply Kd.S_drew)); exact Kd.S_mono HO_14.out (fun k_ hk => ⟨hk.1, fun e_ => hk.2 e_⟩))); (case aS => exact (below_size (by repeat (first | (with_reducible first | exact HB.out | apply below_alloc | apply pw_below_drewN | apply below_drew1) | exact HB.out)))); (case aL => have := LMc89.out; omega); intro v236_ w93_ ho hb hg hat; rw [← Nq2_.out] at ho; have n1_ := Aside0.mk (hb); have n2_ := Aside0.mk (ho); clear HB; clear HO_14; have HB := n1_; have HO237_ := n2_; clear n1_ n2_; clear ho hb hg hat)
                                                                            go_roundg k4
                                                                            case measure => have := HJ2.out; have := HK2.out; have := HJ30.out; have := HK4.out; omega
                                                                            case rel => exact ⟨(y235), (wrap64 (x15_4 + 1)), none, 0, [], (by first | rfl | (simp; done) | (simp [*]; done)), H', ⟨by have := HJ2.out; have := HK2.out; have := HJ30.out; have := HK4.out; omega⟩, ⟨by have h1_ := HNN_.out; have h2_ := of_decide_eq_true (by assumption : decide (x15_4 < (l0.length : Int)) = true); have h3_ := HR0.out.2.1; unfold wrap64; omega⟩, ⟨fun h_ => absurd h_ (by have h4_ := E_.out; have h1_ := HNN_.out; have h2_ := of_decide_eq_true (by assumption : decide (x15_4 < (l0.length : Int)) = true); have h3_ := HR0.out.2.1; unfold wrap64; omega)⟩, ⟨Kd.R_nil _ _ _ _ _⟩, ⟨by (with_reducible repeat (first | apply Kd.S_alloc | apply Kd.S_drewN | apply Kd.S_drew)); exact Kd.S_mono HO237_.out (fun _ hk => ⟨hk, by simp [Value.ownBlock]⟩)⟩, ⟨by repeat (first | (with_reducible first | exact HB.out | apply below_alloc | apply pw_below_drewN | apply below_drew1) | exact HB.out)⟩⟩
                                                                          · rw [if_neg c89] at H
                                                                            exact absurd H (by simp)
                                                                        · rw [if_neg c88] at H
                                                                          exact absurd H (by simp)
                                                                      · rw [if_neg c87] at H
                                                                        have c87b0 : (x15_4 == x6_2) = false := beq_eq_false_iff_ne.mpr c87
                                                                        have c87b1 : (x15_4 != x6_2) = true := bne_iff_ne.mpr c87
                                                                        by_cases c95 : x15_4 = x7_2
                                                                        · rw [if_pos c95] at H
                                                                          have c95b0 : (x15_4 == x7_2) = true := beq_iff_eq.mpr c95
                                                                          have c95b1 : (x15_4 != x7_2) = false := bne_eq_false_iff_eq.mpr c95
                                                                          clear c95
                                                                          have H' := Aside0.mk H
                                                                          clear H
                                                                          go_wp2
                                                                          go_roundg k4
                                                                          case measure => have := HJ2.out; have := HK2.out; have := HJ30.out; have := HK4.out; omega
                                                                          case rel => exact ⟨(x14_4), (wrap64 (x15_4 + 1)), A0_, c0_, z0_, (by first | rfl | (simp; done) | (simp [*]; done)), H', ⟨by have := HJ2.out; have := HK2.out; have := HJ30.out; have := HK4.out; omega⟩, ⟨by have h1_ := HNN_.out; have h2_ := of_decide_eq_true (by assumption : decide (x15_4 < (l0.length : Int)) = true); have h3_ := HR0.out.2.1; unfold wrap64; omega⟩, ⟨fun h_ => HEQ_.out (by have h1_ := HNN_.out; have h2_ := of_decide_eq_true (by assumption : decide (x15_4 < (l0.length : Int)) = true); have h3_ := HR0.out.2.1; unfold wrap64 at h_; omega)⟩, ⟨by (with_reducible repeat (first | apply Kd.R_alloc | apply Kd.R_drewN | apply Kd.R_drew)); exact HO_13.out⟩, ⟨by (with_reducible repeat (first | apply Kd.S_alloc | apply Kd.S_drewN | apply Kd.S_drew)); exact HO_14.out⟩, ⟨by repeat (first | (with_reducible first | exact HB.out | apply below_alloc | apply pw_below_drewN | apply below_drew1) | exact HB.out)⟩⟩
                                                                        · rw [if_neg c95] at H
                                                                          have c95b0 : (x15_4 == x7_2) = false := beq_eq_false_iff_ne.mpr c95
                                                                          have c95b1 : (x15_4 != x7_2) = true := bne_iff_ne.mpr c95
                                                                          obtain ⟨y238, hy238⟩ : ∃ y_ : List Int, y_ = (([] : List Int)) := ⟨_, rfl⟩
                                                                          replace H : (if 0 ≤ x15_4 then (if y238.length + (rd_L1 l0 x15_4).length < 17592186044416 then (if x14_4.length < 5864062014805 then (spec_GluePolygons.l1 k4 l0 x6_2 x7_2 y216 (x14_4 ++ [(y238 ++ (rd_L1 l0 x15_4))]) (wrap64 (x15_4 + 1))) else (none)) else (none)) else (none)) = some (r1, r2) := by first | (rw [hy238]; with_reducible exact H) | (have H2_ := (Option.bind_some _ _).symm.trans H; rw [hy238]; with_reducible exact H2_) | (have H2_ := (Option.bind_some _ _).symm.trans H; with_reducible exact H2_) | with_reducible exact H | (rw [hy238]; exact H) | exact H
                                                                          have Ny238 := Aside0.mk hy238
                                                                          clear hy238
                                                                          by_cases c96 : 0 ≤ x15_4
                                                                          · rw [if_pos c96] at H
                                                                            have c96b0 : decide (0 ≤ x15_4) = true := decide_eq_true c96
                                                                            clear c96
                                                                            by_cases c97 : y238.length + (rd_L1 l0 x15_4).length < 17592186044416
                                                                            · rw [if_pos c97] at H
                                                                              have LMc97 := Aside0.mk c97
                                                                              clear c97
                                                                              obtain ⟨y242, hy242⟩ : ∃ y_ : List Int, y_ = (y238 ++ (rd_L1 l0 x15_4)) := ⟨_, rfl⟩
                                                                              replace H : (if x14_4.length < 5864062014805 then (spec_GluePolygons.l1 k4 l0 x6_2 x7_2 y216 (x14_4 ++ [y242]) (wrap64 (x15_4 + 1))) else (none)) = some (r1, r2) := by first | (rw [hy242]; with_reducible exact H) | (have H2_ := (Option.bind_some _ _).symm.trans H; rw [hy242]; with_reducible exact H2_) | (have H2_ := (Option.bind_some _ _).symm.trans H; with_reducible exact H2_) | with_reducible exact H | (rw [hy242]; exact H) | exact H
                                                                              have Ny242 := Aside0.mk hy242
                                                                              clear hy242
                                                                              by_cases c98 : x14_4.length < 5864062014805
                                                                              · rw [if_pos c98] at H
                                                                                have LMc98 := Aside0.mk c98
                                                                                clear c98
                                                                                obtain ⟨y245, hy245⟩ : ∃ y_ : List (List Int), y_ = (x14_4 ++ [y242]) := ⟨_, rfl⟩
                                                                                replace H : (spec_GluePolygons.l1 k4 l0 x6_2 x7_2 y216 y245 (wrap64 (x15_4 + 1))) = some (r1, r2) := by first | (rw [hy245]; with_reducible exact H) | (have H2_ := (Option.bind_some _ _).symm.trans H; rw [hy245]; with_reducible exact H2_) | (have H2_ := (Option.bind_some _ _).symm.trans H; with_reducible exact H2_) | with_reducible exact H | (rw [hy245]; exact H) | exact H
                                                                                have Ny245 := Aside0.mk hy245
                                                                                clear hy245
                                                                                have H' := Aside0.mk H
                                                                                clear H
                                                                                go_wp2_with (first | ((with_reducible refine gate_dst (N := 117) rfl ?_); refine Kd.R_lit (Kd.int .i64) _ 3 ?hg (N := 117) ?hd (xs := ([] : List Int)) (inner := []) (ok := fun _ => True) (okp := fun _ => True) ?hr ?hp (fun _ hk => hk) trivial (Below.refl _ _) (Nat.le_refl _) (by simp) ?_; (case hd => rfl); (case hg => rfl); (case hr => first | (go_simp; done) | (go_simp; rfl)); (case hp => exact (Reps.none _ _)); intro v239 w99 ho100 hb hg_ hnew_; clear hg_ hnew_; (first | rw [← Ny238.out] at ho100 | (simp only [Int.reduceToNat] at ho100; rw [← Ny238.out] at ho100)); have n0_ := Aside0.mk (Kd.R_elder' (by (with_reducible repeat (first | apply Kd.R_alloc | apply Kd.R_drewN | apply Kd.R_drew)); exact HO_13.out) (Kd.R_base ho100) hb); have n1_ := Aside0.mk (Kd.S_elder' (by (with_reducible repeat (first | apply Kd.S_alloc | apply Kd.S_drewN | apply Kd.S_drew)); exact HO_14.out) (Kd.R_base ho100) hb); have n2_ := Aside0.mk (Kd.R_lower (Kd.R_new' (Kd.R_newM (M := fun k_ => (w.heap.size ≤ k_)) ho100 (below_size (by repeat (first | (with_reducible first | exact HB.out | apply below_alloc | apply pw_below_drewN | apply below_drew1) | exact HB.out))) (fun k_ h_ => h_)) (Kd.R_lt (by (with_reducible repeat (first | apply Kd.R_alloc | apply Kd.R_drewN | apply Kd.R_drew)); exact HO_13.out))) (below_size (by repeat (first | (with_reducible first | exact HB.out | apply below_alloc | apply pw_below_drewN | apply below_drew1) | exact HB.out)))); have n3_ := Aside0.mk (below_step (by repeat (first | (with_reducible first | exact HB.out | apply below_alloc | apply pw_below_drewN | apply below_drew1) | exact HB.out)) hb); clear HO_13; clear HO_14; clear HB; have HO_13 := n0_; have HO_14 := n1_; have HO240 := n2_; have HB := n3_; clear n0_ n1_ n2_ n3_; clear hb ho100; have p241 : 0 ≤ (x15_4 : Int) := of_decide_eq_true (by first | (with_reducible assumption) | assumption); have q241 : x15_4 < (l0.length : Int) := of_decide_eq_true (by first | (with_reducible assumption) | assumption); obtain ⟨ad241, A241_0, c241_0, e241, hx241_0, hl241_0, hi241_0⟩ := at_L1 HR0.out x15_4 p241 q241; obtain rfl : ad178 = ad241 := (by injection e241); replace hx241_0 := (HB.out.cell (World.block_lt_of_cell? w _ hx241_0)).trans hx241_0; have HR241_0 := Aside0.mk hi241_0; have HC241_0 := Aside0.mk hl241_0; clear hi241_0 hl241_0; replace p241 := eq_true p241; replace q241 := eq_true q241) | ((with_reducible refine gate_builtin (b := .append) (xs := #[.tmp 117, .tmp 121]) rfl ?_); at_builtin; refine Kd.R_append_rows (Kd.int .i64) (w0 := w) w.heap.size rfl (.tmp 117) (.tmp 121) 47 3 (.int .i64 0) 8 rfl Try.underlying47 info3 rfl (by decide) (by omega) v239 y238 (rd_L1 l0 x15_4) _ _ _ (fun k_ => (w.heap.size ≤ k_) ∧ some k_ ≠ (.slice A0_ z0_.length c0_ : Value).ownBlock) (fun _ => False) rfl rfl ?aO ?aR (fun _ _ h => h) (fun _ h => h.elim) ?aF ?aB ?aS ?aL ?_; (case aR => repeat (first | exact (Kd.C_below HR241_0.out HB.out) | (with_reducible refine Kd.C_alloc ?_ _) | (with_reducible refine Kd.C_drewN ?_ _) | (with_reducible refine Kd.C_drew ?_))); (case aB => exact (by repeat (first | (with_reducible first | exact HB.out | apply below_alloc | apply pw_below_drewN | apply below_drew1) | exact HB.out))); (case aF => exact (fun k_ hk => ⟨(Nat.le_trans (below_size (by repeat (first | (with_reducible first | exact HB.out | apply below_alloc | apply pw_below_drewN | apply below_drew1) | exact HB.out))) hk), Kd.fresh' (Kd.R_lt (by (with_reducible repeat (first | apply Kd.R_alloc | apply Kd.R_drewN | apply Kd.R_drew)); exact HO_13.out)) k_ hk⟩)); (case aO => exact (by (with_reducible repeat (first | apply Kd.R_alloc | apply Kd.R_drewN | apply Kd.R_drew)); exact Kd.R_mono HO240.out (fun _ hk => ⟨hk.1.1, hk.2⟩))); (case aS => exact (below_size (by repeat (first | (with_reducible first | exact HB.out | apply below_alloc | apply pw_below_drewN | apply below_drew1) | exact HB.out)))); (case aL => have := LMc97.out; omega); intro v243 w101 ho hb hg hat; rw [← Ny242.out] at ho; have n0_ := Aside0.mk (Kd.R_after (ok := (fun k_ => (w.heap.size ≤ k_))) (by (with_reducible repeat (first | apply Kd.R_alloc | apply Kd.R_drewN | apply Kd.R_drew)); exact HO_13.out) hg hat); have n1_ := Aside0.mk (Kd.S_after (ok := (fun k_ => (w.heap.size ≤ k_) ∧ some k_ ≠ (.slice A0_ z0_.length c0_ : Value).ownBlock)) (by (with_reducible repeat (first | apply Kd.S_alloc | apply Kd.S_drewN | apply Kd.S_drew)); exact HO_14.out) hg hat); have n2_ := Aside0.mk (hb); have n3_ := Aside0.mk (ho); clear HO_13; clear HO_14; clear HB; clear HO240; have HO_13 := n0_; have HO_14 := n1_; have HB := n2_; have HO244 := n3_; clear n0_ n1_ n2_ n3_; clear ho hb hg hat; obtain ⟨Ao103, co103, eo103⟩ := Kd.R_slice HO244.out; subst eo103) | ((with_reducible refine gate_builtin (b := .append) (xs := #[.tmp 116, .tmp 123]) rfl ?_); at_builtin; refine Kd.S_append (Kd.slice 3 (Kd.int .i64)) (w0 := w) w.heap.size rfl (.tmp 116) (.tmp 123) 22 47 (.slice none 0 0) 24 rfl Try.underlying22 info47 rfl (by decide) (by omega) u14 x14_4 y242 [.slice Ao103 y242.length co103] (fun k_ => (w.heap.size ≤ k_) ∧ some k_ ≠ (.slice A0_ z0_.length c0_ : Value).ownBlock) (fun k_ => some k_ = (.slice Ao103 y242.length co103 : Value).ownBlock) rfl rfl ?aP (fun k_ hk_ => ((Kd.R_mono (ok' := fun k_ => ((fun k_ => (w.heap.size ≤ k_) ∧ some k_ ≠ (.slice A0_ z0_.length c0_ : Value).ownBlock)) k_ ∧ some k_ ≠ (u14 : Value).ownBlock) (Kd.R_apart' (HO244.out) (Kd.S_typed HO_14.out) (by decide)) (fun k_ hk => ⟨⟨hk.1.1, hk.1.2⟩, hk.2⟩))).1 k_ hk_.symm) ?aF ?aO ?aB ?aS ?aL ?_; (case aP => exact Kd.M_row (Kd.R_mono (Kd.R_tight rfl (Kd.R_mono (ok' := fun k_ => ((fun k_ => (w.heap.size ≤ k_) ∧ some k_ ≠ (.slice A0_ z0_.length c0_ : Value).ownBlock)) k_ ∧ some k_ ≠ (u14 : Value).ownBlock) (Kd.R_apart' (HO244.out) (Kd.S_typed HO_14.out) (by decide)) (fun k_ hk => ⟨⟨hk.1.1, hk.1.2⟩, hk.2⟩))) (fun _ h_ => h_))); (case aB => exact (by repeat (first | (with_reducible first | exact HB.out | apply below_alloc | apply pw_below_drewN | apply below_drew1) | exact HB.out))); (case aF => exact (fun k_ hk => ⟨(Nat.le_trans (below_size (by repeat (first | (with_reducible first | exact HB.out | apply below_alloc | apply pw_below_drewN | apply below_drew1) | exact HB.out))) hk), Kd.fresh' (Kd.R_lt (by (with_reducible repeat (first | apply Kd.R_alloc | apply Kd.R_drewN | apply Kd.R_drew)); exact HO_13.out)) k_ hk⟩)); (case aO => exact (by (with_reducible repeat (first | apply Kd.S_alloc | apply Kd.S_drewN | apply Kd.S_drew)); exact Kd.S_mono HO_14.out (fun k_ hk => ⟨⟨hk.1.1, hk.1.2⟩, fun e_ => hk.2 e_⟩))); (case aS => exact (below_size (by repeat (first | (with_reducible first | exact HB.out | apply below_alloc | apply pw_below_drewN | apply below_drew1) | exact HB.out)))); (case aL => have := LMc98.out; omega); intro v246 w102 ho hb hg hat; rw [← Ny245.out] at ho; have n0_ := Aside0.mk (Kd.R_over' (by (with_reducible repeat (first | apply Kd.R_alloc | apply Kd.R_drewN | apply Kd.R_drew)); exact HO_13.out) (Kd.S_typed (by (with_reducible repeat (first | apply Kd.S_alloc | apply Kd.S_drewN | apply Kd.S_drew)); exact HO_14.out)) (by decide) hg); have n1_ := Aside0.mk (hb); have n2_ := Aside0.mk (ho); clear HO_13; clear HB; clear HO_14; clear HO244; have HO_13 := n0_; have HB := n1_; have HO247 := n2_; clear n0_ n1_ n2_; clear ho hb hg hat))
                                                                                go_roundg k4
                                                                                case measure => have := HJ2.out; have := HK2.out; have := HJ30.out; have := HK4.out; omega
                                                                                case rel => exact ⟨(y245), (wrap64 (x15_4 + 1)), A0_, c0_, z0_, (by first | rfl | (simp; done) | (simp [*]; done)), H', ⟨by have := HJ2.out; have := HK2.out; have := HJ30.out; have := HK4.out; omega⟩, ⟨by have h1_ := HNN_.out; have h2_ := of_decide_eq_true (by assumption : decide (x15_4 < (l0.length : Int)) = true); have h3_ := HR0.out.2.1; unfold wrap64; omega⟩, ⟨fun h_ => HEQ_.out (by have h1_ := HNN_.out; have h2_ := of_decide_eq_true (by assumption : decide (x15_4 < (l0.length : Int)) = true); have h3_ := HR0.out.2.1; unfold wrap64 at h_; omega)⟩, ⟨by (with_reducible repeat (first | apply Kd.R_alloc | apply Kd.R_drewN | apply Kd.R_drew)); exact Kd.R_mono HO_13.out (fun _ hk => hk.1)⟩, ⟨by (with_reducible repeat (first | apply Kd.S_alloc | apply Kd.S_drewN | apply Kd.S_drew)); exact HO247.out⟩, ⟨by repeat (first | (with_reducible first | exact HB.out | apply below_alloc | apply pw_below_drewN | apply below_drew1) | exact HB.out)⟩⟩
                                                                              · rw [if_neg c98] at H
                                                                                exact absurd H (by simp)
                                                                            · rw [if_neg c97] at H
                                                                              exact absurd H (by simp)
                                                                          · rw [if_neg c96] at H
                                                                            exact absurd H (by simp)
                                                                    · rw [if_neg c86] at H
                                                                      have c86b0 : decide (x15_4 < (l0.length : Int)) = false := decide_eq_false c86
                                                                      clear c86
                                                                      replace H := Option.bind_eq_some_iff.mp H
                                                                      obtain ⟨⟨t225, t228⟩, A1040, H⟩ := H
                                                                      replace H : (some (t225, t228)) = some (r1, r2) := H
                                                                      have A104 := Aside0.mk A1040
                                                                      clear A1040
                                                                      simp only [Option.some.injEq, Prod.mk.injEq] at H
                                                                      obtain ⟨rfl, rfl⟩ := H
                                                                      obtain ⟨Ao105, co105, eo105⟩ := Kd.S_slice HO_14.out
                                                                      subst eo105
                                                                      go_wp2_with (first | ((with_reducible refine gate_callee (f := 66) rfl ?_); refine goesL_ (some 127) rfl rfl Try.func66 (by kernel_rfl) rfl #[.slice Ao105 x14_4.length co105] rfl (by (try simp only [List.map_toArray, List.map_cons, List.map_nil]); first | done | rfl | (simp only [List.length_drop, List.length_take]; rfl)) ?_; (with_reducible refine (spec_l5Right.calls k4 (fun k_ => ((w.heap.size ≤ k_) ∧ some k_ ≠ (.slice A0_ z0_.length c0_ : Value).ownBlock)) w.heap.size _ _ x14_4 t225 t228 _ (below_size (by repeat (first | (with_reducible first | exact HB.out | apply below_alloc | apply pw_below_drewN | apply below_drew1) | exact HB.out))) ?side1 A104.out).mono ?_); (case side1 => exact S_id0 (HO_14.out)); rintro e w106 ⟨v226, rfl, ho0, hb⟩; refine ⟨_, rfl, ?_⟩; have n0_ := Aside0.mk (Kd.R_below (by (with_reducible repeat (first | apply Kd.R_alloc | apply Kd.R_drewN | apply Kd.R_drew)); exact HO_13.out) hb); have n1_ := Aside0.mk (Kd.S_below (by (with_reducible repeat (first | apply Kd.S_alloc | apply Kd.S_drewN | apply Kd.S_drew)); exact HO_14.out) hb); have n2_ := Aside0.mk (S_low0 (Kd.S_mono (ok' := fun k_ => (w.heap.size ≤ k_) ∧ some k_ ≠ (.slice A0_ z0_.length c0_ : Value).ownBlock) ho0 (fun k_ hk_ => ⟨Or.elim hk_ (fun hs_ => hs_.1) (fun hn_ => (Nat.le_trans (below_size (by repeat (first | (with_reducible first | exact HB.out | apply below_alloc | apply pw_below_drewN | apply below_drew1) | exact HB.out))) hn_)), Or.elim hk_ (fun hs_ => hs_.2) (fun hn_ => (Kd.fresh' (Kd.R_lt (by (with_reducible repeat (first | apply Kd.R_alloc | apply Kd.R_drewN | apply Kd.R_drew)); exact HO_13.out)) k_ hn_))⟩)) (below_size (by repeat (first | (with_reducible first | exact HB.out | apply below_alloc | apply pw_below_drewN | apply below_drew1) | exact HB.out)))); have n3_ := Aside0.mk (below_step (by repeat (first | (with_reducible first | exact HB.out | apply below_alloc | apply pw_below_drewN | apply below_drew1) | exact HB.out)) hb); clear HO_13; clear HO_14; clear HB; have HO_13 := n0_; have HO_14 := n1_; have HO227 := n2_; have HB := n3_; clear n0_ n1_ n2_ n3_; (try clear hb); (try clear hb2); (try clear hk); (try clear hi); (try clear ho0)))
                                                                      go_ret2
                                                                      exact ⟨_, by first | rfl | (simp [errW_none, errW_some] <;> rfl) | (simp only [← hji44, ← hji51]; first | rfl | (simp [errW_none, errW_some] <;> rfl)) | (simp [*, errW_none, errW_some] <;> rfl), by (with_reducible repeat (first | apply Kd.S_alloc | apply Kd.S_drewN | apply Kd.S_drew)); exact Kd.S_mono HO227.out (fun _ hk => hk.1), by repeat (first | (with_reducible first | exact HB.out | apply below_alloc | apply pw_below_drewN | apply below_drew1) | exact HB.out)⟩
                                                            · rw [if_neg c54] at H
                                                              exact absurd H (by simp)
                                                          · rw [if_neg c53] at H
                                                            exact absurd H (by simp)
                                                        · rw [if_neg c52] at H
                                                          exact absurd H (by simp)
                                                      · rw [if_neg c50] at H
                                                        exact absurd H (by simp)
                                                    · rw [if_neg c49] at H
                                                      exact absurd H (by simp)
                                                  · rw [if_neg c48] at H
                                                    exact absurd H (by simp)
                                                · rw [if_neg c47] at H
                                                  exact absurd H (by simp)
                                              · rw [if_neg c46] at H
                                                exact absurd H (by simp)
                                            · rw [if_neg c45] at H
                                              exact absurd H (by simp)
                                          · rw [if_neg c43] at H
                                            exact absurd H (by simp)
                                        · rw [if_neg c42] at H
                                          exact absurd H (by simp)
                                      · rw [if_neg c41] at H
                                        exact absurd H (by simp)
                                · rw [if_neg c30] at H
                                  exact absurd H (by simp)
                              · rw [if_neg c29] at H
                                exact absurd H (by simp)
                            · rw [if_neg c28] at H
                              exact absurd H (by simp)
                          · rw [if_neg c27] at H
                            exact absurd H (by simp)
                        · rw [if_neg c24] at H
                          exact absurd H (by simp)
                      · rw [if_neg c23] at H
                        exact absurd H (by simp)
                    · rw [if_neg c22] at H
                      exact absurd H (by simp)
                  · rw [if_neg c21] at H
                    exact absurd H (by simp)
                · rw [if_neg c20] at H
                  exact absurd H (by simp)
end Go.Proofs.Ytlnddmkkgjlmbaa.QFnExactOnePolygon
