-- Written by a program of this session (the kit's print, turned in places): the functions that the law FnExactOnePolygon comes to, and what their calls do.
import Derived.Test.YtlnddmkkgjlmbaaQFnExactOnePolygonx0
import Derived.Test.YtlnddmkkgjlmbaaQFnExactOnePolygonx6
import Derived.Test.YtlnddmkkgjlmbaaQFnExactOnePolygonx7
namespace Go.Proofs.Ytlnddmkkgjlmbaa.QFnExactOnePolygon
open Go.RowKit Go.Proofs.YtlnddmkkgjlmbaaW.PrintWords Go.Proofs.YtlnddmkkgjlmbaaW.PrintLast Go.Proofs.YtlnddmkkgjlmbaaW.PrintMore
attribute [local go_sem] max2_int min2_int max_two min_two max_three min_three max_four min_four   -- for this text's walks alone
set_option linter.unusedVariables false
set_option linter.unusedSimpArgs false
mutual
def impl_GluePolygons.j0 : Nat → List (List Int) → Int → Bool → Option ((List (List Int)) × Bool)
  | 0, _, _, _ => none
  | k + 1, x0, x1, x28 => if x28 = true then (some (([] : List (List Int)), false)) else (impl_GluePolygons.l0 k x0 x1 (([] : List (S60))) x0 (x0.length : Int) 0)
def impl_GluePolygons.l0 : Nat → List (List Int) → Int → List (S60) → List (List Int) → Int → Int → Option ((List (List Int)) × Bool)
  | 0, _, _, _, _, _, _ => none
  | k + 1, x0, x1, x6, x30, x31, x32 => if x32 < x31 then (if 0 ≤ x32 then (if x32 < (x30.length : Int) then (impl_GluePolygons.l1 k x0 x1 x6 x32 x30 x31 x32 (rd_L1 x30 x32) ((rd_L1 x30 x32).length : Int) 0) else (none)) else (none)) else (if (x6.length : Int) = 2 then (if 0 < (x6.length : Int) then (if 1 < (x6.length : Int) then (impl_GluePolygons.j3 k x0 x6 (((rd_T60 x6 0).f0) == ((rd_T60 x6 1).f0))) else (none)) else (none)) else (impl_GluePolygons.j3 k x0 x6 true))
def impl_GluePolygons.l1 : Nat → List (List Int) → Int → List (S60) → Int → List (List Int) → Int → Int → List Int → Int → Int → Option ((List (List Int)) × Bool)
  | 0, _, _, _, _, _, _, _, _, _, _ => none
  | k + 1, x0, x1, x6, x7, x30, x31, x32, x37, x38, x39 => if x39 < x38 then (if 0 ≤ x39 then (if x39 < (x37.length : Int) then ((impl_size.f (rd x37 x39)).bind fun t326 => (if t326 = x1 then (if x6.length < 8796093022208 then (impl_GluePolygons.l1 k x0 x1 (x6 ++ [(⟨x7, x39⟩ : S60)]) x7 x30 x31 x32 x37 x38 (wrap64 (x39 + 1))) else (none)) else (impl_GluePolygons.l1 k x0 x1 x6 x7 x30 x31 x32 x37 x38 (wrap64 (x39 + 1))))) else (none)) else (none)) else (impl_GluePolygons.l0 k x0 x1 x6 x30 x31 (wrap64 (x32 + 1)))
def impl_GluePolygons.j3 : Nat → List (List Int) → List (S60) → Bool → Option ((List (List Int)) × Bool)
  | 0, _, _, _ => none
  | k + 1, x0, x6, x69 => if x69 = true then (some (([] : List (List Int)), false)) else (if 0 < (x6.length : Int) then (if 1 < (x6.length : Int) then (if 0 ≤ ((rd_T60 x6 0).f0) then (if ((rd_T60 x6 0).f0) < (x0.length : Int) then ((impl_copyOf.f (rd_L1 x0 ((rd_T60 x6 0).f0))).bind fun t335 => (if 0 ≤ ((rd_T60 x6 1).f0) then (if ((rd_T60 x6 1).f0) < (x0.length : Int) then ((impl_copyOf.f (rd_L1 x0 ((rd_T60 x6 1).f0))).bind fun t339 => (if 0 ≤ ((rd_T60 x6 0).f1) then (if ((rd_T60 x6 0).f1) < (t335.length : Int) then (if 0 ≤ ((rd_T60 x6 1).f1) then (if ((rd_T60 x6 1).f1) < (t339.length : Int) then (if (rd t335 ((rd_T60 x6 0).f1)) = (rd t339 ((rd_T60 x6 1).f1)) then ((impl_inverse.f k t339).bind fun t346 => (impl_GluePolygons.j4 k x0 ((rd_T60 x6 0).f0) ((rd_T60 x6 1).f0) t335 t346 ((rd_T60 x6 0).f1) (wrap64 ((wrap64 ((t346.length : Int) - 1)) - ((rd_T60 x6 1).f1))))) else (impl_GluePolygons.j4 k x0 ((rd_T60 x6 0).f0) ((rd_T60 x6 1).f0) t335 t339 ((rd_T60 x6 0).f1) ((rd_T60 x6 1).f1))) else (none)) else (none)) else (none)) else (none))) else (none)) else (none))) else (none)) else (none)) else (none)) else (none))
def impl_GluePolygons.j4 : Nat → List (List Int) → Int → Int → List Int → List Int → Int → Int → Option ((List (List Int)) × Bool)
  | 0, _, _, _, _, _, _, _ => none
  | k + 1, x0, x11, x12, x13, x14, x15, x16 => (impl_turn.f x14 (wrap64 (x16 + 1))).bind fun t349 => (if 0 ≤ (wrap64 ((t349.length : Int) - 1)) then (if (wrap64 ((t349.length : Int) - 1)) ≤ (t349.length : Int) then (impl_GluePolygons.l2 k x11 x12 x13 x15 (t349.take ((wrap64 ((t349.length : Int) - 1)) : Int).toNat) (([] : List (List Int))) x0 (x0.length : Int) 0) else (none)) else (none))
def impl_GluePolygons.l2 : Nat → Int → Int → List Int → Int → List Int → List (List Int) → List (List Int) → Int → Int → Option ((List (List Int)) × Bool)
  | 0, _, _, _, _, _, _, _, _, _ => none
  | k + 1, x11, x12, x13, x15, x17, x18, x122, x123, x124 => if x124 < x123 then (if 0 ≤ x124 then (if x124 < (x122.length : Int) then (if x124 = x11 then (if 0 ≤ x15 then (if x15 ≤ (x13.length : Int) then ((impl_copyOf.f (x13.take (x15 : Int).toNat)).bind fun t367 => (if t367.length + x17.length < 17592186044416 then ((some (t367 ++ x17 : List Int)).bind fun y370 => (if 0 ≤ (wrap64 (x15 + 1)) then (if (wrap64 (x15 + 1)) ≤ (x13.length : Int) then ((some (x13.drop ((wrap64 (x15 + 1)) : Int).toNat : List Int)).bind fun y373 => (if y370.length + y373.length < 17592186044416 then (if x18.length < 5864062014805 then (impl_GluePolygons.l2 k x11 x12 x13 x15 x17 (x18 ++ [(y370 ++ y373)]) x122 x123 (wrap64 (x124 + 1))) else (none)) else (none))) else (none)) else (none))) else (none))) else (none)) else (none)) else (if x124 = x12 then (impl_GluePolygons.l2 k x11 x12 x13 x15 x17 x18 x122 x123 (wrap64 (x124 + 1))) else ((impl_copyOf.f (rd_L1 x122 x124)).bind fun t383 => (if x18.length < 5864062014805 then (impl_GluePolygons.l2 k x11 x12 x13 x15 x17 (x18 ++ [t383]) x122 x123 (wrap64 (x124 + 1))) else (none))))) else (none)) else (none)) else ((impl_moved.f k x18).bind fun bt358 => (some (bt358.1, bt358.2)))
end
def impl_GluePolygons.f (k : Nat) (l0 : List (List Int)) (a1 : Int) : Option ((List (List Int)) × Bool) := (impl_IsGluing.f k l0).bind fun t319 => (if t319 = true then ((impl_within.f a1 1 8).bind fun t320 => (impl_GluePolygons.j0 k l0 a1 (!t320))) else (impl_GluePolygons.j0 k l0 a1 true))
theorem impl_GluePolygons.mono_l : ∀ k, (∀ y0 y1 y2, LeO (impl_GluePolygons.j0 k y0 y1 y2) (impl_GluePolygons.j0 (k + 1) y0 y1 y2)) ∧ (∀ y0 y1 y2 y3 y4 y5, LeO (impl_GluePolygons.l0 k y0 y1 y2 y3 y4 y5) (impl_GluePolygons.l0 (k + 1) y0 y1 y2 y3 y4 y5)) ∧ (∀ y0 y1 y2 y3 y4 y5 y6 y7 y8 y9, LeO (impl_GluePolygons.l1 k y0 y1 y2 y3 y4 y5 y6 y7 y8 y9) (impl_GluePolygons.l1 (k + 1) y0 y1 y2 y3 y4 y5 y6 y7 y8 y9)) ∧ (∀ y0 y1 y2, LeO (impl_GluePolygons.j3 k y0 y1 y2) (impl_GluePolygons.j3 (k + 1) y0 y1 y2)) ∧ (∀ y0 y1 y2 y3 y4 y5 y6, LeO (impl_GluePolygons.j4 k y0 y1 y2 y3 y4 y5 y6) (impl_GluePolygons.j4 (k + 1) y0 y1 y2 y3 y4 y5 y6)) ∧ (∀ y0 y1 y2 y3 y4 y5 y6 y7 y8, LeO (impl_GluePolygons.l2 k y0 y1 y2 y3 y4 y5 y6 y7 y8) (impl_GluePolygons.l2 (k + 1) y0 y1 y2 y3 y4 y5 y6 y7 y8))
  | 0 => ⟨fun _ _ _ r h => by simp [impl_GluePolygons.j0] at h, fun _ _ _ _ _ _ r h => by simp [impl_GluePolygons.l0] at h, fun _ _ _ _ _ _ _ _ _ _ r h => by simp [impl_GluePolygons.l1] at h, fun _ _ _ r h => by simp [impl_GluePolygons.j3] at h, fun _ _ _ _ _ _ _ r h => by simp [impl_GluePolygons.j4] at h, fun _ _ _ _ _ _ _ _ _ r h => by simp [impl_GluePolygons.l2] at h⟩
  | k + 1 => by
    obtain ⟨ih0, ih1, ih2, ih3, ih4, ih5⟩ := impl_GluePolygons.mono_l k
    refine ⟨?_, ?_, ?_, ?_, ?_, ?_⟩
    · intro y0 y1 y2
      unfold impl_GluePolygons.j0
      repeat' first
      | (with_reducible exact ih0 _ _ _)
      | (with_reducible exact ih1 _ _ _ _ _ _)
      | (with_reducible exact ih2 _ _ _ _ _ _ _ _ _ _)
      | (with_reducible exact ih3 _ _ _)
      | (with_reducible exact ih4 _ _ _ _ _ _ _)
      | (with_reducible exact ih5 _ _ _ _ _ _ _ _ _)
      | (with_reducible exact impl_IsGluing.mono _ _)
      | (with_reducible exact impl_inverse.mono _ _)
      | (with_reducible exact impl_moved.mono _ _)
      | (with_reducible exact LeO.refl _)
      | (with_reducible exact LeO.none _)
      | (with_reducible refine LeO.ite ?_ ?_)
      | (with_reducible refine LeO.bind ?_ (fun _ => ?_))
      | exact ih0 _ _ _
      | exact ih1 _ _ _ _ _ _
      | exact ih2 _ _ _ _ _ _ _ _ _ _
      | exact ih3 _ _ _
      | exact ih4 _ _ _ _ _ _ _
      | exact ih5 _ _ _ _ _ _ _ _ _
      | exact impl_IsGluing.mono _ _
      | exact impl_inverse.mono _ _
      | exact impl_moved.mono _ _
      | exact LeO.none _
      | refine LeO.ite ?_ ?_
      | refine LeO.bind ?_ (fun _ => ?_)
    · intro y0 y1 y2 y3 y4 y5
      unfold impl_GluePolygons.l0
      repeat' first
      | (with_reducible exact ih0 _ _ _)
      | (with_reducible exact ih1 _ _ _ _ _ _)
      | (with_reducible exact ih2 _ _ _ _ _ _ _ _ _ _)
      | (with_reducible exact ih3 _ _ _)
      | (with_reducible exact ih4 _ _ _ _ _ _ _)
      | (with_reducible exact ih5 _ _ _ _ _ _ _ _ _)
      | (with_reducible exact impl_IsGluing.mono _ _)
      | (with_reducible exact impl_inverse.mono _ _)
      | (with_reducible exact impl_moved.mono _ _)
      | (with_reducible exact LeO.refl _)
      | (with_reducible exact LeO.none _)
      | (with_reducible refine LeO.ite ?_ ?_)
      | (with_reducible refine LeO.bind ?_ (fun _ => ?_))
      | exact ih0 _ _ _
      | exact ih1 _ _ _ _ _ _
      | exact ih2 _ _ _ _ _ _ _ _ _ _
      | exact ih3 _ _ _
      | exact ih4 _ _ _ _ _ _ _
      | exact ih5 _ _ _ _ _ _ _ _ _
      | exact impl_IsGluing.mono _ _
      | exact impl_inverse.mono _ _
      | exact impl_moved.mono _ _
      | exact LeO.none _
      | refine LeO.ite ?_ ?_
      | refine LeO.bind ?_ (fun _ => ?_)
    · intro y0 y1 y2 y3 y4 y5 y6 y7 y8 y9
      unfold impl_GluePolygons.l1
      repeat' first
      | (with_reducible exact ih0 _ _ _)
      | (with_reducible exact ih1 _ _ _ _ _ _)
      | (with_reducible exact ih2 _ _ _ _ _ _ _ _ _ _)
      | (with_reducible exact ih3 _ _ _)
      | (with_reducible exact ih4 _ _ _ _ _ _ _)
      | (with_reducible exact ih5 _ _ _ _ _ _ _ _ _)
      | (with_reducible exact impl_IsGluing.mono _ _)
      | (with_reducible exact impl_inverse.mono _ _)
      | (with_reducible exact impl_moved.mono _ _)
      | (with_reducible exact LeO.refl _)
      | (with_reducible exact LeO.none _)
      | (with_reducible refine LeO.ite ?_ ?_)
      | (with_reducible refine LeO.bind ?_ (fun _ => ?_))
      | exact ih0 _ _ _
      | exact ih1 _ _ _ _ _ _
      | exact ih2 _ _ _ _ _ _ _ _ _ _
      | exact ih3 _ _ _
      | exact ih4 _ _ _ _ _ _ _
      | exact ih5 _ _ _ _ _ _ _ _ _
      | exact impl_IsGluing.mono _ _
      | exact impl_inverse.mono _ _
      | exact impl_moved.mono _ _
      | exact LeO.none _
      | refine LeO.ite ?_ ?_
      | refine LeO.bind ?_ (fun _ => ?_)
    · intro y0 y1 y2
      unfold impl_GluePolygons.j3
      repeat' first
      | (with_reducible exact ih0 _ _ _)
      | (with_reducible exact ih1 _ _ _ _ _ _)
      | (with_reducible exact ih2 _ _ _ _ _ _ _ _ _ _)
      | (with_reducible exact ih3 _ _ _)
      | (with_reducible exact ih4 _ _ _ _ _ _ _)
      | (with_reducible exact ih5 _ _ _ _ _ _ _ _ _)
      | (with_reducible exact impl_IsGluing.mono _ _)
      | (with_reducible exact impl_inverse.mono _ _)
      | (with_reducible exact impl_moved.mono _ _)
      | (with_reducible exact LeO.refl _)
      | (with_reducible exact LeO.none _)
      | (with_reducible refine LeO.ite ?_ ?_)
      | (with_reducible refine LeO.bind ?_ (fun _ => ?_))
      | exact ih0 _ _ _
      | exact ih1 _ _ _ _ _ _
      | exact ih2 _ _ _ _ _ _ _ _ _ _
      | exact ih3 _ _ _
      | exact ih4 _ _ _ _ _ _ _
      | exact ih5 _ _ _ _ _ _ _ _ _
      | exact impl_IsGluing.mono _ _
      | exact impl_inverse.mono _ _
      | exact impl_moved.mono _ _
      | exact LeO.none _
      | refine LeO.ite ?_ ?_
      | refine LeO.bind ?_ (fun _ => ?_)
    · intro y0 y1 y2 y3 y4 y5 y6
      unfold impl_GluePolygons.j4
      repeat' first
      | (with_reducible exact ih0 _ _ _)
      | (with_reducible exact ih1 _ _ _ _ _ _)
      | (with_reducible exact ih2 _ _ _ _ _ _ _ _ _ _)
      | (with_reducible exact ih3 _ _ _)
      | (with_reducible exact ih4 _ _ _ _ _ _ _)
      | (with_reducible exact ih5 _ _ _ _ _ _ _ _ _)
      | (with_reducible exact impl_IsGluing.mono _ _)
      | (with_reducible exact impl_inverse.mono _ _)
      | (with_reducible exact impl_moved.mono _ _)
      | (with_reducible exact LeO.refl _)
      | (with_reducible exact LeO.none _)
      | (with_reducible refine LeO.ite ?_ ?_)
      | (with_reducible refine LeO.bind ?_ (fun _ => ?_))
      | exact ih0 _ _ _
      | exact ih1 _ _ _ _ _ _
      | exact ih2 _ _ _ _ _ _ _ _ _ _
      | exact ih3 _ _ _
      | exact ih4 _ _ _ _ _ _ _
      | exact ih5 _ _ _ _ _ _ _ _ _
      | exact impl_IsGluing.mono _ _
      | exact impl_inverse.mono _ _
      | exact impl_moved.mono _ _
      | exact LeO.none _
      | refine LeO.ite ?_ ?_
      | refine LeO.bind ?_ (fun _ => ?_)
    · intro y0 y1 y2 y3 y4 y5 y6 y7 y8
      unfold impl_GluePolygons.l2
      repeat' first
      | (with_reducible exact ih0 _ _ _)
      | (with_reducible exact ih1 _ _ _ _ _ _)
      | (with_reducible exact ih2 _ _ _ _ _ _ _ _ _ _)
      | (with_reducible exact ih3 _ _ _)
      | (with_reducible exact ih4 _ _ _ _ _ _ _)
      | (with_reducible exact ih5 _ _ _ _ _ _ _ _ _)
      | (with_reducible exact impl_IsGluing.mono _ _)
      | (with_reducible exact impl_inverse.mono _ _)
      | (with_reducible exact impl_moved.mono _ _)
      | (with_reducible exact LeO.refl _)
      | (with_reducible exact LeO.none _)
      | (with_reducible refine LeO.ite ?_ ?_)
      | (with_reducible refine LeO.bind ?_ (fun _ => ?_))
      | exact ih0 _ _ _
      | exact ih1 _ _ _ _ _ _
      | exact ih2 _ _ _ _ _ _ _ _ _ _
      | exact ih3 _ _ _
      | exact ih4 _ _ _ _ _ _ _
      | exact ih5 _ _ _ _ _ _ _ _ _
      | exact impl_IsGluing.mono _ _
      | exact impl_inverse.mono _ _
      | exact impl_moved.mono _ _
      | exact LeO.none _
      | refine LeO.ite ?_ ?_
      | refine LeO.bind ?_ (fun _ => ?_)
theorem impl_GluePolygons.mono : ∀ a0 a1 k, LeO (impl_GluePolygons.f k a0 a1) (impl_GluePolygons.f (k + 1) a0 a1) := by
  intro a0 a1 k
  obtain ⟨ih0, ih1, ih2, ih3, ih4, ih5⟩ := impl_GluePolygons.mono_l k
  unfold impl_GluePolygons.f
  repeat' first
      | (with_reducible exact ih0 _ _ _)
      | (with_reducible exact ih1 _ _ _ _ _ _)
      | (with_reducible exact ih2 _ _ _ _ _ _ _ _ _ _)
      | (with_reducible exact ih3 _ _ _)
      | (with_reducible exact ih4 _ _ _ _ _ _ _)
      | (with_reducible exact ih5 _ _ _ _ _ _ _ _ _)
      | (with_reducible exact impl_IsGluing.mono _ _)
      | (with_reducible exact impl_inverse.mono _ _)
      | (with_reducible exact impl_moved.mono _ _)
      | (with_reducible exact LeO.refl _)
      | (with_reducible exact LeO.none _)
      | (with_reducible refine LeO.ite ?_ ?_)
      | (with_reducible refine LeO.bind ?_ (fun _ => ?_))
      | exact ih0 _ _ _
      | exact ih1 _ _ _ _ _ _
      | exact ih2 _ _ _ _ _ _ _ _ _ _
      | exact ih3 _ _ _
      | exact ih4 _ _ _ _ _ _ _
      | exact ih5 _ _ _ _ _ _ _ _ _
      | exact impl_IsGluing.mono _ _
      | exact impl_inverse.mono _ _
      | exact impl_moved.mono _ _
      | exact LeO.none _
      | refine LeO.ite ?_ ?_
      | refine LeO.bind ?_ (fun _ => ?_)
def impl_GluePolygons.T14 : Bool × List (List Nat × List Nat) := (true, [([], []), ([0], [0]), ([1], [1]), ([2], [2]), ([3], [3]), ([4, 3], [3, 4]), ([5, 3], [3, 5]), ([6, 3], [3, 6]), ([3], [3]), ([8, 3], [3, 8]), ([9, 3], [3, 9]), ([10, 3], [3, 10]), ([7, 11, 3], [3, 7, 11]), ([3, 12], [3, 12])])
def impl_GluePolygons.B14 : List Nat := [0, 1, 3, 7, 15, 31, 63, 127, 15, 271, 783, 1807, 4095, 8191]
theorem impl_GluePolygons.tab14 : rtab .any (opsOf Try.f30 14) = impl_GluePolygons.T14 := by kernel_rfl
theorem impl_GluePolygons.bits14 : waitsOk impl_GluePolygons.T14.2 impl_GluePolygons.B14 = true := by kernel_rfl
def impl_GluePolygons.T16 : Bool × List (List Nat × List Nat) := (true, [([], []), ([0], [0]), ([1], [1]), ([2], [2]), ([], []), ([4], [4]), ([5], [5]), ([6], [6]), ([3, 0, 1, 2, 3], [3]), ([7, 8, 0, 1, 2, 3, 4, 5, 6, 7, 8], [7])])
def impl_GluePolygons.B16 : List Nat := [0, 1, 3, 7, 0, 16, 48, 112, 15, 511]
theorem impl_GluePolygons.tab16 : rtab .any (opsOf Try.f30 16) = impl_GluePolygons.T16 := by kernel_rfl
theorem impl_GluePolygons.bits16 : waitsOk impl_GluePolygons.T16.2 impl_GluePolygons.B16 = true := by kernel_rfl
def impl_GluePolygons.T17 : Bool × List (List Nat × List Nat) := (true, [([], []), ([], []), ([0, 1], [0, 1]), ([2], [2]), ([3], [3]), ([], []), ([], []), ([5, 6], [5, 6]), ([7], [7]), ([8, 4], [8]), ([4, 9, 0, 1, 2, 3, 4], [4]), ([9, 10, 0, 1, 2, 3, 4, 5, 6, 7, 8, 9, 10], [9])])
def impl_GluePolygons.B17 : List Nat := [0, 0, 3, 7, 15, 0, 0, 96, 224, 511, 1023, 2047]
theorem impl_GluePolygons.tab17 : rtab .any (opsOf Try.f30 17) = impl_GluePolygons.T17 := by kernel_rfl
theorem impl_GluePolygons.bits17 : waitsOk impl_GluePolygons.T17.2 impl_GluePolygons.B17 = true := by kernel_rfl
def impl_GluePolygons.T18 : Bool × List (List Nat × List Nat) := (true, [([], []), ([0], [0]), ([1], [1]), ([2], [2]), ([], []), ([4], [4]), ([5], [5]), ([6], [6]), ([3, 0, 1, 2, 3], [3]), ([7, 8, 0, 1, 2, 3, 4, 5, 6, 7, 8], [7])])
def impl_GluePolygons.B18 : List Nat := [0, 1, 3, 7, 0, 16, 48, 112, 15, 511]
theorem impl_GluePolygons.tab18 : rtab .any (opsOf Try.f30 18) = impl_GluePolygons.T18 := by kernel_rfl
theorem impl_GluePolygons.bits18 : waitsOk impl_GluePolygons.T18.2 impl_GluePolygons.B18 = true := by kernel_rfl
def impl_GluePolygons.T19 : Bool × List (List Nat × List Nat) := (true, [([], []), ([], []), ([0, 1], [0, 1]), ([2], [2]), ([], []), ([], []), ([4, 5], [4, 5]), ([6], [6]), ([3, 7], [3, 7])])
def impl_GluePolygons.B19 : List Nat := [0, 0, 3, 7, 0, 0, 48, 112, 255]
theorem impl_GluePolygons.tab19 : rtab .any (opsOf Try.f30 19) = impl_GluePolygons.T19 := by kernel_rfl
theorem impl_GluePolygons.bits19 : waitsOk impl_GluePolygons.T19.2 impl_GluePolygons.B19 = true := by kernel_rfl
def impl_GluePolygons.T31 : Bool × List (List Nat × List Nat) := (true, [([], []), ([], []), ([], []), ([1, 2], [1, 2]), ([3], [3]), ([], []), ([4, 5, 4], [4, 5]), ([], []), ([], []), ([8], [8]), ([7, 9], [7, 9]), ([6, 10, 6], [6, 10]), ([11], [11]), ([0, 12, 11], [0, 12]), ([13, 13, 0, 1, 2, 3, 4, 5, 6, 7, 8, 9, 10, 11, 12, 13], [0, 13])])
def impl_GluePolygons.B31 : List Nat := [0, 0, 0, 6, 14, 0, 62, 0, 0, 256, 896, 2046, 4094, 8191, 16383]
theorem impl_GluePolygons.tab31 : rtab .any (opsOf Try.f30 31) = impl_GluePolygons.T31 := by kernel_rfl
theorem impl_GluePolygons.bits31 : waitsOk impl_GluePolygons.T31.2 impl_GluePolygons.B31 = true := by kernel_rfl
set_option maxHeartbeats 8000000 in
set_option maxRecDepth 100000 in
theorem impl_GluePolygons.calls (k : Nat) (A0 : Option Addr) (c0 : Nat) (l0 : List (List Int)) (a1 : Int) (r1 : List (List Int)) (r2 : Bool) (w : World) (hr0 : Kd.C (Kd.slice 3 (Kd.int .i64)) w A0 l0.length l0) (hc0 : l0.length ≤ c0) (h : impl_GluePolygons.f k l0 a1 = some (r1, r2)) :
    Calls Try.prog 30 #[.slice A0 l0.length c0, .int .i64 a1] w fun e w' => ∃ v0_ : Value, e = .returned (.tuple #[v0_, .bool r2]) ∧ Kd.S (Kd.slice 3 (Kd.int .i64)) 47 w' w.heap.size (fun k_ => (w.heap.size ≤ k_)) v0_ r1 ∧ Below w.heap.size w w' := by
  have hu60 := Try.underlying60
  have HR0 := Aside0.mk hr0
  have HC0 := Aside0.mk hc0
  clear hr0 hc0
  have HB := Aside0.mk (Below.refl w.heap.size w)
  have H : ((impl_IsGluing.f k l0).bind fun t319 => (if t319 = true then ((impl_within.f a1 1 8).bind fun t320 => (impl_GluePolygons.j0 k l0 a1 (!t320))) else (impl_GluePolygons.j0 k l0 a1 true))) = some (r1, r2) := h
  clear h
  have HC3 := Aside0.mk H
  clear H
  go_enter Try.func30, Try.ntmps30
  go_upto_region 1 with (fail)
  go_cut [28] (fun v28 wc => ∃ (kq : Nat) (x28_2 : Bool), v28 = .bool x28_2 ∧ Aside0 (impl_GluePolygons.j0 kq l0 a1 x28_2 = some (r1, r2)) ∧ Aside0 (kq ≤ k) ∧ Aside0 (Below w.heap.size w wc))
  case first =>
    have H := HC3.out
    clear HC3
    replace H := Option.bind_eq_some_iff.mp H
    obtain ⟨t319, A40, H⟩ := H
    replace H : (if t319 = true then ((impl_within.f a1 1 8).bind fun t320 => (impl_GluePolygons.j0 k l0 a1 (!t320))) else (impl_GluePolygons.j0 k l0 a1 true)) = some (r1, r2) := H
    have A4 := Aside0.mk A40
    clear A40
    by_cases c5 : t319 = true
    · subst c5
      have H1 : ((impl_within.f a1 1 8).bind fun t320 => (impl_GluePolygons.j0 k l0 a1 (!t320))) = some (r1, r2) := by rw [if_pos rfl] at H; exact H
      clear H
      have H := H1
      clear H1
      replace H := Option.bind_eq_some_iff.mp H
      obtain ⟨t320, A60, H⟩ := H
      replace H : (impl_GluePolygons.j0 k l0 a1 (!t320)) = some (r1, r2) := H
      have A6 := Aside0.mk A60
      clear A60
      have H' := Aside0.mk H
      clear H
      go_wp2_with (first | ((with_reducible refine gate_callee (f := 72) rfl ?_); refine goesL_ (some 22) rfl rfl Try.func72 (by kernel_rfl) rfl #[.slice A0 l0.length c0] rfl (by (try simp only [List.map_toArray, List.map_cons, List.map_nil]); first | done | rfl | (simp only [List.length_drop, List.length_take]; rfl)) ?_; (with_reducible refine (impl_IsGluing.calls k _ _ l0 true _ ?side1 ?side2 A4.out).mono ?_); (case side1 => repeat (first | exact (Kd.C_below HR0.out HB.out) | (with_reducible refine Kd.C_alloc ?_ _) | (with_reducible refine Kd.C_drewN ?_ _) | (with_reducible refine Kd.C_drew ?_))); (case side2 => exact HC0.out); rintro e w7 ⟨rfl, hb⟩; refine ⟨_, rfl, ?_⟩; have n0_ := Aside0.mk (below_step (by repeat (first | (with_reducible first | exact HB.out | apply below_alloc | apply pw_below_drewN | apply below_drew1) | exact HB.out)) hb); clear HB; have HB := n0_; clear n0_; (try clear hb); (try clear hb2); (try clear hk); (try clear hi)) | (go_at_call 73; (with_reducible refine (impl_within.calls a1 1 8 t320 _ A6.out).mono ?_); rintro e w' ⟨rfl, ⟨nd, rfl⟩⟩))
      go_meet
      case rel => exact ⟨_, (!t320), (by first | rfl | (simp; done) | (simp [*]; done)), H', ⟨by first | omega | exact Nat.le_refl _⟩, ⟨by repeat (first | (with_reducible first | exact HB.out | apply below_alloc | apply pw_below_drewN | apply below_drew1) | exact HB.out)⟩⟩
    · replace c5 := Bool.eq_false_iff.mpr c5
      subst c5
      have H1 : (impl_GluePolygons.j0 k l0 a1 true) = some (r1, r2) := by rw [if_neg (show ¬ (false = true) by decide)] at H; exact H
      clear H
      have H := H1
      clear H1
      have H' := Aside0.mk H
      clear H
      go_wp2_with (first | ((with_reducible refine gate_callee (f := 72) rfl ?_); refine goesL_ (some 22) rfl rfl Try.func72 (by kernel_rfl) rfl #[.slice A0 l0.length c0] rfl (by (try simp only [List.map_toArray, List.map_cons, List.map_nil]); first | done | rfl | (simp only [List.length_drop, List.length_take]; rfl)) ?_; (with_reducible refine (impl_IsGluing.calls k _ _ l0 false _ ?side1 ?side2 A4.out).mono ?_); (case side1 => repeat (first | exact (Kd.C_below HR0.out HB.out) | (with_reducible refine Kd.C_alloc ?_ _) | (with_reducible refine Kd.C_drewN ?_ _) | (with_reducible refine Kd.C_drew ?_))); (case side2 => exact HC0.out); rintro e w8 ⟨rfl, hb⟩; refine ⟨_, rfl, ?_⟩; have n0_ := Aside0.mk (below_step (by repeat (first | (with_reducible first | exact HB.out | apply below_alloc | apply pw_below_drewN | apply below_drew1) | exact HB.out)) hb); clear HB; have HB := n0_; clear n0_; (try clear hb); (try clear hb2); (try clear hk); (try clear hi)))
      go_meet
      case rel => exact ⟨_, (true), (by first | rfl | (simp; done) | (simp [*]; done)), H', ⟨by first | omega | exact Nat.le_refl _⟩, ⟨by repeat (first | (with_reducible first | exact HB.out | apply below_alloc | apply pw_below_drewN | apply below_drew1) | exact HB.out)⟩⟩
  case rest =>
    clear HC3
    try clear p2
    try clear c3
    try clear c5
    try clear c7
    obtain ⟨kq, x28_2, rfl, HA, HJ2, HB⟩ := hcut
    cases kq with
    | zero => exact absurd HA.out (by simp [impl_GluePolygons.j0])
    | succ kj2 =>
      have H := HA.out
      clear HA
      simp only [impl_GluePolygons.j0] at H
      by_cases c9 : x28_2 = true
      · subst c9
        have H1 : (some (([] : List (List Int)), false)) = some (r1, r2) := by rw [if_pos rfl] at H; exact H
        clear H
        have H := H1
        clear H1
        simp only [Option.some.injEq, Prod.mk.injEq] at H
        obtain ⟨rfl, rfl⟩ := H
        go_wp2
        go_ret2
        exact ⟨_, by first | rfl | (simp [errW_none, errW_some] <;> rfl) | (simp [*, errW_none, errW_some] <;> rfl), S_id0 (by first | exact Kd.S_nil _ _ _ _ _ | exact Kd.N_nil _ _ _ _ _ | exact Kd.S_nil _ _ _ _ _ | exact Kd.Q_nil _ _ _ _ _ | exact Kd.R_nil _ _ _ _ _), by repeat (first | (with_reducible first | exact HB.out | apply below_alloc | apply pw_below_drewN | apply below_drew1) | exact HB.out)⟩
      · replace c9 := Bool.eq_false_iff.mpr c9
        subst c9
        have H1 : (impl_GluePolygons.l0 kj2 l0 a1 (([] : List (S60))) l0 (l0.length : Int) 0) = some (r1, r2) := by rw [if_neg (show ¬ (false = true) by decide)] at H; exact H
        clear H
        have H := H1
        clear H1
        obtain ⟨y321, hy321⟩ : ∃ y_ : List (S60), y_ = (([] : List (S60))) := ⟨_, rfl⟩
        replace H : (impl_GluePolygons.l0 kj2 l0 a1 y321 l0 (l0.length : Int) 0) = some (r1, r2) := by first | (rw [hy321]; with_reducible exact H) | (have H2_ := (Option.bind_some _ _).symm.trans H; rw [hy321]; with_reducible exact H2_) | (have H2_ := (Option.bind_some _ _).symm.trans H; with_reducible exact H2_) | with_reducible exact H | (rw [hy321]; exact H) | exact H
        have Ny321 := Aside0.mk hy321
        clear hy321
        have H' := Aside0.mk H
        clear H
        go_wp2_with (first | ((with_reducible refine gate_dst (N := 29) rfl ?_); refine Kd.R_lit k60 _ 60 ?hg (N := 29) ?hd (xs := ([] : List (S60))) (inner := []) (ok := fun _ => True) (okp := fun _ => True) ?hr ?hp (fun _ hk => hk) trivial (Below.refl _ _) (Nat.le_refl _) (by simp) ?_; (case hd => rfl); (case hg => rfl); (case hr => first | (go_simp; done) | (go_simp; rfl)); (case hp => exact (Reps.none _ _)); intro v322 w10 ho11 hb hg_ hnew_; clear hg_ hnew_; (first | rw [← Ny321.out] at ho11 | (simp only [Int.reduceToNat] at ho11; rw [← Ny321.out] at ho11)); have n0_ := Aside0.mk (Kd.R_lower (Kd.R_newM (M := fun k_ => (w.heap.size ≤ k_)) ho11 (below_size (by repeat (first | (with_reducible first | exact HB.out | apply below_alloc | apply pw_below_drewN | apply below_drew1) | exact HB.out))) (fun k_ h_ => h_)) (below_size (by repeat (first | (with_reducible first | exact HB.out | apply below_alloc | apply pw_below_drewN | apply below_drew1) | exact HB.out)))); have n1_ := Aside0.mk (below_step (by repeat (first | (with_reducible first | exact HB.out | apply below_alloc | apply pw_below_drewN | apply below_drew1) | exact HB.out)) hb); clear HB; have HO323 := n0_; have HB := n1_; clear n0_ n1_; clear hb ho11))
        go_loopg [6, 32] kj2 (fun kq v6 v32 w' => ∃ (x6_2 : List (S60)) (x32_2 : Int), v32 = .int .i64 x32_2 ∧ Aside0 (impl_GluePolygons.l0 kq l0 a1 x6_2 l0 (l0.length : Int) x32_2 = some (r1, r2)) ∧ Aside0 (kq ≤ kj2) ∧ Aside0 (Kd.R k60 60 w' w.heap.size (fun k_ => (w.heap.size ≤ k_)) v6 x6_2) ∧ Aside0 (Below w.heap.size w w'))
        case atStart => exact ⟨(y321), (0), (by first | rfl | (simp; done) | (simp [*]; done)), H', ⟨Nat.le_refl _⟩, ⟨by (with_reducible repeat (first | apply Kd.R_alloc | apply Kd.R_drewN | apply Kd.R_drew)); exact Kd.R_mono HO323.out (fun _ hk => hk.1)⟩, ⟨by repeat (first | (with_reducible first | exact HB.out | apply below_alloc | apply pw_below_drewN | apply below_drew1) | exact HB.out)⟩⟩
        case round =>
          clear H'
          try clear p2
          try clear c3
          try clear c5
          try clear c7
          try clear c9
          try clear p2
          obtain ⟨x6_2, x32_2, rfl, HA, HK2, HO_6, HB⟩ := hrel
          cases gk with
          | zero => exact absurd HA.out (by simp [impl_GluePolygons.l0])
          | succ k2 =>
            have H := HA.out
            clear HA
            simp only [impl_GluePolygons.l0] at H
            by_cases c12 : x32_2 < (l0.length : Int)
            · rw [if_pos c12] at H
              have c12b0 : decide (x32_2 < (l0.length : Int)) = true := decide_eq_true c12
              clear c12
              by_cases c13 : 0 ≤ x32_2
              · rw [if_pos c13] at H
                have c13b0 : decide (0 ≤ x32_2) = true := decide_eq_true c13
                clear c13
                by_cases c14 : x32_2 < (l0.length : Int)
                · rw [if_pos c14] at H
                  have c14b0 : decide (x32_2 < (l0.length : Int)) = true := decide_eq_true c14
                  clear c14
                  have H' := Aside0.mk H
                  clear H
                  have p324 : 0 ≤ (x32_2 : Int) := of_decide_eq_true (by first | (with_reducible assumption) | assumption)
                  have q324 : x32_2 < (l0.length : Int) := of_decide_eq_true (by first | (with_reducible assumption) | assumption)
                  obtain ⟨ad324, A324_0, c324_0, e324, hx324_0, hl324_0, hi324_0⟩ := at_L1 HR0.out x32_2 p324 q324
                  cases e324
                  replace hx324_0 := (HB.out.cell (World.block_lt_of_cell? w _ hx324_0)).trans hx324_0
                  have HR324_0 := Aside0.mk hi324_0
                  have HC324_0 := Aside0.mk hl324_0
                  clear hi324_0 hl324_0
                  replace p324 := eq_true p324
                  replace q324 := eq_true q324
                  go_wp2
                  go_loopg [6, 39] k2 (fun kq v6 v39 w' => ∃ (x6_3 : List (S60)) (x39_3 : Int), v39 = .int .i64 x39_3 ∧ Aside0 (impl_GluePolygons.l1 kq l0 a1 x6_3 x32_2 l0 (l0.length : Int) x32_2 (rd_L1 l0 x32_2) ((rd_L1 l0 x32_2).length : Int) x39_3 = some (r1, r2)) ∧ Aside0 (kq ≤ k2) ∧ Aside0 (Kd.R k60 60 w' w.heap.size (fun k_ => (w.heap.size ≤ k_)) v6 x6_3) ∧ Aside0 (Below w.heap.size w w'))
                  case atStart => exact ⟨(x6_2), (0), (by first | rfl | (simp; done) | (simp [*]; done)), H', ⟨Nat.le_refl _⟩, ⟨by (with_reducible repeat (first | apply Kd.R_alloc | apply Kd.R_drewN | apply Kd.R_drew)); exact HO_6.out⟩, ⟨by repeat (first | (with_reducible first | exact HB.out | apply below_alloc | apply pw_below_drewN | apply below_drew1) | exact HB.out)⟩⟩
                  case round =>
                    clear H'
                    try clear c1
                    try clear p2
                    try clear c3
                    try clear p3
                    try clear q3
                    try clear hx3
                    try clear c5
                    try clear c7
                    try clear c9
                    try clear c12
                    try clear c12b0
                    try clear c13
                    try clear c13b0
                    try clear c14
                    try clear c14b0
                    try clear hx324_0
                    try clear p2
                    try clear p324
                    try clear q324
                    obtain ⟨x6_3, x39_3, rfl, HA, HK3, HO_6, HB⟩ := hrel
                    cases gk with
                    | zero => exact absurd HA.out (by simp [impl_GluePolygons.l1])
                    | succ k3 =>
                      have H := HA.out
                      clear HA
                      simp only [impl_GluePolygons.l1] at H
                      by_cases c15 : x39_3 < ((rd_L1 l0 x32_2).length : Int)
                      · rw [if_pos c15] at H
                        have c15b0 : decide (x39_3 < ((rd_L1 l0 x32_2).length : Int)) = true := decide_eq_true c15
                        clear c15
                        by_cases c16 : 0 ≤ x39_3
                        · rw [if_pos c16] at H
                          have c16b0 : decide (0 ≤ x39_3) = true := decide_eq_true c16
                          clear c16
                          by_cases c17 : x39_3 < ((rd_L1 l0 x32_2).length : Int)
                          · rw [if_pos c17] at H
                            have c17b0 : decide (x39_3 < ((rd_L1 l0 x32_2).length : Int)) = true := decide_eq_true c17
                            clear c17
                            replace H := Option.bind_eq_some_iff.mp H
                            obtain ⟨t326, A180, H⟩ := H
                            replace H : (if t326 = a1 then (if x6_3.length < 8796093022208 then (impl_GluePolygons.l1 k3 l0 a1 (x6_3 ++ [(⟨x32_2, x39_3⟩ : S60)]) x32_2 l0 (l0.length : Int) x32_2 (rd_L1 l0 x32_2) ((rd_L1 l0 x32_2).length : Int) (wrap64 (x39_3 + 1))) else (none)) else (impl_GluePolygons.l1 k3 l0 a1 x6_3 x32_2 l0 (l0.length : Int) x32_2 (rd_L1 l0 x32_2) ((rd_L1 l0 x32_2).length : Int) (wrap64 (x39_3 + 1)))) = some (r1, r2) := H
                            have A18 := Aside0.mk A180
                            clear A180
                            by_cases c19 : t326 = a1
                            · rw [if_pos c19] at H
                              have c19b0 : (t326 == a1) = true := beq_iff_eq.mpr c19
                              have c19b1 : (t326 != a1) = false := bne_eq_false_iff_eq.mpr c19
                              clear c19
                              by_cases c20 : x6_3.length < 8796093022208
                              · rw [if_pos c20] at H
                                have LMc20 := Aside0.mk c20
                                clear c20
                                obtain ⟨y327, hy327⟩ : ∃ y_ : List (S60), y_ = (x6_3 ++ [(⟨x32_2, x39_3⟩ : S60)]) := ⟨_, rfl⟩
                                replace H : (impl_GluePolygons.l1 k3 l0 a1 y327 x32_2 l0 (l0.length : Int) x32_2 (rd_L1 l0 x32_2) ((rd_L1 l0 x32_2).length : Int) (wrap64 (x39_3 + 1))) = some (r1, r2) := by first | (rw [hy327]; with_reducible exact H) | (have H2_ := (Option.bind_some _ _).symm.trans H; rw [hy327]; with_reducible exact H2_) | (have H2_ := (Option.bind_some _ _).symm.trans H; with_reducible exact H2_) | with_reducible exact H | (rw [hy327]; exact H) | exact H
                                have Ny327 := Aside0.mk hy327
                                clear hy327
                                have H' := Aside0.mk H
                                clear H
                                have p325 : 0 ≤ (x39_3 : Int) := of_decide_eq_true (by first | (with_reducible assumption) | assumption)
                                have q325 : x39_3 < ((rd_L1 l0 x32_2).length : Int) := of_decide_eq_true (by first | (with_reducible assumption) | assumption)
                                obtain ⟨ad325, e325, hx325_0⟩ := Kd.at_int HR324_0.out x39_3 p325 q325
                                cases e325
                                replace hx325_0 := (HB.out.cell (World.block_lt_of_cell? w _ hx325_0)).trans hx325_0
                                replace p325 := eq_true p325
                                replace q325 := eq_true q325
                                go_wp2_with (first | ((with_reducible refine gate_callee (f := 79) rfl ?_); refine goesL_ (some 45) rfl rfl Try.func79 (by kernel_rfl) rfl #[.int .i64 (rd (rd_L1 l0 x32_2) x39_3)] rfl (by (try simp only [List.map_toArray, List.map_cons, List.map_nil]); first | done | rfl | (simp only [List.length_drop, List.length_take]; rfl)) ?_; (with_reducible refine (impl_size.calls (rd (rd_L1 l0 x32_2) x39_3) t326 _ A18.out).mono ?_); rintro e w21 ⟨rfl, hb⟩; refine ⟨_, rfl, ?_⟩; have n0_ := Aside0.mk (Kd.R_below (by (with_reducible repeat (first | apply Kd.R_alloc | apply Kd.R_drewN | apply Kd.R_drew)); exact HO_6.out) hb); have n1_ := Aside0.mk (below_step (by repeat (first | (with_reducible first | exact HB.out | apply below_alloc | apply pw_below_drewN | apply below_drew1) | exact HB.out)) hb); clear HO_6; clear HB; have HO_6 := n0_; have HB := n1_; clear n0_ n1_; (try clear hb); (try clear hb2); (try clear hk); (try clear hi)) | ((with_reducible refine gate_builtin (b := .append) (xs := #[.tmp 48, .tmp 52]) rfl ?_); at_builtin; refine Kd.R_append k60 (w0 := w) w.heap.size rfl (.tmp 48) (.tmp 52) 59 60 (.agg #[(.int .i64 0), (.int .i64 0)]) 16 rfl Try.underlying59 info60 rfl (by decide) (by omega) u6 x6_3 (⟨x32_2, x39_3⟩ : S60) [.int .i64 x32_2, .int .i64 x39_3] (fun k_ => (w.heap.size ≤ k_)) (fun _ => False) rfl rfl ?aP (fun _ hk => hk.elim) ?aF ?aO ?aB ?aS ?aL ?_; (case aP => exact k60_mkM _ _ _ (⟨x32_2, x39_3⟩ : S60)); (case aB => exact (by repeat (first | (with_reducible first | exact HB.out | apply below_alloc | apply pw_below_drewN | apply below_drew1) | exact HB.out))); (case aF => exact (fun k_ hk => (Nat.le_trans (below_size (by repeat (first | (with_reducible first | exact HB.out | apply below_alloc | apply pw_below_drewN | apply below_drew1) | exact HB.out))) hk))); (case aO => exact (by (with_reducible repeat (first | apply Kd.R_alloc | apply Kd.R_drewN | apply Kd.R_drew)); exact HO_6.out)); (case aS => exact (below_size (by repeat (first | (with_reducible first | exact HB.out | apply below_alloc | apply pw_below_drewN | apply below_drew1) | exact HB.out)))); (case aL => have := LMc20.out; omega); intro v328 w22 ho hb hg hat; rw [← Ny327.out] at ho; have n0_ := Aside0.mk (hb); have n1_ := Aside0.mk (ho); clear HB; clear HO_6; have HB := n0_; have HO329 := n1_; clear n0_ n1_; clear ho hb hg hat))
                                go_roundg k3
                                case measure => have := HJ2.out; have := HK2.out; have := HK3.out; omega
                                case rel => exact ⟨(y327), (wrap64 (x39_3 + 1)), (by first | rfl | (simp; done) | (simp [*]; done)), H', ⟨by have := HJ2.out; have := HK2.out; have := HK3.out; omega⟩, ⟨by (with_reducible repeat (first | apply Kd.R_alloc | apply Kd.R_drewN | apply Kd.R_drew)); exact HO329.out⟩, ⟨by repeat (first | (with_reducible first | exact HB.out | apply below_alloc | apply pw_below_drewN | apply below_drew1) | exact HB.out)⟩⟩
                              · rw [if_neg c20] at H
                                exact absurd H (by simp)
                            · rw [if_neg c19] at H
                              have c19b0 : (t326 == a1) = false := beq_eq_false_iff_ne.mpr c19
                              have c19b1 : (t326 != a1) = true := bne_iff_ne.mpr c19
                              have H' := Aside0.mk H
                              clear H
                              have p325 : 0 ≤ (x39_3 : Int) := of_decide_eq_true (by first | (with_reducible assumption) | assumption)
                              have q325 : x39_3 < ((rd_L1 l0 x32_2).length : Int) := of_decide_eq_true (by first | (with_reducible assumption) | assumption)
                              obtain ⟨ad325, e325, hx325_0⟩ := Kd.at_int HR324_0.out x39_3 p325 q325
                              cases e325
                              replace hx325_0 := (HB.out.cell (World.block_lt_of_cell? w _ hx325_0)).trans hx325_0
                              replace p325 := eq_true p325
                              replace q325 := eq_true q325
                              go_wp2_with (first | ((with_reducible refine gate_callee (f := 79) rfl ?_); refine goesL_ (some 45) rfl rfl Try.func79 (by kernel_rfl) rfl #[.int .i64 (rd (rd_L1 l0 x32_2) x39_3)] rfl (by (try simp only [List.map_toArray, List.map_cons, List.map_nil]); first | done | rfl | (simp only [List.length_drop, List.length_take]; rfl)) ?_; (with_reducible refine (impl_size.calls (rd (rd_L1 l0 x32_2) x39_3) t326 _ A18.out).mono ?_); rintro e w23 ⟨rfl, hb⟩; refine ⟨_, rfl, ?_⟩; have n0_ := Aside0.mk (Kd.R_below (by (with_reducible repeat (first | apply Kd.R_alloc | apply Kd.R_drewN | apply Kd.R_drew)); exact HO_6.out) hb); have n1_ := Aside0.mk (below_step (by repeat (first | (with_reducible first | exact HB.out | apply below_alloc | apply pw_below_drewN | apply below_drew1) | exact HB.out)) hb); clear HO_6; clear HB; have HO_6 := n0_; have HB := n1_; clear n0_ n1_; (try clear hb); (try clear hb2); (try clear hk); (try clear hi)))
                              go_roundg k3
                              case measure => have := HJ2.out; have := HK2.out; have := HK3.out; omega
                              case rel => exact ⟨(x6_3), (wrap64 (x39_3 + 1)), (by first | rfl | (simp; done) | (simp [*]; done)), H', ⟨by have := HJ2.out; have := HK2.out; have := HK3.out; omega⟩, ⟨by (with_reducible repeat (first | apply Kd.R_alloc | apply Kd.R_drewN | apply Kd.R_drew)); exact HO_6.out⟩, ⟨by repeat (first | (with_reducible first | exact HB.out | apply below_alloc | apply pw_below_drewN | apply below_drew1) | exact HB.out)⟩⟩
                          · rw [if_neg c17] at H
                            exact absurd H (by simp)
                        · rw [if_neg c16] at H
                          exact absurd H (by simp)
                      · rw [if_neg c15] at H
                        have c15b0 : decide (x39_3 < ((rd_L1 l0 x32_2).length : Int)) = false := decide_eq_false c15
                        clear c15
                        have H' := Aside0.mk H
                        clear H
                        go_wp2
                        go_roundg k3
                        case measure => have := HJ2.out; have := HK2.out; have := HK3.out; omega
                        case rel => exact ⟨(x6_3), (wrap64 (x32_2 + 1)), (by first | rfl | (simp; done) | (simp [*]; done)), H', ⟨by have := HJ2.out; have := HK2.out; have := HK3.out; omega⟩, ⟨by (with_reducible repeat (first | apply Kd.R_alloc | apply Kd.R_drewN | apply Kd.R_drew)); exact HO_6.out⟩, ⟨by repeat (first | (with_reducible first | exact HB.out | apply below_alloc | apply pw_below_drewN | apply below_drew1) | exact HB.out)⟩⟩
                · rw [if_neg c14] at H
                  exact absurd H (by simp)
              · rw [if_neg c13] at H
                exact absurd H (by simp)
            · rw [if_neg c12] at H
              have c12b0 : decide (x32_2 < (l0.length : Int)) = false := decide_eq_false c12
              clear c12
              have HC24 := Aside0.mk H
              clear H
              go_upto_region 14 with (fail)
              go_cut [69] (fun v69 wc => ∃ (kq : Nat) (x69_23 : Bool), v69 = .bool x69_23 ∧ Aside0 (impl_GluePolygons.j3 kq l0 x6_2 x69_23 = some (r1, r2)) ∧ Aside0 (kq ≤ k2) ∧ Aside0 (Kd.R k60 60 wc w.heap.size (fun k_ => (w.heap.size ≤ k_)) u6 x6_2) ∧ Aside0 (Below w.heap.size w wc))
              case first =>
                have H := HC24.out
                clear HC24
                by_cases c25 : (x6_2.length : Int) = 2
                · rw [if_pos c25] at H
                  have c25b0 : ((x6_2.length : Int) == 2) = true := beq_iff_eq.mpr c25
                  have c25b1 : ((x6_2.length : Int) != 2) = false := bne_eq_false_iff_eq.mpr c25
                  clear c25
                  (first | rw [c25b0] | (simp only [i64_w, i32_w]; rw [c25b0]) | skip)
                  by_cases c26 : 0 < (x6_2.length : Int)
                  · rw [if_pos c26] at H
                    have c26b0 : decide (0 < (x6_2.length : Int)) = true := decide_eq_true c26
                    have c26b1 : decide (0 < x6_2.length) = true := decide_eq_true (by omega)
                    clear c26
                    by_cases c27 : 1 < (x6_2.length : Int)
                    · rw [if_pos c27] at H
                      have c27b0 : decide (1 < (x6_2.length : Int)) = true := decide_eq_true c27
                      have c27b1 : decide (1 < x6_2.length) = true := decide_eq_true (by omega)
                      clear c27
                      have H' := Aside0.mk H
                      clear H
                      try go_wp2
                      have n0_ := Aside0.mk (Kd.R_drew HO_6.out)
                      have n1_ := Aside0.mk (below_drew1 HB.out)
                      clear HO_6
                      clear HB
                      have HO_6 := n0_
                      have HB := n1_
                      clear n0_ n1_
                      obtain ⟨Ao29, co29, eo29⟩ := Kd.R_slice HO_6.out
                      (first | subst eo29 | (injection eo29 with f1_ f2_ f3_; have f4_ := f1_.symm; have f5_ := f3_.symm; clear f1_ f2_ f3_; subst f4_; subst f5_))
                      have p330 : 0 ≤ (0 : Int) := (by omega)
                      have q330 : 0 < (x6_2.length : Int) := of_decide_eq_true (by first | (with_reducible assumption) | assumption)
                      obtain ⟨ad330, e330, hx330_0, hx330_1⟩ := at_T60 (Kd.R_reads' HO_6.out).2.2 0 p330 q330
                      cases e330
                      have qi330 : (0 < x6_2.length) = True := eq_true (by omega)
                      (try rw [show ((0 : Int)).toNat = 0 from rfl] at hx330_0)
                      (try rw [show 0 * 2 = 0 from rfl] at hx330_0)
                      (try rw [Addr.add_zero'] at hx330_0)
                      (try rw [show ((0 : Int)).toNat = 0 from rfl] at hx330_1)
                      (try rw [show 0 * 2 = 0 from rfl] at hx330_1)
                      (try rw [Addr.add_zero'] at hx330_1)
                      replace p330 := eq_true p330
                      replace q330 := eq_true q330
                      have p331 : 0 ≤ (1 : Int) := (by omega)
                      have q331 : 1 < (x6_2.length : Int) := of_decide_eq_true (by first | (with_reducible assumption) | assumption)
                      obtain ⟨ad331, e331, hx331_0, hx331_1⟩ := at_T60 (Kd.R_reads' HO_6.out).2.2 1 p331 q331
                      obtain rfl : ad330 = ad331 := (by injection e331)
                      (try simp only [show (1 : Int).toNat = 1 from rfl, Nat.reduceMul, Nat.reduceEqDiff, Go.Addr.add, ↓reduceIte] at hx331_0)
                      (try simp only [show (1 : Int).toNat = 1 from rfl, Nat.reduceMul, Nat.reduceEqDiff, Go.Addr.add, ↓reduceIte] at hx331_1)
                      have qi331 : (1 < x6_2.length) = True := eq_true (by omega)
                      (try rw [show ((1 : Int)).toNat = 1 from rfl] at hx331_0)
                      (try rw [show 1 * 2 = 2 from rfl] at hx331_0)
                      (try rw [show ((1 : Int)).toNat = 1 from rfl] at hx331_1)
                      (try rw [show 1 * 2 = 2 from rfl] at hx331_1)
                      replace p331 := eq_true p331
                      replace q331 := eq_true q331
                      refine start_ (n := 14) (S := fun w' => w'.cell? ad330 = some (.int .i64 ((rd_T60 x6_2 0).f0)) ∧ w'.cell? ⟨ad330.block, ad330.off + 1, none⟩ = some (.int .i64 ((rd_T60 x6_2 0).f1)) ∧ w'.cell? ⟨ad330.block, ad330.off + 2, none⟩ = some (.int .i64 ((rd_T60 x6_2 1).f0)) ∧ w'.cell? ⟨ad330.block, ad330.off + 2 + 1, none⟩ = some (.int .i64 ((rd_T60 x6_2 1).f1))) (ds := []) #[false, false, false, false, false, false, false, false, false, false, false, false, false, false] (by kernel_rfl) rfl rfl ⟨hx330_0, hx330_1, hx331_0, hx331_1⟩ (fun hHeld => ?_); refine with_tabW impl_GluePolygons.tab14 impl_GluePolygons.bits14 (fun HT_ HW_ => ?_)
                      generalize wr.drew = w28 at HO_6 HB hx330_0 hx330_1 hx331_0 hx331_1 hHeld ⊢
                      refine pure_ (i := 0) (N := some 56) (v := ?_) (a' := ?_) #[true, false, false, false, false, false, false, false, false, false, false, false, false, false] rfl rfl (any_of HT_.out (by kernel_rfl)) (fun _ _ _ h => h) (Or.inl ⟨by rfl, ?_⟩) ?_ ?_
                      rotate_left
                      · intro w'
                        go_simp
                        with_reducible rfl
                      rotate_left
                      · simp only [Act.put, List.setIfInBounds_toArray, List.set_cons_zero, List.set_cons_succ, i64_w, i32_w]
                        rfl
                      refine pure_ (i := 1) (N := some 57) (v := ?_) (a' := ?_) #[true, true, false, false, false, false, false, false, false, false, false, false, false, false] rfl rfl (any_of HT_.out (by kernel_rfl)) (fun _ _ _ h => h) (Or.inl ⟨by rfl, ?_⟩) ?_ ?_
                      rotate_left
                      · intro w'
                        go_simp
                        with_reducible rfl
                      rotate_left
                      · simp only [Act.put, List.setIfInBounds_toArray, List.set_cons_zero, List.set_cons_succ, i64_w, i32_w]
                        rfl
                      refine pure_ (i := 2) (N := some 58) (v := ?_) (a' := ?_) #[true, true, true, false, false, false, false, false, false, false, false, false, false, false] rfl rfl (any_of HT_.out (by kernel_rfl)) (fun _ _ _ h => h) (Or.inl ⟨by rfl, ?_⟩) ?_ ?_
                      rotate_left
                      · intro w'
                        go_simp
                        with_reducible rfl
                      rotate_left
                      · simp only [Act.put, List.setIfInBounds_toArray, List.set_cons_zero, List.set_cons_succ, i64_w, i32_w]
                        rfl
                      refine pure_ (i := 3) (N := some 59) (v := ?_) (a' := ?_) #[true, true, true, true, false, false, false, false, false, false, false, false, false, false] rfl rfl (any_of HT_.out (by kernel_rfl)) (fun _ _ _ h => h) (Or.inl ⟨by rfl, ?_⟩) ?_ ?_
                      rotate_left
                      · intro w'
                        go_simp
                        with_reducible rfl
                      rotate_left
                      · simp only [Act.put, List.setIfInBounds_toArray, List.set_cons_zero, List.set_cons_succ, i64_w, i32_w]
                        rfl
                      refine pure_ (i := 4) (N := some 60) (v := ?_) (a' := ?_) #[true, true, true, true, true, false, false, false, false, false, false, false, false, false] rfl rfl (any_of HT_.out (by kernel_rfl)) (fun _ _ _ h => h) (Or.inl ⟨by rfl, ?_⟩) ?_ ?_
                      rotate_left
                      · intro w'
                        go_simp
                        with_reducible rfl
                      rotate_left
                      · simp only [Act.put, List.setIfInBounds_toArray, List.set_cons_zero, List.set_cons_succ, i64_w, i32_w]
                        rfl
                      refine pure_ (i := 5) (N := some 61) (v := ?_) (a' := ?_) #[true, true, true, true, true, true, false, false, false, false, false, false, false, false] rfl rfl (any_of HT_.out (by kernel_rfl)) (fun _ _ _ h => h) (Or.inl ⟨by rfl, ?_⟩) ?_ ?_
                      rotate_left
                      · intro w'
                        go_simp
                        with_reducible rfl
                      rotate_left
                      · simp only [Act.put, List.setIfInBounds_toArray, List.set_cons_zero, List.set_cons_succ, i64_w, i32_w]
                        rfl
                      refine pure_ (i := 6) (N := some 62) (v := ?_) (a' := ?_) #[true, true, true, true, true, true, true, false, false, false, false, false, false, false] rfl rfl (any_of HT_.out (by kernel_rfl)) (fun _ _ _ h => h) (Or.inl ⟨by rfl, ?_⟩) ?_ ?_
                      rotate_left
                      · intro w'
                        go_simp
                        with_reducible rfl
                      rotate_left
                      · simp only [Act.put, List.setIfInBounds_toArray, List.set_cons_zero, List.set_cons_succ, i64_w, i32_w]
                        rfl
                      refine pure_ (i := 8) (N := some 64) (v := ?_) (a' := ?_) #[true, true, true, true, true, true, true, false, true, false, false, false, false, false] rfl rfl (any_of HT_.out (by kernel_rfl)) (fun _ _ _ h => h) (Or.inl ⟨by rfl, ?_⟩) ?_ ?_
                      rotate_left
                      · intro w'
                        go_simp
                        with_reducible rfl
                      rotate_left
                      · simp only [Act.put, List.setIfInBounds_toArray, List.set_cons_zero, List.set_cons_succ, i64_w, i32_w]
                        rfl
                      refine pure_ (i := 9) (N := some 65) (v := ?_) (a' := ?_) #[true, true, true, true, true, true, true, false, true, true, false, false, false, false] rfl rfl (any_of HT_.out (by kernel_rfl)) (fun _ _ _ h => h) (Or.inl ⟨by rfl, ?_⟩) ?_ ?_
                      rotate_left
                      · intro w'
                        go_simp
                        with_reducible rfl
                      rotate_left
                      · simp only [Act.put, List.setIfInBounds_toArray, List.set_cons_zero, List.set_cons_succ, i64_w, i32_w]
                        rfl
                      refine pure_ (i := 10) (N := some 66) (v := ?_) (a' := ?_) #[true, true, true, true, true, true, true, false, true, true, true, false, false, false] rfl rfl (any_of HT_.out (by kernel_rfl)) (fun _ _ _ h => h) (Or.inl ⟨by rfl, ?_⟩) ?_ ?_
                      rotate_left
                      · intro w'
                        go_simp
                        with_reducible rfl
                      rotate_left
                      · simp only [Act.put, List.setIfInBounds_toArray, List.set_cons_zero, List.set_cons_succ, i64_w, i32_w]
                        rfl
                      refine take_ (i := 7) (N := some 63) (v := ?_) (a' := ?_) #[true, true, true, true, true, true, true, true, true, true, true, false, false, false] rfl rfl (take_ofW HT_.out HW_.out (by kernel_rfl)) (fun _ _ _ h => h) (Or.inl ⟨by rfl, ?_⟩) hHeld ?_ ?_
                      rotate_left
                      · rintro w' ⟨s0, s1, s2, s3⟩
                        go_simp
                        with_reducible rfl
                      rotate_left
                      · simp only [Act.put, List.setIfInBounds_toArray, List.set_cons_zero, List.set_cons_succ, i64_w, i32_w]
                        rfl
                      refine take_ (i := 11) (N := some 67) (v := ?_) (a' := ?_) #[true, true, true, true, true, true, true, true, true, true, true, true, false, false] rfl rfl (take_ofW HT_.out HW_.out (by kernel_rfl)) (fun _ _ _ h => h) (Or.inl ⟨by rfl, ?_⟩) hHeld ?_ ?_
                      rotate_left
                      · rintro w' ⟨s0, s1, s2, s3⟩
                        go_simp
                        with_reducible rfl
                      rotate_left
                      · simp only [Act.put, List.setIfInBounds_toArray, List.set_cons_zero, List.set_cons_succ, i64_w, i32_w]
                        rfl
                      refine pure_ (i := 12) (N := some 68) (v := ?_) (a' := ?_) #[true, true, true, true, true, true, true, true, true, true, true, true, true, false] rfl rfl (any_of HT_.out (by kernel_rfl)) (fun _ _ _ h => h) (Or.inl ⟨by rfl, ?_⟩) ?_ ?_
                      rotate_left
                      · intro w'
                        go_simp
                        with_reducible rfl
                      rotate_left
                      · simp only [Act.put, List.setIfInBounds_toArray, List.set_cons_zero, List.set_cons_succ, i64_w, i32_w]
                        rfl
                      refine pure_ (i := 13) (N := some 69) (v := ?_) (a' := ?_) #[true, true, true, true, true, true, true, true, true, true, true, true, true, true] rfl rfl (any_of HT_.out (by kernel_rfl)) (fun _ _ _ h => h) (Or.inl ⟨by rfl, ?_⟩) ?_ ?_
                      rotate_left
                      · intro w'
                        go_simp
                        with_reducible rfl
                      rotate_left
                      · simp only [Act.put, List.setIfInBounds_toArray, List.set_cons_zero, List.set_cons_succ, i64_w, i32_w]
                        rfl
                      refine done_ (done_of HT_.out (by kernel_rfl)) ?_
                      try go_wp2
                      go_meet
                      case rel => exact ⟨_, ((((rd_T60 x6_2 0).f0) == ((rd_T60 x6_2 1).f0))), (by first | rfl | (simp; done) | (simp [*]; done)), H', ⟨by have := HJ2.out; have := HK2.out; first | omega | exact Nat.le_refl _⟩, ⟨by (with_reducible repeat (first | apply Kd.R_alloc | apply Kd.R_drewN | apply Kd.R_drew)); exact HO_6.out⟩, ⟨by repeat (first | (with_reducible first | exact HB.out | apply below_alloc | apply pw_below_drewN | apply below_drew1) | exact HB.out)⟩⟩
                    · rw [if_neg c27] at H
                      exact absurd H (by simp)
                  · rw [if_neg c26] at H
                    exact absurd H (by simp)
                · rw [if_neg c25] at H
                  have c25b0 : ((x6_2.length : Int) == 2) = false := beq_eq_false_iff_ne.mpr c25
                  have c25b1 : ((x6_2.length : Int) != 2) = true := bne_iff_ne.mpr c25
                  (first | rw [c25b0] | (simp only [i64_w, i32_w]; rw [c25b0]) | skip)
                  have H' := Aside0.mk H
                  clear H
                  try go_wp2
                  have n0_ := Aside0.mk (Kd.R_drew HO_6.out)
                  have n1_ := Aside0.mk (below_drew1 HB.out)
                  clear HO_6
                  clear HB
                  have HO_6 := n0_
                  have HB := n1_
                  clear n0_ n1_
                  obtain ⟨Ao31, co31, eo31⟩ := Kd.R_slice HO_6.out
                  (first | subst eo31 | (injection eo31 with f1_ f2_ f3_; have f4_ := f1_.symm; have f5_ := f3_.symm; clear f1_ f2_ f3_; subst f4_; subst f5_))
                  refine start_ (n := 14) (S := fun w' => True) (ds := []) #[false, false, false, false, false, false, false, false, false, false, false, false, false, false] (by kernel_rfl) rfl rfl trivial (fun hHeld => ?_); refine with_tabW impl_GluePolygons.tab14 impl_GluePolygons.bits14 (fun HT_ HW_ => ?_)
                  generalize wr.drew = w30 at HO_6 HB hHeld ⊢
                  refine pure_ (i := 0) (N := some 56) (v := ?_) (a' := ?_) #[true, false, false, false, false, false, false, false, false, false, false, false, false, false] rfl rfl (any_of HT_.out (by kernel_rfl)) (fun _ _ _ h => h) (Or.inl ⟨by rfl, ?_⟩) ?_ ?_
                  rotate_left
                  · intro w'
                    go_simp
                    with_reducible rfl
                  rotate_left
                  · simp only [Act.put, List.setIfInBounds_toArray, List.set_cons_zero, List.set_cons_succ, i64_w, i32_w]
                    rfl
                  refine pure_ (i := 1) (N := some 57) (v := ?_) (a' := ?_) #[true, true, false, false, false, false, false, false, false, false, false, false, false, false] rfl rfl (any_of HT_.out (by kernel_rfl)) (fun _ _ _ h => h) (Or.inl ⟨by rfl, ?_⟩) ?_ ?_
                  rotate_left
                  · intro w'
                    go_simp
                    with_reducible rfl
                  rotate_left
                  · simp only [Act.put, List.setIfInBounds_toArray, List.set_cons_zero, List.set_cons_succ, i64_w, i32_w]
                    rfl
                  refine pure_ (i := 2) (N := some 58) (v := ?_) (a' := ?_) #[true, true, true, false, false, false, false, false, false, false, false, false, false, false] rfl rfl (any_of HT_.out (by kernel_rfl)) (fun _ _ _ h => h) (Or.inl ⟨by rfl, ?_⟩) ?_ ?_
                  rotate_left
                  · intro w'
                    go_simp
                    with_reducible rfl
                  rotate_left
                  · simp only [Act.put, List.setIfInBounds_toArray, List.set_cons_zero, List.set_cons_succ, i64_w, i32_w]
                    rfl
                  refine pure_ (i := 3) (N := some 59) (v := ?_) (a' := ?_) #[true, true, true, true, false, false, false, false, false, false, false, false, false, false] rfl rfl (any_of HT_.out (by kernel_rfl)) (fun _ _ _ h => h) (Or.inl ⟨by rfl, ?_⟩) ?_ ?_
                  rotate_left
                  · intro w'
                    go_simp
                    with_reducible rfl
                  rotate_left
                  · simp only [Act.put, List.setIfInBounds_toArray, List.set_cons_zero, List.set_cons_succ, i64_w, i32_w]
                    rfl
                  refine pure_ (i := 4) (N := some 60) (v := undef) (a' := ?_) #[true, true, true, true, true, false, false, false, false, false, false, false, false, false] rfl rfl (any_of HT_.out (by kernel_rfl)) (fun _ _ _ h => h) (Or.inr ⟨by rfl, rfl⟩) ?_ ?_
                  rotate_left
                  · simp only [Act.put, List.setIfInBounds_toArray, List.set_cons_zero, List.set_cons_succ, i64_w, i32_w]
                    rfl
                  refine pure_ (i := 5) (N := some 61) (v := undef) (a' := ?_) #[true, true, true, true, true, true, false, false, false, false, false, false, false, false] rfl rfl (any_of HT_.out (by kernel_rfl)) (fun _ _ _ h => h) (Or.inr ⟨by rfl, rfl⟩) ?_ ?_
                  rotate_left
                  · simp only [Act.put, List.setIfInBounds_toArray, List.set_cons_zero, List.set_cons_succ, i64_w, i32_w]
                    rfl
                  refine pure_ (i := 6) (N := some 62) (v := undef) (a' := ?_) #[true, true, true, true, true, true, true, false, false, false, false, false, false, false] rfl rfl (any_of HT_.out (by kernel_rfl)) (fun _ _ _ h => h) (Or.inr ⟨by rfl, rfl⟩) ?_ ?_
                  rotate_left
                  · simp only [Act.put, List.setIfInBounds_toArray, List.set_cons_zero, List.set_cons_succ, i64_w, i32_w]
                    rfl
                  refine pure_ (i := 7) (N := some 63) (v := undef) (a' := ?_) #[true, true, true, true, true, true, true, true, false, false, false, false, false, false] rfl rfl (any_of HT_.out (by kernel_rfl)) (fun _ _ _ h => h) (Or.inr ⟨by rfl, rfl⟩) ?_ ?_
                  rotate_left
                  · simp only [Act.put, List.setIfInBounds_toArray, List.set_cons_zero, List.set_cons_succ, i64_w, i32_w]
                    rfl
                  refine pure_ (i := 8) (N := some 64) (v := undef) (a' := ?_) #[true, true, true, true, true, true, true, true, true, false, false, false, false, false] rfl rfl (any_of HT_.out (by kernel_rfl)) (fun _ _ _ h => h) (Or.inr ⟨by rfl, rfl⟩) ?_ ?_
                  rotate_left
                  · simp only [Act.put, List.setIfInBounds_toArray, List.set_cons_zero, List.set_cons_succ, i64_w, i32_w]
                    rfl
                  refine pure_ (i := 9) (N := some 65) (v := undef) (a' := ?_) #[true, true, true, true, true, true, true, true, true, true, false, false, false, false] rfl rfl (any_of HT_.out (by kernel_rfl)) (fun _ _ _ h => h) (Or.inr ⟨by rfl, rfl⟩) ?_ ?_
                  rotate_left
                  · simp only [Act.put, List.setIfInBounds_toArray, List.set_cons_zero, List.set_cons_succ, i64_w, i32_w]
                    rfl
                  refine pure_ (i := 10) (N := some 66) (v := undef) (a' := ?_) #[true, true, true, true, true, true, true, true, true, true, true, false, false, false] rfl rfl (any_of HT_.out (by kernel_rfl)) (fun _ _ _ h => h) (Or.inr ⟨by rfl, rfl⟩) ?_ ?_
                  rotate_left
                  · simp only [Act.put, List.setIfInBounds_toArray, List.set_cons_zero, List.set_cons_succ, i64_w, i32_w]
                    rfl
                  refine pure_ (i := 11) (N := some 67) (v := undef) (a' := ?_) #[true, true, true, true, true, true, true, true, true, true, true, true, false, false] rfl rfl (any_of HT_.out (by kernel_rfl)) (fun _ _ _ h => h) (Or.inr ⟨by rfl, rfl⟩) ?_ ?_
                  rotate_left
                  · simp only [Act.put, List.setIfInBounds_toArray, List.set_cons_zero, List.set_cons_succ, i64_w, i32_w]
                    rfl
                  refine pure_ (i := 12) (N := some 68) (v := undef) (a' := ?_) #[true, true, true, true, true, true, true, true, true, true, true, true, true, false] rfl rfl (any_of HT_.out (by kernel_rfl)) (fun _ _ _ h => h) (Or.inr ⟨by rfl, rfl⟩) ?_ ?_
                  rotate_left
                  · simp only [Act.put, List.setIfInBounds_toArray, List.set_cons_zero, List.set_cons_succ, i64_w, i32_w]
                    rfl
                  refine pure_ (i := 13) (N := some 69) (v := ?_) (a' := ?_) #[true, true, true, true, true, true, true, true, true, true, true, true, true, true] rfl rfl (any_of HT_.out (by kernel_rfl)) (fun _ _ _ h => h) (Or.inl ⟨by rfl, ?_⟩) ?_ ?_
                  rotate_left
                  · intro w'
                    go_simp
                    with_reducible rfl
                  rotate_left
                  · simp only [Act.put, List.setIfInBounds_toArray, List.set_cons_zero, List.set_cons_succ, i64_w, i32_w]
                    rfl
                  refine done_ (done_of HT_.out (by kernel_rfl)) ?_
                  try go_wp2
                  go_meet
                  case rel => exact ⟨_, (true), (by first | rfl | (simp; done) | (simp [*]; done)), H', ⟨by have := HJ2.out; have := HK2.out; first | omega | exact Nat.le_refl _⟩, ⟨by (with_reducible repeat (first | apply Kd.R_alloc | apply Kd.R_drewN | apply Kd.R_drew)); exact HO_6.out⟩, ⟨by repeat (first | (with_reducible first | exact HB.out | apply below_alloc | apply pw_below_drewN | apply below_drew1) | exact HB.out)⟩⟩
              case rest =>
                clear HC24
                try clear c1
                try clear c2
                try clear p2
                try clear c3
                try clear p3
                try clear q3
                try clear hx3
                try clear qi3
                try clear c5
                try clear p6
                try clear c7
                try clear c9
                try clear c12
                try clear c12b0
                try clear c13
                try clear c13b0
                try clear c14
                try clear c14b0
                try clear c15
                try clear c15b0
                try clear c16
                try clear c16b0
                try clear c17
                try clear c17b0
                try clear c19
                try clear c19b0
                try clear c19b1
                try clear c20
                try clear c25
                try clear c25b0
                try clear c25b1
                try clear c26
                try clear c26b0
                try clear c26b1
                try clear c27
                try clear c27b0
                try clear c27b1
                try clear c30
                try clear hx324_0
                try clear hx325_0
                try clear hx330_0
                try clear hx330_1
                try clear hx331_0
                try clear hx331_1
                try clear p2
                try clear p3
                try clear p324
                try clear p325
                try clear p330
                try clear p331
                try clear q3
                try clear q324
                try clear q325
                try clear q330
                try clear q331
                obtain ⟨kq, x69_23, rfl, HA, HJ23, HO_6, HB⟩ := hcut
                cases kq with
                | zero => exact absurd HA.out (by simp [impl_GluePolygons.j3])
                | succ kj23 =>
                  have H := HA.out
                  clear HA
                  simp only [impl_GluePolygons.j3] at H
                  by_cases c32 : x69_23 = true
                  · subst c32
                    have H1 : (some (([] : List (List Int)), false)) = some (r1, r2) := by rw [if_pos rfl] at H; exact H
                    clear H
                    have H := H1
                    clear H1
                    simp only [Option.some.injEq, Prod.mk.injEq] at H
                    obtain ⟨rfl, rfl⟩ := H
                    go_wp2
                    go_ret2
                    exact ⟨_, by first | rfl | (simp [errW_none, errW_some] <;> rfl) | (simp [*, errW_none, errW_some] <;> rfl), S_id0 (by first | exact Kd.S_nil _ _ _ _ _ | exact Kd.N_nil _ _ _ _ _ | exact Kd.S_nil _ _ _ _ _ | exact Kd.Q_nil _ _ _ _ _ | exact Kd.R_nil _ _ _ _ _), by repeat (first | (with_reducible first | exact HB.out | apply below_alloc | apply pw_below_drewN | apply below_drew1) | exact HB.out)⟩
                  · replace c32 := Bool.eq_false_iff.mpr c32
                    subst c32
                    have H1 : (if 0 < (x6_2.length : Int) then (if 1 < (x6_2.length : Int) then (if 0 ≤ ((rd_T60 x6_2 0).f0) then (if ((rd_T60 x6_2 0).f0) < (l0.length : Int) then ((impl_copyOf.f (rd_L1 l0 ((rd_T60 x6_2 0).f0))).bind fun t335 => (if 0 ≤ ((rd_T60 x6_2 1).f0) then (if ((rd_T60 x6_2 1).f0) < (l0.length : Int) then ((impl_copyOf.f (rd_L1 l0 ((rd_T60 x6_2 1).f0))).bind fun t339 => (if 0 ≤ ((rd_T60 x6_2 0).f1) then (if ((rd_T60 x6_2 0).f1) < (t335.length : Int) then (if 0 ≤ ((rd_T60 x6_2 1).f1) then (if ((rd_T60 x6_2 1).f1) < (t339.length : Int) then (if (rd t335 ((rd_T60 x6_2 0).f1)) = (rd t339 ((rd_T60 x6_2 1).f1)) then ((impl_inverse.f kj23 t339).bind fun t346 => (impl_GluePolygons.j4 kj23 l0 ((rd_T60 x6_2 0).f0) ((rd_T60 x6_2 1).f0) t335 t346 ((rd_T60 x6_2 0).f1) (wrap64 ((wrap64 ((t346.length : Int) - 1)) - ((rd_T60 x6_2 1).f1))))) else (impl_GluePolygons.j4 kj23 l0 ((rd_T60 x6_2 0).f0) ((rd_T60 x6_2 1).f0) t335 t339 ((rd_T60 x6_2 0).f1) ((rd_T60 x6_2 1).f1))) else (none)) else (none)) else (none)) else (none))) else (none)) else (none))) else (none)) else (none)) else (none)) else (none)) = some (r1, r2) := by rw [if_neg (show ¬ (false = true) by decide)] at H; exact H
                    clear H
                    have H := H1
                    clear H1
                    by_cases c33 : 0 < (x6_2.length : Int)
                    · rw [if_pos c33] at H
                      have c33b0 : decide (0 < (x6_2.length : Int)) = true := decide_eq_true c33
                      have c33b1 : decide (0 < x6_2.length) = true := decide_eq_true (by omega)
                      clear c33
                      by_cases c34 : 1 < (x6_2.length : Int)
                      · rw [if_pos c34] at H
                        have c34b0 : decide (1 < (x6_2.length : Int)) = true := decide_eq_true c34
                        have c34b1 : decide (1 < x6_2.length) = true := decide_eq_true (by omega)
                        clear c34
                        by_cases c35 : 0 ≤ ((rd_T60 x6_2 0).f0)
                        · rw [if_pos c35] at H
                          have c35b0 : decide (0 ≤ ((rd_T60 x6_2 0).f0)) = true := decide_eq_true c35
                          clear c35
                          by_cases c36 : ((rd_T60 x6_2 0).f0) < (l0.length : Int)
                          · rw [if_pos c36] at H
                            have c36b0 : decide (((rd_T60 x6_2 0).f0) < (l0.length : Int)) = true := decide_eq_true c36
                            clear c36
                            replace H := Option.bind_eq_some_iff.mp H
                            obtain ⟨t335, A370, H⟩ := H
                            replace H : (if 0 ≤ ((rd_T60 x6_2 1).f0) then (if ((rd_T60 x6_2 1).f0) < (l0.length : Int) then ((impl_copyOf.f (rd_L1 l0 ((rd_T60 x6_2 1).f0))).bind fun t339 => (if 0 ≤ ((rd_T60 x6_2 0).f1) then (if ((rd_T60 x6_2 0).f1) < (t335.length : Int) then (if 0 ≤ ((rd_T60 x6_2 1).f1) then (if ((rd_T60 x6_2 1).f1) < (t339.length : Int) then (if (rd t335 ((rd_T60 x6_2 0).f1)) = (rd t339 ((rd_T60 x6_2 1).f1)) then ((impl_inverse.f kj23 t339).bind fun t346 => (impl_GluePolygons.j4 kj23 l0 ((rd_T60 x6_2 0).f0) ((rd_T60 x6_2 1).f0) t335 t346 ((rd_T60 x6_2 0).f1) (wrap64 ((wrap64 ((t346.length : Int) - 1)) - ((rd_T60 x6_2 1).f1))))) else (impl_GluePolygons.j4 kj23 l0 ((rd_T60 x6_2 0).f0) ((rd_T60 x6_2 1).f0) t335 t339 ((rd_T60 x6_2 0).f1) ((rd_T60 x6_2 1).f1))) else (none)) else (none)) else (none)) else (none))) else (none)) else (none)) = some (r1, r2) := H
                            have A37 := Aside0.mk A370
                            clear A370
                            by_cases c38 : 0 ≤ ((rd_T60 x6_2 1).f0)
                            · rw [if_pos c38] at H
                              have c38b0 : decide (0 ≤ ((rd_T60 x6_2 1).f0)) = true := decide_eq_true c38
                              clear c38
                              by_cases c39 : ((rd_T60 x6_2 1).f0) < (l0.length : Int)
                              · rw [if_pos c39] at H
                                have c39b0 : decide (((rd_T60 x6_2 1).f0) < (l0.length : Int)) = true := decide_eq_true c39
                                clear c39
                                replace H := Option.bind_eq_some_iff.mp H
                                obtain ⟨t339, A400, H⟩ := H
                                replace H : (if 0 ≤ ((rd_T60 x6_2 0).f1) then (if ((rd_T60 x6_2 0).f1) < (t335.length : Int) then (if 0 ≤ ((rd_T60 x6_2 1).f1) then (if ((rd_T60 x6_2 1).f1) < (t339.length : Int) then (if (rd t335 ((rd_T60 x6_2 0).f1)) = (rd t339 ((rd_T60 x6_2 1).f1)) then ((impl_inverse.f kj23 t339).bind fun t346 => (impl_GluePolygons.j4 kj23 l0 ((rd_T60 x6_2 0).f0) ((rd_T60 x6_2 1).f0) t335 t346 ((rd_T60 x6_2 0).f1) (wrap64 ((wrap64 ((t346.length : Int) - 1)) - ((rd_T60 x6_2 1).f1))))) else (impl_GluePolygons.j4 kj23 l0 ((rd_T60 x6_2 0).f0) ((rd_T60 x6_2 1).f0) t335 t339 ((rd_T60 x6_2 0).f1) ((rd_T60 x6_2 1).f1))) else (none)) else (none)) else (none)) else (none)) = some (r1, r2) := H
                                have A40 := Aside0.mk A400
                                clear A400
                                by_cases c41 : 0 ≤ ((rd_T60 x6_2 0).f1)
                                · rw [if_pos c41] at H
                                  have c41b0 : decide (0 ≤ ((rd_T60 x6_2 0).f1)) = true := decide_eq_true c41
                                  clear c41
                                  by_cases c42 : ((rd_T60 x6_2 0).f1) < (t335.length : Int)
                                  · rw [if_pos c42] at H
                                    have c42b0 : decide (((rd_T60 x6_2 0).f1) < (t335.length : Int)) = true := decide_eq_true c42
                                    clear c42
                                    by_cases c43 : 0 ≤ ((rd_T60 x6_2 1).f1)
                                    · rw [if_pos c43] at H
                                      have c43b0 : decide (0 ≤ ((rd_T60 x6_2 1).f1)) = true := decide_eq_true c43
                                      clear c43
                                      by_cases c44 : ((rd_T60 x6_2 1).f1) < (t339.length : Int)
                                      · rw [if_pos c44] at H
                                        have c44b0 : decide (((rd_T60 x6_2 1).f1) < (t339.length : Int)) = true := decide_eq_true c44
                                        clear c44
                                        have HC45 := Aside0.mk H
                                        clear H
                                        try go_wp2
                                        have n0_ := Aside0.mk (Kd.R_drew HO_6.out)
                                        have n1_ := Aside0.mk (below_drew1 HB.out)
                                        clear HO_6
                                        clear HB
                                        have HO_6 := n0_
                                        have HB := n1_
                                        clear n0_ n1_
                                        obtain ⟨Ao47, co47, eo47⟩ := Kd.R_slice HO_6.out
                                        (first | subst eo47 | (injection eo47 with f1_ f2_ f3_; have f4_ := f1_.symm; have f5_ := f3_.symm; clear f1_ f2_ f3_; subst f4_; subst f5_))
                                        have p332 : 0 ≤ (0 : Int) := (by omega)
                                        have q332 : 0 < (x6_2.length : Int) := of_decide_eq_true (by first | (with_reducible assumption) | assumption)
                                        obtain ⟨ad332, e332, hx332_0, hx332_1⟩ := at_T60 (Kd.R_reads' HO_6.out).2.2 0 p332 q332
                                        cases e332
                                        have qi332 : (0 < x6_2.length) = True := eq_true (by omega)
                                        (try rw [show ((0 : Int)).toNat = 0 from rfl] at hx332_0)
                                        (try rw [show 0 * 2 = 0 from rfl] at hx332_0)
                                        (try rw [Addr.add_zero'] at hx332_0)
                                        (try rw [show ((0 : Int)).toNat = 0 from rfl] at hx332_1)
                                        (try rw [show 0 * 2 = 0 from rfl] at hx332_1)
                                        (try rw [Addr.add_zero'] at hx332_1)
                                        replace p332 := eq_true p332
                                        replace q332 := eq_true q332
                                        have p333 : 0 ≤ (1 : Int) := (by omega)
                                        have q333 : 1 < (x6_2.length : Int) := of_decide_eq_true (by first | (with_reducible assumption) | assumption)
                                        obtain ⟨ad333, e333, hx333_0, hx333_1⟩ := at_T60 (Kd.R_reads' HO_6.out).2.2 1 p333 q333
                                        obtain rfl : ad332 = ad333 := (by injection e333)
                                        (try simp only [show (1 : Int).toNat = 1 from rfl, Nat.reduceMul, Nat.reduceEqDiff, Go.Addr.add, ↓reduceIte] at hx333_0)
                                        (try simp only [show (1 : Int).toNat = 1 from rfl, Nat.reduceMul, Nat.reduceEqDiff, Go.Addr.add, ↓reduceIte] at hx333_1)
                                        have qi333 : (1 < x6_2.length) = True := eq_true (by omega)
                                        (try rw [show ((1 : Int)).toNat = 1 from rfl] at hx333_0)
                                        (try rw [show 1 * 2 = 2 from rfl] at hx333_0)
                                        (try rw [show ((1 : Int)).toNat = 1 from rfl] at hx333_1)
                                        (try rw [show 1 * 2 = 2 from rfl] at hx333_1)
                                        replace p333 := eq_true p333
                                        replace q333 := eq_true q333
                                        refine start_ (n := 10) (S := fun w' => w'.cell? ad332 = some (.int .i64 ((rd_T60 x6_2 0).f0)) ∧ w'.cell? ⟨ad332.block, ad332.off + 1, none⟩ = some (.int .i64 ((rd_T60 x6_2 0).f1)) ∧ w'.cell? ⟨ad332.block, ad332.off + 2, none⟩ = some (.int .i64 ((rd_T60 x6_2 1).f0)) ∧ w'.cell? ⟨ad332.block, ad332.off + 2 + 1, none⟩ = some (.int .i64 ((rd_T60 x6_2 1).f1))) (ds := []) #[false, false, false, false, false, false, false, false, false, false] (by kernel_rfl) rfl rfl ⟨hx332_0, hx332_1, hx333_0, hx333_1⟩ (fun hHeld => ?_); refine with_tabW impl_GluePolygons.tab16 impl_GluePolygons.bits16 (fun HT_ HW_ => ?_)
                                        generalize wc.drew = w46 at HO_6 HB hx332_0 hx332_1 hx333_0 hx333_1 hHeld ⊢
                                        refine pure_ (i := 0) (N := some 70) (v := ?_) (a' := ?_) #[true, false, false, false, false, false, false, false, false, false] rfl rfl (any_of HT_.out (by kernel_rfl)) (fun _ _ _ h => h) (Or.inl ⟨by rfl, ?_⟩) ?_ ?_
                                        rotate_left
                                        · intro w'
                                          go_simp
                                          with_reducible rfl
                                        rotate_left
                                        · simp only [Act.put, List.setIfInBounds_toArray, List.set_cons_zero, List.set_cons_succ, i64_w, i32_w]
                                          rfl
                                        refine pure_ (i := 1) (N := some 71) (v := ?_) (a' := ?_) #[true, true, false, false, false, false, false, false, false, false] rfl rfl (any_of HT_.out (by kernel_rfl)) (fun _ _ _ h => h) (Or.inl ⟨by rfl, ?_⟩) ?_ ?_
                                        rotate_left
                                        · intro w'
                                          go_simp
                                          with_reducible rfl
                                        rotate_left
                                        · simp only [Act.put, List.setIfInBounds_toArray, List.set_cons_zero, List.set_cons_succ, i64_w, i32_w]
                                          rfl
                                        refine pure_ (i := 2) (N := some 72) (v := ?_) (a' := ?_) #[true, true, true, false, false, false, false, false, false, false] rfl rfl (any_of HT_.out (by kernel_rfl)) (fun _ _ _ h => h) (Or.inl ⟨by rfl, ?_⟩) ?_ ?_
                                        rotate_left
                                        · intro w'
                                          go_simp
                                          with_reducible rfl
                                        rotate_left
                                        · simp only [Act.put, List.setIfInBounds_toArray, List.set_cons_zero, List.set_cons_succ, i64_w, i32_w]
                                          rfl
                                        refine pure_ (i := 4) (N := some 74) (v := ?_) (a' := ?_) #[true, true, true, false, true, false, false, false, false, false] rfl rfl (any_of HT_.out (by kernel_rfl)) (fun _ _ _ h => h) (Or.inl ⟨by rfl, ?_⟩) ?_ ?_
                                        rotate_left
                                        · intro w'
                                          go_simp
                                          with_reducible rfl
                                        rotate_left
                                        · simp only [Act.put, List.setIfInBounds_toArray, List.set_cons_zero, List.set_cons_succ, i64_w, i32_w]
                                          rfl
                                        refine pure_ (i := 5) (N := some 75) (v := ?_) (a' := ?_) #[true, true, true, false, true, true, false, false, false, false] rfl rfl (any_of HT_.out (by kernel_rfl)) (fun _ _ _ h => h) (Or.inl ⟨by rfl, ?_⟩) ?_ ?_
                                        rotate_left
                                        · intro w'
                                          go_simp
                                          with_reducible rfl
                                        rotate_left
                                        · simp only [Act.put, List.setIfInBounds_toArray, List.set_cons_zero, List.set_cons_succ, i64_w, i32_w]
                                          rfl
                                        refine pure_ (i := 6) (N := some 76) (v := ?_) (a' := ?_) #[true, true, true, false, true, true, true, false, false, false] rfl rfl (any_of HT_.out (by kernel_rfl)) (fun _ _ _ h => h) (Or.inl ⟨by rfl, ?_⟩) ?_ ?_
                                        rotate_left
                                        · intro w'
                                          go_simp
                                          with_reducible rfl
                                        rotate_left
                                        · simp only [Act.put, List.setIfInBounds_toArray, List.set_cons_zero, List.set_cons_succ, i64_w, i32_w]
                                          rfl
                                        refine take_ (i := 3) (N := some 73) (v := ?_) (a' := ?_) #[true, true, true, true, true, true, true, false, false, false] rfl rfl (take_ofW HT_.out HW_.out (by kernel_rfl)) (fun _ _ _ h => h) (Or.inl ⟨by rfl, ?_⟩) hHeld ?_ ?_
                                        rotate_left
                                        · rintro w' ⟨s0, s1, s2, s3⟩
                                          go_simp
                                          with_reducible rfl
                                        rotate_left
                                        · simp only [Act.put, List.setIfInBounds_toArray, List.set_cons_zero, List.set_cons_succ, i64_w, i32_w]
                                          rfl
                                        refine pure_ (i := 8) (N := some 11) (v := ?_) (a' := ?_) #[true, true, true, true, true, true, true, false, true, false] rfl rfl (any_of HT_.out (by kernel_rfl)) (fun _ _ _ h => h) (Or.inl ⟨by rfl, ?_⟩) ?_ ?_
                                        rotate_left
                                        · intro w'
                                          go_simp
                                          with_reducible rfl
                                        rotate_left
                                        · simp only [Act.put, List.setIfInBounds_toArray, List.set_cons_zero, List.set_cons_succ, i64_w, i32_w]
                                          rfl
                                        refine take_ (i := 7) (N := some 77) (v := ?_) (a' := ?_) #[true, true, true, true, true, true, true, true, true, false] rfl rfl (take_ofW HT_.out HW_.out (by kernel_rfl)) (fun _ _ _ h => h) (Or.inl ⟨by rfl, ?_⟩) hHeld ?_ ?_
                                        rotate_left
                                        · rintro w' ⟨s0, s1, s2, s3⟩
                                          go_simp
                                          with_reducible rfl
                                        rotate_left
                                        · simp only [Act.put, List.setIfInBounds_toArray, List.set_cons_zero, List.set_cons_succ, i64_w, i32_w]
                                          rfl
                                        refine pure_ (i := 9) (N := some 12) (v := ?_) (a' := ?_) #[true, true, true, true, true, true, true, true, true, true] rfl rfl (any_of HT_.out (by kernel_rfl)) (fun _ _ _ h => h) (Or.inl ⟨by rfl, ?_⟩) ?_ ?_
                                        rotate_left
                                        · intro w'
                                          go_simp
                                          with_reducible rfl
                                        rotate_left
                                        · simp only [Act.put, List.setIfInBounds_toArray, List.set_cons_zero, List.set_cons_succ, i64_w, i32_w]
                                          rfl
                                        refine done_ (done_of HT_.out (by kernel_rfl)) ?_
                                        try go_wp2
                                        have n0_ := Aside0.mk (Kd.R_drew HO_6.out)
                                        have n1_ := Aside0.mk (below_drew1 HB.out)
                                        clear HO_6
                                        clear HB
                                        have HO_6 := n0_
                                        have HB := n1_
                                        clear n0_ n1_
                                        have p334 : 0 ≤ (((rd_T60 x6_2 0).f0) : Int) := of_decide_eq_true (by first | (with_reducible assumption) | assumption)
                                        have q334 : ((rd_T60 x6_2 0).f0) < (l0.length : Int) := of_decide_eq_true (by first | (with_reducible assumption) | assumption)
                                        obtain ⟨ad334, A334_0, c334_0, e334, hx334_0, hl334_0, hi334_0⟩ := at_L1 HR0.out ((rd_T60 x6_2 0).f0) p334 q334
                                        have hw334_0 := hx334_0
                                        cases e334
                                        replace hx334_0 := (HB.out.cell (World.block_lt_of_cell? w _ hx334_0)).trans hx334_0
                                        have HR334_0 := Aside0.mk hi334_0
                                        have HC334_0 := Aside0.mk hl334_0
                                        clear hi334_0 hl334_0
                                        replace p334 := eq_true p334
                                        replace q334 := eq_true q334
                                        have p338 : 0 ≤ (((rd_T60 x6_2 1).f0) : Int) := of_decide_eq_true (by first | (with_reducible assumption) | assumption)
                                        have q338 : ((rd_T60 x6_2 1).f0) < (l0.length : Int) := of_decide_eq_true (by first | (with_reducible assumption) | assumption)
                                        obtain ⟨ad338, A338_0, c338_0, e338, hx338_0, hl338_0, hi338_0⟩ := at_L1 HR0.out ((rd_T60 x6_2 1).f0) p338 q338
                                        have hw338_0 := hx338_0
                                        obtain rfl : ad334 = ad338 := (by injection e338)
                                        replace hx338_0 := (HB.out.cell (World.block_lt_of_cell? w _ hx338_0)).trans hx338_0
                                        have HR338_0 := Aside0.mk hi338_0
                                        have HC338_0 := Aside0.mk hl338_0
                                        clear hi338_0 hl338_0
                                        replace p338 := eq_true p338
                                        replace q338 := eq_true q338
                                        refine start_ (n := 12) (S := fun w' => w'.cell? (ad334.add (((rd_T60 x6_2 0).f0)).toNat) = some (.slice A334_0 (rd_L1 l0 ((rd_T60 x6_2 0).f0)).length c334_0) ∧ w'.cell? (ad334.add (((rd_T60 x6_2 1).f0)).toNat) = some (.slice A338_0 (rd_L1 l0 ((rd_T60 x6_2 1).f0)).length c338_0)) (ds := []) #[false, false, false, false, false, false, false, false, false, false, false, false] (by kernel_rfl) rfl rfl ⟨((HB.out.cell (World.block_lt_of_cell? w _ hw334_0)).trans hw334_0), ((HB.out.cell (World.block_lt_of_cell? w _ hw338_0)).trans hw338_0)⟩ (fun hHeld => ?_); refine with_tabW impl_GluePolygons.tab17 impl_GluePolygons.bits17 (fun HT_ HW_ => ?_)
                                        generalize w46.drew = w48 at HO_6 HB HR334_0 HR338_0 hx334_0 hx338_0 hHeld ⊢
                                        refine pure_ (i := 0) (N := some 78) (v := ?_) (a' := ?_) #[true, false, false, false, false, false, false, false, false, false, false, false] rfl rfl (any_of HT_.out (by kernel_rfl)) (fun _ _ _ h => h) (Or.inl ⟨by rfl, ?_⟩) ?_ ?_
                                        rotate_left
                                        · intro w'
                                          go_simp
                                          with_reducible rfl
                                        rotate_left
                                        · simp only [Act.put, List.setIfInBounds_toArray, List.set_cons_zero, List.set_cons_succ, i64_w, i32_w]
                                          rfl
                                        refine pure_ (i := 1) (N := some 79) (v := ?_) (a' := ?_) #[true, true, false, false, false, false, false, false, false, false, false, false] rfl rfl (any_of HT_.out (by kernel_rfl)) (fun _ _ _ h => h) (Or.inl ⟨by rfl, ?_⟩) ?_ ?_
                                        rotate_left
                                        · intro w'
                                          go_simp
                                          with_reducible rfl
                                        rotate_left
                                        · simp only [Act.put, List.setIfInBounds_toArray, List.set_cons_zero, List.set_cons_succ, i64_w, i32_w]
                                          rfl
                                        refine pure_ (i := 2) (N := some 80) (v := ?_) (a' := ?_) #[true, true, true, false, false, false, false, false, false, false, false, false] rfl rfl (any_of HT_.out (by kernel_rfl)) (fun _ _ _ h => h) (Or.inl ⟨by rfl, ?_⟩) ?_ ?_
                                        rotate_left
                                        · intro w'
                                          go_simp
                                          with_reducible rfl
                                        rotate_left
                                        · simp only [Act.put, List.setIfInBounds_toArray, List.set_cons_zero, List.set_cons_succ, i64_w, i32_w]
                                          rfl
                                        refine pure_ (i := 5) (N := some 83) (v := ?_) (a' := ?_) #[true, true, true, false, false, true, false, false, false, false, false, false] rfl rfl (any_of HT_.out (by kernel_rfl)) (fun _ _ _ h => h) (Or.inl ⟨by rfl, ?_⟩) ?_ ?_
                                        rotate_left
                                        · intro w'
                                          go_simp
                                          with_reducible rfl
                                        rotate_left
                                        · simp only [Act.put, List.setIfInBounds_toArray, List.set_cons_zero, List.set_cons_succ, i64_w, i32_w]
                                          rfl
                                        refine pure_ (i := 6) (N := some 84) (v := ?_) (a' := ?_) #[true, true, true, false, false, true, true, false, false, false, false, false] rfl rfl (any_of HT_.out (by kernel_rfl)) (fun _ _ _ h => h) (Or.inl ⟨by rfl, ?_⟩) ?_ ?_
                                        rotate_left
                                        · intro w'
                                          go_simp
                                          with_reducible rfl
                                        rotate_left
                                        · simp only [Act.put, List.setIfInBounds_toArray, List.set_cons_zero, List.set_cons_succ, i64_w, i32_w]
                                          rfl
                                        refine pure_ (i := 7) (N := some 85) (v := ?_) (a' := ?_) #[true, true, true, false, false, true, true, true, false, false, false, false] rfl rfl (any_of HT_.out (by kernel_rfl)) (fun _ _ _ h => h) (Or.inl ⟨by rfl, ?_⟩) ?_ ?_
                                        rotate_left
                                        · intro w'
                                          go_simp
                                          with_reducible rfl
                                        rotate_left
                                        · simp only [Act.put, List.setIfInBounds_toArray, List.set_cons_zero, List.set_cons_succ, i64_w, i32_w]
                                          rfl
                                        refine take_ (i := 3) (N := some 81) (v := ?_) (a' := ?_) #[true, true, true, true, false, true, true, true, false, false, false, false] rfl rfl (take_ofW HT_.out HW_.out (by kernel_rfl)) (fun _ _ _ h => h) (Or.inl ⟨by rfl, ?_⟩) hHeld ?_ ?_
                                        rotate_left
                                        · rintro w' ⟨s0, s1⟩
                                          go_simp
                                          with_reducible rfl
                                        rotate_left
                                        · simp only [Act.put, List.setIfInBounds_toArray, List.set_cons_zero, List.set_cons_succ, i64_w, i32_w]
                                          rfl
                                        refine take_ (i := 8) (N := some 86) (v := ?_) (a' := ?_) #[true, true, true, true, false, true, true, true, true, false, false, false] rfl rfl (take_ofW HT_.out HW_.out (by kernel_rfl)) (fun _ _ _ h => h) (Or.inl ⟨by rfl, ?_⟩) hHeld ?_ ?_
                                        rotate_left
                                        · rintro w' ⟨s0, s1⟩
                                          go_simp
                                          with_reducible rfl
                                        rotate_left
                                        · simp only [Act.put, List.setIfInBounds_toArray, List.set_cons_zero, List.set_cons_succ, i64_w, i32_w]
                                          rfl
                                        refine one_ (i := 4) (N := some 82) #[true, true, true, true, true, true, true, true, true, false, false, false] rfl rfl (one_of HT_.out (by kernel_rfl)) (by decide) (fun K hK => ?_)
                                        refine goes_ Try.func68 (by kernel_rfl) rfl #[.slice A334_0 (rd_L1 l0 ((rd_T60 x6_2 0).f0)).length c334_0] (by rfl) rfl rfl (by (try simp only [List.map_toArray, List.map_cons, List.map_nil]); first | done | rfl | (simp only [List.length_drop, List.length_take]; rfl)) ?_
                                        with_reducible refine (impl_copyOf.calls _ _ (rd_L1 l0 ((rd_T60 x6_2 0).f0)) t335 _ ?side1 ?side2 A37.out).mono ?_
                                        (case side1 => repeat (first | exact (Kd.C_below HR334_0.out HB.out) | (with_reducible refine Kd.C_alloc ?_ _) | (with_reducible refine Kd.C_drewN ?_ _) | (with_reducible refine Kd.C_drew ?_)))
                                        (case side2 => exact HC334_0.out)
                                        rintro e w49 ⟨v336, rfl, ho0, hb⟩
                                        refine ⟨_, rfl, ?_⟩
                                        have n0_ := Aside0.mk (Kd.R_below (by (with_reducible repeat (first | apply Kd.R_alloc | apply Kd.R_drewN | apply Kd.R_drew)); exact HO_6.out) hb)
                                        have n1_ := Aside0.mk (Kd.R_lower (Kd.R_newM (M := fun k_ => (w.heap.size ≤ k_)) ho0 (below_size (by repeat (first | (with_reducible first | exact HB.out | apply below_alloc | apply pw_below_drewN | apply below_drew1) | exact HB.out))) (fun k_ h_ => h_)) (below_size (by repeat (first | (with_reducible first | exact HB.out | apply below_alloc | apply pw_below_drewN | apply below_drew1) | exact HB.out))))
                                        have n2_ := Aside0.mk (below_step (by repeat (first | (with_reducible first | exact HB.out | apply below_alloc | apply pw_below_drewN | apply below_drew1) | exact HB.out)) hb)
                                        clear HO_6
                                        clear HB
                                        have HO_6 := n0_
                                        have HO337 := n1_
                                        have HB := n2_
                                        clear n0_ n1_ n2_
                                        (try clear hb)
                                        (try clear hb2)
                                        (try clear hk)
                                        (try clear hi)
                                        (try clear ho0)
                                        refine hK.out _ _ ⟨((HB.out.cell (World.block_lt_of_cell? w _ hw334_0)).trans hw334_0), ((HB.out.cell (World.block_lt_of_cell? w _ hw338_0)).trans hw338_0)⟩ (fun hHeld => ?_)
                                        clear hK K
                                        refine norm_ (a' := ?_) ?_ ?_
                                        rotate_left
                                        · show Act.put _ (some 82) _ = _
                                          simp only [Act.put, List.setIfInBounds_toArray, List.set_cons_zero, List.set_cons_succ, i64_w, i32_w]
                                          rfl
                                        refine one_ (i := 9) (N := some 87) #[true, true, true, true, true, true, true, true, true, true, false, false] rfl rfl (one_of HT_.out (by kernel_rfl)) (by decide) (fun K hK => ?_)
                                        refine goes_ Try.func68 (by kernel_rfl) rfl #[.slice A338_0 (rd_L1 l0 ((rd_T60 x6_2 1).f0)).length c338_0] (by rfl) rfl rfl (by (try simp only [List.map_toArray, List.map_cons, List.map_nil]); first | done | rfl | (simp only [List.length_drop, List.length_take]; rfl)) ?_
                                        with_reducible refine (impl_copyOf.calls _ _ (rd_L1 l0 ((rd_T60 x6_2 1).f0)) t339 _ ?side1 ?side2 A40.out).mono ?_
                                        (case side1 => repeat (first | exact (Kd.C_below HR338_0.out HB.out) | (with_reducible refine Kd.C_alloc ?_ _) | (with_reducible refine Kd.C_drewN ?_ _) | (with_reducible refine Kd.C_drew ?_)))
                                        (case side2 => exact HC338_0.out)
                                        rintro e w50 ⟨v340, rfl, ho0, hb⟩
                                        refine ⟨_, rfl, ?_⟩
                                        have n0_ := Aside0.mk (Kd.R_below (by (with_reducible repeat (first | apply Kd.R_alloc | apply Kd.R_drewN | apply Kd.R_drew)); exact HO_6.out) hb)
                                        have n1_ := Aside0.mk (Kd.R_elder' (by (with_reducible repeat (first | apply Kd.R_alloc | apply Kd.R_drewN | apply Kd.R_drew)); exact HO337.out) (Kd.R_base ho0) hb)
                                        have n2_ := Aside0.mk (Kd.R_lower (Kd.R_new' (Kd.R_newM (M := fun k_ => (w.heap.size ≤ k_)) ho0 (below_size (by repeat (first | (with_reducible first | exact HB.out | apply below_alloc | apply pw_below_drewN | apply below_drew1) | exact HB.out))) (fun k_ h_ => h_)) (Kd.R_lt (by (with_reducible repeat (first | apply Kd.R_alloc | apply Kd.R_drewN | apply Kd.R_drew)); exact HO337.out))) (below_size (by repeat (first | (with_reducible first | exact HB.out | apply below_alloc | apply pw_below_drewN | apply below_drew1) | exact HB.out))))
                                        have n3_ := Aside0.mk (below_step (by repeat (first | (with_reducible first | exact HB.out | apply below_alloc | apply pw_below_drewN | apply below_drew1) | exact HB.out)) hb)
                                        clear HO_6
                                        clear HO337
                                        clear HB
                                        have HO_6 := n0_
                                        have HO337 := n1_
                                        have HO341 := n2_
                                        have HB := n3_
                                        clear n0_ n1_ n2_ n3_
                                        (try clear hb)
                                        (try clear hb2)
                                        (try clear hk)
                                        (try clear hi)
                                        (try clear ho0)
                                        refine hK.out _ _ ⟨((HB.out.cell (World.block_lt_of_cell? w _ hw334_0)).trans hw334_0), ((HB.out.cell (World.block_lt_of_cell? w _ hw338_0)).trans hw338_0)⟩ (fun hHeld => ?_)
                                        clear hK K
                                        refine norm_ (a' := ?_) ?_ ?_
                                        rotate_left
                                        · show Act.put _ (some 87) _ = _
                                          simp only [Act.put, List.setIfInBounds_toArray, List.set_cons_zero, List.set_cons_succ, i64_w, i32_w]
                                          rfl
                                        refine pure_ (i := 10) (N := some 13) (v := ?_) (a' := ?_) #[true, true, true, true, true, true, true, true, true, true, true, false] rfl rfl (any_of HT_.out (by kernel_rfl)) (fun _ _ _ h => h) (Or.inl ⟨by rfl, ?_⟩) ?_ ?_
                                        rotate_left
                                        · intro w'
                                          go_simp
                                          with_reducible rfl
                                        rotate_left
                                        · simp only [Act.put, List.setIfInBounds_toArray, List.set_cons_zero, List.set_cons_succ, i64_w, i32_w]
                                          rfl
                                        refine pure_ (i := 11) (N := some 14) (v := ?_) (a' := ?_) #[true, true, true, true, true, true, true, true, true, true, true, true] rfl rfl (any_of HT_.out (by kernel_rfl)) (fun _ _ _ h => h) (Or.inl ⟨by rfl, ?_⟩) ?_ ?_
                                        rotate_left
                                        · intro w'
                                          go_simp
                                          with_reducible rfl
                                        rotate_left
                                        · simp only [Act.put, List.setIfInBounds_toArray, List.set_cons_zero, List.set_cons_succ, i64_w, i32_w]
                                          rfl
                                        refine done_ (done_of HT_.out (by kernel_rfl)) ?_
                                        try go_wp2
                                        have n0_ := Aside0.mk (Kd.R_drew HO_6.out)
                                        have n1_ := Aside0.mk (Kd.R_drew HO337.out)
                                        have n2_ := Aside0.mk (Kd.R_drew HO341.out)
                                        have n3_ := Aside0.mk (below_drew1 HB.out)
                                        clear HO_6
                                        clear HO337
                                        clear HO341
                                        clear HB
                                        have HO_6 := n0_
                                        have HO337 := n1_
                                        have HO341 := n2_
                                        have HB := n3_
                                        clear n0_ n1_ n2_ n3_
                                        have p342 : 0 ≤ (0 : Int) := (by omega)
                                        have q342 : 0 < (x6_2.length : Int) := of_decide_eq_true (by first | (with_reducible assumption) | assumption)
                                        obtain ⟨ad342, e342, hx342_0, hx342_1⟩ := at_T60 (Kd.R_reads' HO_6.out).2.2 0 p342 q342
                                        obtain rfl : ad332 = ad342 := (by injection e342)
                                        have qi342 : (0 < x6_2.length) = True := eq_true (by omega)
                                        (try rw [show ((0 : Int)).toNat = 0 from rfl] at hx342_0)
                                        (try rw [show 0 * 2 = 0 from rfl] at hx342_0)
                                        (try rw [Addr.add_zero'] at hx342_0)
                                        (try rw [show ((0 : Int)).toNat = 0 from rfl] at hx342_1)
                                        (try rw [show 0 * 2 = 0 from rfl] at hx342_1)
                                        (try rw [Addr.add_zero'] at hx342_1)
                                        replace p342 := eq_true p342
                                        replace q342 := eq_true q342
                                        have p343 : 0 ≤ (1 : Int) := (by omega)
                                        have q343 : 1 < (x6_2.length : Int) := of_decide_eq_true (by first | (with_reducible assumption) | assumption)
                                        obtain ⟨ad343, e343, hx343_0, hx343_1⟩ := at_T60 (Kd.R_reads' HO_6.out).2.2 1 p343 q343
                                        obtain rfl : ad332 = ad343 := (by injection e343)
                                        (try simp only [show (1 : Int).toNat = 1 from rfl, Nat.reduceMul, Nat.reduceEqDiff, Go.Addr.add, ↓reduceIte] at hx343_0)
                                        (try simp only [show (1 : Int).toNat = 1 from rfl, Nat.reduceMul, Nat.reduceEqDiff, Go.Addr.add, ↓reduceIte] at hx343_1)
                                        have qi343 : (1 < x6_2.length) = True := eq_true (by omega)
                                        (try rw [show ((1 : Int)).toNat = 1 from rfl] at hx343_0)
                                        (try rw [show 1 * 2 = 2 from rfl] at hx343_0)
                                        (try rw [show ((1 : Int)).toNat = 1 from rfl] at hx343_1)
                                        (try rw [show 1 * 2 = 2 from rfl] at hx343_1)
                                        replace p343 := eq_true p343
                                        replace q343 := eq_true q343
                                        refine start_ (n := 10) (S := fun w' => w'.cell? ad332 = some (.int .i64 ((rd_T60 x6_2 0).f0)) ∧ w'.cell? ⟨ad332.block, ad332.off + 1, none⟩ = some (.int .i64 ((rd_T60 x6_2 0).f1)) ∧ w'.cell? ⟨ad332.block, ad332.off + 2, none⟩ = some (.int .i64 ((rd_T60 x6_2 1).f0)) ∧ w'.cell? ⟨ad332.block, ad332.off + 2 + 1, none⟩ = some (.int .i64 ((rd_T60 x6_2 1).f1))) (ds := []) #[false, false, false, false, false, false, false, false, false, false] (by kernel_rfl) rfl rfl ⟨hx342_0, hx342_1, hx343_0, hx343_1⟩ (fun hHeld => ?_); refine with_tabW impl_GluePolygons.tab18 impl_GluePolygons.bits18 (fun HT_ HW_ => ?_)
                                        generalize w50.drew = w51 at HO_6 HO337 HO341 HB hx342_0 hx342_1 hx343_0 hx343_1 hHeld ⊢
                                        refine pure_ (i := 0) (N := some 88) (v := ?_) (a' := ?_) #[true, false, false, false, false, false, false, false, false, false] rfl rfl (any_of HT_.out (by kernel_rfl)) (fun _ _ _ h => h) (Or.inl ⟨by rfl, ?_⟩) ?_ ?_
                                        rotate_left
                                        · intro w'
                                          go_simp
                                          with_reducible rfl
                                        rotate_left
                                        · simp only [Act.put, List.setIfInBounds_toArray, List.set_cons_zero, List.set_cons_succ, i64_w, i32_w]
                                          rfl
                                        refine pure_ (i := 1) (N := some 89) (v := ?_) (a' := ?_) #[true, true, false, false, false, false, false, false, false, false] rfl rfl (any_of HT_.out (by kernel_rfl)) (fun _ _ _ h => h) (Or.inl ⟨by rfl, ?_⟩) ?_ ?_
                                        rotate_left
                                        · intro w'
                                          go_simp
                                          with_reducible rfl
                                        rotate_left
                                        · simp only [Act.put, List.setIfInBounds_toArray, List.set_cons_zero, List.set_cons_succ, i64_w, i32_w]
                                          rfl
                                        refine pure_ (i := 2) (N := some 90) (v := ?_) (a' := ?_) #[true, true, true, false, false, false, false, false, false, false] rfl rfl (any_of HT_.out (by kernel_rfl)) (fun _ _ _ h => h) (Or.inl ⟨by rfl, ?_⟩) ?_ ?_
                                        rotate_left
                                        · intro w'
                                          go_simp
                                          with_reducible rfl
                                        rotate_left
                                        · simp only [Act.put, List.setIfInBounds_toArray, List.set_cons_zero, List.set_cons_succ, i64_w, i32_w]
                                          rfl
                                        refine pure_ (i := 4) (N := some 92) (v := ?_) (a' := ?_) #[true, true, true, false, true, false, false, false, false, false] rfl rfl (any_of HT_.out (by kernel_rfl)) (fun _ _ _ h => h) (Or.inl ⟨by rfl, ?_⟩) ?_ ?_
                                        rotate_left
                                        · intro w'
                                          go_simp
                                          with_reducible rfl
                                        rotate_left
                                        · simp only [Act.put, List.setIfInBounds_toArray, List.set_cons_zero, List.set_cons_succ, i64_w, i32_w]
                                          rfl
                                        refine pure_ (i := 5) (N := some 93) (v := ?_) (a' := ?_) #[true, true, true, false, true, true, false, false, false, false] rfl rfl (any_of HT_.out (by kernel_rfl)) (fun _ _ _ h => h) (Or.inl ⟨by rfl, ?_⟩) ?_ ?_
                                        rotate_left
                                        · intro w'
                                          go_simp
                                          with_reducible rfl
                                        rotate_left
                                        · simp only [Act.put, List.setIfInBounds_toArray, List.set_cons_zero, List.set_cons_succ, i64_w, i32_w]
                                          rfl
                                        refine pure_ (i := 6) (N := some 94) (v := ?_) (a' := ?_) #[true, true, true, false, true, true, true, false, false, false] rfl rfl (any_of HT_.out (by kernel_rfl)) (fun _ _ _ h => h) (Or.inl ⟨by rfl, ?_⟩) ?_ ?_
                                        rotate_left
                                        · intro w'
                                          go_simp
                                          with_reducible rfl
                                        rotate_left
                                        · simp only [Act.put, List.setIfInBounds_toArray, List.set_cons_zero, List.set_cons_succ, i64_w, i32_w]
                                          rfl
                                        refine take_ (i := 3) (N := some 91) (v := ?_) (a' := ?_) #[true, true, true, true, true, true, true, false, false, false] rfl rfl (take_ofW HT_.out HW_.out (by kernel_rfl)) (fun _ _ _ h => h) (Or.inl ⟨by rfl, ?_⟩) hHeld ?_ ?_
                                        rotate_left
                                        · rintro w' ⟨s0, s1, s2, s3⟩
                                          go_simp
                                          with_reducible rfl
                                        rotate_left
                                        · simp only [Act.put, List.setIfInBounds_toArray, List.set_cons_zero, List.set_cons_succ, i64_w, i32_w]
                                          rfl
                                        refine pure_ (i := 8) (N := some 15) (v := ?_) (a' := ?_) #[true, true, true, true, true, true, true, false, true, false] rfl rfl (any_of HT_.out (by kernel_rfl)) (fun _ _ _ h => h) (Or.inl ⟨by rfl, ?_⟩) ?_ ?_
                                        rotate_left
                                        · intro w'
                                          go_simp
                                          with_reducible rfl
                                        rotate_left
                                        · simp only [Act.put, List.setIfInBounds_toArray, List.set_cons_zero, List.set_cons_succ, i64_w, i32_w]
                                          rfl
                                        refine take_ (i := 7) (N := some 95) (v := ?_) (a' := ?_) #[true, true, true, true, true, true, true, true, true, false] rfl rfl (take_ofW HT_.out HW_.out (by kernel_rfl)) (fun _ _ _ h => h) (Or.inl ⟨by rfl, ?_⟩) hHeld ?_ ?_
                                        rotate_left
                                        · rintro w' ⟨s0, s1, s2, s3⟩
                                          go_simp
                                          with_reducible rfl
                                        rotate_left
                                        · simp only [Act.put, List.setIfInBounds_toArray, List.set_cons_zero, List.set_cons_succ, i64_w, i32_w]
                                          rfl
                                        refine pure_ (i := 9) (N := some 16) (v := ?_) (a' := ?_) #[true, true, true, true, true, true, true, true, true, true] rfl rfl (any_of HT_.out (by kernel_rfl)) (fun _ _ _ h => h) (Or.inl ⟨by rfl, ?_⟩) ?_ ?_
                                        rotate_left
                                        · intro w'
                                          go_simp
                                          with_reducible rfl
                                        rotate_left
                                        · simp only [Act.put, List.setIfInBounds_toArray, List.set_cons_zero, List.set_cons_succ, i64_w, i32_w]
                                          rfl
                                        refine done_ (done_of HT_.out (by kernel_rfl)) ?_
                                        try go_wp2
                                        have n0_ := Aside0.mk (Kd.R_drew HO_6.out)
                                        have n1_ := Aside0.mk (Kd.R_drew HO337.out)
                                        have n2_ := Aside0.mk (Kd.R_drew HO341.out)
                                        have n3_ := Aside0.mk (below_drew1 HB.out)
                                        clear HO_6
                                        clear HO337
                                        clear HO341
                                        clear HB
                                        have HO_6 := n0_
                                        have HO337 := n1_
                                        have HO341 := n2_
                                        have HB := n3_
                                        clear n0_ n1_ n2_ n3_
                                        obtain ⟨Ao53, co53, eo53⟩ := Kd.R_slice HO337.out
                                        (first | subst eo53 | (injection eo53 with f1_ f2_ f3_; have f4_ := f1_.symm; have f5_ := f3_.symm; clear f1_ f2_ f3_; subst f4_; subst f5_))
                                        have p344 : 0 ≤ (((rd_T60 x6_2 0).f1) : Int) := of_decide_eq_true (by first | (with_reducible assumption) | assumption)
                                        have q344 : ((rd_T60 x6_2 0).f1) < (t335.length : Int) := of_decide_eq_true (by first | (with_reducible assumption) | assumption)
                                        obtain ⟨ad344, e344, hx344_0⟩ := Kd.at_int (Kd.R_reads' HO337.out).2.2 ((rd_T60 x6_2 0).f1) p344 q344
                                        cases e344
                                        replace p344 := eq_true p344
                                        replace q344 := eq_true q344
                                        obtain ⟨Ao54, co54, eo54⟩ := Kd.R_slice HO341.out
                                        (first | subst eo54 | (injection eo54 with f1_ f2_ f3_; have f4_ := f1_.symm; have f5_ := f3_.symm; clear f1_ f2_ f3_; subst f4_; subst f5_))
                                        have p345 : 0 ≤ (((rd_T60 x6_2 1).f1) : Int) := of_decide_eq_true (by first | (with_reducible assumption) | assumption)
                                        have q345 : ((rd_T60 x6_2 1).f1) < (t339.length : Int) := of_decide_eq_true (by first | (with_reducible assumption) | assumption)
                                        obtain ⟨ad345, e345, hx345_0⟩ := Kd.at_int (Kd.R_reads' HO341.out).2.2 ((rd_T60 x6_2 1).f1) p345 q345
                                        cases e345
                                        replace p345 := eq_true p345
                                        replace q345 := eq_true q345
                                        refine start_ (n := 9) (S := fun w' => w'.cell? (ad344.add (((rd_T60 x6_2 0).f1)).toNat) = some (.int .i64 (rd t335 ((rd_T60 x6_2 0).f1))) ∧ w'.cell? (ad345.add (((rd_T60 x6_2 1).f1)).toNat) = some (.int .i64 (rd t339 ((rd_T60 x6_2 1).f1)))) (ds := []) #[false, false, false, false, false, false, false, false, false] (by kernel_rfl) rfl rfl ⟨hx344_0, hx345_0⟩ (fun hHeld => ?_); refine with_tabW impl_GluePolygons.tab19 impl_GluePolygons.bits19 (fun HT_ HW_ => ?_)
                                        generalize w51.drew = w52 at HO_6 HO337 HO341 HB hx344_0 hx345_0 hHeld ⊢
                                        refine pure_ (i := 0) (N := some 96) (v := ?_) (a' := ?_) #[true, false, false, false, false, false, false, false, false] rfl rfl (any_of HT_.out (by kernel_rfl)) (fun _ _ _ h => h) (Or.inl ⟨by rfl, ?_⟩) ?_ ?_
                                        rotate_left
                                        · intro w'
                                          go_simp
                                          with_reducible rfl
                                        rotate_left
                                        · simp only [Act.put, List.setIfInBounds_toArray, List.set_cons_zero, List.set_cons_succ, i64_w, i32_w]
                                          rfl
                                        refine pure_ (i := 1) (N := some 97) (v := ?_) (a' := ?_) #[true, true, false, false, false, false, false, false, false] rfl rfl (any_of HT_.out (by kernel_rfl)) (fun _ _ _ h => h) (Or.inl ⟨by rfl, ?_⟩) ?_ ?_
                                        rotate_left
                                        · intro w'
                                          go_simp
                                          with_reducible rfl
                                        rotate_left
                                        · simp only [Act.put, List.setIfInBounds_toArray, List.set_cons_zero, List.set_cons_succ, i64_w, i32_w]
                                          rfl
                                        refine pure_ (i := 2) (N := some 98) (v := ?_) (a' := ?_) #[true, true, true, false, false, false, false, false, false] rfl rfl (any_of HT_.out (by kernel_rfl)) (fun _ _ _ h => h) (Or.inl ⟨by rfl, ?_⟩) ?_ ?_
                                        rotate_left
                                        · intro w'
                                          go_simp
                                          with_reducible rfl
                                        rotate_left
                                        · simp only [Act.put, List.setIfInBounds_toArray, List.set_cons_zero, List.set_cons_succ, i64_w, i32_w]
                                          rfl
                                        refine pure_ (i := 4) (N := some 100) (v := ?_) (a' := ?_) #[true, true, true, false, true, false, false, false, false] rfl rfl (any_of HT_.out (by kernel_rfl)) (fun _ _ _ h => h) (Or.inl ⟨by rfl, ?_⟩) ?_ ?_
                                        rotate_left
                                        · intro w'
                                          go_simp
                                          with_reducible rfl
                                        rotate_left
                                        · simp only [Act.put, List.setIfInBounds_toArray, List.set_cons_zero, List.set_cons_succ, i64_w, i32_w]
                                          rfl
                                        refine pure_ (i := 5) (N := some 101) (v := ?_) (a' := ?_) #[true, true, true, false, true, true, false, false, false] rfl rfl (any_of HT_.out (by kernel_rfl)) (fun _ _ _ h => h) (Or.inl ⟨by rfl, ?_⟩) ?_ ?_
                                        rotate_left
                                        · intro w'
                                          go_simp
                                          with_reducible rfl
                                        rotate_left
                                        · simp only [Act.put, List.setIfInBounds_toArray, List.set_cons_zero, List.set_cons_succ, i64_w, i32_w]
                                          rfl
                                        refine pure_ (i := 6) (N := some 102) (v := ?_) (a' := ?_) #[true, true, true, false, true, true, true, false, false] rfl rfl (any_of HT_.out (by kernel_rfl)) (fun _ _ _ h => h) (Or.inl ⟨by rfl, ?_⟩) ?_ ?_
                                        rotate_left
                                        · intro w'
                                          go_simp
                                          with_reducible rfl
                                        rotate_left
                                        · simp only [Act.put, List.setIfInBounds_toArray, List.set_cons_zero, List.set_cons_succ, i64_w, i32_w]
                                          rfl
                                        refine take_ (i := 3) (N := some 99) (v := ?_) (a' := ?_) #[true, true, true, true, true, true, true, false, false] rfl rfl (take_ofW HT_.out HW_.out (by kernel_rfl)) (fun _ _ _ h => h) (Or.inl ⟨by rfl, ?_⟩) hHeld ?_ ?_
                                        rotate_left
                                        · rintro w' ⟨s0, s1⟩
                                          go_simp
                                          with_reducible rfl
                                        rotate_left
                                        · simp only [Act.put, List.setIfInBounds_toArray, List.set_cons_zero, List.set_cons_succ, i64_w, i32_w]
                                          rfl
                                        refine take_ (i := 7) (N := some 103) (v := ?_) (a' := ?_) #[true, true, true, true, true, true, true, true, false] rfl rfl (take_ofW HT_.out HW_.out (by kernel_rfl)) (fun _ _ _ h => h) (Or.inl ⟨by rfl, ?_⟩) hHeld ?_ ?_
                                        rotate_left
                                        · rintro w' ⟨s0, s1⟩
                                          go_simp
                                          with_reducible rfl
                                        rotate_left
                                        · simp only [Act.put, List.setIfInBounds_toArray, List.set_cons_zero, List.set_cons_succ, i64_w, i32_w]
                                          rfl
                                        refine pure_ (i := 8) (N := some 104) (v := ?_) (a' := ?_) #[true, true, true, true, true, true, true, true, true] rfl rfl (any_of HT_.out (by kernel_rfl)) (fun _ _ _ h => h) (Or.inl ⟨by rfl, ?_⟩) ?_ ?_
                                        rotate_left
                                        · intro w'
                                          go_simp
                                          with_reducible rfl
                                        rotate_left
                                        · simp only [Act.put, List.setIfInBounds_toArray, List.set_cons_zero, List.set_cons_succ, i64_w, i32_w]
                                          rfl
                                        refine done_ (done_of HT_.out (by kernel_rfl)) ?_
                                        go_upto_if 104 with (fail)
                                        go_cut [14, 16] (fun v14 v16 wc => ∃ (kq : Nat) (x14_44 : List Int) (x16_44 : Int), v16 = .int .i64 x16_44 ∧ Aside0 (impl_GluePolygons.j4 kq l0 ((rd_T60 x6_2 0).f0) ((rd_T60 x6_2 1).f0) t335 x14_44 ((rd_T60 x6_2 0).f1) x16_44 = some (r1, r2)) ∧ Aside0 (kq ≤ kj23) ∧ Aside0 (Kd.R (Kd.int .i64) 3 wc w.heap.size (fun k_ => (w.heap.size ≤ k_) ∧ some k_ ≠ (v14 : Value).ownBlock) (.slice (some ad344) t335.length co53) t335) ∧ Aside0 (Kd.R (Kd.int .i64) 3 wc w.heap.size (fun k_ => (w.heap.size ≤ k_) ∧ some k_ ≠ ((.slice (some ad344) t335.length co53) : Value).ownBlock) v14 x14_44) ∧ Aside0 (Below w.heap.size w wc))
                                        case first =>
                                          have H := HC45.out
                                          clear HC45
                                          by_cases c55 : (rd t335 ((rd_T60 x6_2 0).f1)) = (rd t339 ((rd_T60 x6_2 1).f1))
                                          · rw [if_pos c55] at H
                                            have c55b0 : ((rd t335 ((rd_T60 x6_2 0).f1)) == (rd t339 ((rd_T60 x6_2 1).f1))) = true := beq_iff_eq.mpr c55
                                            have c55b1 : ((rd t335 ((rd_T60 x6_2 0).f1)) != (rd t339 ((rd_T60 x6_2 1).f1))) = false := bne_eq_false_iff_eq.mpr c55
                                            clear c55
                                            (first | rw [c55b0] | (simp only [i64_w, i32_w]; rw [c55b0]) | skip)
                                            replace H := Option.bind_eq_some_iff.mp H
                                            obtain ⟨t346, A560, H⟩ := H
                                            replace H : (impl_GluePolygons.j4 kj23 l0 ((rd_T60 x6_2 0).f0) ((rd_T60 x6_2 1).f0) t335 t346 ((rd_T60 x6_2 0).f1) (wrap64 ((wrap64 ((t346.length : Int) - 1)) - ((rd_T60 x6_2 1).f1)))) = some (r1, r2) := H
                                            have A56 := Aside0.mk A560
                                            clear A560
                                            have H' := Aside0.mk H
                                            clear H
                                            go_wp2_with (first | ((with_reducible refine gate_callee (f := 59) rfl ?_); refine goesL_ (some 106) rfl rfl Try.func59 (by kernel_rfl) rfl #[.slice (some ad345) t339.length co54] rfl (by (try simp only [List.map_toArray, List.map_cons, List.map_nil]); first | done | rfl | (simp only [List.length_drop, List.length_take]; rfl)) ?_; (with_reducible refine (impl_inverse.calls kj23 _ _ t339 t346 _ ?side1 ?side2 A56.out).mono ?_); (case side1 => repeat (first | exact (Kd.R_reads' HO341.out).2.2 | (with_reducible refine Kd.C_alloc ?_ _) | (with_reducible refine Kd.C_drewN ?_ _) | (with_reducible refine Kd.C_drew ?_))); (case side2 => exact (Kd.R_reads' HO341.out).2.1); rintro e w57 ⟨v347, rfl, ho0, hb⟩; refine ⟨_, rfl, ?_⟩; have n0_ := Aside0.mk (Kd.R_below (by (with_reducible repeat (first | apply Kd.R_alloc | apply Kd.R_drewN | apply Kd.R_drew)); exact HO_6.out) hb); have n1_ := Aside0.mk (Kd.R_elder' (by (with_reducible repeat (first | apply Kd.R_alloc | apply Kd.R_drewN | apply Kd.R_drew)); exact HO337.out) (Kd.R_base ho0) hb); have n2_ := Aside0.mk (Kd.R_elder' (by (with_reducible repeat (first | apply Kd.R_alloc | apply Kd.R_drewN | apply Kd.R_drew)); exact HO341.out) (Kd.R_base ho0) hb); have n3_ := Aside0.mk (Kd.R_lower (Kd.R_new' (Kd.R_new' (Kd.R_newM (M := fun k_ => (w.heap.size ≤ k_)) ho0 (below_size (by repeat (first | (with_reducible first | exact HB.out | apply below_alloc | apply pw_below_drewN | apply below_drew1) | exact HB.out))) (fun k_ h_ => h_)) (Kd.R_lt (by (with_reducible repeat (first | apply Kd.R_alloc | apply Kd.R_drewN | apply Kd.R_drew)); exact HO337.out))) (Kd.R_lt (by (with_reducible repeat (first | apply Kd.R_alloc | apply Kd.R_drewN | apply Kd.R_drew)); exact HO341.out))) (below_size (by repeat (first | (with_reducible first | exact HB.out | apply below_alloc | apply pw_below_drewN | apply below_drew1) | exact HB.out)))); have n4_ := Aside0.mk (below_step (by repeat (first | (with_reducible first | exact HB.out | apply below_alloc | apply pw_below_drewN | apply below_drew1) | exact HB.out)) hb); clear HO_6; clear HO337; clear HO341; clear HB; have HO_6 := n0_; have HO337 := n1_; have HO341 := n2_; have HO348 := n3_; have HB := n4_; clear n0_ n1_ n2_ n3_ n4_; (try clear hb); (try clear hb2); (try clear hk); (try clear hi); (try clear ho0); obtain ⟨Ao58, co58, eo58⟩ := Kd.R_slice HO348.out; subst eo58))
                                            go_meet
                                            case rel => exact ⟨_, (t346), (wrap64 ((wrap64 ((t346.length : Int) - 1)) - ((rd_T60 x6_2 1).f1))), (by first | rfl | (simp; done) | (simp [*]; done)), H', ⟨by have := HJ2.out; have := HK2.out; have := HJ23.out; first | omega | exact Nat.le_refl _⟩, ⟨by (with_reducible repeat (first | apply Kd.R_alloc | apply Kd.R_drewN | apply Kd.R_drew)); exact Kd.R_mono HO337.out (fun _ hk => ⟨hk.1.1.1, hk.2⟩)⟩, ⟨by (with_reducible repeat (first | apply Kd.R_alloc | apply Kd.R_drewN | apply Kd.R_drew)); exact Kd.R_mono HO348.out (fun _ hk => ⟨hk.1.1.1, hk.1.2⟩)⟩, ⟨by repeat (first | (with_reducible first | exact HB.out | apply below_alloc | apply pw_below_drewN | apply below_drew1) | exact HB.out)⟩⟩
                                          · rw [if_neg c55] at H
                                            have c55b0 : ((rd t335 ((rd_T60 x6_2 0).f1)) == (rd t339 ((rd_T60 x6_2 1).f1))) = false := beq_eq_false_iff_ne.mpr c55
                                            have c55b1 : ((rd t335 ((rd_T60 x6_2 0).f1)) != (rd t339 ((rd_T60 x6_2 1).f1))) = true := bne_iff_ne.mpr c55
                                            (first | rw [c55b0] | (simp only [i64_w, i32_w]; rw [c55b0]) | skip)
                                            have H' := Aside0.mk H
                                            clear H
                                            go_wp2
                                            go_meet
                                            case rel => exact ⟨_, (t339), ((rd_T60 x6_2 1).f1), (by first | rfl | (simp; done) | (simp [*]; done)), H', ⟨by have := HJ2.out; have := HK2.out; have := HJ23.out; first | omega | exact Nat.le_refl _⟩, ⟨by (with_reducible repeat (first | apply Kd.R_alloc | apply Kd.R_drewN | apply Kd.R_drew)); exact Kd.R_mono HO337.out (fun _ hk => ⟨hk.1.1, hk.2⟩)⟩, ⟨by (with_reducible repeat (first | apply Kd.R_alloc | apply Kd.R_drewN | apply Kd.R_drew)); exact Kd.R_mono HO341.out (fun _ hk => ⟨hk.1.1, hk.2⟩)⟩, ⟨by repeat (first | (with_reducible first | exact HB.out | apply below_alloc | apply pw_below_drewN | apply below_drew1) | exact HB.out)⟩⟩
                                        case rest =>
                                          clear HC45
                                          try clear p2
                                          try clear c3
                                          try clear p3
                                          try clear q3
                                          try clear hx3
                                          try clear qi3
                                          try clear c4
                                          try clear c5
                                          try clear c6
                                          try clear p6
                                          try clear c33
                                          try clear p33
                                          try clear q33
                                          try clear hx33
                                          try clear qi33
                                          try clear c34
                                          try clear c34b0
                                          try clear c34b1
                                          try clear p34
                                          try clear q34
                                          try clear hx34
                                          try clear qi34
                                          try clear c35
                                          try clear c35b0
                                          try clear c36
                                          try clear c36b0
                                          try clear c38
                                          try clear c38b0
                                          try clear c39
                                          try clear c39b0
                                          try clear c41
                                          try clear c41b0
                                          try clear c42
                                          try clear c42b0
                                          try clear c43
                                          try clear c43b0
                                          try clear c44
                                          try clear c44b0
                                          try clear c55
                                          try clear c55b0
                                          try clear c55b1
                                          try clear hx332_0
                                          try clear hx332_1
                                          try clear hx333_0
                                          try clear hx333_1
                                          try clear hx334_0
                                          try clear hx338_0
                                          try clear hx342_0
                                          try clear hx342_1
                                          try clear hx343_0
                                          try clear hx343_1
                                          try clear hx344_0
                                          try clear hx345_0
                                          try clear p332
                                          try clear p333
                                          try clear p334
                                          try clear p338
                                          try clear p342
                                          try clear p343
                                          try clear p344
                                          try clear p345
                                          try clear q332
                                          try clear q333
                                          try clear q334
                                          try clear q338
                                          try clear q342
                                          try clear q343
                                          try clear q344
                                          try clear q345
                                          obtain ⟨kq, x14_44, x16_44, rfl, HA, HJ44, HO_13, HO_14, HB⟩ := hcut
                                          cases kq with
                                          | zero => exact absurd HA.out (by simp [impl_GluePolygons.j4])
                                          | succ kj44 =>
                                            have H := HA.out
                                            clear HA
                                            simp only [impl_GluePolygons.j4] at H
                                            replace H := Option.bind_eq_some_iff.mp H
                                            obtain ⟨t349, A590, H⟩ := H
                                            replace H : (if 0 ≤ (wrap64 ((t349.length : Int) - 1)) then (if (wrap64 ((t349.length : Int) - 1)) ≤ (t349.length : Int) then (impl_GluePolygons.l2 kj44 ((rd_T60 x6_2 0).f0) ((rd_T60 x6_2 1).f0) t335 ((rd_T60 x6_2 0).f1) (t349.take ((wrap64 ((t349.length : Int) - 1)) : Int).toNat) (([] : List (List Int))) l0 (l0.length : Int) 0) else (none)) else (none)) = some (r1, r2) := H
                                            have A59 := Aside0.mk A590
                                            clear A590
                                            obtain ⟨ji60, hji60⟩ : ∃ j_ : Int, (wrap64 ((t349.length : Int) - 1)) = j_ := ⟨_, rfl⟩
                                            replace H : (if 0 ≤ (ji60) then (if (ji60) ≤ (t349.length : Int) then (impl_GluePolygons.l2 kj44 ((rd_T60 x6_2 0).f0) ((rd_T60 x6_2 1).f0) t335 ((rd_T60 x6_2 0).f1) (t349.take ((ji60) : Int).toNat) (([] : List (List Int))) l0 (l0.length : Int) 0) else (none)) else (none)) = some (r1, r2) := by first | (rw [hji60] at H; exact H) | (simp only [hji60] at H ⊢; exact H)
                                            (try rw [hji60] at A59)
                                            have hji60w : (IntKind.i64.wrap ((t349.length : Int) - 1)) = ji60 := (i64_w _).trans hji60
                                            by_cases c61 : 0 ≤ (ji60)
                                            · rw [if_pos c61] at H
                                              have c61b0 := eq_true c61
                                              have c61b1 : decide (0 ≤ (ji60)) = true := decide_eq_true c61
                                              clear c61
                                              by_cases c62 : (ji60) ≤ (t349.length : Int)
                                              · rw [if_pos c62] at H
                                                have c62b0 := eq_true c62
                                                have c62b1 : decide ((ji60) ≤ (t349.length : Int)) = true := decide_eq_true c62
                                                clear c62
                                                obtain ⟨y352, hy352⟩ : ∃ y_ : List Int, y_ = (t349.take ((ji60) : Int).toNat) := ⟨_, rfl⟩
                                                replace H : (impl_GluePolygons.l2 kj44 ((rd_T60 x6_2 0).f0) ((rd_T60 x6_2 1).f0) t335 ((rd_T60 x6_2 0).f1) y352 (([] : List (List Int))) l0 (l0.length : Int) 0) = some (r1, r2) := by first | (rw [hy352]; with_reducible exact H) | (have H2_ := (Option.bind_some _ _).symm.trans H; rw [hy352]; with_reducible exact H2_) | (have H2_ := (Option.bind_some _ _).symm.trans H; with_reducible exact H2_) | with_reducible exact H | (rw [hy352]; exact H) | exact H
                                                have Ny352 := Aside0.mk hy352
                                                clear hy352
                                                obtain ⟨y355, hy355⟩ : ∃ y_ : List (List Int), y_ = (([] : List (List Int))) := ⟨_, rfl⟩
                                                replace H : (impl_GluePolygons.l2 kj44 ((rd_T60 x6_2 0).f0) ((rd_T60 x6_2 1).f0) t335 ((rd_T60 x6_2 0).f1) y352 y355 l0 (l0.length : Int) 0) = some (r1, r2) := by first | (rw [hy355]; with_reducible exact H) | (have H2_ := (Option.bind_some _ _).symm.trans H; rw [hy355]; with_reducible exact H2_) | (have H2_ := (Option.bind_some _ _).symm.trans H; with_reducible exact H2_) | with_reducible exact H | (rw [hy355]; exact H) | exact H
                                                have Ny355 := Aside0.mk hy355
                                                clear hy355
                                                have H' := Aside0.mk H
                                                clear H
                                                obtain ⟨Ao63, co63, eo63⟩ := Kd.R_slice HO_14.out
                                                subst eo63
                                                go_wp2_with (first | ((with_reducible refine gate_callee (f := 70) rfl ?_); refine goesL_ (some 115) rfl rfl Try.func70 (by kernel_rfl) rfl #[.slice Ao63 x14_44.length co63, .int .i64 (wrap64 (x16_44 + 1))] rfl (by (try simp only [List.map_toArray, List.map_cons, List.map_nil]); first | done | rfl | (simp only [List.length_drop, List.length_take]; rfl)) ?_; (with_reducible refine (impl_turn.calls _ _ x14_44 (wrap64 (x16_44 + 1)) t349 _ ?side1 ?side2 A59.out).mono ?_); (case side1 => repeat (first | exact (Kd.R_reads' HO_14.out).2.2 | (with_reducible refine Kd.C_alloc ?_ _) | (with_reducible refine Kd.C_drewN ?_ _) | (with_reducible refine Kd.C_drew ?_))); (case side2 => exact (Kd.R_reads' HO_14.out).2.1); rintro e w64 ⟨v350, rfl, ho0, hb⟩; refine ⟨_, rfl, ?_⟩; have n0_ := Aside0.mk (Kd.R_elder' (by (with_reducible repeat (first | apply Kd.R_alloc | apply Kd.R_drewN | apply Kd.R_drew)); exact HO_13.out) (Kd.R_base ho0) hb); have n1_ := Aside0.mk (Kd.R_elder' (by (with_reducible repeat (first | apply Kd.R_alloc | apply Kd.R_drewN | apply Kd.R_drew)); exact HO_14.out) (Kd.R_base ho0) hb); have n2_ := Aside0.mk (Kd.R_lower (Kd.R_new' (Kd.R_new' (Kd.R_newM (M := fun k_ => (w.heap.size ≤ k_)) ho0 (below_size (by repeat (first | (with_reducible first | exact HB.out | apply below_alloc | apply pw_below_drewN | apply below_drew1) | exact HB.out))) (fun k_ h_ => h_)) (Kd.R_lt (by (with_reducible repeat (first | apply Kd.R_alloc | apply Kd.R_drewN | apply Kd.R_drew)); exact HO_13.out))) (Kd.R_lt (by (with_reducible repeat (first | apply Kd.R_alloc | apply Kd.R_drewN | apply Kd.R_drew)); exact HO_14.out))) (below_size (by repeat (first | (with_reducible first | exact HB.out | apply below_alloc | apply pw_below_drewN | apply below_drew1) | exact HB.out)))); have n3_ := Aside0.mk (below_step (by repeat (first | (with_reducible first | exact HB.out | apply below_alloc | apply pw_below_drewN | apply below_drew1) | exact HB.out)) hb); clear HO_13; clear HO_14; clear HB; have HO_13 := n0_; have HO_14 := n1_; have HO351 := n2_; have HB := n3_; clear n0_ n1_ n2_ n3_; (try clear hb); (try clear hb2); (try clear hk); (try clear hi); (try clear ho0); obtain ⟨Ao65, co65, eo65⟩ := Kd.R_slice HO351.out; subst eo65; have q66 : ((ji60) : Int) ≤ ((t349.length : Int) : Int) := of_decide_eq_true (by first | (with_reducible assumption) | assumption); obtain ⟨i066, hi066, _, hsz66, _⟩ := info_parts info3; have hcut66 := cut_to (P := Try.prog) 47 3 .i64 Try.underlying47 hi066 Ao65 t349.length co65 (ji60) (of_decide_eq_true (by first | (with_reducible assumption) | assumption)) q66 (Kd.R_reads' HO351.out).2.1; have hr66 := Kd.R_take (m := ((ji60) : Int).toNat) HO351.out (by omega); have hy66 : y352.length = ((ji60) : Int).toNat := (by rw [Ny352.out, List.length_take]; omega); rw [← Ny352.out] at hr66; rw [← hy66] at hr66 hcut66; clear hy66 hi066 hsz66 HO351; have HO354 := Aside0.mk hr66; clear hr66; replace q66 := eq_true q66) | ((with_reducible refine gate_dst (N := 121) rfl ?_); refine Kd.S_lit (Kd.slice 3 (Kd.int .i64)) _ 47 ?hg (N := 121) ?hd (xs := ([] : List (List Int))) (inner := []) (ok := fun _ => True) (okp := fun _ => True) ?hr ?hp (fun _ hk => hk) trivial (Below.refl _ _) (Nat.le_refl _) (by simp) ?_; (case hd => rfl); (case hg => rfl); (case hr => first | (go_simp; done) | (go_simp; rfl)); (case hp => exact (Reps.none _ _)); intro v356 w67 ho68 hb hg_ hnew_; clear hg_ hnew_; (first | rw [← Ny355.out] at ho68 | (simp only [Int.reduceToNat] at ho68; rw [← Ny355.out] at ho68)); have n0_ := Aside0.mk (Kd.R_below (by (with_reducible repeat (first | apply Kd.R_alloc | apply Kd.R_drewN | apply Kd.R_drew)); exact HO_13.out) hb); have n1_ := Aside0.mk (Kd.R_below (by (with_reducible repeat (first | apply Kd.R_alloc | apply Kd.R_drewN | apply Kd.R_drew)); exact HO_14.out) hb); have n2_ := Aside0.mk (Kd.R_below (by (with_reducible repeat (first | apply Kd.R_alloc | apply Kd.R_drewN | apply Kd.R_drew)); exact HO354.out) hb); have n3_ := Aside0.mk (Kd.S_lower (Kd.S_new' (Kd.S_new' (Kd.S_new' (Kd.S_newM (M := fun k_ => (w.heap.size ≤ k_)) ho68 (below_size (by repeat (first | (with_reducible first | exact HB.out | apply below_alloc | apply pw_below_drewN | apply below_drew1) | exact HB.out))) (fun k_ h_ => h_)) (Kd.R_lt (by (with_reducible repeat (first | apply Kd.R_alloc | apply Kd.R_drewN | apply Kd.R_drew)); exact HO_13.out))) (Kd.R_lt (by (with_reducible repeat (first | apply Kd.R_alloc | apply Kd.R_drewN | apply Kd.R_drew)); exact HO_14.out))) (Kd.R_lt (by (with_reducible repeat (first | apply Kd.R_alloc | apply Kd.R_drewN | apply Kd.R_drew)); exact HO354.out))) (below_size (by repeat (first | (with_reducible first | exact HB.out | apply below_alloc | apply pw_below_drewN | apply below_drew1) | exact HB.out)))); have n4_ := Aside0.mk (below_step (by repeat (first | (with_reducible first | exact HB.out | apply below_alloc | apply pw_below_drewN | apply below_drew1) | exact HB.out)) hb); clear HO_13; clear HO_14; clear HO354; clear HB; have HO_13 := n0_; have HO_14 := n1_; have HO354 := n2_; have HO357 := n3_; have HB := n4_; clear n0_ n1_ n2_ n3_ n4_; clear hb ho68))
                                                go_loopg [18, 124] kj44 (fun kq v18 v124 w' => ∃ (x18_5 : List (List Int)) (x124_5 : Int), v124 = .int .i64 x124_5 ∧ Aside0 (impl_GluePolygons.l2 kq ((rd_T60 x6_2 0).f0) ((rd_T60 x6_2 1).f0) t335 ((rd_T60 x6_2 0).f1) y352 x18_5 l0 (l0.length : Int) x124_5 = some (r1, r2)) ∧ Aside0 (kq ≤ kj44) ∧ Aside0 (Kd.R (Kd.int .i64) 3 w' w.heap.size (fun k_ => (w.heap.size ≤ k_) ∧ some k_ ≠ ((.slice Ao65 y352.length co65) : Value).ownBlock) (.slice (some ad344) t335.length co53) t335) ∧ Aside0 (Kd.R (Kd.int .i64) 3 w' w.heap.size (fun k_ => (w.heap.size ≤ k_) ∧ some k_ ≠ ((.slice (some ad344) t335.length co53) : Value).ownBlock) (.slice Ao65 y352.length co65) y352) ∧ Aside0 (Kd.S (Kd.slice 3 (Kd.int .i64)) 47 w' w.heap.size (fun k_ => (w.heap.size ≤ k_) ∧ some k_ ≠ ((.slice (some ad344) t335.length co53) : Value).ownBlock ∧ some k_ ≠ ((.slice Ao65 y352.length co65) : Value).ownBlock) v18 x18_5) ∧ Aside0 (Below w.heap.size w w'))
                                                case atStart => exact ⟨(y355), (0), (by first | rfl | (simp; done) | (simp [*]; done)), H', ⟨Nat.le_refl _⟩, ⟨by (with_reducible repeat (first | apply Kd.R_alloc | apply Kd.R_drewN | apply Kd.R_drew)); exact Kd.R_mono HO_13.out (fun _ hk => ⟨hk.1.1, by first | exact hk.2 | (refine fun e_ => hk.2 (e_.trans ?_); exact own_len _ _ _ _)⟩)⟩, ⟨by (with_reducible repeat (first | apply Kd.R_alloc | apply Kd.R_drewN | apply Kd.R_drew)); exact Kd.R_mono HO354.out (fun _ hk => ⟨hk.1.1.1, hk.1.2⟩)⟩, ⟨by (with_reducible repeat (first | apply Kd.S_alloc | apply Kd.S_drewN | apply Kd.S_drew)); exact Kd.S_mono HO357.out (fun _ hk => ⟨hk.1.1.1.1, ⟨hk.1.1.2, hk.2⟩⟩)⟩, ⟨by repeat (first | (with_reducible first | exact HB.out | apply below_alloc | apply pw_below_drewN | apply below_drew1) | exact HB.out)⟩⟩
                                                case round =>
                                                  clear H'
                                                  try clear p2
                                                  try clear c3
                                                  try clear p3
                                                  try clear q3
                                                  try clear hx3
                                                  try clear qi3
                                                  try clear c4
                                                  try clear c5
                                                  try clear c6
                                                  try clear p6
                                                  try clear q6
                                                  try clear c7
                                                  try clear c33
                                                  try clear p33
                                                  try clear q33
                                                  try clear hx33
                                                  try clear qi33
                                                  try clear c34
                                                  try clear c34b0
                                                  try clear c34b1
                                                  try clear p34
                                                  try clear q34
                                                  try clear hx34
                                                  try clear qi34
                                                  try clear c35
                                                  try clear c35b0
                                                  try clear c36
                                                  try clear c36b0
                                                  try clear c38
                                                  try clear c38b0
                                                  try clear c39
                                                  try clear c39b0
                                                  try clear c41
                                                  try clear c41b0
                                                  try clear c42
                                                  try clear c42b0
                                                  try clear c43
                                                  try clear c43b0
                                                  try clear c44
                                                  try clear c44b0
                                                  try clear c55
                                                  try clear c55b0
                                                  try clear c55b1
                                                  try clear c59
                                                  try clear c61
                                                  try clear c61b0
                                                  try clear c61b1
                                                  try clear c62
                                                  try clear c62b0
                                                  try clear c62b1
                                                  try clear p64
                                                  try clear q66
                                                  try clear c68
                                                  try clear hx332_0
                                                  try clear hx332_1
                                                  try clear hx333_0
                                                  try clear hx333_1
                                                  try clear hx334_0
                                                  try clear hx338_0
                                                  try clear hx342_0
                                                  try clear hx342_1
                                                  try clear hx343_0
                                                  try clear hx343_1
                                                  try clear hx344_0
                                                  try clear hx345_0
                                                  try clear p2
                                                  try clear p3
                                                  try clear p33
                                                  try clear p332
                                                  try clear p333
                                                  try clear p334
                                                  try clear p338
                                                  try clear p34
                                                  try clear p342
                                                  try clear p343
                                                  try clear p344
                                                  try clear p345
                                                  try clear p6
                                                  try clear q3
                                                  try clear q33
                                                  try clear q332
                                                  try clear q333
                                                  try clear q334
                                                  try clear q338
                                                  try clear q34
                                                  try clear q342
                                                  try clear q343
                                                  try clear q344
                                                  try clear q345
                                                  try clear q66
                                                  obtain ⟨x18_5, x124_5, rfl, HA, HK5, HO_13, HO_17, HO_18, HB⟩ := hrel
                                                  cases gk with
                                                  | zero => exact absurd HA.out (by simp [impl_GluePolygons.l2])
                                                  | succ k5 =>
                                                    have H := HA.out
                                                    clear HA
                                                    simp only [impl_GluePolygons.l2] at H
                                                    by_cases c69 : x124_5 < (l0.length : Int)
                                                    · rw [if_pos c69] at H
                                                      have c69b0 : decide (x124_5 < (l0.length : Int)) = true := decide_eq_true c69
                                                      clear c69
                                                      by_cases c70 : 0 ≤ x124_5
                                                      · rw [if_pos c70] at H
                                                        have c70b0 : decide (0 ≤ x124_5) = true := decide_eq_true c70
                                                        clear c70
                                                        by_cases c71 : x124_5 < (l0.length : Int)
                                                        · rw [if_pos c71] at H
                                                          have c71b0 : decide (x124_5 < (l0.length : Int)) = true := decide_eq_true c71
                                                          clear c71
                                                          by_cases c72 : x124_5 = ((rd_T60 x6_2 0).f0)
                                                          · rw [if_pos c72] at H
                                                            have c72b0 : (x124_5 == ((rd_T60 x6_2 0).f0)) = true := beq_iff_eq.mpr c72
                                                            have c72b1 : (x124_5 != ((rd_T60 x6_2 0).f0)) = false := bne_eq_false_iff_eq.mpr c72
                                                            clear c72
                                                            by_cases c73 : 0 ≤ ((rd_T60 x6_2 0).f1)
                                                            · rw [if_pos c73] at H
                                                              have c73b0 := eq_true c73
                                                              have c73b1 : decide (0 ≤ ((rd_T60 x6_2 0).f1)) = true := decide_eq_true c73
                                                              clear c73
                                                              by_cases c74 : ((rd_T60 x6_2 0).f1) ≤ (t335.length : Int)
                                                              · rw [if_pos c74] at H
                                                                have c74b0 := eq_true c74
                                                                have c74b1 : decide (((rd_T60 x6_2 0).f1) ≤ (t335.length : Int)) = true := decide_eq_true c74
                                                                clear c74
                                                                obtain ⟨y363, hy363⟩ : ∃ y_ : List Int, y_ = (t335.take (((rd_T60 x6_2 0).f1) : Int).toNat) := ⟨_, rfl⟩
                                                                replace H : ((impl_copyOf.f y363).bind fun t367 => (if t367.length + y352.length < 17592186044416 then ((some (t367 ++ y352 : List Int)).bind fun y370 => (if 0 ≤ (wrap64 (((rd_T60 x6_2 0).f1) + 1)) then (if (wrap64 (((rd_T60 x6_2 0).f1) + 1)) ≤ (t335.length : Int) then ((some (t335.drop ((wrap64 (((rd_T60 x6_2 0).f1) + 1)) : Int).toNat : List Int)).bind fun y373 => (if y370.length + y373.length < 17592186044416 then (if x18_5.length < 5864062014805 then (impl_GluePolygons.l2 k5 ((rd_T60 x6_2 0).f0) ((rd_T60 x6_2 1).f0) t335 ((rd_T60 x6_2 0).f1) y352 (x18_5 ++ [(y370 ++ y373)]) l0 (l0.length : Int) (wrap64 (x124_5 + 1))) else (none)) else (none))) else (none)) else (none))) else (none))) = some (r1, r2) := by first | (rw [hy363]; with_reducible exact H) | (have H2_ := (Option.bind_some _ _).symm.trans H; rw [hy363]; with_reducible exact H2_) | (have H2_ := (Option.bind_some _ _).symm.trans H; with_reducible exact H2_) | with_reducible exact H | (rw [hy363]; exact H) | exact H
                                                                have Ny363 := Aside0.mk hy363
                                                                clear hy363
                                                                replace H := Option.bind_eq_some_iff.mp H
                                                                obtain ⟨t367, A750, H⟩ := H
                                                                replace H : (if t367.length + y352.length < 17592186044416 then ((some (t367 ++ y352 : List Int)).bind fun y370 => (if 0 ≤ (wrap64 (((rd_T60 x6_2 0).f1) + 1)) then (if (wrap64 (((rd_T60 x6_2 0).f1) + 1)) ≤ (t335.length : Int) then ((some (t335.drop ((wrap64 (((rd_T60 x6_2 0).f1) + 1)) : Int).toNat : List Int)).bind fun y373 => (if y370.length + y373.length < 17592186044416 then (if x18_5.length < 5864062014805 then (impl_GluePolygons.l2 k5 ((rd_T60 x6_2 0).f0) ((rd_T60 x6_2 1).f0) t335 ((rd_T60 x6_2 0).f1) y352 (x18_5 ++ [(y370 ++ y373)]) l0 (l0.length : Int) (wrap64 (x124_5 + 1))) else (none)) else (none))) else (none)) else (none))) else (none)) = some (r1, r2) := H
                                                                have A75 := Aside0.mk A750
                                                                clear A750
                                                                by_cases c76 : t367.length + y352.length < 17592186044416
                                                                · rw [if_pos c76] at H
                                                                  have LMc76 := Aside0.mk c76
                                                                  clear c76
                                                                  obtain ⟨y370, hy370⟩ : ∃ y_ : List Int, y_ = (t367 ++ y352) := ⟨_, rfl⟩
                                                                  replace H : (if 0 ≤ (wrap64 (((rd_T60 x6_2 0).f1) + 1)) then (if (wrap64 (((rd_T60 x6_2 0).f1) + 1)) ≤ (t335.length : Int) then ((some (t335.drop ((wrap64 (((rd_T60 x6_2 0).f1) + 1)) : Int).toNat : List Int)).bind fun y373 => (if y370.length + y373.length < 17592186044416 then (if x18_5.length < 5864062014805 then (impl_GluePolygons.l2 k5 ((rd_T60 x6_2 0).f0) ((rd_T60 x6_2 1).f0) t335 ((rd_T60 x6_2 0).f1) y352 (x18_5 ++ [(y370 ++ y373)]) l0 (l0.length : Int) (wrap64 (x124_5 + 1))) else (none)) else (none))) else (none)) else (none)) = some (r1, r2) := by first | (rw [hy370]; with_reducible exact H) | (have H2_ := (Option.bind_some _ _).symm.trans H; rw [hy370]; with_reducible exact H2_) | (have H2_ := (Option.bind_some _ _).symm.trans H; with_reducible exact H2_) | with_reducible exact H | (rw [hy370]; exact H) | exact H
                                                                  have Ny370 := Aside0.mk hy370
                                                                  clear hy370
                                                                  obtain ⟨ji77, hji77⟩ : ∃ j_ : Int, (wrap64 (((rd_T60 x6_2 0).f1) + 1)) = j_ := ⟨_, rfl⟩
                                                                  replace H : (if 0 ≤ (ji77) then (if (ji77) ≤ (t335.length : Int) then ((some (t335.drop ((ji77) : Int).toNat : List Int)).bind fun y373 => (if y370.length + y373.length < 17592186044416 then (if x18_5.length < 5864062014805 then (impl_GluePolygons.l2 k5 ((rd_T60 x6_2 0).f0) ((rd_T60 x6_2 1).f0) t335 ((rd_T60 x6_2 0).f1) y352 (x18_5 ++ [(y370 ++ y373)]) l0 (l0.length : Int) (wrap64 (x124_5 + 1))) else (none)) else (none))) else (none)) else (none)) = some (r1, r2) := by first | (rw [hji77] at H; exact H) | (simp only [hji77] at H ⊢; exact H)
                                                                  (try rw [hji77] at A75)
                                                                  have hji77w : (IntKind.i64.wrap (((rd_T60 x6_2 0).f1) + 1)) = ji77 := (i64_w _).trans hji77
                                                                  by_cases c78 : 0 ≤ (ji77)
                                                                  · rw [if_pos c78] at H
                                                                    have c78b0 := eq_true c78
                                                                    have c78b1 : decide (0 ≤ (ji77)) = true := decide_eq_true c78
                                                                    clear c78
                                                                    by_cases c79 : (ji77) ≤ (t335.length : Int)
                                                                    · rw [if_pos c79] at H
                                                                      have c79b0 := eq_true c79
                                                                      have c79b1 : decide ((ji77) ≤ (t335.length : Int)) = true := decide_eq_true c79
                                                                      clear c79
                                                                      obtain ⟨y373, hy373⟩ : ∃ y_ : List Int, y_ = (t335.drop ((ji77) : Int).toNat) := ⟨_, rfl⟩
                                                                      replace H : (if y370.length + y373.length < 17592186044416 then (if x18_5.length < 5864062014805 then (impl_GluePolygons.l2 k5 ((rd_T60 x6_2 0).f0) ((rd_T60 x6_2 1).f0) t335 ((rd_T60 x6_2 0).f1) y352 (x18_5 ++ [(y370 ++ y373)]) l0 (l0.length : Int) (wrap64 (x124_5 + 1))) else (none)) else (none)) = some (r1, r2) := by first | (rw [hy373]; with_reducible exact H) | (have H2_ := (Option.bind_some _ _).symm.trans H; rw [hy373]; with_reducible exact H2_) | (have H2_ := (Option.bind_some _ _).symm.trans H; with_reducible exact H2_) | with_reducible exact H | (rw [hy373]; exact H) | exact H
                                                                      have Ny373 := Aside0.mk hy373
                                                                      clear hy373
                                                                      by_cases c80 : y370.length + y373.length < 17592186044416
                                                                      · rw [if_pos c80] at H
                                                                        have LMc80 := Aside0.mk c80
                                                                        clear c80
                                                                        obtain ⟨y377, hy377⟩ : ∃ y_ : List Int, y_ = (y370 ++ y373) := ⟨_, rfl⟩
                                                                        replace H : (if x18_5.length < 5864062014805 then (impl_GluePolygons.l2 k5 ((rd_T60 x6_2 0).f0) ((rd_T60 x6_2 1).f0) t335 ((rd_T60 x6_2 0).f1) y352 (x18_5 ++ [y377]) l0 (l0.length : Int) (wrap64 (x124_5 + 1))) else (none)) = some (r1, r2) := by first | (rw [hy377]; with_reducible exact H) | (have H2_ := (Option.bind_some _ _).symm.trans H; rw [hy377]; with_reducible exact H2_) | (have H2_ := (Option.bind_some _ _).symm.trans H; with_reducible exact H2_) | with_reducible exact H | (rw [hy377]; exact H) | exact H
                                                                        have Ny377 := Aside0.mk hy377
                                                                        clear hy377
                                                                        by_cases c81 : x18_5.length < 5864062014805
                                                                        · rw [if_pos c81] at H
                                                                          have LMc81 := Aside0.mk c81
                                                                          clear c81
                                                                          obtain ⟨y380, hy380⟩ : ∃ y_ : List (List Int), y_ = (x18_5 ++ [y377]) := ⟨_, rfl⟩
                                                                          replace H : (impl_GluePolygons.l2 k5 ((rd_T60 x6_2 0).f0) ((rd_T60 x6_2 1).f0) t335 ((rd_T60 x6_2 0).f1) y352 y380 l0 (l0.length : Int) (wrap64 (x124_5 + 1))) = some (r1, r2) := by first | (rw [hy380]; with_reducible exact H) | (have H2_ := (Option.bind_some _ _).symm.trans H; rw [hy380]; with_reducible exact H2_) | (have H2_ := (Option.bind_some _ _).symm.trans H; with_reducible exact H2_) | with_reducible exact H | (rw [hy380]; exact H) | exact H
                                                                          have Ny380 := Aside0.mk hy380
                                                                          clear hy380
                                                                          have H' := Aside0.mk H
                                                                          clear H
                                                                          have p362 : 0 ≤ (x124_5 : Int) := of_decide_eq_true (by first | (with_reducible assumption) | assumption)
                                                                          have q362 : x124_5 < (l0.length : Int) := of_decide_eq_true (by first | (with_reducible assumption) | assumption)
                                                                          obtain ⟨ad362, A362_0, c362_0, e362, hx362_0, hl362_0, hi362_0⟩ := at_L1 HR0.out x124_5 p362 q362
                                                                          obtain rfl : ad334 = ad362 := (by injection e362)
                                                                          replace hx362_0 := (HB.out.cell (World.block_lt_of_cell? w _ hx362_0)).trans hx362_0
                                                                          have HR362_0 := Aside0.mk hi362_0
                                                                          have HC362_0 := Aside0.mk hl362_0
                                                                          clear hi362_0 hl362_0
                                                                          replace p362 := eq_true p362
                                                                          replace q362 := eq_true q362
                                                                          try go_wp2
                                                                          have n0_ := Aside0.mk (Kd.R_drew HO_13.out)
                                                                          have n1_ := Aside0.mk (Kd.R_drew HO_17.out)
                                                                          have n2_ := Aside0.mk (Kd.S_drew HO_18.out)
                                                                          have n3_ := Aside0.mk (below_drew1 HB.out)
                                                                          clear HO_13
                                                                          clear HO_17
                                                                          clear HO_18
                                                                          clear HB
                                                                          have HO_13 := n0_
                                                                          have HO_17 := n1_
                                                                          have HO_18 := n2_
                                                                          have HB := n3_
                                                                          clear n0_ n1_ n2_ n3_
                                                                          have q83 : (((rd_T60 x6_2 0).f1) : Int) ≤ ((t335.length : Int) : Int) := of_decide_eq_true (by first | (with_reducible assumption) | assumption)
                                                                          obtain ⟨i083, hi083, _, hsz83, _⟩ := info_parts info3
                                                                          have hroom83 : t335.length ≤ co53 := (Kd.R_reads' HO_13.out).2.1
                                                                          have hC83 : Kd.C (Kd.int .i64) _ (some ad344) t335.length t335 := (Kd.R_reads' HO_13.out).2.2
                                                                          have hcut83 := cut_to (P := Try.prog) 47 3 .i64 Try.underlying47 hi083 (some ad344) t335.length co53 ((rd_T60 x6_2 0).f1) (of_decide_eq_true (by first | (with_reducible assumption) | assumption)) q83 hroom83
                                                                          have hr83 := Kd.C_take (m := (((rd_T60 x6_2 0).f1) : Int).toNat) hC83 (by omega)
                                                                          have hy83 : y363.length = (((rd_T60 x6_2 0).f1) : Int).toNat := (by rw [Ny363.out, List.length_take]; omega)
                                                                          rw [← Ny363.out] at hr83
                                                                          rw [← hy83] at hcut83
                                                                          have HR366 := Aside0.mk hr83
                                                                          have HC366 := Aside0.mk (show y363.length ≤ co53 from by omega)
                                                                          clear hr83 hC83 hroom83 hi083 hsz83
                                                                          have KY83 := Aside0.mk hy83
                                                                          clear hy83
                                                                          have KL83 := Aside0.mk (show (((rd_T60 x6_2 0).f1) : Int).toNat ≤ t335.length from by omega)
                                                                          replace q83 := eq_true q83
                                                                          have q84 : ((ji77) : Int) ≤ ((t335.length : Int) : Int) := of_decide_eq_true (by first | (with_reducible assumption) | assumption)
                                                                          obtain ⟨i084, hi084, _, hsz84, _⟩ := info_parts info3
                                                                          have hroom84 : t335.length ≤ co53 := (Kd.R_reads' HO_13.out).2.1
                                                                          have hC84 : Kd.C (Kd.int .i64) _ (some ad344) t335.length t335 := (Kd.R_reads' HO_13.out).2.2
                                                                          have q084 : (0 : Int) ≤ ((ji77) : Int) := of_decide_eq_true (by first | (with_reducible assumption) | assumption)
                                                                          have hcut84 := cut_from (P := Try.prog) 47 3 .i64 Try.underlying47 hi084 1 hsz84 (some ad344) t335.length co53 (ji77) q084 q84
                                                                          have hr84 := Kd.C_drop (m := ((ji77) : Int).toNat) (c := co53) hC84 (by omega) hroom84
                                                                          obtain ⟨A84, hA84⟩ : ∃ A1, A1 = (if co53 = ((ji77) : Int).toNat then (some ad344) else ((some ad344) : Option Addr).map (·.add (((ji77) : Int).toNat * 1))) := ⟨_, rfl⟩
                                                                          obtain ⟨c84, hc84⟩ : ∃ c1, c1 = co53 - ((ji77) : Int).toNat := ⟨_, rfl⟩
                                                                          have hy84 : y373.length = t335.length - ((ji77) : Int).toNat := (by rw [Ny373.out, List.length_drop] <;> omega)
                                                                          rw [show (t335).drop ((ji77) : Int).toNat = y373 from Ny373.out.symm] at hr84
                                                                          replace hr84 : Kd.C (Kd.int .i64) _ A84 y373.length y373 := (by rw [hA84]; exact hr84)
                                                                          rw [← hy84, ← hA84, ← hc84] at hcut84
                                                                          have HR376 := Aside0.mk hr84
                                                                          have HC376 := Aside0.mk (show y373.length ≤ c84 from by rw [hy84, hc84]; exact Nat.sub_le_sub_right hroom84 _)
                                                                          clear hr84 hC84 hroom84 hi084 hsz84 hc84
                                                                          have KY84 := Aside0.mk hy84
                                                                          have KA84 := Aside0.mk hA84
                                                                          clear hy84 hA84
                                                                          have KL84 := Aside0.mk (show ((ji77) : Int).toNat ≤ t335.length from by omega)
                                                                          replace q84 := eq_true q84
                                                                          refine start_ (n := 15) (S := fun w' => True) (ds := []) #[false, false, false, false, false, false, false, false, false, false, false, false, false, false, false] (by kernel_rfl) rfl rfl trivial (fun hHeld => ?_); refine with_tabW impl_GluePolygons.tab31 impl_GluePolygons.bits31 (fun HT_ HW_ => ?_)
                                                                          generalize wr.drew = w82 at HO_13 HO_17 HO_18 HB HR366 HR376 hHeld ⊢
                                                                          refine pure_ (i := 0) (N := some 138) (v := ?_) (a' := ?_) #[true, false, false, false, false, false, false, false, false, false, false, false, false, false, false] rfl rfl (any_of HT_.out (by kernel_rfl)) (fun _ _ _ h => h) (Or.inl ⟨by rfl, ?_⟩) ?_ ?_
                                                                          rotate_left
                                                                          · intro w'
                                                                            go_simp
                                                                            with_reducible rfl
                                                                          rotate_left
                                                                          · simp only [Act.put, List.setIfInBounds_toArray, List.set_cons_zero, List.set_cons_succ, i64_w, i32_w]
                                                                            rfl
                                                                          refine pure_ (i := 1) (N := some 139) (v := ?_) (a' := ?_) #[true, true, false, false, false, false, false, false, false, false, false, false, false, false, false] rfl rfl (any_of HT_.out (by kernel_rfl)) (fun _ _ _ h => h) (Or.inl ⟨by rfl, ?_⟩) ?_ ?_
                                                                          rotate_left
                                                                          · intro w'
                                                                            go_simp
                                                                            with_reducible rfl
                                                                          rotate_left
                                                                          · simp only [Act.put, List.setIfInBounds_toArray, List.set_cons_zero, List.set_cons_succ, i64_w, i32_w]
                                                                            rfl
                                                                          refine pure_ (i := 2) (N := some 140) (v := ?_) (a' := ?_) #[true, true, true, false, false, false, false, false, false, false, false, false, false, false, false] rfl rfl (any_of HT_.out (by kernel_rfl)) (fun _ _ _ h => h) (Or.inl ⟨by rfl, ?_⟩) ?_ ?_
                                                                          rotate_left
                                                                          · intro w'
                                                                            go_simp
                                                                            with_reducible rfl
                                                                          rotate_left
                                                                          · simp only [Act.put, List.setIfInBounds_toArray, List.set_cons_zero, List.set_cons_succ, i64_w, i32_w]
                                                                            rfl
                                                                          refine pure_ (i := 3) (N := some 141) (v := ?_) (a' := ?_) #[true, true, true, true, false, false, false, false, false, false, false, false, false, false, false] rfl rfl (any_of HT_.out (by kernel_rfl)) (fun _ _ _ h => h) (Or.inl ⟨by rfl, ?_⟩) ?_ ?_
                                                                          rotate_left
                                                                          · intro w'
                                                                            go_simp
                                                                            with_reducible rfl
                                                                          rotate_left
                                                                          · simp only [Act.put, List.setIfInBounds_toArray, List.set_cons_zero, List.set_cons_succ, i64_w, i32_w]
                                                                            rfl
                                                                          refine pure_ (i := 5) (N := some 143) (v := ?_) (a' := ?_) #[true, true, true, true, false, true, false, false, false, false, false, false, false, false, false] rfl rfl (any_of HT_.out (by kernel_rfl)) (fun _ _ _ h => h) (Or.inl ⟨by rfl, ?_⟩) ?_ ?_
                                                                          rotate_left
                                                                          · intro w'
                                                                            go_simp
                                                                            with_reducible rfl
                                                                          rotate_left
                                                                          · simp only [Act.put, List.setIfInBounds_toArray, List.set_cons_zero, List.set_cons_succ, i64_w, i32_w]
                                                                            rfl
                                                                          refine pure_ (i := 7) (N := some 145) (v := ?_) (a' := ?_) #[true, true, true, true, false, true, false, true, false, false, false, false, false, false, false] rfl rfl (any_of HT_.out (by kernel_rfl)) (fun _ _ _ h => h) (Or.inl ⟨by rfl, ?_⟩) ?_ ?_
                                                                          rotate_left
                                                                          · intro w'
                                                                            go_simp
                                                                            with_reducible rfl
                                                                          rotate_left
                                                                          · simp only [Act.put, List.setIfInBounds_toArray, List.set_cons_zero, List.set_cons_succ, i64_w, i32_w]
                                                                            rfl
                                                                          refine pure_ (i := 8) (N := some 146) (v := ?_) (a' := ?_) #[true, true, true, true, false, true, false, true, true, false, false, false, false, false, false] rfl rfl (any_of HT_.out (by kernel_rfl)) (fun _ _ _ h => h) (Or.inl ⟨by rfl, ?_⟩) ?_ ?_
                                                                          rotate_left
                                                                          · intro w'
                                                                            go_simp
                                                                            with_reducible rfl
                                                                          rotate_left
                                                                          · simp only [Act.put, List.setIfInBounds_toArray, List.set_cons_zero, List.set_cons_succ, i64_w, i32_w]
                                                                            rfl
                                                                          refine pure_ (i := 9) (N := some 147) (v := ?_) (a' := ?_) #[true, true, true, true, false, true, false, true, true, true, false, false, false, false, false] rfl rfl (any_of HT_.out (by kernel_rfl)) (fun _ _ _ h => h) (Or.inl ⟨by rfl, ?_⟩) ?_ ?_
                                                                          rotate_left
                                                                          · intro w'
                                                                            go_simp
                                                                            with_reducible rfl
                                                                          rotate_left
                                                                          · simp only [Act.put, List.setIfInBounds_toArray, List.set_cons_zero, List.set_cons_succ, i64_w, i32_w]
                                                                            rfl
                                                                          refine pure_ (i := 10) (N := some 148) (v := ?_) (a' := ?_) #[true, true, true, true, false, true, false, true, true, true, true, false, false, false, false] rfl rfl (any_of HT_.out (by kernel_rfl)) (fun _ _ _ h => h) (Or.inl ⟨by rfl, ?_⟩) ?_ ?_
                                                                          rotate_left
                                                                          · intro w'
                                                                            go_simp
                                                                            with_reducible rfl
                                                                          rotate_left
                                                                          · simp only [Act.put, List.setIfInBounds_toArray, List.set_cons_zero, List.set_cons_succ, i64_w, i32_w]
                                                                            rfl
                                                                          refine one_ (i := 4) (N := some 142) #[true, true, true, true, true, true, false, true, true, true, true, false, false, false, false] rfl rfl (one_of HT_.out (by kernel_rfl)) (by decide) (fun K hK => ?_)
                                                                          refine goes_ Try.func68 (by kernel_rfl) rfl #[.slice (some ad344) y363.length co53] (by rfl) rfl rfl (by (try simp only [List.map_toArray, List.map_cons, List.map_nil]); first | done | rfl | (simp only [List.length_drop, List.length_take]; rfl)) ?_
                                                                          with_reducible refine (impl_copyOf.calls _ _ y363 t367 _ ?side1 ?side2 A75.out).mono ?_
                                                                          (case side1 => repeat (first | exact (by repeat (first | (with_reducible exact HR366.out) | (with_reducible refine Kd.C_alloc ?_ _) | (with_reducible refine Kd.C_drewN ?_ _) | (with_reducible refine Kd.C_drew ?_) | exact HR366.out)) | (with_reducible refine Kd.C_alloc ?_ _) | (with_reducible refine Kd.C_drewN ?_ _) | (with_reducible refine Kd.C_drew ?_)))
                                                                          (case side2 => exact HC366.out)
                                                                          rintro e w85 ⟨v368, rfl, ho0, hb⟩
                                                                          refine ⟨_, rfl, ?_⟩
                                                                          have n0_ := Aside0.mk (Kd.R_elder' (by (with_reducible repeat (first | apply Kd.R_alloc | apply Kd.R_drewN | apply Kd.R_drew)); exact HO_13.out) (Kd.R_base ho0) hb)
                                                                          have n1_ := Aside0.mk (Kd.R_elder' (by (with_reducible repeat (first | apply Kd.R_alloc | apply Kd.R_drewN | apply Kd.R_drew)); exact HO_17.out) (Kd.R_base ho0) hb)
                                                                          have n2_ := Aside0.mk (Kd.S_elder' (by (with_reducible repeat (first | apply Kd.S_alloc | apply Kd.S_drewN | apply Kd.S_drew)); exact HO_18.out) (Kd.R_base ho0) hb)
                                                                          have n3_ := Aside0.mk (Kd.R_lower (Kd.R_new' (Kd.R_new' (Kd.R_newM (M := fun k_ => (w.heap.size ≤ k_)) ho0 (below_size (by repeat (first | (with_reducible first | exact HB.out | apply below_alloc | apply pw_below_drewN | apply below_drew1) | exact HB.out))) (fun k_ h_ => h_)) (Kd.R_lt (by (with_reducible repeat (first | apply Kd.R_alloc | apply Kd.R_drewN | apply Kd.R_drew)); exact HO_13.out))) (Kd.R_lt (by (with_reducible repeat (first | apply Kd.R_alloc | apply Kd.R_drewN | apply Kd.R_drew)); exact HO_17.out))) (below_size (by repeat (first | (with_reducible first | exact HB.out | apply below_alloc | apply pw_below_drewN | apply below_drew1) | exact HB.out))))
                                                                          have n4_ := Aside0.mk (Kd.C_below (by repeat (first | (with_reducible exact HR366.out) | (with_reducible refine Kd.C_alloc ?_ _) | (with_reducible refine Kd.C_drewN ?_ _) | (with_reducible refine Kd.C_drew ?_) | exact HR366.out)) hb)
                                                                          have n5_ := Aside0.mk (Kd.C_below (by repeat (first | (with_reducible exact HR376.out) | (with_reducible refine Kd.C_alloc ?_ _) | (with_reducible refine Kd.C_drewN ?_ _) | (with_reducible refine Kd.C_drew ?_) | exact HR376.out)) hb)
                                                                          have n6_ := Aside0.mk (below_step (by repeat (first | (with_reducible first | exact HB.out | apply below_alloc | apply pw_below_drewN | apply below_drew1) | exact HB.out)) hb)
                                                                          clear HO_13
                                                                          clear HO_17
                                                                          clear HO_18
                                                                          clear HR366
                                                                          clear HR376
                                                                          clear HB
                                                                          have HO_13 := n0_
                                                                          have HO_17 := n1_
                                                                          have HO_18 := n2_
                                                                          have HO369 := n3_
                                                                          have HR366 := n4_
                                                                          have HR376 := n5_
                                                                          have HB := n6_
                                                                          clear n0_ n1_ n2_ n3_ n4_ n5_ n6_
                                                                          (try clear hb)
                                                                          (try clear hb2)
                                                                          (try clear hk)
                                                                          (try clear hi)
                                                                          (try clear ho0)
                                                                          refine hK.out _ _ trivial (fun hHeld => ?_)
                                                                          clear hK K
                                                                          refine norm_ (a' := ?_) ?_ ?_
                                                                          rotate_left
                                                                          · show Act.put _ (some 142) _ = _
                                                                            simp only [Act.put, List.setIfInBounds_toArray, List.set_cons_zero, List.set_cons_succ, i64_w, i32_w]
                                                                            rfl
                                                                          refine one_ (i := 6) (N := some 144) #[true, true, true, true, true, true, true, true, true, true, true, false, false, false, false] rfl rfl (one_of HT_.out (by kernel_rfl)) (by decide) (fun K hK => ?_)
                                                                          refine Kd.R_append_rows_step (Kd.int .i64) (w0 := w) w.heap.size (by rfl) (.tmp 142) (.tmp 143) 47 3 (.int .i64 0) 8 rfl Try.underlying47 info3 rfl (by decide) (by omega) v368 t367 y352 _ _ _ (fun k_ => (w.heap.size ≤ k_) ∧ some k_ ≠ (.slice (some ad344) t335.length co53 : Value).ownBlock ∧ some k_ ≠ (.slice Ao65 y352.length co65 : Value).ownBlock) (fun _ => False) rfl rfl ?aO ?aR (fun _ _ h => h) (fun _ h => h.elim) ?aF ?aB ?aS ?aL ?_
                                                                          (case aR => repeat (first | exact (Kd.R_reads' HO_17.out).2.2 | (with_reducible refine Kd.C_alloc ?_ _) | (with_reducible refine Kd.C_drewN ?_ _) | (with_reducible refine Kd.C_drew ?_)))
                                                                          (case aB => exact (by repeat (first | (with_reducible first | exact HB.out | apply below_alloc | apply pw_below_drewN | apply below_drew1) | exact HB.out)))
                                                                          (case aF => exact (fun k_ hk => ⟨(Nat.le_trans (below_size (by repeat (first | (with_reducible first | exact HB.out | apply below_alloc | apply pw_below_drewN | apply below_drew1) | exact HB.out))) hk), Kd.fresh' (Kd.R_lt (by (with_reducible repeat (first | apply Kd.R_alloc | apply Kd.R_drewN | apply Kd.R_drew)); exact HO_13.out)) k_ hk, Kd.fresh' (Kd.R_lt (by (with_reducible repeat (first | apply Kd.R_alloc | apply Kd.R_drewN | apply Kd.R_drew)); exact HO_17.out)) k_ hk⟩))
                                                                          (case aO => exact (by (with_reducible repeat (first | apply Kd.R_alloc | apply Kd.R_drewN | apply Kd.R_drew)); exact Kd.R_mono HO369.out (fun _ hk => ⟨hk.1.1.1, ⟨hk.1.2, hk.2⟩⟩)))
                                                                          (case aS => exact (below_size (by repeat (first | (with_reducible first | exact HB.out | apply below_alloc | apply pw_below_drewN | apply below_drew1) | exact HB.out))))
                                                                          (case aL => have := LMc76.out; omega)
                                                                          intro v371 w86 ho hb hg hat
                                                                          rw [← Ny370.out] at ho
                                                                          have n0_ := Aside0.mk (Kd.R_after (ok := (fun k_ => (w.heap.size ≤ k_) ∧ some k_ ≠ (.slice Ao65 y352.length co65 : Value).ownBlock)) (by (with_reducible repeat (first | apply Kd.R_alloc | apply Kd.R_drewN | apply Kd.R_drew)); exact HO_13.out) hg hat)
                                                                          have n1_ := Aside0.mk (Kd.R_after (ok := (fun k_ => (w.heap.size ≤ k_) ∧ some k_ ≠ (.slice (some ad344) t335.length co53 : Value).ownBlock)) (by (with_reducible repeat (first | apply Kd.R_alloc | apply Kd.R_drewN | apply Kd.R_drew)); exact HO_17.out) hg hat)
                                                                          have n2_ := Aside0.mk (Kd.S_after (ok := (fun k_ => (w.heap.size ≤ k_) ∧ some k_ ≠ (.slice (some ad344) t335.length co53 : Value).ownBlock ∧ some k_ ≠ (.slice Ao65 y352.length co65 : Value).ownBlock)) (by (with_reducible repeat (first | apply Kd.S_alloc | apply Kd.S_drewN | apply Kd.S_drew)); exact HO_18.out) hg hat)
                                                                          have n3_ := Aside0.mk (hb)
                                                                          have n4_ := Aside0.mk ((show Kd.C (Kd.int .i64) w86 (some ad344) y363.length y363 from by rw [Ny363.out]; exact Kd.C_take (m := (((rd_T60 x6_2 0).f1) : Int).toNat) ((Kd.R_reads' (Kd.R_after (ok := (fun k_ => (w.heap.size ≤ k_) ∧ some k_ ≠ (.slice Ao65 y352.length co65 : Value).ownBlock)) (by (with_reducible repeat (first | apply Kd.R_alloc | apply Kd.R_drewN | apply Kd.R_drew)); exact HO_13.out) hg hat)).2.2) KL83.out))
                                                                          have n5_ := Aside0.mk ((show Kd.C (Kd.int .i64) w86 A84 y373.length y373 from by rw [Ny373.out, KA84.out]; exact Kd.C_drop (m := ((ji77) : Int).toNat) (c := co53) ((Kd.R_reads' (Kd.R_after (ok := (fun k_ => (w.heap.size ≤ k_) ∧ some k_ ≠ (.slice Ao65 y352.length co65 : Value).ownBlock)) (by (with_reducible repeat (first | apply Kd.R_alloc | apply Kd.R_drewN | apply Kd.R_drew)); exact HO_13.out) hg hat)).2.2) KL84.out ((Kd.R_reads' (Kd.R_after (ok := (fun k_ => (w.heap.size ≤ k_) ∧ some k_ ≠ (.slice Ao65 y352.length co65 : Value).ownBlock)) (by (with_reducible repeat (first | apply Kd.R_alloc | apply Kd.R_drewN | apply Kd.R_drew)); exact HO_13.out) hg hat)).2.1)))
                                                                          have n6_ := Aside0.mk (ho)
                                                                          clear HO_13
                                                                          clear HO_17
                                                                          clear HO_18
                                                                          clear HB
                                                                          clear HR366
                                                                          clear HR376
                                                                          clear HO369
                                                                          have HO_13 := n0_
                                                                          have HO_17 := n1_
                                                                          have HO_18 := n2_
                                                                          have HB := n3_
                                                                          have HR366 := n4_
                                                                          have HR376 := n5_
                                                                          have HO372 := n6_
                                                                          clear n0_ n1_ n2_ n3_ n4_ n5_ n6_
                                                                          clear ho hb hg hat
                                                                          refine hK.out _ _ trivial (fun hHeld => ?_)
                                                                          clear hK K
                                                                          refine norm_ (a' := ?_) ?_ ?_
                                                                          rotate_left
                                                                          · show Act.put _ (some 144) _ = _
                                                                            simp only [Act.put, List.setIfInBounds_toArray, List.set_cons_zero, List.set_cons_succ, i64_w, i32_w]
                                                                            rfl
                                                                          refine one_ (i := 11) (N := some 149) #[true, true, true, true, true, true, true, true, true, true, true, true, false, false, false] rfl rfl (one_of HT_.out (by kernel_rfl)) (by decide) (fun K hK => ?_)
                                                                          refine Kd.R_append_rows_step (Kd.int .i64) (w0 := w) w.heap.size (by rfl) (.tmp 144) (.tmp 148) 47 3 (.int .i64 0) 8 rfl Try.underlying47 info3 rfl (by decide) (by omega) v371 y370 y373 _ _ _ (fun k_ => (w.heap.size ≤ k_) ∧ some k_ ≠ (.slice (some ad344) t335.length co53 : Value).ownBlock ∧ some k_ ≠ (.slice Ao65 y352.length co65 : Value).ownBlock) (fun _ => False) rfl rfl ?aO ?aR (fun _ _ h => h) (fun _ h => h.elim) ?aF ?aB ?aS ?aL ?_
                                                                          (case aR => repeat (first | exact (by repeat (first | (with_reducible exact HR376.out) | (with_reducible refine Kd.C_alloc ?_ _) | (with_reducible refine Kd.C_drewN ?_ _) | (with_reducible refine Kd.C_drew ?_) | exact HR376.out)) | (with_reducible refine Kd.C_alloc ?_ _) | (with_reducible refine Kd.C_drewN ?_ _) | (with_reducible refine Kd.C_drew ?_)))
                                                                          (case aB => exact (by repeat (first | (with_reducible first | exact HB.out | apply below_alloc | apply pw_below_drewN | apply below_drew1) | exact HB.out)))
                                                                          (case aF => exact (fun k_ hk => ⟨(Nat.le_trans (below_size (by repeat (first | (with_reducible first | exact HB.out | apply below_alloc | apply pw_below_drewN | apply below_drew1) | exact HB.out))) hk), Kd.fresh' (Kd.R_lt (by (with_reducible repeat (first | apply Kd.R_alloc | apply Kd.R_drewN | apply Kd.R_drew)); exact HO_13.out)) k_ hk, Kd.fresh' (Kd.R_lt (by (with_reducible repeat (first | apply Kd.R_alloc | apply Kd.R_drewN | apply Kd.R_drew)); exact HO_17.out)) k_ hk⟩))
                                                                          (case aO => exact (by (with_reducible repeat (first | apply Kd.R_alloc | apply Kd.R_drewN | apply Kd.R_drew)); exact HO372.out))
                                                                          (case aS => exact (below_size (by repeat (first | (with_reducible first | exact HB.out | apply below_alloc | apply pw_below_drewN | apply below_drew1) | exact HB.out))))
                                                                          (case aL => have := LMc80.out; omega)
                                                                          intro v378 w87 ho hb hg hat
                                                                          rw [← Ny377.out] at ho
                                                                          have n0_ := Aside0.mk (Kd.R_after (ok := (fun k_ => (w.heap.size ≤ k_) ∧ some k_ ≠ (.slice Ao65 y352.length co65 : Value).ownBlock)) (by (with_reducible repeat (first | apply Kd.R_alloc | apply Kd.R_drewN | apply Kd.R_drew)); exact HO_13.out) hg hat)
                                                                          have n1_ := Aside0.mk (Kd.R_after (ok := (fun k_ => (w.heap.size ≤ k_) ∧ some k_ ≠ (.slice (some ad344) t335.length co53 : Value).ownBlock)) (by (with_reducible repeat (first | apply Kd.R_alloc | apply Kd.R_drewN | apply Kd.R_drew)); exact HO_17.out) hg hat)
                                                                          have n2_ := Aside0.mk (Kd.S_after (ok := (fun k_ => (w.heap.size ≤ k_) ∧ some k_ ≠ (.slice (some ad344) t335.length co53 : Value).ownBlock ∧ some k_ ≠ (.slice Ao65 y352.length co65 : Value).ownBlock)) (by (with_reducible repeat (first | apply Kd.S_alloc | apply Kd.S_drewN | apply Kd.S_drew)); exact HO_18.out) hg hat)
                                                                          have n3_ := Aside0.mk (hb)
                                                                          have n4_ := Aside0.mk ((show Kd.C (Kd.int .i64) w87 (some ad344) y363.length y363 from by rw [Ny363.out]; exact Kd.C_take (m := (((rd_T60 x6_2 0).f1) : Int).toNat) ((Kd.R_reads' (Kd.R_after (ok := (fun k_ => (w.heap.size ≤ k_) ∧ some k_ ≠ (.slice Ao65 y352.length co65 : Value).ownBlock)) (by (with_reducible repeat (first | apply Kd.R_alloc | apply Kd.R_drewN | apply Kd.R_drew)); exact HO_13.out) hg hat)).2.2) KL83.out))
                                                                          have n5_ := Aside0.mk ((show Kd.C (Kd.int .i64) w87 A84 y373.length y373 from by rw [Ny373.out, KA84.out]; exact Kd.C_drop (m := ((ji77) : Int).toNat) (c := co53) ((Kd.R_reads' (Kd.R_after (ok := (fun k_ => (w.heap.size ≤ k_) ∧ some k_ ≠ (.slice Ao65 y352.length co65 : Value).ownBlock)) (by (with_reducible repeat (first | apply Kd.R_alloc | apply Kd.R_drewN | apply Kd.R_drew)); exact HO_13.out) hg hat)).2.2) KL84.out ((Kd.R_reads' (Kd.R_after (ok := (fun k_ => (w.heap.size ≤ k_) ∧ some k_ ≠ (.slice Ao65 y352.length co65 : Value).ownBlock)) (by (with_reducible repeat (first | apply Kd.R_alloc | apply Kd.R_drewN | apply Kd.R_drew)); exact HO_13.out) hg hat)).2.1)))
                                                                          have n6_ := Aside0.mk (ho)
                                                                          clear HO_13
                                                                          clear HO_17
                                                                          clear HO_18
                                                                          clear HB
                                                                          clear HR366
                                                                          clear HR376
                                                                          clear HO372
                                                                          have HO_13 := n0_
                                                                          have HO_17 := n1_
                                                                          have HO_18 := n2_
                                                                          have HB := n3_
                                                                          have HR366 := n4_
                                                                          have HR376 := n5_
                                                                          have HO379 := n6_
                                                                          clear n0_ n1_ n2_ n3_ n4_ n5_ n6_
                                                                          clear ho hb hg hat
                                                                          obtain ⟨Ao89, co89, eo89⟩ := Kd.R_slice HO379.out
                                                                          (first | subst eo89 | (injection eo89 with f1_ f2_ f3_; have f4_ := f1_.symm; have f5_ := f3_.symm; clear f1_ f2_ f3_; subst f4_; subst f5_))
                                                                          refine hK.out _ _ trivial (fun hHeld => ?_)
                                                                          clear hK K
                                                                          refine norm_ (a' := ?_) ?_ ?_
                                                                          rotate_left
                                                                          · show Act.put _ (some 149) _ = _
                                                                            simp only [Act.put, List.setIfInBounds_toArray, List.set_cons_zero, List.set_cons_succ, i64_w, i32_w]
                                                                            rfl
                                                                          refine one_ (i := 12) (N := some 150) #[true, true, true, true, true, true, true, true, true, true, true, true, true, false, false] rfl rfl (one_of HT_.out (by kernel_rfl)) (by decide) (fun K hK => ?_)
                                                                          refine value_ (w1 := ?_) (v := ?_) (by rfl) rfl ?_ ?_
                                                                          rotate_left 2
                                                                          · go_simp
                                                                            constructor
                                                                            · rfl
                                                                            · rfl
                                                                          refine hK.out _ _ trivial (fun hHeld => ?_)
                                                                          clear hK K
                                                                          refine norm_ (a' := ?_) ?_ ?_
                                                                          rotate_left
                                                                          · show Act.put _ (some 150) _ = _
                                                                            simp only [Act.put, List.setIfInBounds_toArray, List.set_cons_zero, List.set_cons_succ, i64_w, i32_w]
                                                                            rfl
                                                                          refine one_ (i := 13) (N := some 151) #[true, true, true, true, true, true, true, true, true, true, true, true, true, true, false] rfl rfl (one_of HT_.out (by kernel_rfl)) (by decide) (fun K hK => ?_)
                                                                          refine Kd.S_append_step (Kd.slice 3 (Kd.int .i64)) (w0 := w) w.heap.size (by rfl) (.tmp 138) (.tmp 150) 22 47 (.slice none 0 0) 24 rfl Try.underlying22 info47 rfl (by decide) (by omega) u18 x18_5 y377 [.slice Ao89 y377.length co89] (fun k_ => (w.heap.size ≤ k_) ∧ some k_ ≠ (.slice (some ad344) t335.length co53 : Value).ownBlock ∧ some k_ ≠ (.slice Ao65 y352.length co65 : Value).ownBlock) (fun k_ => some k_ = (.slice Ao89 y377.length co89 : Value).ownBlock) rfl rfl ?aP (fun k_ hk_ => ((Kd.R_mono (ok' := fun k_ => ((fun k_ => (w.heap.size ≤ k_) ∧ some k_ ≠ (.slice (some ad344) t335.length co53 : Value).ownBlock ∧ some k_ ≠ (.slice Ao65 y352.length co65 : Value).ownBlock)) k_ ∧ some k_ ≠ (u18 : Value).ownBlock) (Kd.R_apart' (HO379.out) (Kd.S_typed HO_18.out) (by decide)) (fun k_ hk => ⟨⟨hk.1.1, ⟨hk.1.2.1, hk.1.2.2⟩⟩, hk.2⟩))).1 k_ hk_.symm) ?aF ?aO ?aB ?aS ?aL ?_
                                                                          (case aP => exact Kd.M_row (Kd.R_mono (Kd.R_tight rfl (Kd.R_mono (ok' := fun k_ => ((fun k_ => (w.heap.size ≤ k_) ∧ some k_ ≠ (.slice (some ad344) t335.length co53 : Value).ownBlock ∧ some k_ ≠ (.slice Ao65 y352.length co65 : Value).ownBlock)) k_ ∧ some k_ ≠ (u18 : Value).ownBlock) (Kd.R_apart' (HO379.out) (Kd.S_typed HO_18.out) (by decide)) (fun k_ hk => ⟨⟨hk.1.1, ⟨hk.1.2.1, hk.1.2.2⟩⟩, hk.2⟩))) (fun _ h_ => h_)))
                                                                          (case aB => exact (by repeat (first | (with_reducible first | exact HB.out | apply below_alloc | apply pw_below_drewN | apply below_drew1) | exact HB.out)))
                                                                          (case aF => exact (fun k_ hk => ⟨(Nat.le_trans (below_size (by repeat (first | (with_reducible first | exact HB.out | apply below_alloc | apply pw_below_drewN | apply below_drew1) | exact HB.out))) hk), Kd.fresh' (Kd.R_lt (by (with_reducible repeat (first | apply Kd.R_alloc | apply Kd.R_drewN | apply Kd.R_drew)); exact HO_13.out)) k_ hk, Kd.fresh' (Kd.R_lt (by (with_reducible repeat (first | apply Kd.R_alloc | apply Kd.R_drewN | apply Kd.R_drew)); exact HO_17.out)) k_ hk⟩))
                                                                          (case aO => exact (by (with_reducible repeat (first | apply Kd.S_alloc | apply Kd.S_drewN | apply Kd.S_drew)); exact Kd.S_mono HO_18.out (fun k_ hk => ⟨⟨hk.1.1, ⟨hk.1.2.1, hk.1.2.2⟩⟩, fun e_ => hk.2 e_⟩)))
                                                                          (case aS => exact (below_size (by repeat (first | (with_reducible first | exact HB.out | apply below_alloc | apply pw_below_drewN | apply below_drew1) | exact HB.out))))
                                                                          (case aL => have := LMc81.out; omega)
                                                                          intro v381 w88 ho hb hg hat
                                                                          rw [← Ny380.out] at ho
                                                                          have n0_ := Aside0.mk (Kd.R_over' (by (with_reducible repeat (first | apply Kd.R_alloc | apply Kd.R_drewN | apply Kd.R_drew)); exact HO_13.out) (Kd.S_typed (by (with_reducible repeat (first | apply Kd.S_alloc | apply Kd.S_drewN | apply Kd.S_drew)); exact HO_18.out)) (by decide) hg)
                                                                          have n1_ := Aside0.mk (Kd.R_over' (by (with_reducible repeat (first | apply Kd.R_alloc | apply Kd.R_drewN | apply Kd.R_drew)); exact HO_17.out) (Kd.S_typed (by (with_reducible repeat (first | apply Kd.S_alloc | apply Kd.S_drewN | apply Kd.S_drew)); exact HO_18.out)) (by decide) hg)
                                                                          have n2_ := Aside0.mk (hb)
                                                                          have n3_ := Aside0.mk ((show Kd.C (Kd.int .i64) w88 (some ad344) y363.length y363 from by rw [Ny363.out]; exact Kd.C_take (m := (((rd_T60 x6_2 0).f1) : Int).toNat) ((Kd.R_reads' (Kd.R_over' (by (with_reducible repeat (first | apply Kd.R_alloc | apply Kd.R_drewN | apply Kd.R_drew)); exact HO_13.out) (Kd.S_typed (by (with_reducible repeat (first | apply Kd.S_alloc | apply Kd.S_drewN | apply Kd.S_drew)); exact HO_18.out)) (by decide) hg)).2.2) KL83.out))
                                                                          have n4_ := Aside0.mk ((show Kd.C (Kd.int .i64) w88 A84 y373.length y373 from by rw [Ny373.out, KA84.out]; exact Kd.C_drop (m := ((ji77) : Int).toNat) (c := co53) ((Kd.R_reads' (Kd.R_over' (by (with_reducible repeat (first | apply Kd.R_alloc | apply Kd.R_drewN | apply Kd.R_drew)); exact HO_13.out) (Kd.S_typed (by (with_reducible repeat (first | apply Kd.S_alloc | apply Kd.S_drewN | apply Kd.S_drew)); exact HO_18.out)) (by decide) hg)).2.2) KL84.out ((Kd.R_reads' (Kd.R_over' (by (with_reducible repeat (first | apply Kd.R_alloc | apply Kd.R_drewN | apply Kd.R_drew)); exact HO_13.out) (Kd.S_typed (by (with_reducible repeat (first | apply Kd.S_alloc | apply Kd.S_drewN | apply Kd.S_drew)); exact HO_18.out)) (by decide) hg)).2.1)))
                                                                          have n5_ := Aside0.mk (ho)
                                                                          clear HO_13
                                                                          clear HO_17
                                                                          clear HB
                                                                          clear HR366
                                                                          clear HR376
                                                                          clear HO_18
                                                                          clear HO379
                                                                          have HO_13 := n0_
                                                                          have HO_17 := n1_
                                                                          have HB := n2_
                                                                          have HR366 := n3_
                                                                          have HR376 := n4_
                                                                          have HO382 := n5_
                                                                          clear n0_ n1_ n2_ n3_ n4_ n5_
                                                                          clear ho hb hg hat
                                                                          refine hK.out _ _ trivial (fun hHeld => ?_)
                                                                          clear hK K
                                                                          refine norm_ (a' := ?_) ?_ ?_
                                                                          rotate_left
                                                                          · show Act.put _ (some 151) _ = _
                                                                            simp only [Act.put, List.setIfInBounds_toArray, List.set_cons_zero, List.set_cons_succ, i64_w, i32_w]
                                                                            rfl
                                                                          refine pure_ (i := 14) (N := some 18) (v := ?_) (a' := ?_) #[true, true, true, true, true, true, true, true, true, true, true, true, true, true, true] rfl rfl (any_of HT_.out (by kernel_rfl)) (fun _ _ _ h => h) (Or.inl ⟨by rfl, ?_⟩) ?_ ?_
                                                                          rotate_left
                                                                          · intro w'
                                                                            go_simp
                                                                            with_reducible rfl
                                                                          rotate_left
                                                                          · simp only [Act.put, List.setIfInBounds_toArray, List.set_cons_zero, List.set_cons_succ, i64_w, i32_w]
                                                                            rfl
                                                                          refine done_ (done_of HT_.out (by kernel_rfl)) ?_
                                                                          try go_wp2
                                                                          go_roundg k5
                                                                          case measure => have := HJ2.out; have := HK2.out; have := HJ23.out; have := HJ44.out; have := HK5.out; omega
                                                                          case rel => exact ⟨(y380), (wrap64 (x124_5 + 1)), (by first | rfl | (simp; done) | (simp [*]; done)), H', ⟨by have := HJ2.out; have := HK2.out; have := HJ23.out; have := HJ44.out; have := HK5.out; omega⟩, ⟨by (with_reducible repeat (first | apply Kd.R_alloc | apply Kd.R_drewN | apply Kd.R_drew)); exact Kd.R_mono HO_13.out (fun _ hk => ⟨hk.1.1, hk.1.2⟩)⟩, ⟨by (with_reducible repeat (first | apply Kd.R_alloc | apply Kd.R_drewN | apply Kd.R_drew)); exact Kd.R_mono HO_17.out (fun _ hk => ⟨hk.1.1, hk.1.2⟩)⟩, ⟨by (with_reducible repeat (first | apply Kd.S_alloc | apply Kd.S_drewN | apply Kd.S_drew)); exact HO382.out⟩, ⟨by repeat (first | (with_reducible first | exact HB.out | apply below_alloc | apply pw_below_drewN | apply below_drew1) | exact HB.out)⟩⟩
                                                                        · rw [if_neg c81] at H
                                                                          exact absurd H (by simp)
                                                                      · rw [if_neg c80] at H
                                                                        exact absurd H (by simp)
                                                                    · rw [if_neg c79] at H
                                                                      exact absurd H (by simp)
                                                                  · rw [if_neg c78] at H
                                                                    exact absurd H (by simp)
                                                                · rw [if_neg c76] at H
                                                                  exact absurd H (by simp)
                                                              · rw [if_neg c74] at H
                                                                exact absurd H (by simp)
                                                            · rw [if_neg c73] at H
                                                              exact absurd H (by simp)
                                                          · rw [if_neg c72] at H
                                                            have c72b0 : (x124_5 == ((rd_T60 x6_2 0).f0)) = false := beq_eq_false_iff_ne.mpr c72
                                                            have c72b1 : (x124_5 != ((rd_T60 x6_2 0).f0)) = true := bne_iff_ne.mpr c72
                                                            by_cases c90 : x124_5 = ((rd_T60 x6_2 1).f0)
                                                            · rw [if_pos c90] at H
                                                              have c90b0 : (x124_5 == ((rd_T60 x6_2 1).f0)) = true := beq_iff_eq.mpr c90
                                                              have c90b1 : (x124_5 != ((rd_T60 x6_2 1).f0)) = false := bne_eq_false_iff_eq.mpr c90
                                                              clear c90
                                                              have H' := Aside0.mk H
                                                              clear H
                                                              have p362 : 0 ≤ (x124_5 : Int) := of_decide_eq_true (by first | (with_reducible assumption) | assumption)
                                                              have q362 : x124_5 < (l0.length : Int) := of_decide_eq_true (by first | (with_reducible assumption) | assumption)
                                                              obtain ⟨ad362, A362_0, c362_0, e362, hx362_0, hl362_0, hi362_0⟩ := at_L1 HR0.out x124_5 p362 q362
                                                              obtain rfl : ad334 = ad362 := (by injection e362)
                                                              replace hx362_0 := (HB.out.cell (World.block_lt_of_cell? w _ hx362_0)).trans hx362_0
                                                              have HR362_0 := Aside0.mk hi362_0
                                                              have HC362_0 := Aside0.mk hl362_0
                                                              clear hi362_0 hl362_0
                                                              replace p362 := eq_true p362
                                                              replace q362 := eq_true q362
                                                              go_wp2
                                                              go_roundg k5
                                                              case measure => have := HJ2.out; have := HK2.out; have := HJ23.out; have := HJ44.out; have := HK5.out; omega
                                                              case rel => exact ⟨(x18_5), (wrap64 (x124_5 + 1)), (by first | rfl | (simp; done) | (simp [*]; done)), H', ⟨by have := HJ2.out; have := HK2.out; have := HJ23.out; have := HJ44.out; have := HK5.out; omega⟩, ⟨by (with_reducible repeat (first | apply Kd.R_alloc | apply Kd.R_drewN | apply Kd.R_drew)); exact HO_13.out⟩, ⟨by (with_reducible repeat (first | apply Kd.R_alloc | apply Kd.R_drewN | apply Kd.R_drew)); exact HO_17.out⟩, ⟨by (with_reducible repeat (first | apply Kd.S_alloc | apply Kd.S_drewN | apply Kd.S_drew)); exact HO_18.out⟩, ⟨by repeat (first | (with_reducible first | exact HB.out | apply below_alloc | apply pw_below_drewN | apply below_drew1) | exact HB.out)⟩⟩
                                                            · rw [if_neg c90] at H
                                                              have c90b0 : (x124_5 == ((rd_T60 x6_2 1).f0)) = false := beq_eq_false_iff_ne.mpr c90
                                                              have c90b1 : (x124_5 != ((rd_T60 x6_2 1).f0)) = true := bne_iff_ne.mpr c90
                                                              replace H := Option.bind_eq_some_iff.mp H
                                                              obtain ⟨t383, A910, H⟩ := H
                                                              replace H : (if x18_5.length < 5864062014805 then (impl_GluePolygons.l2 k5 ((rd_T60 x6_2 0).f0) ((rd_T60 x6_2 1).f0) t335 ((rd_T60 x6_2 0).f1) y352 (x18_5 ++ [t383]) l0 (l0.length : Int) (wrap64 (x124_5 + 1))) else (none)) = some (r1, r2) := H
                                                              have A91 := Aside0.mk A910
                                                              clear A910
                                                              by_cases c92 : x18_5.length < 5864062014805
                                                              · rw [if_pos c92] at H
                                                                have LMc92 := Aside0.mk c92
                                                                clear c92
                                                                obtain ⟨y386, hy386⟩ : ∃ y_ : List (List Int), y_ = (x18_5 ++ [t383]) := ⟨_, rfl⟩
                                                                replace H : (impl_GluePolygons.l2 k5 ((rd_T60 x6_2 0).f0) ((rd_T60 x6_2 1).f0) t335 ((rd_T60 x6_2 0).f1) y352 y386 l0 (l0.length : Int) (wrap64 (x124_5 + 1))) = some (r1, r2) := by first | (rw [hy386]; with_reducible exact H) | (have H2_ := (Option.bind_some _ _).symm.trans H; rw [hy386]; with_reducible exact H2_) | (have H2_ := (Option.bind_some _ _).symm.trans H; with_reducible exact H2_) | with_reducible exact H | (rw [hy386]; exact H) | exact H
                                                                have Ny386 := Aside0.mk hy386
                                                                clear hy386
                                                                have H' := Aside0.mk H
                                                                clear H
                                                                have p362 : 0 ≤ (x124_5 : Int) := of_decide_eq_true (by first | (with_reducible assumption) | assumption)
                                                                have q362 : x124_5 < (l0.length : Int) := of_decide_eq_true (by first | (with_reducible assumption) | assumption)
                                                                obtain ⟨ad362, A362_0, c362_0, e362, hx362_0, hl362_0, hi362_0⟩ := at_L1 HR0.out x124_5 p362 q362
                                                                obtain rfl : ad334 = ad362 := (by injection e362)
                                                                replace hx362_0 := (HB.out.cell (World.block_lt_of_cell? w _ hx362_0)).trans hx362_0
                                                                have HR362_0 := Aside0.mk hi362_0
                                                                have HC362_0 := Aside0.mk hl362_0
                                                                clear hi362_0 hl362_0
                                                                replace p362 := eq_true p362
                                                                replace q362 := eq_true q362
                                                                go_wp2_with (first | ((with_reducible refine gate_callee (f := 68) rfl ?_); refine goesL_ (some 132) rfl rfl Try.func68 (by kernel_rfl) rfl #[.slice A362_0 (rd_L1 l0 x124_5).length c362_0] rfl (by (try simp only [List.map_toArray, List.map_cons, List.map_nil]); first | done | rfl | (simp only [List.length_drop, List.length_take]; rfl)) ?_; (with_reducible refine (impl_copyOf.calls _ _ (rd_L1 l0 x124_5) t383 _ ?side1 ?side2 A91.out).mono ?_); (case side1 => repeat (first | exact (Kd.C_below HR362_0.out HB.out) | (with_reducible refine Kd.C_alloc ?_ _) | (with_reducible refine Kd.C_drewN ?_ _) | (with_reducible refine Kd.C_drew ?_))); (case side2 => exact HC362_0.out); rintro e w93 ⟨v384, rfl, ho0, hb⟩; refine ⟨_, rfl, ?_⟩; have n0_ := Aside0.mk (Kd.R_elder' (by (with_reducible repeat (first | apply Kd.R_alloc | apply Kd.R_drewN | apply Kd.R_drew)); exact HO_13.out) (Kd.R_base ho0) hb); have n1_ := Aside0.mk (Kd.R_elder' (by (with_reducible repeat (first | apply Kd.R_alloc | apply Kd.R_drewN | apply Kd.R_drew)); exact HO_17.out) (Kd.R_base ho0) hb); have n2_ := Aside0.mk (Kd.S_elder' (by (with_reducible repeat (first | apply Kd.S_alloc | apply Kd.S_drewN | apply Kd.S_drew)); exact HO_18.out) (Kd.R_base ho0) hb); have n3_ := Aside0.mk (Kd.R_lower (Kd.R_new' (Kd.R_new' (Kd.R_newM (M := fun k_ => (w.heap.size ≤ k_)) ho0 (below_size (by repeat (first | (with_reducible first | exact HB.out | apply below_alloc | apply pw_below_drewN | apply below_drew1) | exact HB.out))) (fun k_ h_ => h_)) (Kd.R_lt (by (with_reducible repeat (first | apply Kd.R_alloc | apply Kd.R_drewN | apply Kd.R_drew)); exact HO_13.out))) (Kd.R_lt (by (with_reducible repeat (first | apply Kd.R_alloc | apply Kd.R_drewN | apply Kd.R_drew)); exact HO_17.out))) (below_size (by repeat (first | (with_reducible first | exact HB.out | apply below_alloc | apply pw_below_drewN | apply below_drew1) | exact HB.out)))); have n4_ := Aside0.mk (below_step (by repeat (first | (with_reducible first | exact HB.out | apply below_alloc | apply pw_below_drewN | apply below_drew1) | exact HB.out)) hb); clear HO_13; clear HO_17; clear HO_18; clear HB; have HO_13 := n0_; have HO_17 := n1_; have HO_18 := n2_; have HO385 := n3_; have HB := n4_; clear n0_ n1_ n2_ n3_ n4_; (try clear hb); (try clear hb2); (try clear hk); (try clear hi); (try clear ho0); obtain ⟨Ao95, co95, eo95⟩ := Kd.R_slice HO385.out; subst eo95) | ((with_reducible refine gate_builtin (b := .append) (xs := #[.tmp 130, .tmp 133]) rfl ?_); at_builtin; refine Kd.S_append (Kd.slice 3 (Kd.int .i64)) (w0 := w) w.heap.size rfl (.tmp 130) (.tmp 133) 22 47 (.slice none 0 0) 24 rfl Try.underlying22 info47 rfl (by decide) (by omega) u18 x18_5 t383 [.slice Ao95 t383.length co95] (fun k_ => (w.heap.size ≤ k_) ∧ some k_ ≠ (.slice (some ad344) t335.length co53 : Value).ownBlock ∧ some k_ ≠ (.slice Ao65 y352.length co65 : Value).ownBlock) (fun k_ => some k_ = (.slice Ao95 t383.length co95 : Value).ownBlock) rfl rfl ?aP (fun k_ hk_ => ((Kd.R_mono (ok' := fun k_ => ((fun k_ => (w.heap.size ≤ k_) ∧ some k_ ≠ (.slice (some ad344) t335.length co53 : Value).ownBlock ∧ some k_ ≠ (.slice Ao65 y352.length co65 : Value).ownBlock)) k_ ∧ some k_ ≠ (u18 : Value).ownBlock) (Kd.R_apart' (HO385.out) (Kd.S_typed HO_18.out) (by decide)) (fun k_ hk => ⟨⟨hk.1.1.1.1, ⟨hk.1.1.2, hk.1.2⟩⟩, hk.2⟩))).1 k_ hk_.symm) ?aF ?aO ?aB ?aS ?aL ?_; (case aP => exact Kd.M_row (Kd.R_mono (Kd.R_tight rfl (Kd.R_mono (ok' := fun k_ => ((fun k_ => (w.heap.size ≤ k_) ∧ some k_ ≠ (.slice (some ad344) t335.length co53 : Value).ownBlock ∧ some k_ ≠ (.slice Ao65 y352.length co65 : Value).ownBlock)) k_ ∧ some k_ ≠ (u18 : Value).ownBlock) (Kd.R_apart' (HO385.out) (Kd.S_typed HO_18.out) (by decide)) (fun k_ hk => ⟨⟨hk.1.1.1.1, ⟨hk.1.1.2, hk.1.2⟩⟩, hk.2⟩))) (fun _ h_ => h_))); (case aB => exact (by repeat (first | (with_reducible first | exact HB.out | apply below_alloc | apply pw_below_drewN | apply below_drew1) | exact HB.out))); (case aF => exact (fun k_ hk => ⟨(Nat.le_trans (below_size (by repeat (first | (with_reducible first | exact HB.out | apply below_alloc | apply pw_below_drewN | apply below_drew1) | exact HB.out))) hk), Kd.fresh' (Kd.R_lt (by (with_reducible repeat (first | apply Kd.R_alloc | apply Kd.R_drewN | apply Kd.R_drew)); exact HO_13.out)) k_ hk, Kd.fresh' (Kd.R_lt (by (with_reducible repeat (first | apply Kd.R_alloc | apply Kd.R_drewN | apply Kd.R_drew)); exact HO_17.out)) k_ hk⟩)); (case aO => exact (by (with_reducible repeat (first | apply Kd.S_alloc | apply Kd.S_drewN | apply Kd.S_drew)); exact Kd.S_mono HO_18.out (fun k_ hk => ⟨⟨hk.1.1, ⟨hk.1.2.1, hk.1.2.2⟩⟩, fun e_ => hk.2 e_⟩))); (case aS => exact (below_size (by repeat (first | (with_reducible first | exact HB.out | apply below_alloc | apply pw_below_drewN | apply below_drew1) | exact HB.out)))); (case aL => have := LMc92.out; omega); intro v387 w94 ho hb hg hat; rw [← Ny386.out] at ho; have n0_ := Aside0.mk (Kd.R_over' (by (with_reducible repeat (first | apply Kd.R_alloc | apply Kd.R_drewN | apply Kd.R_drew)); exact HO_13.out) (Kd.S_typed (by (with_reducible repeat (first | apply Kd.S_alloc | apply Kd.S_drewN | apply Kd.S_drew)); exact HO_18.out)) (by decide) hg); have n1_ := Aside0.mk (Kd.R_over' (by (with_reducible repeat (first | apply Kd.R_alloc | apply Kd.R_drewN | apply Kd.R_drew)); exact HO_17.out) (Kd.S_typed (by (with_reducible repeat (first | apply Kd.S_alloc | apply Kd.S_drewN | apply Kd.S_drew)); exact HO_18.out)) (by decide) hg); have n2_ := Aside0.mk (hb); have n3_ := Aside0.mk (ho); clear HO_13; clear HO_17; clear HB; clear HO_18; clear HO385; have HO_13 := n0_; have HO_17 := n1_; have HB := n2_; have HO388 := n3_; clear n0_ n1_ n2_ n3_; clear ho hb hg hat))
                                                                go_roundg k5
                                                                case measure => have := HJ2.out; have := HK2.out; have := HJ23.out; have := HJ44.out; have := HK5.out; omega
                                                                case rel => exact ⟨(y386), (wrap64 (x124_5 + 1)), (by first | rfl | (simp; done) | (simp [*]; done)), H', ⟨by have := HJ2.out; have := HK2.out; have := HJ23.out; have := HJ44.out; have := HK5.out; omega⟩, ⟨by (with_reducible repeat (first | apply Kd.R_alloc | apply Kd.R_drewN | apply Kd.R_drew)); exact Kd.R_mono HO_13.out (fun _ hk => ⟨hk.1.1, hk.1.2⟩)⟩, ⟨by (with_reducible repeat (first | apply Kd.R_alloc | apply Kd.R_drewN | apply Kd.R_drew)); exact Kd.R_mono HO_17.out (fun _ hk => ⟨hk.1.1, hk.1.2⟩)⟩, ⟨by (with_reducible repeat (first | apply Kd.S_alloc | apply Kd.S_drewN | apply Kd.S_drew)); exact HO388.out⟩, ⟨by repeat (first | (with_reducible first | exact HB.out | apply below_alloc | apply pw_below_drewN | apply below_drew1) | exact HB.out)⟩⟩
                                                              · rw [if_neg c92] at H
                                                                exact absurd H (by simp)
                                                        · rw [if_neg c71] at H
                                                          exact absurd H (by simp)
                                                      · rw [if_neg c70] at H
                                                        exact absurd H (by simp)
                                                    · rw [if_neg c69] at H
                                                      have c69b0 : decide (x124_5 < (l0.length : Int)) = false := decide_eq_false c69
                                                      clear c69
                                                      replace H := Option.bind_eq_some_iff.mp H
                                                      obtain ⟨⟨t358, t361⟩, A960, H⟩ := H
                                                      replace H : (some (t358, t361)) = some (r1, r2) := H
                                                      have A96 := Aside0.mk A960
                                                      clear A960
                                                      simp only [Option.some.injEq, Prod.mk.injEq] at H
                                                      obtain ⟨rfl, rfl⟩ := H
                                                      obtain ⟨Ao97, co97, eo97⟩ := Kd.S_slice HO_18.out
                                                      subst eo97
                                                      go_wp2_with (first | ((with_reducible refine gate_callee (f := 60) rfl ?_); refine goesL_ (some 157) rfl rfl Try.func60 (by kernel_rfl) rfl #[.slice Ao97 x18_5.length co97] rfl (by (try simp only [List.map_toArray, List.map_cons, List.map_nil]); first | done | rfl | (simp only [List.length_drop, List.length_take]; rfl)) ?_; (with_reducible refine (impl_moved.calls k5 (fun k_ => ((w.heap.size ≤ k_) ∧ (some k_ ≠ (.slice (some ad344) t335.length co53 : Value).ownBlock ∧ some k_ ≠ (.slice Ao65 y352.length co65 : Value).ownBlock))) w.heap.size _ _ x18_5 t358 t361 _ (below_size (by repeat (first | (with_reducible first | exact HB.out | apply below_alloc | apply pw_below_drewN | apply below_drew1) | exact HB.out))) ?side1 A96.out).mono ?_); (case side1 => exact S_id0 (HO_18.out)); rintro e w98 ⟨v359, rfl, ho0, hb⟩; refine ⟨_, rfl, ?_⟩; have n0_ := Aside0.mk (Kd.R_below (by (with_reducible repeat (first | apply Kd.R_alloc | apply Kd.R_drewN | apply Kd.R_drew)); exact HO_13.out) hb); have n1_ := Aside0.mk (Kd.R_below (by (with_reducible repeat (first | apply Kd.R_alloc | apply Kd.R_drewN | apply Kd.R_drew)); exact HO_17.out) hb); have n2_ := Aside0.mk (Kd.S_below (by (with_reducible repeat (first | apply Kd.S_alloc | apply Kd.S_drewN | apply Kd.S_drew)); exact HO_18.out) hb); have n3_ := Aside0.mk (S_low0 (Kd.S_mono (ok' := fun k_ => (w.heap.size ≤ k_) ∧ some k_ ≠ (.slice (some ad344) t335.length co53 : Value).ownBlock ∧ some k_ ≠ (.slice Ao65 y352.length co65 : Value).ownBlock) ho0 (fun k_ hk_ => ⟨Or.elim hk_ (fun hs_ => hs_.1) (fun hn_ => (Nat.le_trans (below_size (by repeat (first | (with_reducible first | exact HB.out | apply below_alloc | apply pw_below_drewN | apply below_drew1) | exact HB.out))) hn_)), Or.elim hk_ (fun hs_ => hs_.2.1) (fun hn_ => (Kd.fresh' (Kd.R_lt (by (with_reducible repeat (first | apply Kd.R_alloc | apply Kd.R_drewN | apply Kd.R_drew)); exact HO_13.out)) k_ hn_)), Or.elim hk_ (fun hs_ => hs_.2.2) (fun hn_ => (Kd.fresh' (Kd.R_lt (by (with_reducible repeat (first | apply Kd.R_alloc | apply Kd.R_drewN | apply Kd.R_drew)); exact HO_17.out)) k_ hn_))⟩)) (below_size (by repeat (first | (with_reducible first | exact HB.out | apply below_alloc | apply pw_below_drewN | apply below_drew1) | exact HB.out)))); have n4_ := Aside0.mk (below_step (by repeat (first | (with_reducible first | exact HB.out | apply below_alloc | apply pw_below_drewN | apply below_drew1) | exact HB.out)) hb); clear HO_13; clear HO_17; clear HO_18; clear HB; have HO_13 := n0_; have HO_17 := n1_; have HO_18 := n2_; have HO360 := n3_; have HB := n4_; clear n0_ n1_ n2_ n3_ n4_; (try clear hb); (try clear hb2); (try clear hk); (try clear hi); (try clear ho0)))
                                                      go_ret2
                                                      exact ⟨_, by first | rfl | (simp [errW_none, errW_some] <;> rfl) | (simp only [← hji60]; first | rfl | (simp [errW_none, errW_some] <;> rfl)) | (simp [*, errW_none, errW_some] <;> rfl), by (with_reducible repeat (first | apply Kd.S_alloc | apply Kd.S_drewN | apply Kd.S_drew)); exact Kd.S_mono HO360.out (fun _ hk => hk.1), by repeat (first | (with_reducible first | exact HB.out | apply below_alloc | apply pw_below_drewN | apply below_drew1) | exact HB.out)⟩
                                              · rw [if_neg c62] at H
                                                exact absurd H (by simp)
                                            · rw [if_neg c61] at H
                                              exact absurd H (by simp)
                                      · rw [if_neg c44] at H
                                        exact absurd H (by simp)
                                    · rw [if_neg c43] at H
                                      exact absurd H (by simp)
                                  · rw [if_neg c42] at H
                                    exact absurd H (by simp)
                                · rw [if_neg c41] at H
                                  exact absurd H (by simp)
                              · rw [if_neg c39] at H
                                exact absurd H (by simp)
                            · rw [if_neg c38] at H
                              exact absurd H (by simp)
                          · rw [if_neg c36] at H
                            exact absurd H (by simp)
                        · rw [if_neg c35] at H
                          exact absurd H (by simp)
                      · rw [if_neg c34] at H
                        exact absurd H (by simp)
                    · rw [if_neg c33] at H
                      exact absurd H (by simp)
end Go.Proofs.Ytlnddmkkgjlmbaa.QFnExactOnePolygon
