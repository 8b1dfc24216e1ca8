/- SurfaceName of the program and SurfaceName of the reference give the same text for all three numbers. Conditions: those that the printed statement itself names (lengths and numbers that fit). -/
import Derived.Test.YtehloilmokhmgaaDoorQFnExactSurfaceNamex3
import Derived.Test.YtehloilmokhmgaaDoorCom
namespace Go.Proofs.YtehloilmokhmgaaDoor.Pure
open Classical Go.RowKit Go.Proofs.YtehloilmokhmgaaDoor.QFnExactSurfaceName Go.Proofs.YtehloilmokhmgaaDoorW.PrintWords Go.Proofs.YtehloilmokhmgaaDoorW.PrintLast Go.Proofs.YtehloilmokhmgaaDoor.Com

/-! within -/
theorem within_eq (a b c : Int) : impl_within.f a b c = some (decide (b ≤ a ∧ a ≤ c)) := by
  unfold impl_within.f
  split <;> simp <;> omega

/-! l1In -/
theorem l1In_eq (a b c : Int) : spec_l1In.f a b c = some (decide (b ≤ a ∧ a ≤ c)) := by
  unfold spec_l1In.f
  split <;> simp <;> omega

/-! isSurface -/
/-- Both tell a surface alike. -/
theorem isSurface_eq (a b c : Int) : ∃ o, spec_IsSurface.f a b c = some o ∧ impl_IsSurface.f a b c = some o ∧ (o = true ↔ (0 ≤ a ∧ a ≤ 20) ∧ (0 ≤ b ∧ b ≤ 20) ∧ (0 ≤ c ∧ c ≤ 20) ∧ (a = 0 ∨ b = 0)) := by
  unfold spec_IsSurface.f impl_IsSurface.f
  simp only [within_eq, l1In_eq, Option.bind_some]
  by_cases h1 : 0 ≤ a ∧ a ≤ 20
  case neg => exact ⟨false, by simp only [decide_eq_false h1]; rfl, by simp only [decide_eq_false h1]; rfl, by simp only [h1, Bool.false_eq_true, false_and]⟩
  by_cases h2 : 0 ≤ b ∧ b ≤ 20
  case neg => exact ⟨false, by simp only [decide_eq_true h1, decide_eq_false h2]; rfl, by simp only [decide_eq_true h1, decide_eq_false h2]; rfl, by simp only [h2, Bool.false_eq_true, false_and, and_false]⟩
  by_cases h3 : 0 ≤ c ∧ c ≤ 20
  case neg => exact ⟨false, by simp only [decide_eq_true h1, decide_eq_true h2, decide_eq_false h3]; rfl, by simp only [decide_eq_true h1, decide_eq_true h2, decide_eq_false h3]; rfl, by simp only [h3, Bool.false_eq_true, false_and, and_false]⟩
  simp only [decide_eq_true h1, decide_eq_true h2, decide_eq_true h3, if_true]
  by_cases h4 : a = 0
  · exact ⟨true, by rw [if_pos h4], by rw [if_pos h4], by simp only [true_iff]; exact ⟨h1, h2, h3, .inl h4⟩⟩
  · refine ⟨b == 0, by rw [if_neg h4], by rw [if_neg h4], ?_⟩
    rw [beq_iff_eq]
    exact ⟨fun h => ⟨h1, h2, h3, .inr h⟩, fun h => h.2.2.2.resolve_left h4⟩

/-! surfName -/
theorem itoaB_size (x : Int) (h0 : 0 ≤ x) (h1 : x ≤ 20) : (itoaB x).size ≤ 2 := by
  obtain ⟨u, rfl⟩ : ∃ u : Nat, x = u := ⟨x.toNat, by omega⟩
  unfold itoaB
  rw [ba_size, Lib.itoa_nonneg, Lib.decDigits_length]
  by_cases h : u < 10
  · rw [Lib.nDigits_small h]; omega
  · rw [Lib.nDigits_big h, Lib.nDigits_small (by omega)]; omega
abbrev tTorus : ByteArray := ⟨#[116, 111, 114, 117, 115]⟩
abbrev tMinus : ByteArray := ⟨#[32, 109, 105, 110, 117, 115, 32]⟩
abbrev tDouble : ByteArray := ⟨#[100, 111, 117, 98, 108, 101, 32, 116, 111, 114, 117, 115]⟩
abbrev tHandles : ByteArray := ⟨#[32, 104, 97, 110, 100, 108, 101, 115]⟩
abbrev tPlane : ByteArray := ⟨#[112, 114, 111, 106, 101, 99, 116, 105, 118, 101, 32, 112, 108, 97, 110, 101]⟩
abbrev tKlein : ByteArray := ⟨#[107, 108, 101, 105, 110, 32, 98, 111, 116, 116, 108, 101]⟩
abbrev tCaps : ByteArray := ⟨#[32, 99, 114, 111, 115, 115, 99, 97, 112, 115]⟩
abbrev tSphere : ByteArray := ⟨#[115, 112, 104, 101, 114, 101]⟩
/-- The name of a closed surface. -/
def closedB (a b : Int) : ByteArray := if a = 1 then tTorus else if a = 2 then tDouble else if a > 2 then itoaB a ++ tHandles else if b = 1 then tPlane else if b = 2 then tKlein else if b > 2 then itoaB b ++ tCaps else tSphere
/-- The name of a surface. -/
def nameB (a b c : Int) : ByteArray := if c > 0 then closedB a b ++ tMinus ++ itoaB c else closedB a b
set_option linter.unusedSimpArgs false in
theorem surf_names (a b c : Int) (k : Nat) (ha0 : 0 ≤ a) (ha1 : a ≤ 20) (hb0 : 0 ≤ b) (hb1 : b ≤ 20) (hc0 : 0 ≤ c) (hc1 : c ≤ 20) (hab : a = 0 ∨ b = 0)
    (fa : spec_FormatInt.f (k + 1) a = some (itoaB a)) (fb : spec_FormatInt.f (k + 1) b = some (itoaB b)) (fc : spec_FormatInt.f (k + 1) c = some (itoaB c))
    (hs : spec_IsSurface.f a b c = some true) (hi : impl_IsSurface.f a b c = some true) :
    spec_SurfaceName.f (k + 1) a b c = some (nameB a b c) ∧ impl_SurfaceName.f (k + 1) a b c = some (nameB a b c) := by
  have ga : impl_FormatInt.f a = some (itoaB a) := by unfold impl_FormatInt.f; rw [if_pos ⟨by omega, by omega⟩]
  have gb : impl_FormatInt.f b = some (itoaB b) := by unfold impl_FormatInt.f; rw [if_pos ⟨by omega, by omega⟩]
  have gc : impl_FormatInt.f c = some (itoaB c) := by unfold impl_FormatInt.f; rw [if_pos ⟨by omega, by omega⟩]
  have sa := itoaB_size a ha0 ha1
  have sb := itoaB_size b hb0 hb1
  have sc := itoaB_size c hc0 hc1
  have na : ((itoaB a).size + 8 ≤ 9223372036854775807) = True := eq_true (by omega)
  have nb : ((itoaB b).size + 10 ≤ 9223372036854775807) = True := eq_true (by omega)
  have l5 : (5 + 7 ≤ 9223372036854775807) = True := eq_true (by omega)
  have l6 : (6 + 7 ≤ 9223372036854775807) = True := eq_true (by omega)
  have l12 : (12 + 7 ≤ 9223372036854775807) = True := eq_true (by omega)
  have l16 : (16 + 7 ≤ 9223372036854775807) = True := eq_true (by omega)
  have nc7 : (7 + (itoaB c).size ≤ 9223372036854775807) = True := eq_true (by omega)
  have nc12 : (12 + (itoaB c).size ≤ 9223372036854775807) = True := eq_true (by omega)
  have nc19 : (19 + (itoaB c).size ≤ 9223372036854775807) = True := eq_true (by omega)
  have nc23 : (23 + (itoaB c).size ≤ 9223372036854775807) = True := eq_true (by omega)
  have nc13 : (13 + (itoaB c).size ≤ 9223372036854775807) = True := eq_true (by omega)
  have na2 : ((itoaB a).size + 8 + 7 ≤ 9223372036854775807) = True := eq_true (by omega)
  have nb2 : ((itoaB b).size + 10 + 7 ≤ 9223372036854775807) = True := eq_true (by omega)
  have nac : ((itoaB a).size + 8 + 7 + (itoaB c).size ≤ 9223372036854775807) = True := eq_true (by omega)
  have nbc : ((itoaB b).size + 10 + 7 + (itoaB c).size ≤ 9223372036854775807) = True := eq_true (by omega)
  have nbc' : ((itoaB b).size + 10 + (7 + (itoaB c).size) ≤ 9223372036854775807) = True := eq_true (by omega)
  have m5 : (5 + (7 + (itoaB c).size) ≤ 9223372036854775807) = True := eq_true (by omega)
  have m6 : (6 + (7 + (itoaB c).size) ≤ 9223372036854775807) = True := eq_true (by omega)
  have m12 : (12 + (7 + (itoaB c).size) ≤ 9223372036854775807) = True := eq_true (by omega)
  have m16 : (16 + (7 + (itoaB c).size) ≤ 9223372036854775807) = True := eq_true (by omega)
  have nx : ((itoaB a ++ (⟨#[32, 104, 97, 110, 100, 108, 101, 115]⟩ : ByteArray)).size + (7 + (itoaB c).size) ≤ 9223372036854775807) = True := eq_true (by
    have e : (itoaB a ++ (⟨#[32, 104, 97, 110, 100, 108, 101, 115]⟩ : ByteArray)).size = (itoaB a).size + 8 := ByteArray.size_append
    omega)
  unfold spec_SurfaceName.f impl_SurfaceName.f nameB closedB
  simp only [impl_SurfaceName.j0]
  rw [hs, hi]
  rcases (show (a = 0 ∧ b = 0) ∨ a = 1 ∨ a = 2 ∨ a > 2 ∨ (a = 0 ∧ b = 1) ∨ (a = 0 ∧ b = 2) ∨ (a = 0 ∧ b > 2) by omega) with ⟨e1, e2⟩ | e1 | e1 | e1 | ⟨e1, e2⟩ | ⟨e1, e2⟩ | ⟨e1, e2⟩
  · rcases Classical.em (c > 0) with hc | hc
    · have f_a0 : (a = 0) = True := eq_true (by omega)
      have f_a1 : (a = 1) = False := eq_false (by omega)
      have f_a2 : (a = 2) = False := eq_false (by omega)
      have f_ag : (a > 2) = False := eq_false (by omega)
      have f_b0 : (b = 0) = True := eq_true (by omega)
      have f_b1 : (b = 1) = False := eq_false (by omega)
      have f_b2 : (b = 2) = False := eq_false (by omega)
      have f_bg : (b > 2) = False := eq_false (by omega)
      have f_bp : (b > 0) = False := eq_false (by omega)
      have f_c : (c > 0) = True := eq_true (by omega)
      have f_bb : (b == 0) = true := by exact beq_iff_eq.mpr (by omega)
      constructor <;> simp only [f_a0, f_a1, f_a2, f_ag, f_b0, f_b1, f_b2, f_bg, f_bp, f_c, f_bb, if_true, if_false, Option.bind_some, fa, fb, fc, ga, gb, gc, na, nb, nc7, nc12, nc19, nc23, nc13, na2, nb2, nac, nbc, nbc', m5, m6, m12, m16, nx, Bool.false_eq_true, ByteArray.append_assoc, l5, l6, l12, l16]
    · have f_a0 : (a = 0) = True := eq_true (by omega)
      have f_a1 : (a = 1) = False := eq_false (by omega)
      have f_a2 : (a = 2) = False := eq_false (by omega)
      have f_ag : (a > 2) = False := eq_false (by omega)
      have f_b0 : (b = 0) = True := eq_true (by omega)
      have f_b1 : (b = 1) = False := eq_false (by omega)
      have f_b2 : (b = 2) = False := eq_false (by omega)
      have f_bg : (b > 2) = False := eq_false (by omega)
      have f_bp : (b > 0) = False := eq_false (by omega)
      have f_c : (c > 0) = False := eq_false (by omega)
      have f_bb : (b == 0) = true := by exact beq_iff_eq.mpr (by omega)
      constructor <;> simp only [f_a0, f_a1, f_a2, f_ag, f_b0, f_b1, f_b2, f_bg, f_bp, f_c, f_bb, if_true, if_false, Option.bind_some, fa, fb, fc, ga, gb, gc, na, nb, nc7, nc12, nc19, nc23, nc13, na2, nb2, nac, nbc, nbc', m5, m6, m12, m16, nx, Bool.false_eq_true, ByteArray.append_assoc, l5, l6, l12, l16]
  · rcases Classical.em (c > 0) with hc | hc
    · have f_a0 : (a = 0) = False := eq_false (by omega)
      have f_a1 : (a = 1) = True := eq_true (by omega)
      have f_a2 : (a = 2) = False := eq_false (by omega)
      have f_ag : (a > 2) = False := eq_false (by omega)
      have f_b0 : (b = 0) = True := eq_true (by omega)
      have f_b1 : (b = 1) = False := eq_false (by omega)
      have f_b2 : (b = 2) = False := eq_false (by omega)
      have f_bg : (b > 2) = False := eq_false (by omega)
      have f_bp : (b > 0) = False := eq_false (by omega)
      have f_c : (c > 0) = True := eq_true (by omega)
      have f_bb : (b == 0) = true := by exact beq_iff_eq.mpr (by omega)
      constructor <;> simp only [f_a0, f_a1, f_a2, f_ag, f_b0, f_b1, f_b2, f_bg, f_bp, f_c, f_bb, if_true, if_false, Option.bind_some, fa, fb, fc, ga, gb, gc, na, nb, nc7, nc12, nc19, nc23, nc13, na2, nb2, nac, nbc, nbc', m5, m6, m12, m16, nx, Bool.false_eq_true, ByteArray.append_assoc, l5, l6, l12, l16]
    · have f_a0 : (a = 0) = False := eq_false (by omega)
      have f_a1 : (a = 1) = True := eq_true (by omega)
      have f_a2 : (a = 2) = False := eq_false (by omega)
      have f_ag : (a > 2) = False := eq_false (by omega)
      have f_b0 : (b = 0) = True := eq_true (by omega)
      have f_b1 : (b = 1) = False := eq_false (by omega)
      have f_b2 : (b = 2) = False := eq_false (by omega)
      have f_bg : (b > 2) = False := eq_false (by omega)
      have f_bp : (b > 0) = False := eq_false (by omega)
      have f_c : (c > 0) = False := eq_false (by omega)
      have f_bb : (b == 0) = true := by exact beq_iff_eq.mpr (by omega)
      constructor <;> simp only [f_a0, f_a1, f_a2, f_ag, f_b0, f_b1, f_b2, f_bg, f_bp, f_c, f_bb, if_true, if_false, Option.bind_some, fa, fb, fc, ga, gb, gc, na, nb, nc7, nc12, nc19, nc23, nc13, na2, nb2, nac, nbc, nbc', m5, m6, m12, m16, nx, Bool.false_eq_true, ByteArray.append_assoc, l5, l6, l12, l16]
  · rcases Classical.em (c > 0) with hc | hc
    · have f_a0 : (a = 0) = False := eq_false (by omega)
      have f_a1 : (a = 1) = False := eq_false (by omega)
      have f_a2 : (a = 2) = True := eq_true (by omega)
      have f_ag : (a > 2) = False := eq_false (by omega)
      have f_b0 : (b = 0) = True := eq_true (by omega)
      have f_b1 : (b = 1) = False := eq_false (by omega)
      have f_b2 : (b = 2) = False := eq_false (by omega)
      have f_bg : (b > 2) = False := eq_false (by omega)
      have f_bp : (b > 0) = False := eq_false (by omega)
      have f_c : (c > 0) = True := eq_true (by omega)
      have f_bb : (b == 0) = true := by exact beq_iff_eq.mpr (by omega)
      constructor <;> simp only [f_a0, f_a1, f_a2, f_ag, f_b0, f_b1, f_b2, f_bg, f_bp, f_c, f_bb, if_true, if_false, Option.bind_some, fa, fb, fc, ga, gb, gc, na, nb, nc7, nc12, nc19, nc23, nc13, na2, nb2, nac, nbc, nbc', m5, m6, m12, m16, nx, Bool.false_eq_true, ByteArray.append_assoc, l5, l6, l12, l16]
    · have f_a0 : (a = 0) = False := eq_false (by omega)
      have f_a1 : (a = 1) = False := eq_false (by omega)
      have f_a2 : (a = 2) = True := eq_true (by omega)
      have f_ag : (a > 2) = False := eq_false (by omega)
      have f_b0 : (b = 0) = True := eq_true (by omega)
      have f_b1 : (b = 1) = False := eq_false (by omega)
      have f_b2 : (b = 2) = False := eq_false (by omega)
      have f_bg : (b > 2) = False := eq_false (by omega)
      have f_bp : (b > 0) = False := eq_false (by omega)
      have f_c : (c > 0) = False := eq_false (by omega)
      have f_bb : (b == 0) = true := by exact beq_iff_eq.mpr (by omega)
      constructor <;> simp only [f_a0, f_a1, f_a2, f_ag, f_b0, f_b1, f_b2, f_bg, f_bp, f_c, f_bb, if_true, if_false, Option.bind_some, fa, fb, fc, ga, gb, gc, na, nb, nc7, nc12, nc19, nc23, nc13, na2, nb2, nac, nbc, nbc', m5, m6, m12, m16, nx, Bool.false_eq_true, ByteArray.append_assoc, l5, l6, l12, l16]
  · rcases Classical.em (c > 0) with hc | hc
    · have f_a0 : (a = 0) = False := eq_false (by omega)
      have f_a1 : (a = 1) = False := eq_false (by omega)
      have f_a2 : (a = 2) = False := eq_false (by omega)
      have f_ag : (a > 2) = True := eq_true (by omega)
      have f_b0 : (b = 0) = True := eq_true (by omega)
      have f_b1 : (b = 1) = False := eq_false (by omega)
      have f_b2 : (b = 2) = False := eq_false (by omega)
      have f_bg : (b > 2) = False := eq_false (by omega)
      have f_bp : (b > 0) = False := eq_false (by omega)
      have f_c : (c > 0) = True := eq_true (by omega)
      have f_bb : (b == 0) = true := by exact beq_iff_eq.mpr (by omega)
      constructor <;> simp only [f_a0, f_a1, f_a2, f_ag, f_b0, f_b1, f_b2, f_bg, f_bp, f_c, f_bb, if_true, if_false, Option.bind_some, fa, fb, fc, ga, gb, gc, na, nb, nc7, nc12, nc19, nc23, nc13, na2, nb2, nac, nbc, nbc', m5, m6, m12, m16, nx, Bool.false_eq_true, ByteArray.append_assoc, l5, l6, l12, l16]
    · have f_a0 : (a = 0) = False := eq_false (by omega)
      have f_a1 : (a = 1) = False := eq_false (by omega)
      have f_a2 : (a = 2) = False := eq_false (by omega)
      have f_ag : (a > 2) = True := eq_true (by omega)
      have f_b0 : (b = 0) = True := eq_true (by omega)
      have f_b1 : (b = 1) = False := eq_false (by omega)
      have f_b2 : (b = 2) = False := eq_false (by omega)
      have f_bg : (b > 2) = False := eq_false (by omega)
      have f_bp : (b > 0) = False := eq_false (by omega)
      have f_c : (c > 0) = False := eq_false (by omega)
      have f_bb : (b == 0) = true := by exact beq_iff_eq.mpr (by omega)
      constructor <;> simp only [f_a0, f_a1, f_a2, f_ag, f_b0, f_b1, f_b2, f_bg, f_bp, f_c, f_bb, if_true, if_false, Option.bind_some, fa, fb, fc, ga, gb, gc, na, nb, nc7, nc12, nc19, nc23, nc13, na2, nb2, nac, nbc, nbc', m5, m6, m12, m16, nx, Bool.false_eq_true, ByteArray.append_assoc, l5, l6, l12, l16]
  · rcases Classical.em (c > 0) with hc | hc
    · have f_a0 : (a = 0) = True := eq_true (by omega)
      have f_a1 : (a = 1) = False := eq_false (by omega)
      have f_a2 : (a = 2) = False := eq_false (by omega)
      have f_ag : (a > 2) = False := eq_false (by omega)
      have f_b0 : (b = 0) = False := eq_false (by omega)
      have f_b1 : (b = 1) = True := eq_true (by omega)
      have f_b2 : (b = 2) = False := eq_false (by omega)
      have f_bg : (b > 2) = False := eq_false (by omega)
      have f_bp : (b > 0) = True := eq_true (by omega)
      have f_c : (c > 0) = True := eq_true (by omega)
      have f_bb : (b == 0) = false := by exact beq_eq_false_iff_ne.mpr (by omega)
      constructor <;> simp only [f_a0, f_a1, f_a2, f_ag, f_b0, f_b1, f_b2, f_bg, f_bp, f_c, f_bb, if_true, if_false, Option.bind_some, fa, fb, fc, ga, gb, gc, na, nb, nc7, nc12, nc19, nc23, nc13, na2, nb2, nac, nbc, nbc', m5, m6, m12, m16, nx, Bool.false_eq_true, ByteArray.append_assoc, l5, l6, l12, l16]
    · have f_a0 : (a = 0) = True := eq_true (by omega)
      have f_a1 : (a = 1) = False := eq_false (by omega)
      have f_a2 : (a = 2) = False := eq_false (by omega)
      have f_ag : (a > 2) = False := eq_false (by omega)
      have f_b0 : (b = 0) = False := eq_false (by omega)
      have f_b1 : (b = 1) = True := eq_true (by omega)
      have f_b2 : (b = 2) = False := eq_false (by omega)
      have f_bg : (b > 2) = False := eq_false (by omega)
      have f_bp : (b > 0) = True := eq_true (by omega)
      have f_c : (c > 0) = False := eq_false (by omega)
      have f_bb : (b == 0) = false := by exact beq_eq_false_iff_ne.mpr (by omega)
      constructor <;> simp only [f_a0, f_a1, f_a2, f_ag, f_b0, f_b1, f_b2, f_bg, f_bp, f_c, f_bb, if_true, if_false, Option.bind_some, fa, fb, fc, ga, gb, gc, na, nb, nc7, nc12, nc19, nc23, nc13, na2, nb2, nac, nbc, nbc', m5, m6, m12, m16, nx, Bool.false_eq_true, ByteArray.append_assoc, l5, l6, l12, l16]
  · rcases Classical.em (c > 0) with hc | hc
    · have f_a0 : (a = 0) = True := eq_true (by omega)
      have f_a1 : (a = 1) = False := eq_false (by omega)
      have f_a2 : (a = 2) = False := eq_false (by omega)
      have f_ag : (a > 2) = False := eq_false (by omega)
      have f_b0 : (b = 0) = False := eq_false (by omega)
      have f_b1 : (b = 1) = False := eq_false (by omega)
      have f_b2 : (b = 2) = True := eq_true (by omega)
      have f_bg : (b > 2) = False := eq_false (by omega)
      have f_bp : (b > 0) = True := eq_true (by omega)
      have f_c : (c > 0) = True := eq_true (by omega)
      have f_bb : (b == 0) = false := by exact beq_eq_false_iff_ne.mpr (by omega)
      constructor <;> simp only [f_a0, f_a1, f_a2, f_ag, f_b0, f_b1, f_b2, f_bg, f_bp, f_c, f_bb, if_true, if_false, Option.bind_some, fa, fb, fc, ga, gb, gc, na, nb, nc7, nc12, nc19, nc23, nc13, na2, nb2, nac, nbc, nbc', m5, m6, m12, m16, nx, Bool.false_eq_true, ByteArray.append_assoc, l5, l6, l12, l16]
    · have f_a0 : (a = 0) = True := eq_true (by omega)
      have f_a1 : (a = 1) = False := eq_false (by omega)
      have f_a2 : (a = 2) = False := eq_false (by omega)
      have f_ag : (a > 2) = False := eq_false (by omega)
      have f_b0 : (b = 0) = False := eq_false (by omega)
      have f_b1 : (b = 1) = False := eq_false (by omega)
      have f_b2 : (b = 2) = True := eq_true (by omega)
      have f_bg : (b > 2) = False := eq_false (by omega)
      have f_bp : (b > 0) = True := eq_true (by omega)
      have f_c : (c > 0) = False := eq_false (by omega)
      have f_bb : (b == 0) = false := by exact beq_eq_false_iff_ne.mpr (by omega)
      constructor <;> simp only [f_a0, f_a1, f_a2, f_ag, f_b0, f_b1, f_b2, f_bg, f_bp, f_c, f_bb, if_true, if_false, Option.bind_some, fa, fb, fc, ga, gb, gc, na, nb, nc7, nc12, nc19, nc23, nc13, na2, nb2, nac, nbc, nbc', m5, m6, m12, m16, nx, Bool.false_eq_true, ByteArray.append_assoc, l5, l6, l12, l16]
  · rcases Classical.em (c > 0) with hc | hc
    · have f_a0 : (a = 0) = True := eq_true (by omega)
      have f_a1 : (a = 1) = False := eq_false (by omega)
      have f_a2 : (a = 2) = False := eq_false (by omega)
      have f_ag : (a > 2) = False := eq_false (by omega)
      have f_b0 : (b = 0) = False := eq_false (by omega)
      have f_b1 : (b = 1) = False := eq_false (by omega)
      have f_b2 : (b = 2) = False := eq_false (by omega)
      have f_bg : (b > 2) = True := eq_true (by omega)
      have f_bp : (b > 0) = True := eq_true (by omega)
      have f_c : (c > 0) = True := eq_true (by omega)
      have f_bb : (b == 0) = false := by exact beq_eq_false_iff_ne.mpr (by omega)
      constructor <;> simp only [f_a0, f_a1, f_a2, f_ag, f_b0, f_b1, f_b2, f_bg, f_bp, f_c, f_bb, if_true, if_false, Option.bind_some, fa, fb, fc, ga, gb, gc, na, nb, nc7, nc12, nc19, nc23, nc13, na2, nb2, nac, nbc, nbc', m5, m6, m12, m16, nx, Bool.false_eq_true, ByteArray.append_assoc, l5, l6, l12, l16]
    · have f_a0 : (a = 0) = True := eq_true (by omega)
      have f_a1 : (a = 1) = False := eq_false (by omega)
      have f_a2 : (a = 2) = False := eq_false (by omega)
      have f_ag : (a > 2) = False := eq_false (by omega)
      have f_b0 : (b = 0) = False := eq_false (by omega)
      have f_b1 : (b = 1) = False := eq_false (by omega)
      have f_b2 : (b = 2) = False := eq_false (by omega)
      have f_bg : (b > 2) = True := eq_true (by omega)
      have f_bp : (b > 0) = True := eq_true (by omega)
      have f_c : (c > 0) = False := eq_false (by omega)
      have f_bb : (b == 0) = false := by exact beq_eq_false_iff_ne.mpr (by omega)
      constructor <;> simp only [f_a0, f_a1, f_a2, f_ag, f_b0, f_b1, f_b2, f_bg, f_bp, f_c, f_bb, if_true, if_false, Option.bind_some, fa, fb, fc, ga, gb, gc, na, nb, nc7, nc12, nc19, nc23, nc13, na2, nb2, nac, nbc, nbc', m5, m6, m12, m16, nx, Bool.false_eq_true, ByteArray.append_assoc, l5, l6, l12, l16]

/-! law.FnExactSurfaceName -/
theorem FnExactSurfaceName (a b c : Int) (wa : (Lit.int .i64 a).wf = true) (wb : (Lit.int .i64 b).wf = true) (wc : (Lit.int .i64 c).wf = true) : ∃ k, laws_FnExactSurfaceName.f k a b c = some true := by
  obtain ⟨o, h1, h2, h3⟩ := isSurface_eq a b c
  have B : ∀ x : Int, (Lit.int .i64 x).wf = true → -9223372036854775808 ≤ x ∧ x ≤ 9223372036854775807 := fun x w => by
    have h : IntKind.i64.min ≤ x ∧ x ≤ IntKind.i64.max := by simpa [Lit.wf] using w
    simpa [IntKind.min, IntKind.max, IntKind.signed, IntKind.bits] using h
  obtain ⟨ka, fa⟩ := formatInt_ev a (B a wa).1 (B a wa).2
  obtain ⟨kb, fb⟩ := formatInt_ev b (B b wb).1 (B b wb).2
  obtain ⟨kc, fc⟩ := formatInt_ev c (B c wc).1 (B c wc).2
  have key : ∃ r, spec_SurfaceName.f (ka + kb + kc + 1) a b c = some r ∧ impl_SurfaceName.f (ka + kb + kc + 1) a b c = some r := by
    cases o with
    | false =>
      refine ⟨⟨#[]⟩, ?_, ?_⟩
      · unfold spec_SurfaceName.f; rw [h1]; rfl
      · unfold impl_SurfaceName.f; rw [h2]; rfl
    | true =>
      obtain ⟨ha, hb, hc, hab⟩ := h3.1 rfl
      exact ⟨nameB a b c, surf_names a b c (ka + kb + kc) ha.1 ha.2 hb.1 hb.2 hc.1 hc.2 hab (fa _ (by omega)) (fb _ (by omega)) (fc _ (by omega)) h1 h2⟩
  obtain ⟨r, s1, s2⟩ := key
  refine ⟨ka + kb + kc + 1, ?_⟩
  unfold laws_FnExactSurfaceName.f laws_toSurface.f
  show ((spec_SurfaceName.f (ka + kb + kc + 1) a b c).bind fun t163 => ((impl_SurfaceName.f (ka + kb + kc + 1) a b c).bind fun t167 => (if t167.toList = t163.toList then (some true) else (some false)))) = some true
  rw [s1, s2]
  show (if r.toList = r.toList then (some true) else (some false)) = some true
  rw [if_pos rfl]

end Go.Proofs.YtehloilmokhmgaaDoor.Pure
