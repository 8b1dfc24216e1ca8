/- EulerNumber of the program and EulerNumber of the reference answer the same for all three numbers. Conditions: those that the printed statement itself names (lengths and numbers that fit). -/
import Derived.Test.YtehloilmokhmgaaPFnExactEulerNumberx1
import Derived.Test.YtehloilmokhmgaaCom
namespace Go.Proofs.Ytehloilmokhmgaa.Pure
open Classical Go.RowKit Go.Proofs.Ytehloilmokhmgaa.PFnExactEulerNumber Go.Proofs.YtehloilmokhmgaaW.PrintWords Go.Proofs.YtehloilmokhmgaaW.PrintLast Go.Proofs.Ytehloilmokhmgaa.Com

/-! within -/
theorem within_eq (a b c : Int) : impl_within.f a b c = some (decide (b ≤ a ∧ a ≤ c)) := by
  unfold impl_within.f
  split <;> simp <;> omega

/-! l1In -/
theorem l1In_eq (a b c : Int) : spec_l1In.f a b c = some (decide (b ≤ a ∧ a ≤ c)) := by
  unfold spec_l1In.f
  split <;> simp <;> omega

/-! isSurface -/
/-- Both tell a surface alike. -/
theorem isSurface_eq (a b c : Int) : ∃ o, spec_IsSurface.f a b c = some o ∧ impl_IsSurface.f a b c = some o ∧ (o = true ↔ (0 ≤ a ∧ a ≤ 20) ∧ (0 ≤ b ∧ b ≤ 20) ∧ (0 ≤ c ∧ c ≤ 20) ∧ (a = 0 ∨ b = 0)) := by
  unfold spec_IsSurface.f impl_IsSurface.f
  simp only [within_eq, l1In_eq, Option.bind_some]
  by_cases h1 : 0 ≤ a ∧ a ≤ 20
  case neg => exact ⟨false, by simp only [decide_eq_false h1]; rfl, by simp only [decide_eq_false h1]; rfl, by simp only [h1, Bool.false_eq_true, false_and]⟩
  by_cases h2 : 0 ≤ b ∧ b ≤ 20
  case neg => exact ⟨false, by simp only [decide_eq_true h1, decide_eq_false h2]; rfl, by simp only [decide_eq_true h1, decide_eq_false h2]; rfl, by simp only [h2, Bool.false_eq_true, false_and, and_false]⟩
  by_cases h3 : 0 ≤ c ∧ c ≤ 20
  case neg => exact ⟨false, by simp only [decide_eq_true h1, decide_eq_true h2, decide_eq_false h3]; rfl, by simp only [decide_eq_true h1, decide_eq_true h2, decide_eq_false h3]; rfl, by simp only [h3, Bool.false_eq_true, false_and, and_false]⟩
  simp only [decide_eq_true h1, decide_eq_true h2, decide_eq_true h3, if_true]
  by_cases h4 : a = 0
  · exact ⟨true, by rw [if_pos h4], by rw [if_pos h4], by simp only [true_iff]; exact ⟨h1, h2, h3, .inl h4⟩⟩
  · refine ⟨b == 0, by rw [if_neg h4], by rw [if_neg h4], ?_⟩
    rw [beq_iff_eq]
    exact ⟨fun h => ⟨h1, h2, h3, .inr h⟩, fun h => h.2.2.2.resolve_left h4⟩

/-! law.FnExactEulerNumber -/
theorem FnExactEulerNumber (a b c : Int) (_ : (Lit.int .i64 a).wf = true) (_ : (Lit.int .i64 b).wf = true) (_ : (Lit.int .i64 c).wf = true) : laws_FnExactEulerNumber.f a b c = some true := by
  obtain ⟨o, h1, h2, -⟩ := isSurface_eq a b c
  unfold laws_FnExactEulerNumber.f laws_toSurface.f spec_EulerNumber.f impl_EulerNumber.f
  simp only [Option.bind_some, h1, h2]
  cases o <;> simp

end Go.Proofs.Ytehloilmokhmgaa.Pure
