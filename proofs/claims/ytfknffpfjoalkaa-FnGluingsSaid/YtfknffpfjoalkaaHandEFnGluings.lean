/- EulerOf of the program, by hand: the sum of counts. Conditions: at most four polygons of at most 24 letters each, none empty. -/
import Derived.Test.YtfknffpfjoalkaaHandVFnGluings
namespace Go.Proofs.Ytfknffpfjoalkaa.QFnGluings
open Go.RowKit Go.Proofs.YtfknffpfjoalkaaW.PrintWords Go.Proofs.YtfknffpfjoalkaaW.PrintLast Go.Proofs.YtfknffpfjoalkaaW.PrintMore Go.Proofs.Ytfknffpfjoalkaa.Com Go.Proofs.Ytfknffpfjoalkaa.Joi Go.Proofs.Ytfknffpfjoalkaa.Kl
attribute [local go_sem] max2_int min2_int max_two min_two max_three min_three max_four min_four
set_option linter.unusedVariables false
set_option linter.unusedSimpArgs false
noncomputable def impl_EulerOf.f (k : Nat) (l0 : List (List Int)) : Option Int := (impl_IsGluing.f k l0).bind fun t => if t = true then ((impl_CountVertices.f k l0).bind fun v => (impl_EdgeLetters.f k l0).bind fun e => if (0 ≤ v ∧ v ≤ 1048576) ∧ e.length ≤ 1048576 ∧ l0.length ≤ 1048576 then some (v - (e.length : Int) + (l0.length : Int)) else none) else some (-100)
set_option maxHeartbeats 16000000 in
set_option maxRecDepth 100000 in
theorem impl_EulerOf.calls (k : Nat) (A0 : Option Addr) (c0 : Nat) (l0 : List (List Int)) (r : Int) (w : World) (hr0 : Kd.C (Kd.slice 3 (Kd.int .i64)) w A0 l0.length l0) (hc0 : l0.length ≤ c0) (h : impl_EulerOf.f k l0 = some r) :
  Calls Try.prog 40 #[.slice A0 l0.length c0] w fun e w' => e = .returned (.int .i64 r) ∧ Below w.heap.size w w' := by
 have HR0 := Aside0.mk hr0
 have HC0 := Aside0.mk hc0
 obtain ⟨t, A10, H⟩ := Option.bind_eq_some_iff.mp h
 have A1 := Aside0.mk A10
 clear A10 h hr0 hc0
 cases t with
 | false =>
  rw [if_neg Bool.false_ne_true] at H
  obtain rfl := Option.some.inj H
  go_enter Try.func40, Try.ntmps40
  go_wp2_with fail
  go_at_call 18
  refine (impl_IsGluing.calls k A0 c0 l0 false w HR0.out HC0.out A1.out).mono ?_
  rintro e w1 ⟨rfl, hb⟩
  go_wp2
  go_ret
  exact ⟨rfl, hb⟩
 | true =>
  rw [if_pos rfl] at H
  obtain ⟨v, E1, H⟩ := Option.bind_eq_some_iff.mp H
  obtain ⟨e, E2, H⟩ := Option.bind_eq_some_iff.mp H
  by_cases hm : (0 ≤ v ∧ v ≤ 1048576) ∧ e.length ≤ 1048576 ∧ l0.length ≤ 1048576
  case neg => rw [if_neg hm] at H; cases H
  rw [if_pos hm] at H
  obtain rfl := Option.some.inj H
  have A2 := Aside0.mk E1
  have A3 := Aside0.mk E2
  have b1 : 0 ≤ v := hm.1.1
  have b2 : v ≤ 1048576 := hm.1.2
  have b3 : (e.length : Int) ≤ 1048576 := by have := hm.2.1; omega
  have b4 : (l0.length : Int) ≤ 1048576 := by have := hm.2.2; omega
  clear H E1 E2 hm
  go_enter Try.func40, Try.ntmps40
  go_wp2_with fail
  go_at_call 18
  refine (impl_IsGluing.calls k A0 c0 l0 true w HR0.out HC0.out A1.out).mono ?_
  rintro e0 w1 ⟨rfl, hb⟩
  have HB1 := Aside0.mk hb
  clear hb
  go_wp2_with fail
  go_at_call 36
  refine (impl_CountVertices.calls k A0 c0 l0 v w1 (Kd.C_below HR0.out HB1.out) HC0.out A2.out).mono ?_
  rintro e2 w2 ⟨rfl, hb⟩
  have HB2 := Aside0.mk (below_step HB1.out hb)
  clear hb HB1
  go_wp2_with fail
  go_at_call 21
  refine (impl_EdgeLetters.calls k A0 c0 l0 e w2 (Kd.C_below HR0.out HB2.out) HC0.out A3.out).mono ?_
  rintro e3 w3 ⟨v3, rfl, hs, hb⟩
  obtain ⟨D, cd, rfl⟩ := Kd.R_slice hs
  have HB3 := Aside0.mk (below_step HB2.out hb)
  clear hb hs HB2
  go_wp2
  go_ret
  exact ⟨rfl, HB3.out⟩
end Go.Proofs.Ytfknffpfjoalkaa.QFnGluings
