/- SwapLetters of the reference, by hand. Conditions: those of l5Swap. -/
import Derived.Test.YtlnddmkkgjlmbaaHandLFnExactSwapLetters
import Derived.Test.YtlnddmkkgjlmbaaHandIFnExactSwapLetters
namespace Go.Proofs.Ytlnddmkkgjlmbaa.QFnExactSwapLetters
open Go.RowKit Go.Proofs.YtlnddmkkgjlmbaaW.PrintWords Go.Proofs.YtlnddmkkgjlmbaaW.PrintLast Go.Proofs.YtlnddmkkgjlmbaaW.PrintMore Go.Proofs.Ytlnddmkkgjlmbaa.Com
attribute [local go_sem] max2_int min2_int max_two min_two max_three min_three max_four min_four
set_option linter.unusedVariables false
set_option linter.unusedSimpArgs false

noncomputable def spec_SwapLetters.f (k : Nat) (l0 : List (List Int)) (x y : Int) : Option (List (List Int) × Bool) := spec_l5Swap.f k l0 x y y x
set_option maxHeartbeats 8000000 in
set_option maxRecDepth 100000 in
theorem spec_SwapLetters.calls (k : Nat) (A0 : Option Addr) (c0 : Nat) (l0 : List (List Int)) (a1 : Int) (a2 : Int) (r1 : List (List Int)) (r2 : Bool) (w : World) (hr0 : Kd.C (Kd.slice 3 (Kd.int .i64)) w A0 l0.length l0) (hc0 : l0.length ≤ c0) (h : spec_SwapLetters.f k l0 a1 a2 = some (r1, r2)) :
    Calls Try.prog 25 #[.slice A0 l0.length c0, .int .i64 a1, .int .i64 a2] w fun e w' => ∃ v0_ : Value, e = .returned (.tuple #[v0_, .bool r2]) ∧ Kd.S (Kd.slice 3 (Kd.int .i64)) 47 w' w.heap.size (fun _ => True) v0_ r1 ∧ Below w.heap.size w w' := by
  have HR0 := Aside0.mk hr0
  have HC0 := Aside0.mk hc0
  have HM := Aside0.mk h
  clear hr0 hc0 h
  go_enter Try.func25, Try.ntmps25
  go_wp2_with fail
  go_at_call 71
  refine (spec_l5Swap.calls k A0 c0 l0 a1 a2 a2 a1 r1 r2 w HR0.out HC0.out HM.out).mono ?_
  rintro e w1 ⟨v, rfl, hs, hb⟩
  have HS := Aside0.mk hs
  have HB := Aside0.mk hb
  clear hs hb
  go_wp2
  go_ret2
  exact ⟨_, rfl, HS.out, HB.out⟩
end Go.Proofs.Ytlnddmkkgjlmbaa.QFnExactSwapLetters
