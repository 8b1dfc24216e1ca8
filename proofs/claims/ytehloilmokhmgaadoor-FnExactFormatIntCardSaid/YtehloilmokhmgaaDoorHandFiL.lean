/- The law FnExactFormatInt, walked. Conditions: the whole number is an int; the table of powers of ten reads as it is laid. -/
import Derived.Test.YtehloilmokhmgaaDoorHandFi
namespace Go.Proofs.YtehloilmokhmgaaDoor.PFnExactFormatInt
open Go.RowKit Go.Proofs.YtehloilmokhmgaaDoorW.PrintWords Go.Proofs.YtehloilmokhmgaaDoorW.PrintLast Go.Proofs.YtehloilmokhmgaaDoorW.PrintMore Go.Proofs.YtehloilmokhmgaaDoor.Com
attribute [local go_sem] max2_int min2_int max_two min_two max_three min_three max_four min_four
set_option linter.unusedVariables false
set_option linter.unusedSimpArgs false
set_option maxHeartbeats 8000000 in
set_option maxRecDepth 100000 in
theorem law_calls (x : Int) (h0 : -9223372036854775808 ≤ x) (h1 : x ≤ 9223372036854775807) (w : World) (ht : Tab w) : Calls Tryd.prog 3 #[.int .i64 x] w fun e w' => e = .returned (.bool true) ∧ Below w.heap.size w w' := by
  have HT := Aside0.mk ht
  clear ht
  go_enter Tryd.func3, Tryd.ntmps3
  go_wp2_with fail
  go_at_call 5
  refine (spec_FormatInt.told x h0 h1 _).mono ?_
  rintro e w1 ⟨rfl, hb1⟩
  go_wp2_with fail
  go_at_call 6
  refine (impl_FormatInt.told x h0 h1 _ (tab_on HT.out hb1)).mono ?_
  rintro e w2 ⟨rfl, hb2⟩
  generalize itoaB x = s
  go_wp2_with fail
  go_ret
  exact ⟨rfl, below_step hb1 hb2⟩
end Go.Proofs.YtehloilmokhmgaaDoor.PFnExactFormatInt
