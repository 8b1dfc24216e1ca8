/- CountVertices of the program, by hand: the number of classes of corners. Conditions: at most four polygons of at most 24 letters each, none empty. -/
import Derived.Test.YtfknffpfjoalkaaHandCFnGluings
namespace Go.Proofs.Ytfknffpfjoalkaa.QFnGluings
open Go.RowKit Go.Proofs.YtfknffpfjoalkaaW.PrintWords Go.Proofs.YtfknffpfjoalkaaW.PrintLast Go.Proofs.YtfknffpfjoalkaaW.PrintMore Go.Proofs.Ytfknffpfjoalkaa.Com Go.Proofs.Ytfknffpfjoalkaa.Joi Go.Proofs.Ytfknffpfjoalkaa.Kl
attribute [local go_sem] max2_int min2_int max_two min_two max_three min_three max_four min_four
set_option linter.unusedVariables false
set_option linter.unusedSimpArgs false
open Classical in
noncomputable def impl_CountVertices.f (k : Nat) (l0 : List (List Int)) : Option Int := (impl_IsGluing.f k l0).bind fun t => if t = true then (if CorOk l0 then some ((vertsN l0 : Nat) : Int) else none) else some (-1)
set_option maxHeartbeats 16000000 in
set_option maxRecDepth 100000 in
theorem impl_CountVertices.calls (k : Nat) (A0 : Option Addr) (c0 : Nat) (l0 : List (List Int)) (r : Int) (w : World) (hr0 : Kd.C (Kd.slice 3 (Kd.int .i64)) w A0 l0.length l0) (hc0 : l0.length ≤ c0) (h : impl_CountVertices.f k l0 = some r) :
  Calls Try.prog 36 #[.slice A0 l0.length c0] w fun e w' => e = .returned (.int .i64 r) ∧ Below w.heap.size w w' := by
 have HR0 := Aside0.mk hr0
 have HC0 := Aside0.mk hc0
 obtain ⟨t, A10, H⟩ := Option.bind_eq_some_iff.mp h
 have A1 := Aside0.mk A10
 clear A10 h hr0 hc0
 cases t with
 | false =>
  rw [if_neg Bool.false_ne_true] at H
  obtain rfl := Option.some.inj H
  go_enter Try.func36, Try.ntmps36
  go_wp2_with fail
  go_at_call 18
  refine (impl_IsGluing.calls k A0 c0 l0 false w HR0.out HC0.out A1.out).mono ?_
  rintro e w1 ⟨rfl, hb⟩
  go_wp2
  go_ret
  exact ⟨rfl, hb⟩
 | true =>
  rw [if_pos rfl] at H
  by_cases hm : CorOk l0
  case neg => rw [if_neg hm] at H; cases H
  rw [if_pos hm] at H
  obtain rfl := Option.some.inj H
  clear H
  have HM := Aside0.mk hm
  clear hm
  go_enter Try.func36, Try.ntmps36
  go_wp2_with fail
  go_at_call 18
  refine (impl_IsGluing.calls k A0 c0 l0 true w HR0.out HC0.out A1.out).mono ?_
  rintro e w1 ⟨rfl, hb⟩
  have HB1 := Aside0.mk hb
  clear hb
  go_wp2_with fail
  go_at_call 74
  refine (corners_calls A0 c0 l0 w1 (Kd.C_below HR0.out HB1.out) HC0.out HM.out).mono ?_
  rintro e w2 hpost
  obtain ⟨b, g, xs, ats, rfl, hbb, hJ, hI, hb2⟩ := hpost
  have HI := Aside0.mk hI
  have HZ := Aside0.mk (blk_new w2 (.cells #[.int .i64 0, .int .i64 0, .int .i64 0, .int .i64 0, .int .i64 0, .int .i64 0, .int .i64 0, .int .i64 0, .int .i64 0, .int .i64 0, .int .i64 0, .int .i64 0, .int .i64 0, .int .i64 0, .int .i64 0, .int .i64 0, .int .i64 0, .int .i64 0] 63))
  have HJ := Aside0.mk hJ
  have HB2 := Aside0.mk (below_step HB1.out hb2)
  have HS18 := Aside0.mk (show (encs (Value.int .i64) ats).length = 18 by rw [encs_length, hI.2.1])
  clear hI hJ hb2 hbb
  go_wp2_with (first | ((with_reducible refine gate_store (t := 63) (p := 4) rfl ?_); refine store_event (t := 63) (p := 4) (v := .tmp 12) (w1 := (w2.alloc (.cells #[.int .i64 0, .int .i64 0, .int .i64 0, .int .i64 0, .int .i64 0, .int .i64 0, .int .i64 0, .int .i64 0, .int .i64 0, .int .i64 0, .int .i64 0, .int .i64 0, .int .i64 0, .int .i64 0, .int .i64 0, .int .i64 0, .int .i64 0, .int .i64 0] 63)).setCells w2.heap.size 0 (encs (Value.int .i64) ats)) rfl rfl rfl ?hrr ?_; (case hrr => (have hrun := run_store_run (P := Try.prog) (w := w2.alloc (.cells #[.int .i64 0, .int .i64 0, .int .i64 0, .int .i64 0, .int .i64 0, .int .i64 0, .int .i64 0, .int .i64 0, .int .i64 0, .int .i64 0, .int .i64 0, .int .i64 0, .int .i64 0, .int .i64 0, .int .i64 0, .int .i64 0, .int .i64 0, .int .i64 0] 63)) (g := w2.heap.size) (o := 0) (e := 63) (cur := #[.int .i64 0, .int .i64 0, .int .i64 0, .int .i64 0, .int .i64 0, .int .i64 0, .int .i64 0, .int .i64 0, .int .i64 0, .int .i64 0, .int .i64 0, .int .i64 0, .int .i64 0, .int .i64 0, .int .i64 0, .int .i64 0, .int .i64 0, .int .i64 0]) 63 (.agg (encs (Value.int .i64) ats).toArray) (encs (Value.int .i64) ats) HZ.out (by simp [Value.cells]) (by rw [HS18.out]; kernel_rfl) (by rw [HS18.out]; decide) (by intro q hq; simp only [encs, List.mem_map] at hq; obtain ⟨z, _, rfl⟩ := hq; rfl); simp only [execOp, Act.eval]; exact store_skip hrun)); intro w9 hw9; have HW9 := Aside0.mk hw9; clear hw9))
  have HB9 : Aside0 (Below w2.heap.size w2 w9) := ⟨by rw [HW9.out]; exact below_setCells (below_alloc (Below.refl _ _) _) (Nat.le_refl _) _ _⟩
  have HJ9 := Aside0.mk (HJ.out.below HB9.out)
  clear HW9 HZ HJ
  go_at_call 72
  refine (count_calls g xs b w9 HJ9.out (by rw [HI.out.1]; have := HM.out.2.2; omega)).mono ?_
  rintro e w3 ⟨rfl, hw⟩
  obtain rfl := hw.symm
  clear hw
  have HCN := Aside0.mk (show ownsTo xs xs.length = vertsN l0 by
   have := uf_count (HI.out.done HM.out (fun _ _ _ _ _ => trivial))
   rw [this, HI.out.1]; rfl)
  go_wp2
  go_ret
  exact ⟨by rw [HCN.out]; rfl, below_step HB2.out HB9.out⟩
end Go.Proofs.Ytfknffpfjoalkaa.QFnGluings
