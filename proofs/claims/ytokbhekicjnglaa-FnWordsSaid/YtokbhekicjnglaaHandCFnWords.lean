/- CoreWord of the reference, by hand. Conditions: none beside those of its callees. -/
import Derived.Test.YtokbhekicjnglaaHandKFnWords
namespace Go.Proofs.Ytokbhekicjnglaa.QFnWords
open Go.RowKit Go.Proofs.YtokbhekicjnglaaW.PrintWords Go.Proofs.YtokbhekicjnglaaW.PrintLast Go.Proofs.YtokbhekicjnglaaW.PrintMore Go.Proofs.Ytokbhekicjnglaa.Com
attribute [local go_sem] max2_int min2_int max_two min_two max_three min_three max_four min_four
set_option linter.unusedVariables false
set_option linter.unusedSimpArgs false
def spec_CoreWord.f (k : Nat) (l0 : List Int) : Option (List Int) := (spec_IsWord.f k l0).bind fun b => if b = true then ((spec_l2Core.f k l0).bind fun r => some r) else some []
set_option maxHeartbeats 8000000 in
set_option maxRecDepth 100000 in
theorem spec_CoreWord.calls (k : Nat) (A0 : Option Addr) (c0 : Nat) (l0 : List Int) (r : List Int) (w : World) (hr0 : Kd.C (Kd.int .i64) w A0 l0.length l0) (hc0 : l0.length ≤ c0) (h : spec_CoreWord.f k l0 = some r) :
    Calls Try.prog 34 #[.slice A0 l0.length c0] w fun e w' => ∃ v0_ : Value, e = .returned (v0_) ∧ Kd.R (Kd.int .i64) 3 w' w.heap.size (fun _ => True) v0_ r ∧ Below w.heap.size w w' := by
  have HR0 := Aside0.mk hr0
  have HC0 := Aside0.mk hc0
  obtain ⟨b, A20, H⟩ := Option.bind_eq_some_iff.mp h
  have A2 := Aside0.mk A20
  clear A20 h hr0 hc0
  cases b with
  | false =>
    rw [if_neg Bool.false_ne_true] at H
    obtain rfl := Option.some.inj H
    go_enter Try.func34, Try.ntmps34
    go_wp2_with fail
    go_at_call 14
    refine (spec_IsWord.calls k A0 c0 l0 false _ HR0.out HC0.out A2.out).mono ?_
    rintro e w1 ⟨rfl, hd⟩
    have HB := Aside0.mk hd.below
    go_wp2_with ((with_reducible refine gate_dst (N := 6) rfl ?_); refine Kd.R_lit (Kd.int .i64) _ 3 ?hg (N := 6) ?hd (xs := ([] : List Int)) (inner := []) (ok := fun _ => True) (okp := fun _ => True) ?hr ?hp (fun _ hk => hk) trivial (Below.refl _ _) (Nat.le_refl _) (by simp) ?_; (case hd => rfl); (case hg => rfl); (case hr => first | (go_simp; done) | (go_simp; rfl)); (case hp => exact (Reps.none _ _)); intro vl wl hol hbl hg_ hnew_; clear hg_ hnew_; have HOL := Aside0.mk (Kd.R_lower hol (below_size HB.out)); have HBL := Aside0.mk (below_step HB.out hbl); clear hbl hol)
    go_ret
    exact ⟨_, rfl, HOL.out, HBL.out⟩
  | true =>
    rw [if_pos rfl] at H
    obtain ⟨t, A10, H⟩ := Option.bind_eq_some_iff.mp H
    have A1 := Aside0.mk A10
    obtain rfl := Option.some.inj H
    clear A10 H
    go_enter Try.func34, Try.ntmps34
    go_wp2_with fail
    go_at_call 14
    refine (spec_IsWord.calls k A0 c0 l0 true _ HR0.out HC0.out A2.out).mono ?_
    rintro e w0 ⟨rfl, hd⟩
    have HB0 := Aside0.mk (show Below w.heap.size w w0 from hd.below)
    go_wp2_with fail
    go_at_call 55
    refine (spec_l2Core.calls k A0 c0 l0 t _ (Kd.C_below HR0.out HB0.out) HC0.out A1.out).mono ?_
    rintro e w1 ⟨v1, rfl, hs, hb⟩
    have HB1 := Aside0.mk (below_step HB0.out hb)
    have HD := Aside0.mk (Kd.R_lower hs (below_size HB0.out))
    clear hs hb
    go_wp2
    go_ret
    exact ⟨_, rfl, HD.out, HB1.out⟩
end Go.Proofs.Ytokbhekicjnglaa.QFnWords
