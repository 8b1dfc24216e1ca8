/- ReverseLetter of the reference, by hand. Conditions: those of l5Swap. -/
import Derived.Test.YtlnddmkkgjlmbaaHandLFnExactReverseLetter
import Derived.Test.YtlnddmkkgjlmbaaHandIFnExactReverseLetter
namespace Go.Proofs.Ytlnddmkkgjlmbaa.QFnExactReverseLetter
open Go.RowKit Go.Proofs.YtlnddmkkgjlmbaaW.PrintWords Go.Proofs.YtlnddmkkgjlmbaaW.PrintLast Go.Proofs.YtlnddmkkgjlmbaaW.PrintMore Go.Proofs.Ytlnddmkkgjlmbaa.Com
attribute [local go_sem] max2_int min2_int max_two min_two max_three min_three max_four min_four
set_option linter.unusedVariables false
set_option linter.unusedSimpArgs false

noncomputable def spec_ReverseLetter.f (k : Nat) (l0 : List (List Int)) (x : Int) : Option (List (List Int) × Bool) := if 1 ≤ x ∧ x ≤ 8 then spec_l5Swap.f k l0 x (-x) x (-x) else some ([], false)
set_option maxHeartbeats 8000000 in
set_option maxRecDepth 100000 in
theorem spec_ReverseLetter.calls (k : Nat) (A0 : Option Addr) (c0 : Nat) (l0 : List (List Int)) (a1 : Int) (r1 : List (List Int)) (r2 : Bool) (w : World) (hr0 : Kd.C (Kd.slice 3 (Kd.int .i64)) w A0 l0.length l0) (hc0 : l0.length ≤ c0) (h : spec_ReverseLetter.f k l0 a1 = some (r1, r2)) :
    Calls Try.prog 23 #[.slice A0 l0.length c0, .int .i64 a1] w fun e w' => ∃ v0_ : Value, e = .returned (.tuple #[v0_, .bool r2]) ∧ Kd.S (Kd.slice 3 (Kd.int .i64)) 47 w' w.heap.size (fun _ => True) v0_ r1 ∧ Below w.heap.size w w' := by
  have HR0 := Aside0.mk hr0
  have HC0 := Aside0.mk hc0
  unfold spec_ReverseLetter.f at h
  by_cases hx8 : 1 ≤ a1 ∧ a1 ≤ 8
  case neg =>
    rw [if_neg hx8] at h
    obtain ⟨rfl, rfl⟩ := Prod.mk.inj (Option.some.inj h)
    have HW := Aside0.mk ((l1In_dec a1 1 8).trans (by rw [decide_eq_false hx8]))
    clear h hx8 hr0 hc0
    go_enter Try.func23, Try.ntmps23
    go_wp2_with fail
    go_at_call 53
    refine (spec_l1In.calls a1 1 8 false _ HW.out).mono ?_
    rintro e w2 ⟨rfl, ⟨n2, rfl⟩⟩
    have HB1 := Aside0.mk (pw_below_drewN (Below.refl w.heap.size w) n2)
    go_wp2_with ((with_reducible refine gate_dst (N := 11) rfl ?_); refine Kd.S_lit (Kd.slice 3 (Kd.int .i64)) _ 47 ?hg (N := 11) ?hd (xs := ([] : List (List Int))) (inner := []) (ok := fun _ => True) (okp := fun _ => True) ?hr ?hp (fun _ hk => hk) trivial (Below.refl _ _) (Nat.le_refl _) (by simp) ?_; (case hd => rfl); (case hg => rfl); (case hr => first | (go_simp; done) | (go_simp; rfl)); (case hp => exact (Reps.none _ _)); intro vl wl hol hbl hg_ hnew_; clear hg_ hnew_; have HBL := Aside0.mk (below_step HB1.out hbl); have HOL := Aside0.mk hol; clear hbl hol)
    go_ret2
    exact ⟨_, rfl, Kd.S_lower HOL.out (below_size HB1.out), HBL.out⟩
  rw [if_pos hx8] at h
  have HM := Aside0.mk h
  have HWX := Aside0.mk ((l1In_dec a1 1 8).trans (by rw [decide_eq_true hx8]))
  obtain ⟨s, hs⟩ : ∃ s : Int, -a1 = s := ⟨_, rfl⟩
  have t1 : IntKind.i64.wrap (-a1) = s := by rw [IntWalk.i64_in _ (by omega)]; exact hs
  rw [hs] at HM
  clear hr0 hc0 h hx8 hs
  go_enter Try.func23, Try.ntmps23
  go_wp2_with fail
  go_at_call 53
  refine (spec_l1In.calls a1 1 8 true _ HWX.out).mono ?_
  rintro e w2 ⟨rfl, ⟨n2, rfl⟩⟩
  have HB1 := Aside0.mk (pw_below_drewN (Below.refl w.heap.size w) n2)
  go_wp2_with fail
  go_at_call 71
  refine (spec_l5Swap.calls k A0 c0 l0 a1 s a1 s r1 r2 _ (Kd.C_below HR0.out HB1.out) HC0.out HM.out).mono ?_
  rintro e w1 ⟨v, rfl, hs, hb⟩
  have HS := Aside0.mk (Kd.S_lower hs (below_size HB1.out))
  have HB := Aside0.mk (below_step HB1.out hb)
  clear hs hb
  go_wp2
  go_ret2
  exact ⟨_, rfl, HS.out, HB.out⟩
end Go.Proofs.Ytlnddmkkgjlmbaa.QFnExactReverseLetter
