/- ReverseLetter of the program, by hand. Conditions: the numbers of the gluing are letters. -/
import Derived.Test.YtlnddmkkgjlmbaaHandEFnExactReverseLetter
namespace Go.Proofs.Ytlnddmkkgjlmbaa.QFnExactReverseLetter
open Go.RowKit Go.Proofs.YtlnddmkkgjlmbaaW.PrintWords Go.Proofs.YtlnddmkkgjlmbaaW.PrintLast Go.Proofs.YtlnddmkkgjlmbaaW.PrintMore Go.Proofs.Ytlnddmkkgjlmbaa.Com
attribute [local go_sem] max2_int min2_int max_two min_two max_three min_three max_four min_four
set_option linter.unusedVariables false
set_option linter.unusedSimpArgs false

def rvZ (x z : Int) : Int := if z = x then -z else z
set_option maxHeartbeats 8000000 in
set_option maxRecDepth 100000 in
theorem clo_calls (px : Addr) (x z : Int) (w : World) (hx : w.cell? px = some (.int .i64 x)) (hz1 : 1 ≤ z) (hz8 : z ≤ 8) :
    Calls Try.prog 75 #[.int .i64 z, .pointer (some px)] w fun e w' => e = .returned (.int .i64 (rvZ x z)) ∧ w' = w := by
  by_cases h1 : z = x
  · have e1 : rvZ x z = -z := if_pos h1
    rw [e1]
    have c1 : (z == x) = true := beq_iff_eq.mpr h1
    obtain ⟨s, hs⟩ : ∃ s : Int, -z = s := ⟨_, rfl⟩
    rw [hs]
    have t1 : IntKind.i64.wrap (-z) = s := by rw [IntWalk.i64_in _ (by omega)]; exact hs
    clear h1 e1 hs hz1 hz8
    go_enter Try.func75, Try.ntmps75
    go_wp2
    go_ret
    exact ⟨rfl, rfl⟩
  · have c1 : (z == x) = false := beq_eq_false_iff_ne.mpr h1
    have e1 : rvZ x z = z := if_neg h1
    rw [e1]
    clear h1 e1 hz1 hz8
    go_enter Try.func75, Try.ntmps75
    go_wp2
    go_ret
    exact ⟨rfl, rfl⟩
theorem within_dec (a b c : Int) : impl_within.f a b c = some (decide (b ≤ a ∧ a ≤ c)) := by
  unfold impl_within.f
  by_cases h : a ≥ b
  · rw [if_pos h]
    by_cases h2 : a ≤ c
    · rw [decide_eq_true h2, decide_eq_true ⟨h, h2⟩]
    · rw [decide_eq_false h2, decide_eq_false (fun h3 => h2 h3.2)]
  · rw [if_neg h, decide_eq_false (fun h3 => h h3.1)]
open Classical in
noncomputable def impl_ReverseLetter.f (k : Nat) (l0 : List (List Int)) (x : Int) : Option (List (List Int) × Bool) := (impl_IsGluing.f k l0).bind fun b => if b = true then (if 1 ≤ x ∧ x ≤ 8 then ((impl_copyRows.f k l0).bind fun t => if LetOk t then impl_moved.f k (t.map (List.map (eachZ (rvZ x)))) else none) else some ([], false)) else some ([], false)
set_option maxHeartbeats 16000000 in
set_option maxRecDepth 100000 in
theorem impl_ReverseLetter.calls (k : Nat) (A0 : Option Addr) (c0 : Nat) (l0 : List (List Int)) (a1 : Int) (r1 : List (List Int)) (r2 : Bool) (w : World) (hr0 : Kd.C (Kd.slice 3 (Kd.int .i64)) w A0 l0.length l0) (hc0 : l0.length ≤ c0) (h : impl_ReverseLetter.f k l0 a1 = some (r1, r2)) :
    Calls Try.prog 24 #[.slice A0 l0.length c0, .int .i64 a1] w fun e w' => ∃ v0_ : Value, e = .returned (.tuple #[v0_, .bool r2]) ∧ Kd.S (Kd.slice 3 (Kd.int .i64)) 47 w' w.heap.size (fun _ => True) v0_ r1 ∧ Below w.heap.size w w' := by
  have HR0 := Aside0.mk hr0
  have HC0 := Aside0.mk hc0
  have HMF := Aside0.mk (fun (fn : Fn) (first cap : Array Value) (w : World) => (rfl : (Instr.makeFunc fn first cap).run Try.prog w = .ok (.func fn first cap) w))
  obtain ⟨b, A10, H⟩ := Option.bind_eq_some_iff.mp h
  have A1 := Aside0.mk A10
  have HB0 := Aside0.mk (below_alloc (Below.refl w.heap.size w) (.cells #[.int .i64 a1] 3))
  have hcx : (w.alloc (.cells #[.int .i64 a1] 3)).cell? ⟨w.heap.size, 0, none⟩ = some (.int .i64 a1) := by rw [blk_cell (blk_new w _)]; rfl
  have HX := Aside0.mk hcx
  clear A10 h hr0 hc0 hcx
  cases b with
  | false =>
    rw [if_neg Bool.false_ne_true] at H
    obtain ⟨rfl, rfl⟩ := Prod.mk.inj (Option.some.inj H)
    go_enter Try.func24, Try.ntmps24
    go_wp2_with fail
    go_at_call 72
    refine (impl_IsGluing.calls k A0 c0 l0 false _ (Kd.C_below HR0.out HB0.out) HC0.out A1.out).mono ?_
    rintro e w1 ⟨rfl, hb⟩
    have HB1 := Aside0.mk (below_step HB0.out hb)
    clear hb
    go_wp2
    go_ret2
    exact ⟨_, rfl, Kd.S_nil _ _ _ _ _, HB1.out⟩
  | true =>
    rw [if_pos rfl] at H
    by_cases hx8 : 1 ≤ a1 ∧ a1 ≤ 8
    case neg =>
      rw [if_neg hx8] at H
      obtain ⟨rfl, rfl⟩ := Prod.mk.inj (Option.some.inj H)
      have HW := Aside0.mk ((within_dec a1 1 8).trans (by rw [decide_eq_false hx8]))
      clear H hx8
      go_enter Try.func24, Try.ntmps24
      go_wp2_with fail
      go_at_call 72
      refine (impl_IsGluing.calls k A0 c0 l0 true _ (Kd.C_below HR0.out HB0.out) HC0.out A1.out).mono ?_
      rintro e w1 ⟨rfl, hb⟩
      have HB1 := Aside0.mk (below_step HB0.out hb)
      have hcx := pw_cell_below hb HX.out
      clear hb
      go_wp2_with fail
      go_at_call 73
      refine (impl_within.calls a1 1 8 false _ HW.out).mono ?_
      rintro e w2 ⟨rfl, ⟨n2, rfl⟩⟩
      go_wp2
      go_ret2
      exact ⟨_, rfl, Kd.S_nil _ _ _ _ _, pw_below_drewN HB1.out _⟩
    rw [if_pos hx8] at H
    have HWX := Aside0.mk ((within_dec a1 1 8).trans (by rw [decide_eq_true hx8]))
    obtain ⟨t, T10, H⟩ := Option.bind_eq_some_iff.mp H
    by_cases hok : LetOk t
    case neg => rw [if_neg hok] at H; cases H
    rw [if_pos hok] at H
    have HT := Aside0.mk T10
    have HOK := Aside0.mk hok
    have HM := Aside0.mk H
    have HH := Aside0.mk (show ∀ z : Int, 1 ≤ z → z ≤ 8 → -8 ≤ rvZ a1 z ∧ rvZ a1 z ≤ 8 from fun z h1 h2 => by
      unfold rvZ
      split
      · omega
      · omega)
    clear H hx8 T10 hok
    go_enter Try.func24, Try.ntmps24
    go_wp2_with fail
    go_at_call 72
    refine (impl_IsGluing.calls k A0 c0 l0 true _ (Kd.C_below HR0.out HB0.out) HC0.out A1.out).mono ?_
    rintro e w1 ⟨rfl, hb⟩
    have HB1 := Aside0.mk (below_step HB0.out hb)
    have hcx := pw_cell_below hb HX.out
    clear hb
    go_wp2_with fail
    go_at_call 73
    refine (impl_within.calls a1 1 8 true _ HWX.out).mono ?_
    rintro e w2 ⟨rfl, ⟨n2, rfl⟩⟩
    have hmf := HMF.out
    go_wp2_with fail
    go_at_call 74
    refine (eachLetter_calls k ⟨w.heap.size, 0, none⟩ (rvZ a1) A0 c0 l0 t r1 r2 _ (Kd.C_below HR0.out (pw_below_drewN HB1.out n2)) HC0.out HT.out HOK.out HH.out (fun w' hb z h1 h8 => clo_calls _ a1 z w' (pw_cell_below hb hcx) h1 h8) HM.out).mono ?_
    rintro e w4 ⟨v, rfl, hs, hb⟩
    have HB4 := Aside0.mk (below_step (pw_below_drewN HB1.out n2) hb)
    have HS := Aside0.mk (Kd.S_lower hs (below_size (pw_below_drewN HB1.out n2)))
    clear hs hb
    go_wp2
    go_ret2
    exact ⟨_, rfl, HS.out, HB4.out⟩
end Go.Proofs.Ytlnddmkkgjlmbaa.QFnExactReverseLetter
