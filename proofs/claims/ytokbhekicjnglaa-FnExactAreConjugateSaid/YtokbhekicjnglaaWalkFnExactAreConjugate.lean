/- The law FnExactAreConjugate's function: what it needs to be told, and what its call does. Conditions: those of the statement itself. -/
import Derived.Test.YtokbhekicjnglaaHandFnExactAreConjugate
import Derived.Test.YtokbhekicjnglaaQFnExactAreConjugatex
namespace Go.Proofs.Ytokbhekicjnglaa.QFnExactAreConjugate
open Go.RowKit Go.Proofs.YtokbhekicjnglaaW.PrintWords Go.Proofs.YtokbhekicjnglaaW.PrintLast Go.Proofs.YtokbhekicjnglaaW.PrintMore
attribute [local go_sem] max2_int min2_int max_two min_two max_three min_three max_four min_four
set_option linter.unusedVariables false
set_option linter.unusedSimpArgs false
theorem drawn_below {W w' : World} (h : Drawn0 W w') : Below W.heap.size W w' := by obtain ⟨nd, rfl⟩ := h; exact pw_below_drewN (Below.refl _ _) nd
def laws_FnExactAreConjugate.Facts (k : Nat) (l0 : List Int) (l1 : List Int) : Prop := ∃ (o0 : Bool), laws_toIntS.f k l0 = some l0 ∧ laws_toIntS.f k l1 = some l1 ∧ spec_AreConjugate.f k l0 l1 = some o0 ∧ impl_AreConjugate.f k l0 l1 = some o0 ∧ laws_eqIntS.f k l0 l0 = some true ∧ laws_eqIntS.f k l1 l1 = some true
open Classical in
noncomputable def laws_FnExactAreConjugate.f (k : Nat) (l0 : List Int) (l1 : List Int) : Option Bool := if ((l0.length : Int) > 1048576 ∨ (l1.length : Int) > 1048576 ∨ laws_FnExactAreConjugate.Facts k l0 l1) then some true else none
set_option maxHeartbeats 8000000 in
set_option maxRecDepth 100000 in
theorem laws_FnExactAreConjugate.calls (k : Nat) (A0 : Option Addr) (c0 : Nat) (l0 : List Int) (A1 : Option Addr) (c1 : Nat) (l1 : List Int) (r : Bool) (w : World) (hr0 : Kd.C (Kd.int .i64) w A0 l0.length l0) (hc0 : l0.length ≤ c0) (hr1 : Kd.C (Kd.int .i64) w A1 l1.length l1) (hc1 : l1.length ≤ c1) (h : laws_FnExactAreConjugate.f k l0 l1 = some r) :
    Calls Try.prog 12 #[.slice A0 l0.length c0, .slice A1 l1.length c1] w fun e w' => e = .returned (.bool r) ∧ Below w.heap.size w w' := by
  have HR0 := Aside0.mk hr0
  have HC0 := Aside0.mk hc0
  have HR1 := Aside0.mk hr1
  have HC1 := Aside0.mk hc1
  clear hr0 hc0 hr1 hc1
  have HB := Aside0.mk (Below.refl w.heap.size w)
  unfold laws_FnExactAreConjugate.f at h
  split at h
  rotate_left
  · cases h
  rename_i hF
  obtain rfl := Option.some.inj h
  clear h
  by_cases hz0 : (l0.length : Int) > 1048576
  · have c0b0 : decide (1048576 < (l0.length : Int)) = true := decide_eq_true hz0
    have c0b1 : decide (1048576 < l0.length) = true := decide_eq_true (by omega)
    clear hz0 hF
    go_enter Try.func12, Try.ntmps12
    go_wp2
    go_ret
    exact ⟨by first | rfl | (simp [errW_none, errW_some] <;> rfl) | (simp [*, errW_none, errW_some] <;> rfl), by repeat (first | (with_reducible first | exact HB.out | apply below_alloc | apply pw_below_drewN | apply below_drew1) | exact HB.out)⟩
  have c0b0 : decide (1048576 < (l0.length : Int)) = false := decide_eq_false hz0
  have c0b1 : decide (1048576 < l0.length) = false := decide_eq_false (by omega)
  by_cases hz1 : (l1.length : Int) > 1048576
  · have c1b0 : decide (1048576 < (l1.length : Int)) = true := decide_eq_true hz1
    have c1b1 : decide (1048576 < l1.length) = true := decide_eq_true (by omega)
    clear hz1 hF
    go_enter Try.func12, Try.ntmps12
    go_wp2
    go_ret
    exact ⟨by first | rfl | (simp [errW_none, errW_some] <;> rfl) | (simp [*, errW_none, errW_some] <;> rfl), by repeat (first | (with_reducible first | exact HB.out | apply below_alloc | apply pw_below_drewN | apply below_drew1) | exact HB.out)⟩
  have c1b0 : decide (1048576 < (l1.length : Int)) = false := decide_eq_false hz1
  have c1b1 : decide (1048576 < l1.length) = false := decide_eq_false (by omega)
  replace hF := hF.resolve_left hz0
  clear hz0
  replace hF := hF.resolve_left hz1
  clear hz1
  obtain ⟨o0, E00, E10, E20, E30, E40, E50⟩ := hF
  have E0 := Aside0.mk E00
  have E1 := Aside0.mk E10
  have E2 := Aside0.mk E20
  have E3 := Aside0.mk E30
  have E4 := Aside0.mk E40
  have E5 := Aside0.mk E50
  clear E00
  clear E10
  clear E20
  clear E30
  clear E40
  clear E50
  have b_o0 : (!(o0 == o0)) = false := by cases o0 <;> rfl
  go_enter Try.func12, Try.ntmps12
  go_wp2_with fail
  go_at_call 15
  refine (laws_toIntS.calls k _ _ l0 l0 _ (by repeat (first | exact HR0.out | (with_reducible refine Kd.C_alloc ?_ _) | (with_reducible refine Kd.C_drewN ?_ _) | (with_reducible refine Kd.C_drew ?_) | (refine Kd.C_below HR0.out ?_; exact (by repeat (first | (with_reducible first | exact HB.out | apply below_alloc | apply pw_below_drewN | apply below_drew1) | exact HB.out))))) HC0.out E0.out).mono ?_
  rintro e w1 ⟨v0, rfl, ho0, hb⟩
  have Z1 := Aside0.mk (show w.heap.size ≤ w1.heap.size from hb.size)
  obtain ⟨AO0, cO0, eO0⟩ := Kd.R_slice ho0
  subst eO0
  have n0 : Aside0 (Kd.R (Kd.int .i64) 3 w1 w.heap.size (fun k_ => w.heap.size ≤ k_ ∧ k_ < w1.heap.size) (.slice AO0 l0.length cO0) l0) := Aside0.mk (Kd.R_lower (Kd.R_mono (Kd.R_bound ho0) (fun k_ h_ => ⟨h_.2.1, h_.2.2.1⟩)) (below_size (by repeat (first | (with_reducible first | exact HB.out | apply below_alloc | apply pw_below_drewN | apply below_drew1) | exact HB.out))))
  have nB := Aside0.mk (below_step (by repeat (first | (with_reducible first | exact HB.out | apply below_alloc | apply pw_below_drewN | apply below_drew1) | exact HB.out)) hb)
  clear hb HB ho0
  have HB := nB
  have H0 := n0
  clear nB n0
  go_wp2_with fail
  go_at_call 15
  refine (laws_toIntS.calls k _ _ l1 l1 _ (by repeat (first | exact HR1.out | (with_reducible refine Kd.C_alloc ?_ _) | (with_reducible refine Kd.C_drewN ?_ _) | (with_reducible refine Kd.C_drew ?_) | (refine Kd.C_below HR1.out ?_; exact (by repeat (first | (with_reducible first | exact HB.out | apply below_alloc | apply pw_below_drewN | apply below_drew1) | exact HB.out))))) HC1.out E1.out).mono ?_
  rintro e w2 ⟨v0, rfl, ho0, hb⟩
  have Z2 := Aside0.mk (show w1.heap.size ≤ w2.heap.size from hb.size)
  have n0 := Aside0.mk (Kd.R_below (by (with_reducible repeat (first | apply Kd.R_alloc | apply Kd.R_drewN | apply Kd.R_drew)); exact H0.out) hb)
  obtain ⟨AO1, cO1, eO1⟩ := Kd.R_slice ho0
  subst eO1
  have n1 : Aside0 (Kd.R (Kd.int .i64) 3 w2 w.heap.size (fun k_ => w1.heap.size ≤ k_ ∧ k_ < w2.heap.size) (.slice AO1 l1.length cO1) l1) := Aside0.mk (Kd.R_lower (Kd.R_mono (Kd.R_bound ho0) (fun k_ h_ => ⟨h_.2.1, h_.2.2.1⟩)) (below_size (by repeat (first | (with_reducible first | exact HB.out | apply below_alloc | apply pw_below_drewN | apply below_drew1) | exact HB.out))))
  have nB := Aside0.mk (below_step (by repeat (first | (with_reducible first | exact HB.out | apply below_alloc | apply pw_below_drewN | apply below_drew1) | exact HB.out)) hb)
  clear hb HB ho0 H0
  have HB := nB
  have H0 := n0
  have H1 := n1
  clear nB n0 n1
  go_wp2_with fail
  go_at_call 36
  refine (spec_AreConjugate.calls k _ _ l0 _ _ l1 o0 _ (by repeat (first | exact (Kd.R_reads' H0.out).2.2 | (with_reducible refine Kd.C_alloc ?_ _) | (with_reducible refine Kd.C_drewN ?_ _) | (with_reducible refine Kd.C_drew ?_))) (Kd.R_reads' H0.out).2.1 (by repeat (first | exact (Kd.R_reads' H1.out).2.2 | (with_reducible refine Kd.C_alloc ?_ _) | (with_reducible refine Kd.C_drewN ?_ _) | (with_reducible refine Kd.C_drew ?_))) (Kd.R_reads' H1.out).2.1 E2.out).mono ?_
  rintro e w3 ⟨rfl, hb⟩
  have Z3 := Aside0.mk (show w2.heap.size ≤ w3.heap.size from hb.size)
  have n0 := Aside0.mk (Kd.R_below (by (with_reducible repeat (first | apply Kd.R_alloc | apply Kd.R_drewN | apply Kd.R_drew)); exact H0.out) hb)
  have n1 := Aside0.mk (Kd.R_below (by (with_reducible repeat (first | apply Kd.R_alloc | apply Kd.R_drewN | apply Kd.R_drew)); exact H1.out) hb)
  have nB := Aside0.mk (below_step (by repeat (first | (with_reducible first | exact HB.out | apply below_alloc | apply pw_below_drewN | apply below_drew1) | exact HB.out)) hb)
  clear hb HB H0 H1
  have HB := nB
  have H0 := n0
  have H1 := n1
  clear nB n0 n1
  go_wp2_with fail
  go_at_call 15
  refine (laws_toIntS.calls k _ _ l0 l0 _ (by repeat (first | exact HR0.out | (with_reducible refine Kd.C_alloc ?_ _) | (with_reducible refine Kd.C_drewN ?_ _) | (with_reducible refine Kd.C_drew ?_) | (refine Kd.C_below HR0.out ?_; exact (by repeat (first | (with_reducible first | exact HB.out | apply below_alloc | apply pw_below_drewN | apply below_drew1) | exact HB.out))))) HC0.out E0.out).mono ?_
  rintro e w4 ⟨v0, rfl, ho0, hb⟩
  have Z4 := Aside0.mk (show w3.heap.size ≤ w4.heap.size from hb.size)
  have n0 := Aside0.mk (Kd.R_below (by (with_reducible repeat (first | apply Kd.R_alloc | apply Kd.R_drewN | apply Kd.R_drew)); exact H0.out) hb)
  have n1 := Aside0.mk (Kd.R_below (by (with_reducible repeat (first | apply Kd.R_alloc | apply Kd.R_drewN | apply Kd.R_drew)); exact H1.out) hb)
  obtain ⟨AO2, cO2, eO2⟩ := Kd.R_slice ho0
  subst eO2
  have n2 : Aside0 (Kd.R (Kd.int .i64) 3 w4 w.heap.size (fun k_ => w3.heap.size ≤ k_ ∧ k_ < w4.heap.size) (.slice AO2 l0.length cO2) l0) := Aside0.mk (Kd.R_lower (Kd.R_mono (Kd.R_bound ho0) (fun k_ h_ => ⟨h_.2.1, h_.2.2.1⟩)) (below_size (by repeat (first | (with_reducible first | exact HB.out | apply below_alloc | apply pw_below_drewN | apply below_drew1) | exact HB.out))))
  have nB := Aside0.mk (below_step (by repeat (first | (with_reducible first | exact HB.out | apply below_alloc | apply pw_below_drewN | apply below_drew1) | exact HB.out)) hb)
  clear hb HB ho0 H0 H1
  have HB := nB
  have H0 := n0
  have H1 := n1
  have H2 := n2
  clear nB n0 n1 n2
  go_wp2_with fail
  go_at_call 15
  refine (laws_toIntS.calls k _ _ l1 l1 _ (by repeat (first | exact HR1.out | (with_reducible refine Kd.C_alloc ?_ _) | (with_reducible refine Kd.C_drewN ?_ _) | (with_reducible refine Kd.C_drew ?_) | (refine Kd.C_below HR1.out ?_; exact (by repeat (first | (with_reducible first | exact HB.out | apply below_alloc | apply pw_below_drewN | apply below_drew1) | exact HB.out))))) HC1.out E1.out).mono ?_
  rintro e w5 ⟨v0, rfl, ho0, hb⟩
  have Z5 := Aside0.mk (show w4.heap.size ≤ w5.heap.size from hb.size)
  have n0 := Aside0.mk (Kd.R_below (by (with_reducible repeat (first | apply Kd.R_alloc | apply Kd.R_drewN | apply Kd.R_drew)); exact H0.out) hb)
  have n1 := Aside0.mk (Kd.R_below (by (with_reducible repeat (first | apply Kd.R_alloc | apply Kd.R_drewN | apply Kd.R_drew)); exact H1.out) hb)
  have n2 := Aside0.mk (Kd.R_below (by (with_reducible repeat (first | apply Kd.R_alloc | apply Kd.R_drewN | apply Kd.R_drew)); exact H2.out) hb)
  obtain ⟨AO3, cO3, eO3⟩ := Kd.R_slice ho0
  subst eO3
  have n3 : Aside0 (Kd.R (Kd.int .i64) 3 w5 w.heap.size (fun k_ => w4.heap.size ≤ k_ ∧ k_ < w5.heap.size) (.slice AO3 l1.length cO3) l1) := Aside0.mk (Kd.R_lower (Kd.R_mono (Kd.R_bound ho0) (fun k_ h_ => ⟨h_.2.1, h_.2.2.1⟩)) (below_size (by repeat (first | (with_reducible first | exact HB.out | apply below_alloc | apply pw_below_drewN | apply below_drew1) | exact HB.out))))
  have nB := Aside0.mk (below_step (by repeat (first | (with_reducible first | exact HB.out | apply below_alloc | apply pw_below_drewN | apply below_drew1) | exact HB.out)) hb)
  clear hb HB ho0 H0 H1 H2
  have HB := nB
  have H0 := n0
  have H1 := n1
  have H2 := n2
  have H3 := n3
  clear nB n0 n1 n2 n3
  go_wp2_with fail
  go_at_call 37
  refine (impl_AreConjugate.calls k _ _ l0 _ _ l1 o0 _ (by repeat (first | exact (Kd.R_reads' H2.out).2.2 | (with_reducible refine Kd.C_alloc ?_ _) | (with_reducible refine Kd.C_drewN ?_ _) | (with_reducible refine Kd.C_drew ?_))) (Kd.R_reads' H2.out).2.1 (by repeat (first | exact (Kd.R_reads' H3.out).2.2 | (with_reducible refine Kd.C_alloc ?_ _) | (with_reducible refine Kd.C_drewN ?_ _) | (with_reducible refine Kd.C_drew ?_))) (Kd.R_reads' H3.out).2.1 E3.out).mono ?_
  rintro e w6 ⟨rfl, hb⟩
  have Z6 := Aside0.mk (show w5.heap.size ≤ w6.heap.size from hb.size)
  have n0 := Aside0.mk (Kd.R_below (by (with_reducible repeat (first | apply Kd.R_alloc | apply Kd.R_drewN | apply Kd.R_drew)); exact H0.out) hb)
  have n1 := Aside0.mk (Kd.R_below (by (with_reducible repeat (first | apply Kd.R_alloc | apply Kd.R_drewN | apply Kd.R_drew)); exact H1.out) hb)
  have n2 := Aside0.mk (Kd.R_below (by (with_reducible repeat (first | apply Kd.R_alloc | apply Kd.R_drewN | apply Kd.R_drew)); exact H2.out) hb)
  have n3 := Aside0.mk (Kd.R_below (by (with_reducible repeat (first | apply Kd.R_alloc | apply Kd.R_drewN | apply Kd.R_drew)); exact H3.out) hb)
  have nB := Aside0.mk (below_step (by repeat (first | (with_reducible first | exact HB.out | apply below_alloc | apply pw_below_drewN | apply below_drew1) | exact HB.out)) hb)
  clear hb HB H0 H1 H2 H3
  have HB := nB
  have H0 := n0
  have H1 := n1
  have H2 := n2
  have H3 := n3
  clear nB n0 n1 n2 n3
  go_wp2_with fail
  go_at_call 15
  refine (laws_toIntS.calls k _ _ l0 l0 _ (by repeat (first | exact HR0.out | (with_reducible refine Kd.C_alloc ?_ _) | (with_reducible refine Kd.C_drewN ?_ _) | (with_reducible refine Kd.C_drew ?_) | (refine Kd.C_below HR0.out ?_; exact (by repeat (first | (with_reducible first | exact HB.out | apply below_alloc | apply pw_below_drewN | apply below_drew1) | exact HB.out))))) HC0.out E0.out).mono ?_
  rintro e w7 ⟨v0, rfl, ho0, hb⟩
  have Z7 := Aside0.mk (show w6.heap.size ≤ w7.heap.size from hb.size)
  have n0 := Aside0.mk (Kd.R_below (by (with_reducible repeat (first | apply Kd.R_alloc | apply Kd.R_drewN | apply Kd.R_drew)); exact H0.out) hb)
  have n1 := Aside0.mk (Kd.R_below (by (with_reducible repeat (first | apply Kd.R_alloc | apply Kd.R_drewN | apply Kd.R_drew)); exact H1.out) hb)
  have n2 := Aside0.mk (Kd.R_below (by (with_reducible repeat (first | apply Kd.R_alloc | apply Kd.R_drewN | apply Kd.R_drew)); exact H2.out) hb)
  have n3 := Aside0.mk (Kd.R_below (by (with_reducible repeat (first | apply Kd.R_alloc | apply Kd.R_drewN | apply Kd.R_drew)); exact H3.out) hb)
  obtain ⟨AO4, cO4, eO4⟩ := Kd.R_slice ho0
  subst eO4
  have n4 : Aside0 (Kd.R (Kd.int .i64) 3 w7 w.heap.size (fun k_ => w6.heap.size ≤ k_ ∧ k_ < w7.heap.size) (.slice AO4 l0.length cO4) l0) := Aside0.mk (Kd.R_lower (Kd.R_mono (Kd.R_bound ho0) (fun k_ h_ => ⟨h_.2.1, h_.2.2.1⟩)) (below_size (by repeat (first | (with_reducible first | exact HB.out | apply below_alloc | apply pw_below_drewN | apply below_drew1) | exact HB.out))))
  have nB := Aside0.mk (below_step (by repeat (first | (with_reducible first | exact HB.out | apply below_alloc | apply pw_below_drewN | apply below_drew1) | exact HB.out)) hb)
  clear hb HB ho0 H0 H1 H2 H3
  have HB := nB
  have H0 := n0
  have H1 := n1
  have H2 := n2
  have H3 := n3
  have H4 := n4
  clear nB n0 n1 n2 n3 n4
  go_wp2_with fail
  go_at_call 17
  refine (laws_eqIntS.calls k _ _ l0 _ _ l0 true _ (by repeat (first | exact (Kd.R_reads' H2.out).2.2 | (with_reducible refine Kd.C_alloc ?_ _) | (with_reducible refine Kd.C_drewN ?_ _) | (with_reducible refine Kd.C_drew ?_))) (Kd.R_reads' H2.out).2.1 (by repeat (first | exact (Kd.R_reads' H4.out).2.2 | (with_reducible refine Kd.C_alloc ?_ _) | (with_reducible refine Kd.C_drewN ?_ _) | (with_reducible refine Kd.C_drew ?_))) (Kd.R_reads' H4.out).2.1 E4.out).mono ?_
  rintro e w8 ⟨rfl, hd⟩
  have hb := drawn_below hd
  clear hd
  have Z8 := Aside0.mk (show w7.heap.size ≤ w8.heap.size from hb.size)
  have n0 := Aside0.mk (Kd.R_below (by (with_reducible repeat (first | apply Kd.R_alloc | apply Kd.R_drewN | apply Kd.R_drew)); exact H0.out) hb)
  have n1 := Aside0.mk (Kd.R_below (by (with_reducible repeat (first | apply Kd.R_alloc | apply Kd.R_drewN | apply Kd.R_drew)); exact H1.out) hb)
  have n2 := Aside0.mk (Kd.R_below (by (with_reducible repeat (first | apply Kd.R_alloc | apply Kd.R_drewN | apply Kd.R_drew)); exact H2.out) hb)
  have n3 := Aside0.mk (Kd.R_below (by (with_reducible repeat (first | apply Kd.R_alloc | apply Kd.R_drewN | apply Kd.R_drew)); exact H3.out) hb)
  have n4 := Aside0.mk (Kd.R_below (by (with_reducible repeat (first | apply Kd.R_alloc | apply Kd.R_drewN | apply Kd.R_drew)); exact H4.out) hb)
  have nB := Aside0.mk (below_step (by repeat (first | (with_reducible first | exact HB.out | apply below_alloc | apply pw_below_drewN | apply below_drew1) | exact HB.out)) hb)
  clear hb HB H0 H1 H2 H3 H4
  have HB := nB
  have H0 := n0
  have H1 := n1
  have H2 := n2
  have H3 := n3
  have H4 := n4
  clear nB n0 n1 n2 n3 n4
  go_wp2_with fail
  go_at_call 15
  refine (laws_toIntS.calls k _ _ l1 l1 _ (by repeat (first | exact HR1.out | (with_reducible refine Kd.C_alloc ?_ _) | (with_reducible refine Kd.C_drewN ?_ _) | (with_reducible refine Kd.C_drew ?_) | (refine Kd.C_below HR1.out ?_; exact (by repeat (first | (with_reducible first | exact HB.out | apply below_alloc | apply pw_below_drewN | apply below_drew1) | exact HB.out))))) HC1.out E1.out).mono ?_
  rintro e w9 ⟨v0, rfl, ho0, hb⟩
  have Z9 := Aside0.mk (show w8.heap.size ≤ w9.heap.size from hb.size)
  have n0 := Aside0.mk (Kd.R_below (by (with_reducible repeat (first | apply Kd.R_alloc | apply Kd.R_drewN | apply Kd.R_drew)); exact H0.out) hb)
  have n1 := Aside0.mk (Kd.R_below (by (with_reducible repeat (first | apply Kd.R_alloc | apply Kd.R_drewN | apply Kd.R_drew)); exact H1.out) hb)
  have n2 := Aside0.mk (Kd.R_below (by (with_reducible repeat (first | apply Kd.R_alloc | apply Kd.R_drewN | apply Kd.R_drew)); exact H2.out) hb)
  have n3 := Aside0.mk (Kd.R_below (by (with_reducible repeat (first | apply Kd.R_alloc | apply Kd.R_drewN | apply Kd.R_drew)); exact H3.out) hb)
  have n4 := Aside0.mk (Kd.R_below (by (with_reducible repeat (first | apply Kd.R_alloc | apply Kd.R_drewN | apply Kd.R_drew)); exact H4.out) hb)
  obtain ⟨AO5, cO5, eO5⟩ := Kd.R_slice ho0
  subst eO5
  have n5 : Aside0 (Kd.R (Kd.int .i64) 3 w9 w.heap.size (fun k_ => w8.heap.size ≤ k_ ∧ k_ < w9.heap.size) (.slice AO5 l1.length cO5) l1) := Aside0.mk (Kd.R_lower (Kd.R_mono (Kd.R_bound ho0) (fun k_ h_ => ⟨h_.2.1, h_.2.2.1⟩)) (below_size (by repeat (first | (with_reducible first | exact HB.out | apply below_alloc | apply pw_below_drewN | apply below_drew1) | exact HB.out))))
  have nB := Aside0.mk (below_step (by repeat (first | (with_reducible first | exact HB.out | apply below_alloc | apply pw_below_drewN | apply below_drew1) | exact HB.out)) hb)
  clear hb HB ho0 H0 H1 H2 H3 H4
  have HB := nB
  have H0 := n0
  have H1 := n1
  have H2 := n2
  have H3 := n3
  have H4 := n4
  have H5 := n5
  clear nB n0 n1 n2 n3 n4 n5
  go_wp2_with fail
  go_at_call 17
  refine (laws_eqIntS.calls k _ _ l1 _ _ l1 true _ (by repeat (first | exact (Kd.R_reads' H3.out).2.2 | (with_reducible refine Kd.C_alloc ?_ _) | (with_reducible refine Kd.C_drewN ?_ _) | (with_reducible refine Kd.C_drew ?_))) (Kd.R_reads' H3.out).2.1 (by repeat (first | exact (Kd.R_reads' H5.out).2.2 | (with_reducible refine Kd.C_alloc ?_ _) | (with_reducible refine Kd.C_drewN ?_ _) | (with_reducible refine Kd.C_drew ?_))) (Kd.R_reads' H5.out).2.1 E5.out).mono ?_
  rintro e w10 ⟨rfl, hd⟩
  have hb := drawn_below hd
  clear hd
  have Z10 := Aside0.mk (show w9.heap.size ≤ w10.heap.size from hb.size)
  have n0 := Aside0.mk (Kd.R_below (by (with_reducible repeat (first | apply Kd.R_alloc | apply Kd.R_drewN | apply Kd.R_drew)); exact H0.out) hb)
  have n1 := Aside0.mk (Kd.R_below (by (with_reducible repeat (first | apply Kd.R_alloc | apply Kd.R_drewN | apply Kd.R_drew)); exact H1.out) hb)
  have n2 := Aside0.mk (Kd.R_below (by (with_reducible repeat (first | apply Kd.R_alloc | apply Kd.R_drewN | apply Kd.R_drew)); exact H2.out) hb)
  have n3 := Aside0.mk (Kd.R_below (by (with_reducible repeat (first | apply Kd.R_alloc | apply Kd.R_drewN | apply Kd.R_drew)); exact H3.out) hb)
  have n4 := Aside0.mk (Kd.R_below (by (with_reducible repeat (first | apply Kd.R_alloc | apply Kd.R_drewN | apply Kd.R_drew)); exact H4.out) hb)
  have n5 := Aside0.mk (Kd.R_below (by (with_reducible repeat (first | apply Kd.R_alloc | apply Kd.R_drewN | apply Kd.R_drew)); exact H5.out) hb)
  have nB := Aside0.mk (below_step (by repeat (first | (with_reducible first | exact HB.out | apply below_alloc | apply pw_below_drewN | apply below_drew1) | exact HB.out)) hb)
  clear hb HB H0 H1 H2 H3 H4 H5
  have HB := nB
  have H0 := n0
  have H1 := n1
  have H2 := n2
  have H3 := n3
  have H4 := n4
  have H5 := n5
  clear nB n0 n1 n2 n3 n4 n5
  go_wp2
  go_ret
  exact ⟨by first | rfl | (simp [errW_none, errW_some] <;> rfl) | (simp [*, errW_none, errW_some] <;> rfl), by repeat (first | (with_reducible first | exact HB.out | apply below_alloc | apply pw_below_drewN | apply below_drew1) | exact HB.out)⟩
end Go.Proofs.Ytokbhekicjnglaa.QFnExactAreConjugate
