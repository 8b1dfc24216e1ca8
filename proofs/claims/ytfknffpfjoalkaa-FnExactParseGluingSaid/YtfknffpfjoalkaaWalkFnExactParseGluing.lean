/- The law FnExactParseGluing's function: what it needs to be told, and what its call does. Conditions: those of the statement itself. -/
import Derived.Test.YtfknffpfjoalkaaMarkFnExactParseGluing
namespace Go.Proofs.Ytfknffpfjoalkaa.QFnExactParseGluing
open Go.RowKit Go.Proofs.YtfknffpfjoalkaaW.PrintWords Go.Proofs.YtfknffpfjoalkaaW.PrintLast Go.Proofs.YtfknffpfjoalkaaW.PrintMore
attribute [local go_sem] max2_int min2_int max_two min_two max_three min_three max_four min_four
set_option linter.unusedVariables false
set_option linter.unusedSimpArgs false
theorem drawn_below {W w' : World} (h : Drawn0 W w') : Below W.heap.size W w' := by obtain ⟨nd, rfl⟩ := h; exact pw_below_drewN (Below.refl _ _) nd
def laws_FnExactParseGluing.Facts (k : Nat) (a0 : ByteArray) : Prop := ∃ (r0 : List (List Int)) (o1 : Bool) (M_r0 : Int) (r0m : List (List Int)), 0 ≤ M_r0 ∧ spec_ParseGluing.f k a0 = some (r0, o1) ∧ impl_ParseGluing.f k a0 = some (r0, o1) ∧ laws_eqIntSS.f k r0 r0 = some true ∧ laws_markIntSS.f k r0 1 = some (M_r0, r0m) ∧ laws_heldIntSS.f k r0m 1 = some M_r0
open Classical in
noncomputable def laws_FnExactParseGluing.f (k : Nat) (a0 : ByteArray) : Option Bool := if ((a0.size : Int) > 1048576 ∨ laws_FnExactParseGluing.Facts k a0) then some true else none
set_option maxHeartbeats 8000000 in
set_option maxRecDepth 100000 in
theorem laws_FnExactParseGluing.calls (k : Nat) (a0 : ByteArray) (r : Bool) (w : World)  (h : laws_FnExactParseGluing.f k a0 = some r) :
    Calls Try.prog 7 #[.string a0] w fun e w' => e = .returned (.bool r) ∧ Below w.heap.size w w' := by
  have HB := Aside0.mk (Below.refl w.heap.size w)
  unfold laws_FnExactParseGluing.f at h
  split at h
  rotate_left
  · cases h
  rename_i hF
  obtain rfl := Option.some.inj h
  clear h
  by_cases hz0 : (a0.size : Int) > 1048576
  · have c0b0 : decide (1048576 < (a0.size : Int)) = true := decide_eq_true hz0
    have c0b1 : decide (1048576 < a0.size) = true := decide_eq_true (by omega)
    clear hz0 hF
    go_enter Try.func7, Try.ntmps7
    go_wp2
    go_ret
    exact ⟨by first | rfl | (simp [errW_none, errW_some] <;> rfl) | (simp [*, errW_none, errW_some] <;> rfl), by repeat (first | (with_reducible first | exact HB.out | apply below_alloc | apply pw_below_drewN | apply below_drew1) | exact HB.out)⟩
  have c0b0 : decide (1048576 < (a0.size : Int)) = false := decide_eq_false hz0
  have c0b1 : decide (1048576 < a0.size) = false := decide_eq_false (by omega)
  replace hF := hF.resolve_left hz0
  clear hz0
  obtain ⟨r0, o1, M_r0, r0m, p_M_r0, E00, E10, E20, E30, E40⟩ := hF
  have c_M_r0 : decide (M_r0 < 0) = false := decide_eq_false (by omega)
  clear p_M_r0
  have E0 := Aside0.mk E00
  have E1 := Aside0.mk E10
  have E2 := Aside0.mk E20
  have E3 := Aside0.mk E30
  have E4 := Aside0.mk E40
  clear E00
  clear E10
  clear E20
  clear E30
  clear E40
  have b_o1 : (!(o1 == o1)) = false := by cases o1 <;> rfl
  go_enter Try.func7, Try.ntmps7
  go_wp2_with fail
  go_at_call 30
  refine (spec_ParseGluing.calls k a0 r0 o1 _  E0.out).mono ?_
  rintro e w1 ⟨v0, rfl, ho0, hb⟩
  have Z1 := Aside0.mk (show w.heap.size ≤ w1.heap.size from hb.size)
  obtain ⟨AO0, cO0, eO0⟩ := Kd.S_slice ho0
  subst eO0
  have n0 : Aside0 (Kd.S (Kd.slice 3 (Kd.int .i64)) 27 w1 w.heap.size (fun k_ => w.heap.size ≤ k_ ∧ k_ < w1.heap.size) (.slice AO0 r0.length cO0) r0) := Aside0.mk (Kd.S_lower (Kd.S_mono (Kd.S_bound ho0) (fun k_ h_ => ⟨h_.2.1, h_.2.2.1⟩)) (below_size (by repeat (first | (with_reducible first | exact HB.out | apply below_alloc | apply pw_below_drewN | apply below_drew1) | exact HB.out))))
  have nB := Aside0.mk (below_step (by repeat (first | (with_reducible first | exact HB.out | apply below_alloc | apply pw_below_drewN | apply below_drew1) | exact HB.out)) hb)
  clear hb HB ho0
  have HB := nB
  have H0 := n0
  clear nB n0
  go_wp2_with fail
  go_at_call 31
  refine (impl_ParseGluing.calls k a0 r0 o1 _  E1.out).mono ?_
  rintro e w2 ⟨v0, rfl, ho0, hb⟩
  have Z2 := Aside0.mk (show w1.heap.size ≤ w2.heap.size from hb.size)
  have n0 := Aside0.mk (Kd.S_below (by (with_reducible repeat (first | apply Kd.S_alloc | apply Kd.S_drewN | apply Kd.S_drew)); exact H0.out) hb)
  obtain ⟨AO1, cO1, eO1⟩ := Kd.S_slice ho0
  subst eO1
  have n1 : Aside0 (Kd.S (Kd.slice 3 (Kd.int .i64)) 27 w2 w.heap.size (fun k_ => w1.heap.size ≤ k_ ∧ k_ < w2.heap.size) (.slice AO1 r0.length cO1) r0) := Aside0.mk (Kd.S_lower (Kd.S_mono (Kd.S_bound ho0) (fun k_ h_ => ⟨h_.2.1, h_.2.2.1⟩)) (below_size (by repeat (first | (with_reducible first | exact HB.out | apply below_alloc | apply pw_below_drewN | apply below_drew1) | exact HB.out))))
  have nB := Aside0.mk (below_step (by repeat (first | (with_reducible first | exact HB.out | apply below_alloc | apply pw_below_drewN | apply below_drew1) | exact HB.out)) hb)
  clear hb HB ho0 H0
  have HB := nB
  have H0 := n0
  have H1 := n1
  clear nB n0 n1
  go_wp2_with fail
  go_at_call 19
  refine (laws_eqIntSS.calls k _ _ r0 _ _ r0 true _ (by repeat (first | exact (Kd.S_reads' H1.out).2.2 | (with_reducible refine Kd.C_alloc ?_ _) | (with_reducible refine Kd.C_drewN ?_ _) | (with_reducible refine Kd.C_drew ?_))) (Kd.S_reads' H1.out).2.1 (by repeat (first | exact (Kd.S_reads' H0.out).2.2 | (with_reducible refine Kd.C_alloc ?_ _) | (with_reducible refine Kd.C_drewN ?_ _) | (with_reducible refine Kd.C_drew ?_))) (Kd.S_reads' H0.out).2.1 E2.out).mono ?_
  rintro e w3 ⟨rfl, hd⟩
  have hb := drawn_below hd
  clear hd
  have Z3 := Aside0.mk (show w2.heap.size ≤ w3.heap.size from hb.size)
  have n0 := Aside0.mk (Kd.S_below (by (with_reducible repeat (first | apply Kd.S_alloc | apply Kd.S_drewN | apply Kd.S_drew)); exact H0.out) hb)
  have n1 := Aside0.mk (Kd.S_below (by (with_reducible repeat (first | apply Kd.S_alloc | apply Kd.S_drewN | apply Kd.S_drew)); exact H1.out) hb)
  have nB := Aside0.mk (below_step (by repeat (first | (with_reducible first | exact HB.out | apply below_alloc | apply pw_below_drewN | apply below_drew1) | exact HB.out)) hb)
  clear hb HB H0 H1
  have HB := nB
  have H0 := n0
  have H1 := n1
  clear nB n0 n1
  go_wp2_with fail
  go_at_call 23
  refine (laws_markIntSS.calls k (fun k_ => w1.heap.size ≤ k_ ∧ k_ < w2.heap.size) _ r0 1 M_r0 r0m w _ (by repeat (first | (with_reducible first | exact HB.out | apply below_alloc | apply pw_below_drewN | apply below_drew1) | exact HB.out)) (by (with_reducible repeat (first | apply Kd.S_alloc | apply Kd.S_drewN | apply Kd.S_drew)); exact H1.out) E3.out).mono ?_
  rintro e w4 ⟨rfl, hy, hb, hkp⟩
  have Z4 := Aside0.mk (show w3.heap.size ≤ w4.heap.size from hkp.1)
  have n0 := Aside0.mk (Kd.S_kept (by (with_reducible repeat (first | apply Kd.S_alloc | apply Kd.S_drewN | apply Kd.S_drew)); exact H0.out) hkp (fun k_ h1_ h2_ => by obtain ⟨h3_, h4_⟩ := h1_; obtain ⟨h5_, h6_⟩ := h2_; have := Z1.out; have := Z2.out; have := Z3.out; have := Z4.out; omega))
  have n1 : Aside0 (Kd.S (Kd.slice 3 (Kd.int .i64)) 27 w4 w.heap.size (fun k_ => w1.heap.size ≤ k_ ∧ k_ < w4.heap.size) (.slice AO1 r0.length cO1) r0m) := Aside0.mk (Kd.S_mono (Kd.S_bound hy) (fun k_ h_ => by obtain ⟨h1_, h2_, h3_, _⟩ := h_; have := Z1.out; have := Z2.out; have := Z3.out; have := Z4.out; rcases h1_ with ⟨h5_, h6_⟩ | h5_ <;> exact ⟨by first | exact h5_ | (have h7_ : w3.heap.size ≤ k_ := h5_; omega), h3_⟩))
  have nB := Aside0.mk hb
  clear hy hb hkp HB H0 H1
  have HB := nB
  have H0 := n0
  have H1 := n1
  clear nB n0 n1
  go_wp2_with fail
  go_at_call 32
  refine calls_of_args (args' := #[.slice AO1 r0m.length cO1, (.int .i64 1)]) (by rw [(Kd.S_reads' H1.out).1]) ?_
  refine (laws_heldIntSS.calls k _ _ r0m 1 M_r0 _ (by have h_ := Kd.S_reads' H1.out; have h2_ := h_.2.2; repeat (first | exact h2_ | (with_reducible refine Kd.C_alloc ?_ _) | (with_reducible refine Kd.C_drewN ?_ _) | (with_reducible refine Kd.C_drew ?_))) (by have h_ := Kd.S_reads' H1.out; have := h_.2.1; have := h_.1; omega) E4.out).mono ?_
  rintro e w5 ⟨rfl, hd⟩
  have hb := drawn_below hd
  clear hd
  have Z5 := Aside0.mk (show w4.heap.size ≤ w5.heap.size from hb.size)
  have n0 := Aside0.mk (Kd.S_below (by (with_reducible repeat (first | apply Kd.S_alloc | apply Kd.S_drewN | apply Kd.S_drew)); exact H0.out) hb)
  have n1 := Aside0.mk (Kd.S_below (by (with_reducible repeat (first | apply Kd.S_alloc | apply Kd.S_drewN | apply Kd.S_drew)); exact H1.out) hb)
  have nB := Aside0.mk (below_step (by repeat (first | (with_reducible first | exact HB.out | apply below_alloc | apply pw_below_drewN | apply below_drew1) | exact HB.out)) hb)
  clear hb HB H0 H1
  have HB := nB
  have H0 := n0
  have H1 := n1
  clear nB n0 n1
  go_wp2_with fail
  go_at_call 31
  refine (impl_ParseGluing.calls k a0 r0 o1 _  E1.out).mono ?_
  rintro e w6 ⟨v0, rfl, ho0, hb⟩
  have Z6 := Aside0.mk (show w5.heap.size ≤ w6.heap.size from hb.size)
  have n0 := Aside0.mk (Kd.S_below (by (with_reducible repeat (first | apply Kd.S_alloc | apply Kd.S_drewN | apply Kd.S_drew)); exact H0.out) hb)
  have n1 := Aside0.mk (Kd.S_below (by (with_reducible repeat (first | apply Kd.S_alloc | apply Kd.S_drewN | apply Kd.S_drew)); exact H1.out) hb)
  obtain ⟨AO2, cO2, eO2⟩ := Kd.S_slice ho0
  subst eO2
  have n2 : Aside0 (Kd.S (Kd.slice 3 (Kd.int .i64)) 27 w6 w.heap.size (fun k_ => w5.heap.size ≤ k_ ∧ k_ < w6.heap.size) (.slice AO2 r0.length cO2) r0) := Aside0.mk (Kd.S_lower (Kd.S_mono (Kd.S_bound ho0) (fun k_ h_ => ⟨h_.2.1, h_.2.2.1⟩)) (below_size (by repeat (first | (with_reducible first | exact HB.out | apply below_alloc | apply pw_below_drewN | apply below_drew1) | exact HB.out))))
  have nB := Aside0.mk (below_step (by repeat (first | (with_reducible first | exact HB.out | apply below_alloc | apply pw_below_drewN | apply below_drew1) | exact HB.out)) hb)
  clear hb HB ho0 H0 H1
  have HB := nB
  have H0 := n0
  have H1 := n1
  have H2 := n2
  clear nB n0 n1 n2
  go_wp2_with fail
  go_at_call 19
  refine (laws_eqIntSS.calls k _ _ r0 _ _ r0 true _ (by repeat (first | exact (Kd.S_reads' H2.out).2.2 | (with_reducible refine Kd.C_alloc ?_ _) | (with_reducible refine Kd.C_drewN ?_ _) | (with_reducible refine Kd.C_drew ?_))) (Kd.S_reads' H2.out).2.1 (by repeat (first | exact (Kd.S_reads' H0.out).2.2 | (with_reducible refine Kd.C_alloc ?_ _) | (with_reducible refine Kd.C_drewN ?_ _) | (with_reducible refine Kd.C_drew ?_))) (Kd.S_reads' H0.out).2.1 E2.out).mono ?_
  rintro e w7 ⟨rfl, hd⟩
  have hb := drawn_below hd
  clear hd
  have Z7 := Aside0.mk (show w6.heap.size ≤ w7.heap.size from hb.size)
  have n0 := Aside0.mk (Kd.S_below (by (with_reducible repeat (first | apply Kd.S_alloc | apply Kd.S_drewN | apply Kd.S_drew)); exact H0.out) hb)
  have n1 := Aside0.mk (Kd.S_below (by (with_reducible repeat (first | apply Kd.S_alloc | apply Kd.S_drewN | apply Kd.S_drew)); exact H1.out) hb)
  have n2 := Aside0.mk (Kd.S_below (by (with_reducible repeat (first | apply Kd.S_alloc | apply Kd.S_drewN | apply Kd.S_drew)); exact H2.out) hb)
  have nB := Aside0.mk (below_step (by repeat (first | (with_reducible first | exact HB.out | apply below_alloc | apply pw_below_drewN | apply below_drew1) | exact HB.out)) hb)
  clear hb HB H0 H1 H2
  have HB := nB
  have H0 := n0
  have H1 := n1
  have H2 := n2
  clear nB n0 n1 n2
  go_wp2_with fail
  go_at_call 32
  refine calls_of_args (args' := #[.slice AO1 r0m.length cO1, (.int .i64 1)]) (by rw [(Kd.S_reads' H1.out).1]) ?_
  refine (laws_heldIntSS.calls k _ _ r0m 1 M_r0 _ (by have h_ := Kd.S_reads' H1.out; have h2_ := h_.2.2; repeat (first | exact h2_ | (with_reducible refine Kd.C_alloc ?_ _) | (with_reducible refine Kd.C_drewN ?_ _) | (with_reducible refine Kd.C_drew ?_))) (by have h_ := Kd.S_reads' H1.out; have := h_.2.1; have := h_.1; omega) E4.out).mono ?_
  rintro e w8 ⟨rfl, hd⟩
  have hb := drawn_below hd
  clear hd
  have Z8 := Aside0.mk (show w7.heap.size ≤ w8.heap.size from hb.size)
  have n0 := Aside0.mk (Kd.S_below (by (with_reducible repeat (first | apply Kd.S_alloc | apply Kd.S_drewN | apply Kd.S_drew)); exact H0.out) hb)
  have n1 := Aside0.mk (Kd.S_below (by (with_reducible repeat (first | apply Kd.S_alloc | apply Kd.S_drewN | apply Kd.S_drew)); exact H1.out) hb)
  have n2 := Aside0.mk (Kd.S_below (by (with_reducible repeat (first | apply Kd.S_alloc | apply Kd.S_drewN | apply Kd.S_drew)); exact H2.out) hb)
  have nB := Aside0.mk (below_step (by repeat (first | (with_reducible first | exact HB.out | apply below_alloc | apply pw_below_drewN | apply below_drew1) | exact HB.out)) hb)
  clear hb HB H0 H1 H2
  have HB := nB
  have H0 := n0
  have H1 := n1
  have H2 := n2
  clear nB n0 n1 n2
  go_wp2
  go_ret
  exact ⟨by first | rfl | (simp [errW_none, errW_some] <;> rfl) | (simp [*, errW_none, errW_some] <;> rfl), by repeat (first | (with_reducible first | exact HB.out | apply below_alloc | apply pw_below_drewN | apply below_drew1) | exact HB.out)⟩
end Go.Proofs.Ytfknffpfjoalkaa.QFnExactParseGluing
