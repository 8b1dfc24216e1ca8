/- The law FnExactStandardGluing's function: what it needs to be told, and what its call does. Conditions: those of the statement itself. -/
import Derived.Test.YtehloilmokhmgaaMarkFnExactStandardGluing
namespace Go.Proofs.Ytehloilmokhmgaa.QFnExactStandardGluing
open Go.RowKit Go.Proofs.YtehloilmokhmgaaW.PrintWords Go.Proofs.YtehloilmokhmgaaW.PrintLast Go.Proofs.YtehloilmokhmgaaW.PrintMore
attribute [local go_sem] max2_int min2_int max_two min_two max_three min_three max_four min_four
set_option linter.unusedVariables false
set_option linter.unusedSimpArgs false
theorem drawn_below {W w' : World} (h : Drawn0 W w') : Below W.heap.size W w' := by obtain ⟨nd, rfl⟩ := h; exact pw_below_drewN (Below.refl _ _) nd
def laws_FnExactStandardGluing.Facts (k : Nat) (a0_0 : Int) (a0_1 : Int) (a0_2 : Int) : Prop := ∃ (r0 : List (List Int)) (o1 : Bool) (M_r0 : Int) (r0m : List (List Int)), 0 ≤ M_r0 ∧ laws_toSurface.f a0_0 a0_1 a0_2 = some (a0_0, a0_1, a0_2) ∧ spec_StandardGluing.f k a0_0 a0_1 a0_2 = some (r0, o1) ∧ impl_StandardGluing.f k a0_0 a0_1 a0_2 = some (r0, o1) ∧ laws_eqIntSS.f k r0 r0 = some true ∧ laws_markIntSS.f k r0 1 = some (M_r0, r0m) ∧ laws_heldIntSS.f k r0m 1 = some M_r0
open Classical in
noncomputable def laws_FnExactStandardGluing.f (k : Nat) (a0_0 : Int) (a0_1 : Int) (a0_2 : Int) : Option Bool := if (laws_FnExactStandardGluing.Facts k a0_0 a0_1 a0_2) then some true else none
set_option maxHeartbeats 8000000 in
set_option maxRecDepth 100000 in
theorem laws_FnExactStandardGluing.calls (k : Nat) (a0_0 a0_1 a0_2 : Int) (r : Bool) (w : World)  (h : laws_FnExactStandardGluing.f k a0_0 a0_1 a0_2 = some r) :
    Calls Try.prog 9 #[.agg #[.int .i64 a0_0, .int .i64 a0_1, .int .i64 a0_2]] w fun e w' => e = .returned (.bool r) ∧ Below w.heap.size w w' := by
  obtain ⟨wB, hwB⟩ : ∃ wB : World, wB = w.alloc (.cells #[.int .i64 a0_0, .int .i64 a0_1, .int .i64 a0_2] 24) := ⟨_, rfl⟩
  unfold laws_FnExactStandardGluing.f at h
  split at h
  rotate_left
  · cases h
  rename_i hF
  obtain rfl := Option.some.inj h
  clear h
  have hbx_ := blk_new w (.cells #[.int .i64 a0_0, .int .i64 a0_1, .int .i64 a0_2] 24)
  have hcx_0 : (w.alloc (.cells #[.int .i64 a0_0, .int .i64 a0_1, .int .i64 a0_2] 24)).cell? ⟨w.heap.size, 0, none⟩ = some (.int .i64 a0_0) := (blk_cell hbx_ 0).trans rfl
  have hcx_1 : (w.alloc (.cells #[.int .i64 a0_0, .int .i64 a0_1, .int .i64 a0_2] 24)).cell? ⟨w.heap.size, 1, none⟩ = some (.int .i64 a0_1) := (blk_cell hbx_ 1).trans rfl
  have hcx_2 : (w.alloc (.cells #[.int .i64 a0_0, .int .i64 a0_1, .int .i64 a0_2] 24)).cell? ⟨w.heap.size, 2, none⟩ = some (.int .i64 a0_2) := (blk_cell hbx_ 2).trans rfl
  have BX0 := Aside0.mk (show wB.heap[w.heap.size]? = some (.cells #[.int .i64 a0_0, .int .i64 a0_1, .int .i64 a0_2] 24 (0, 0)) from by rw [hwB]; exact hbx_)
  have BW0 := Aside0.mk (show Below w.heap.size w wB from by rw [hwB]; exact below_alloc (Below.refl _ _) _)
  have HB := Aside0.mk (Below.refl wB.heap.size wB)
  have HWB := Aside0.mk hwB
  clear hwB hbx_
  obtain ⟨r0, o1, M_r0, r0m, p_M_r0, E00, E10, E20, E30, E40, E50⟩ := hF
  have c_M_r0 : decide (M_r0 < 0) = false := decide_eq_false (by omega)
  clear p_M_r0
  have E0 := Aside0.mk E00
  have E1 := Aside0.mk E10
  have E2 := Aside0.mk E20
  have E3 := Aside0.mk E30
  have E4 := Aside0.mk E40
  have E5 := Aside0.mk E50
  clear E00
  clear E10
  clear E20
  clear E30
  clear E40
  clear E50
  have b_o1 : (!(o1 == o1)) = false := by cases o1 <;> rfl
  go_enter Try.func9, Try.ntmps9
  go_wp2_with fail
  go_at_call 13
  rw [← HWB.out]
  clear hcx_0 hcx_1 hcx_2
  refine (laws_toSurface.calls a0_0 a0_1 a0_2 a0_0 a0_1 a0_2 _  E0.out).mono ?_
  rintro e w1 ⟨rfl, hb⟩
  have Z1 := Aside0.mk (show wB.heap.size ≤ w1.heap.size from hb.size)
  have nB := Aside0.mk (below_step (by repeat (first | (with_reducible first | exact HB.out | apply below_alloc | apply pw_below_drewN | apply below_drew1) | exact HB.out)) hb)
  clear hb HB
  have HB := nB
  clear nB
  go_wp2_with fail
  go_at_call 29
  refine (spec_StandardGluing.calls k a0_0 a0_1 a0_2 r0 o1 _  E1.out).mono ?_
  rintro e w2 ⟨v0, rfl, ho0, hb⟩
  have Z2 := Aside0.mk (show w1.heap.size ≤ w2.heap.size from hb.size)
  obtain ⟨AO0, cO0, eO0⟩ := Kd.S_slice ho0
  subst eO0
  have n0 : Aside0 (Kd.S (Kd.slice 3 (Kd.int .i64)) 54 w2 wB.heap.size (fun k_ => w1.heap.size ≤ k_ ∧ k_ < w2.heap.size) (.slice AO0 r0.length cO0) r0) := Aside0.mk (Kd.S_lower (Kd.S_mono (Kd.S_bound ho0) (fun k_ h_ => ⟨h_.2.1, h_.2.2.1⟩)) (below_size (by repeat (first | (with_reducible first | exact HB.out | apply below_alloc | apply pw_below_drewN | apply below_drew1) | exact HB.out))))
  have nB := Aside0.mk (below_step (by repeat (first | (with_reducible first | exact HB.out | apply below_alloc | apply pw_below_drewN | apply below_drew1) | exact HB.out)) hb)
  clear hb HB ho0
  have HB := nB
  have H0 := n0
  clear nB n0
  have hcx_0 : w2.cell? ⟨w.heap.size, 0, none⟩ = some (.int .i64 a0_0) := (blk_cell (blk_below BX0.out (by repeat (first | (with_reducible first | exact HB.out | apply below_alloc | apply pw_below_drewN | apply below_drew1) | exact HB.out))) 0).trans rfl
  have hcx_1 : w2.cell? ⟨w.heap.size, 1, none⟩ = some (.int .i64 a0_1) := (blk_cell (blk_below BX0.out (by repeat (first | (with_reducible first | exact HB.out | apply below_alloc | apply pw_below_drewN | apply below_drew1) | exact HB.out))) 1).trans rfl
  have hcx_2 : w2.cell? ⟨w.heap.size, 2, none⟩ = some (.int .i64 a0_2) := (blk_cell (blk_below BX0.out (by repeat (first | (with_reducible first | exact HB.out | apply below_alloc | apply pw_below_drewN | apply below_drew1) | exact HB.out))) 2).trans rfl
  go_wp2_with fail
  go_at_call 13
  clear hcx_0 hcx_1 hcx_2
  refine (laws_toSurface.calls a0_0 a0_1 a0_2 a0_0 a0_1 a0_2 _  E0.out).mono ?_
  rintro e w3 ⟨rfl, hb⟩
  have Z3 := Aside0.mk (show w2.heap.size ≤ w3.heap.size from hb.size)
  have n0 := Aside0.mk (Kd.S_below (by (with_reducible repeat (first | apply Kd.S_alloc | apply Kd.S_drewN | apply Kd.S_drew)); exact H0.out) hb)
  have nB := Aside0.mk (below_step (by repeat (first | (with_reducible first | exact HB.out | apply below_alloc | apply pw_below_drewN | apply below_drew1) | exact HB.out)) hb)
  clear hb HB H0
  have HB := nB
  have H0 := n0
  clear nB n0
  go_wp2_with fail
  go_at_call 30
  refine (impl_StandardGluing.calls k a0_0 a0_1 a0_2 r0 o1 _  E2.out).mono ?_
  rintro e w4 ⟨v0, rfl, ho0, hb⟩
  have Z4 := Aside0.mk (show w3.heap.size ≤ w4.heap.size from hb.size)
  have n0 := Aside0.mk (Kd.S_below (by (with_reducible repeat (first | apply Kd.S_alloc | apply Kd.S_drewN | apply Kd.S_drew)); exact H0.out) hb)
  obtain ⟨AO1, cO1, eO1⟩ := Kd.S_slice ho0
  subst eO1
  have n1 : Aside0 (Kd.S (Kd.slice 3 (Kd.int .i64)) 54 w4 wB.heap.size (fun k_ => w3.heap.size ≤ k_ ∧ k_ < w4.heap.size) (.slice AO1 r0.length cO1) r0) := Aside0.mk (Kd.S_lower (Kd.S_mono (Kd.S_bound ho0) (fun k_ h_ => ⟨h_.2.1, h_.2.2.1⟩)) (below_size (by repeat (first | (with_reducible first | exact HB.out | apply below_alloc | apply pw_below_drewN | apply below_drew1) | exact HB.out))))
  have nB := Aside0.mk (below_step (by repeat (first | (with_reducible first | exact HB.out | apply below_alloc | apply pw_below_drewN | apply below_drew1) | exact HB.out)) hb)
  clear hb HB ho0 H0
  have HB := nB
  have H0 := n0
  have H1 := n1
  clear nB n0 n1
  go_wp2_with fail
  go_at_call 31
  refine (laws_eqIntSS.calls k _ _ r0 _ _ r0 true _ (by repeat (first | exact (Kd.S_reads' H1.out).2.2 | (with_reducible refine Kd.C_alloc ?_ _) | (with_reducible refine Kd.C_drewN ?_ _) | (with_reducible refine Kd.C_drew ?_))) (Kd.S_reads' H1.out).2.1 (by repeat (first | exact (Kd.S_reads' H0.out).2.2 | (with_reducible refine Kd.C_alloc ?_ _) | (with_reducible refine Kd.C_drewN ?_ _) | (with_reducible refine Kd.C_drew ?_))) (Kd.S_reads' H0.out).2.1 E3.out).mono ?_
  rintro e w5 ⟨rfl, hd⟩
  have hb := drawn_below hd
  clear hd
  have Z5 := Aside0.mk (show w4.heap.size ≤ w5.heap.size from hb.size)
  have n0 := Aside0.mk (Kd.S_below (by (with_reducible repeat (first | apply Kd.S_alloc | apply Kd.S_drewN | apply Kd.S_drew)); exact H0.out) hb)
  have n1 := Aside0.mk (Kd.S_below (by (with_reducible repeat (first | apply Kd.S_alloc | apply Kd.S_drewN | apply Kd.S_drew)); exact H1.out) hb)
  have nB := Aside0.mk (below_step (by repeat (first | (with_reducible first | exact HB.out | apply below_alloc | apply pw_below_drewN | apply below_drew1) | exact HB.out)) hb)
  clear hb HB H0 H1
  have HB := nB
  have H0 := n0
  have H1 := n1
  clear nB n0 n1
  go_wp2_with fail
  go_at_call 32
  refine (laws_markIntSS.calls k (fun k_ => w3.heap.size ≤ k_ ∧ k_ < w4.heap.size) _ r0 1 M_r0 r0m wB _ (by repeat (first | (with_reducible first | exact HB.out | apply below_alloc | apply pw_below_drewN | apply below_drew1) | exact HB.out)) (by (with_reducible repeat (first | apply Kd.S_alloc | apply Kd.S_drewN | apply Kd.S_drew)); exact H1.out) E4.out).mono ?_
  rintro e w6 ⟨rfl, hy, hb, hkp⟩
  have Z6 := Aside0.mk (show w5.heap.size ≤ w6.heap.size from hkp.1)
  have n0 := Aside0.mk (Kd.S_kept (by (with_reducible repeat (first | apply Kd.S_alloc | apply Kd.S_drewN | apply Kd.S_drew)); exact H0.out) hkp (fun k_ h1_ h2_ => by obtain ⟨h3_, h4_⟩ := h1_; obtain ⟨h5_, h6_⟩ := h2_; have := Z1.out; have := Z2.out; have := Z3.out; have := Z4.out; have := Z5.out; have := Z6.out; omega))
  have n1 : Aside0 (Kd.S (Kd.slice 3 (Kd.int .i64)) 54 w6 wB.heap.size (fun k_ => w3.heap.size ≤ k_ ∧ k_ < w6.heap.size) (.slice AO1 r0.length cO1) r0m) := Aside0.mk (Kd.S_mono (Kd.S_bound hy) (fun k_ h_ => by obtain ⟨h1_, h2_, h3_, _⟩ := h_; have := Z1.out; have := Z2.out; have := Z3.out; have := Z4.out; have := Z5.out; have := Z6.out; rcases h1_ with ⟨h5_, h6_⟩ | h5_ <;> exact ⟨by first | exact h5_ | (have h7_ : w5.heap.size ≤ k_ := h5_; omega), h3_⟩))
  have nB := Aside0.mk hb
  clear hy hb hkp HB H0 H1
  have HB := nB
  have H0 := n0
  have H1 := n1
  clear nB n0 n1
  go_wp2_with fail
  go_at_call 33
  refine calls_of_args (args' := #[.slice AO1 r0m.length cO1, (.int .i64 1)]) (by rw [(Kd.S_reads' H1.out).1]) ?_
  refine (laws_heldIntSS.calls k _ _ r0m 1 M_r0 _ (by have h_ := Kd.S_reads' H1.out; have h2_ := h_.2.2; repeat (first | exact h2_ | (with_reducible refine Kd.C_alloc ?_ _) | (with_reducible refine Kd.C_drewN ?_ _) | (with_reducible refine Kd.C_drew ?_))) (by have h_ := Kd.S_reads' H1.out; have := h_.2.1; have := h_.1; omega) E5.out).mono ?_
  rintro e w7 ⟨rfl, hd⟩
  have hb := drawn_below hd
  clear hd
  have Z7 := Aside0.mk (show w6.heap.size ≤ w7.heap.size from hb.size)
  have n0 := Aside0.mk (Kd.S_below (by (with_reducible repeat (first | apply Kd.S_alloc | apply Kd.S_drewN | apply Kd.S_drew)); exact H0.out) hb)
  have n1 := Aside0.mk (Kd.S_below (by (with_reducible repeat (first | apply Kd.S_alloc | apply Kd.S_drewN | apply Kd.S_drew)); exact H1.out) hb)
  have nB := Aside0.mk (below_step (by repeat (first | (with_reducible first | exact HB.out | apply below_alloc | apply pw_below_drewN | apply below_drew1) | exact HB.out)) hb)
  clear hb HB H0 H1
  have HB := nB
  have H0 := n0
  have H1 := n1
  clear nB n0 n1
  have hcx_0 : w7.cell? ⟨w.heap.size, 0, none⟩ = some (.int .i64 a0_0) := (blk_cell (blk_below BX0.out (by repeat (first | (with_reducible first | exact HB.out | apply below_alloc | apply pw_below_drewN | apply below_drew1) | exact HB.out))) 0).trans rfl
  have hcx_1 : w7.cell? ⟨w.heap.size, 1, none⟩ = some (.int .i64 a0_1) := (blk_cell (blk_below BX0.out (by repeat (first | (with_reducible first | exact HB.out | apply below_alloc | apply pw_below_drewN | apply below_drew1) | exact HB.out))) 1).trans rfl
  have hcx_2 : w7.cell? ⟨w.heap.size, 2, none⟩ = some (.int .i64 a0_2) := (blk_cell (blk_below BX0.out (by repeat (first | (with_reducible first | exact HB.out | apply below_alloc | apply pw_below_drewN | apply below_drew1) | exact HB.out))) 2).trans rfl
  go_wp2_with fail
  go_at_call 13
  clear hcx_0 hcx_1 hcx_2
  refine (laws_toSurface.calls a0_0 a0_1 a0_2 a0_0 a0_1 a0_2 _  E0.out).mono ?_
  rintro e w8 ⟨rfl, hb⟩
  have Z8 := Aside0.mk (show w7.heap.size ≤ w8.heap.size from hb.size)
  have n0 := Aside0.mk (Kd.S_below (by (with_reducible repeat (first | apply Kd.S_alloc | apply Kd.S_drewN | apply Kd.S_drew)); exact H0.out) hb)
  have n1 := Aside0.mk (Kd.S_below (by (with_reducible repeat (first | apply Kd.S_alloc | apply Kd.S_drewN | apply Kd.S_drew)); exact H1.out) hb)
  have nB := Aside0.mk (below_step (by repeat (first | (with_reducible first | exact HB.out | apply below_alloc | apply pw_below_drewN | apply below_drew1) | exact HB.out)) hb)
  clear hb HB H0 H1
  have HB := nB
  have H0 := n0
  have H1 := n1
  clear nB n0 n1
  go_wp2_with fail
  go_at_call 30
  refine (impl_StandardGluing.calls k a0_0 a0_1 a0_2 r0 o1 _  E2.out).mono ?_
  rintro e w9 ⟨v0, rfl, ho0, hb⟩
  have Z9 := Aside0.mk (show w8.heap.size ≤ w9.heap.size from hb.size)
  have n0 := Aside0.mk (Kd.S_below (by (with_reducible repeat (first | apply Kd.S_alloc | apply Kd.S_drewN | apply Kd.S_drew)); exact H0.out) hb)
  have n1 := Aside0.mk (Kd.S_below (by (with_reducible repeat (first | apply Kd.S_alloc | apply Kd.S_drewN | apply Kd.S_drew)); exact H1.out) hb)
  obtain ⟨AO2, cO2, eO2⟩ := Kd.S_slice ho0
  subst eO2
  have n2 : Aside0 (Kd.S (Kd.slice 3 (Kd.int .i64)) 54 w9 wB.heap.size (fun k_ => w8.heap.size ≤ k_ ∧ k_ < w9.heap.size) (.slice AO2 r0.length cO2) r0) := Aside0.mk (Kd.S_lower (Kd.S_mono (Kd.S_bound ho0) (fun k_ h_ => ⟨h_.2.1, h_.2.2.1⟩)) (below_size (by repeat (first | (with_reducible first | exact HB.out | apply below_alloc | apply pw_below_drewN | apply below_drew1) | exact HB.out))))
  have nB := Aside0.mk (below_step (by repeat (first | (with_reducible first | exact HB.out | apply below_alloc | apply pw_below_drewN | apply below_drew1) | exact HB.out)) hb)
  clear hb HB ho0 H0 H1
  have HB := nB
  have H0 := n0
  have H1 := n1
  have H2 := n2
  clear nB n0 n1 n2
  go_wp2_with fail
  go_at_call 31
  refine (laws_eqIntSS.calls k _ _ r0 _ _ r0 true _ (by repeat (first | exact (Kd.S_reads' H2.out).2.2 | (with_reducible refine Kd.C_alloc ?_ _) | (with_reducible refine Kd.C_drewN ?_ _) | (with_reducible refine Kd.C_drew ?_))) (Kd.S_reads' H2.out).2.1 (by repeat (first | exact (Kd.S_reads' H0.out).2.2 | (with_reducible refine Kd.C_alloc ?_ _) | (with_reducible refine Kd.C_drewN ?_ _) | (with_reducible refine Kd.C_drew ?_))) (Kd.S_reads' H0.out).2.1 E3.out).mono ?_
  rintro e w10 ⟨rfl, hd⟩
  have hb := drawn_below hd
  clear hd
  have Z10 := Aside0.mk (show w9.heap.size ≤ w10.heap.size from hb.size)
  have n0 := Aside0.mk (Kd.S_below (by (with_reducible repeat (first | apply Kd.S_alloc | apply Kd.S_drewN | apply Kd.S_drew)); exact H0.out) hb)
  have n1 := Aside0.mk (Kd.S_below (by (with_reducible repeat (first | apply Kd.S_alloc | apply Kd.S_drewN | apply Kd.S_drew)); exact H1.out) hb)
  have n2 := Aside0.mk (Kd.S_below (by (with_reducible repeat (first | apply Kd.S_alloc | apply Kd.S_drewN | apply Kd.S_drew)); exact H2.out) hb)
  have nB := Aside0.mk (below_step (by repeat (first | (with_reducible first | exact HB.out | apply below_alloc | apply pw_below_drewN | apply below_drew1) | exact HB.out)) hb)
  clear hb HB H0 H1 H2
  have HB := nB
  have H0 := n0
  have H1 := n1
  have H2 := n2
  clear nB n0 n1 n2
  go_wp2_with fail
  go_at_call 33
  refine calls_of_args (args' := #[.slice AO1 r0m.length cO1, (.int .i64 1)]) (by rw [(Kd.S_reads' H1.out).1]) ?_
  refine (laws_heldIntSS.calls k _ _ r0m 1 M_r0 _ (by have h_ := Kd.S_reads' H1.out; have h2_ := h_.2.2; repeat (first | exact h2_ | (with_reducible refine Kd.C_alloc ?_ _) | (with_reducible refine Kd.C_drewN ?_ _) | (with_reducible refine Kd.C_drew ?_))) (by have h_ := Kd.S_reads' H1.out; have := h_.2.1; have := h_.1; omega) E5.out).mono ?_
  rintro e w11 ⟨rfl, hd⟩
  have hb := drawn_below hd
  clear hd
  have Z11 := Aside0.mk (show w10.heap.size ≤ w11.heap.size from hb.size)
  have n0 := Aside0.mk (Kd.S_below (by (with_reducible repeat (first | apply Kd.S_alloc | apply Kd.S_drewN | apply Kd.S_drew)); exact H0.out) hb)
  have n1 := Aside0.mk (Kd.S_below (by (with_reducible repeat (first | apply Kd.S_alloc | apply Kd.S_drewN | apply Kd.S_drew)); exact H1.out) hb)
  have n2 := Aside0.mk (Kd.S_below (by (with_reducible repeat (first | apply Kd.S_alloc | apply Kd.S_drewN | apply Kd.S_drew)); exact H2.out) hb)
  have nB := Aside0.mk (below_step (by repeat (first | (with_reducible first | exact HB.out | apply below_alloc | apply pw_below_drewN | apply below_drew1) | exact HB.out)) hb)
  clear hb HB H0 H1 H2
  have HB := nB
  have H0 := n0
  have H1 := n1
  have H2 := n2
  clear nB n0 n1 n2
  go_wp2
  go_ret
  exact ⟨by first | rfl | (simp [errW_none, errW_some] <;> rfl) | (simp [*, errW_none, errW_some] <;> rfl), below_step BW0.out (by repeat (first | (with_reducible first | exact HB.out | apply below_alloc | apply pw_below_drewN | apply below_drew1) | exact HB.out))⟩
end Go.Proofs.Ytehloilmokhmgaa.QFnExactStandardGluing
