/- The law FnExactOnePolygon's function: what it needs to be told, and what its call does. Conditions: those of the statement itself. -/
import Derived.Test.YtlnddmkkgjlmbaaMarkFnExactOnePolygon
namespace Go.Proofs.Ytlnddmkkgjlmbaa.QFnExactOnePolygon
open Go.RowKit Go.Proofs.YtlnddmkkgjlmbaaW.PrintWords Go.Proofs.YtlnddmkkgjlmbaaW.PrintLast Go.Proofs.YtlnddmkkgjlmbaaW.PrintMore
attribute [local go_sem] max2_int min2_int max_two min_two max_three min_three max_four min_four
set_option linter.unusedVariables false
set_option linter.unusedSimpArgs false
theorem drawn_below {W w' : World} (h : Drawn0 W w') : Below W.heap.size W w' := by obtain ⟨nd, rfl⟩ := h; exact pw_below_drewN (Below.refl _ _) nd
def laws_FnExactOnePolygon.Facts (k : Nat) (l0 : List (List Int)) : Prop := ∃ (r0 : List (List Int)) (o1 : Bool) (M_l0 : Int) (l0m : List (List Int)) (M_r0 : Int) (r0m : List (List Int)), 0 ≤ M_l0 ∧ 0 ≤ M_r0 ∧ laws_toIntSS.f k l0 = some l0 ∧ spec_OnePolygon.f k l0 = some (r0, o1) ∧ impl_OnePolygon.f k l0 = some (r0, o1) ∧ laws_eqIntSS.f k r0 r0 = some true ∧ laws_eqIntSS.f k l0 l0 = some true ∧ laws_markIntSS.f k l0 1 = some (M_l0, l0m) ∧ laws_markIntSS.f k r0 1 = some (M_r0, r0m) ∧ laws_heldIntSS.f k r0m 1 = some M_r0
open Classical in
noncomputable def laws_FnExactOnePolygon.f (k : Nat) (l0 : List (List Int)) : Option Bool := if (∃ Lz : Int, laws_szIntSS.f k l0 1048576 = some Lz ∧ (Lz < 0 ∨ 0 ≤ Lz ∧ laws_FnExactOnePolygon.Facts k l0)) then some true else none
set_option maxHeartbeats 8000000 in
set_option maxRecDepth 100000 in
theorem laws_FnExactOnePolygon.calls (k : Nat) (A0 : Option Addr) (c0 : Nat) (l0 : List (List Int)) (r : Bool) (w : World) (hr0 : Kd.C (Kd.slice 3 (Kd.int .i64)) w A0 l0.length l0) (hc0 : l0.length ≤ c0) (h : laws_FnExactOnePolygon.f k l0 = some r) :
    Calls Try.prog 10 #[.slice A0 l0.length c0] w fun e w' => e = .returned (.bool r) ∧ Below w.heap.size w w' := by
  have HR0 := Aside0.mk hr0
  have HC0 := Aside0.mk hc0
  clear hr0 hc0
  have HB := Aside0.mk (Below.refl w.heap.size w)
  unfold laws_FnExactOnePolygon.f at h
  split at h
  rotate_left
  · cases h
  rename_i hF
  obtain rfl := Option.some.inj h
  clear h
  obtain ⟨Lz, E00, hF⟩ := hF
  have E0 := Aside0.mk E00
  clear E00
  go_enter Try.func10, Try.ntmps10
  go_wp2_with fail
  go_at_call 12
  refine (laws_szIntSS.calls k _ _ l0 1048576 Lz _ (by repeat (first | exact HR0.out | (with_reducible refine Kd.C_alloc ?_ _) | (with_reducible refine Kd.C_drewN ?_ _) | (with_reducible refine Kd.C_drew ?_) | (refine Kd.C_below HR0.out ?_; exact (by repeat (first | (with_reducible first | exact HB.out | apply below_alloc | apply pw_below_drewN | apply below_drew1) | exact HB.out))))) HC0.out E0.out).mono ?_
  rintro e w1 ⟨rfl, hd⟩
  have hb := drawn_below hd
  clear hd
  have Z1 := Aside0.mk (show w.heap.size ≤ w1.heap.size from hb.size)
  have nB := Aside0.mk (below_step (by repeat (first | (with_reducible first | exact HB.out | apply below_alloc | apply pw_below_drewN | apply below_drew1) | exact HB.out)) hb)
  clear hb HB
  have HB := nB
  clear nB
  rcases hF with hF | ⟨hF0, hF⟩
  · have c_Lz : decide (Lz < 0) = true := decide_eq_true hF
    clear hF
    go_wp2
    go_ret
    exact ⟨by first | rfl | (simp [errW_none, errW_some] <;> rfl) | (simp [*, errW_none, errW_some] <;> rfl), by repeat (first | (with_reducible first | exact HB.out | apply below_alloc | apply pw_below_drewN | apply below_drew1) | exact HB.out)⟩
  have c_Lz : decide (Lz < 0) = false := decide_eq_false (by omega)
  clear hF0
  obtain ⟨r0, o1, M_l0, l0m, M_r0, r0m, p_M_l0, p_M_r0, E10, E20, E30, E40, E50, E60, E70, E80⟩ := hF
  have c_M_l0 : decide (M_l0 < 0) = false := decide_eq_false (by omega)
  have c_M_r0 : decide (M_r0 < 0) = false := decide_eq_false (by omega)
  clear p_M_l0
  clear p_M_r0
  have E1 := Aside0.mk E10
  have E2 := Aside0.mk E20
  have E3 := Aside0.mk E30
  have E4 := Aside0.mk E40
  have E5 := Aside0.mk E50
  have E6 := Aside0.mk E60
  have E7 := Aside0.mk E70
  have E8 := Aside0.mk E80
  clear E10
  clear E20
  clear E30
  clear E40
  clear E50
  clear E60
  clear E70
  clear E80
  have b_o1 : (!(o1 == o1)) = false := by cases o1 <;> rfl
  go_wp2_with fail
  go_at_call 14
  refine (laws_toIntSS.calls k _ _ l0 l0 _ (by repeat (first | exact HR0.out | (with_reducible refine Kd.C_alloc ?_ _) | (with_reducible refine Kd.C_drewN ?_ _) | (with_reducible refine Kd.C_drew ?_) | (refine Kd.C_below HR0.out ?_; exact (by repeat (first | (with_reducible first | exact HB.out | apply below_alloc | apply pw_below_drewN | apply below_drew1) | exact HB.out))))) HC0.out E1.out).mono ?_
  rintro e w2 ⟨v0, rfl, ho0, hb⟩
  have Z2 := Aside0.mk (show w1.heap.size ≤ w2.heap.size from hb.size)
  obtain ⟨AO0, cO0, eO0⟩ := Kd.S_slice ho0
  subst eO0
  have n0 : Aside0 (Kd.S (Kd.slice 3 (Kd.int .i64)) 47 w2 w.heap.size (fun k_ => w1.heap.size ≤ k_ ∧ k_ < w2.heap.size) (.slice AO0 l0.length cO0) l0) := Aside0.mk (Kd.S_lower (Kd.S_mono (Kd.S_bound ho0) (fun k_ h_ => ⟨h_.2.1, h_.2.2.1⟩)) (below_size (by repeat (first | (with_reducible first | exact HB.out | apply below_alloc | apply pw_below_drewN | apply below_drew1) | exact HB.out))))
  have nB := Aside0.mk (below_step (by repeat (first | (with_reducible first | exact HB.out | apply below_alloc | apply pw_below_drewN | apply below_drew1) | exact HB.out)) hb)
  clear hb HB ho0
  have HB := nB
  have H0 := n0
  clear nB n0
  go_wp2_with fail
  go_at_call 31
  refine (spec_OnePolygon.calls k _ _ l0 r0 o1 _ (by repeat (first | exact (Kd.S_reads' H0.out).2.2 | (with_reducible refine Kd.C_alloc ?_ _) | (with_reducible refine Kd.C_drewN ?_ _) | (with_reducible refine Kd.C_drew ?_))) (Kd.S_reads' H0.out).2.1 E2.out).mono ?_
  rintro e w3 ⟨v0, rfl, ho0, hb⟩
  have Z3 := Aside0.mk (show w2.heap.size ≤ w3.heap.size from hb.size)
  have n0 := Aside0.mk (Kd.S_below (by (with_reducible repeat (first | apply Kd.S_alloc | apply Kd.S_drewN | apply Kd.S_drew)); exact H0.out) hb)
  obtain ⟨AO1, cO1, eO1⟩ := Kd.S_slice ho0
  subst eO1
  have n1 : Aside0 (Kd.S (Kd.slice 3 (Kd.int .i64)) 47 w3 w.heap.size (fun k_ => w2.heap.size ≤ k_ ∧ k_ < w3.heap.size) (.slice AO1 r0.length cO1) r0) := Aside0.mk (Kd.S_lower (Kd.S_mono (Kd.S_bound ho0) (fun k_ h_ => ⟨h_.2.1, h_.2.2.1⟩)) (below_size (by repeat (first | (with_reducible first | exact HB.out | apply below_alloc | apply pw_below_drewN | apply below_drew1) | exact HB.out))))
  have nB := Aside0.mk (below_step (by repeat (first | (with_reducible first | exact HB.out | apply below_alloc | apply pw_below_drewN | apply below_drew1) | exact HB.out)) hb)
  clear hb HB ho0 H0
  have HB := nB
  have H0 := n0
  have H1 := n1
  clear nB n0 n1
  go_wp2_with fail
  go_at_call 14
  refine (laws_toIntSS.calls k _ _ l0 l0 _ (by repeat (first | exact HR0.out | (with_reducible refine Kd.C_alloc ?_ _) | (with_reducible refine Kd.C_drewN ?_ _) | (with_reducible refine Kd.C_drew ?_) | (refine Kd.C_below HR0.out ?_; exact (by repeat (first | (with_reducible first | exact HB.out | apply below_alloc | apply pw_below_drewN | apply below_drew1) | exact HB.out))))) HC0.out E1.out).mono ?_
  rintro e w4 ⟨v0, rfl, ho0, hb⟩
  have Z4 := Aside0.mk (show w3.heap.size ≤ w4.heap.size from hb.size)
  have n0 := Aside0.mk (Kd.S_below (by (with_reducible repeat (first | apply Kd.S_alloc | apply Kd.S_drewN | apply Kd.S_drew)); exact H0.out) hb)
  have n1 := Aside0.mk (Kd.S_below (by (with_reducible repeat (first | apply Kd.S_alloc | apply Kd.S_drewN | apply Kd.S_drew)); exact H1.out) hb)
  obtain ⟨AO2, cO2, eO2⟩ := Kd.S_slice ho0
  subst eO2
  have n2 : Aside0 (Kd.S (Kd.slice 3 (Kd.int .i64)) 47 w4 w.heap.size (fun k_ => w3.heap.size ≤ k_ ∧ k_ < w4.heap.size) (.slice AO2 l0.length cO2) l0) := Aside0.mk (Kd.S_lower (Kd.S_mono (Kd.S_bound ho0) (fun k_ h_ => ⟨h_.2.1, h_.2.2.1⟩)) (below_size (by repeat (first | (with_reducible first | exact HB.out | apply below_alloc | apply pw_below_drewN | apply below_drew1) | exact HB.out))))
  have nB := Aside0.mk (below_step (by repeat (first | (with_reducible first | exact HB.out | apply below_alloc | apply pw_below_drewN | apply below_drew1) | exact HB.out)) hb)
  clear hb HB ho0 H0 H1
  have HB := nB
  have H0 := n0
  have H1 := n1
  have H2 := n2
  clear nB n0 n1 n2
  go_wp2_with fail
  go_at_call 32
  refine (impl_OnePolygon.calls k _ _ l0 r0 o1 _ (by repeat (first | exact (Kd.S_reads' H2.out).2.2 | (with_reducible refine Kd.C_alloc ?_ _) | (with_reducible refine Kd.C_drewN ?_ _) | (with_reducible refine Kd.C_drew ?_))) (Kd.S_reads' H2.out).2.1 E3.out).mono ?_
  rintro e w5 ⟨v0, rfl, ho0, hb⟩
  have Z5 := Aside0.mk (show w4.heap.size ≤ w5.heap.size from hb.size)
  have n0 := Aside0.mk (Kd.S_below (by (with_reducible repeat (first | apply Kd.S_alloc | apply Kd.S_drewN | apply Kd.S_drew)); exact H0.out) hb)
  have n1 := Aside0.mk (Kd.S_below (by (with_reducible repeat (first | apply Kd.S_alloc | apply Kd.S_drewN | apply Kd.S_drew)); exact H1.out) hb)
  have n2 := Aside0.mk (Kd.S_below (by (with_reducible repeat (first | apply Kd.S_alloc | apply Kd.S_drewN | apply Kd.S_drew)); exact H2.out) hb)
  obtain ⟨AO3, cO3, eO3⟩ := Kd.S_slice ho0
  subst eO3
  have n3 : Aside0 (Kd.S (Kd.slice 3 (Kd.int .i64)) 47 w5 w.heap.size (fun k_ => w4.heap.size ≤ k_ ∧ k_ < w5.heap.size) (.slice AO3 r0.length cO3) r0) := Aside0.mk (Kd.S_lower (Kd.S_mono (Kd.S_bound ho0) (fun k_ h_ => ⟨h_.2.1, h_.2.2.1⟩)) (below_size (by repeat (first | (with_reducible first | exact HB.out | apply below_alloc | apply pw_below_drewN | apply below_drew1) | exact HB.out))))
  have nB := Aside0.mk (below_step (by repeat (first | (with_reducible first | exact HB.out | apply below_alloc | apply pw_below_drewN | apply below_drew1) | exact HB.out)) hb)
  clear hb HB ho0 H0 H1 H2
  have HB := nB
  have H0 := n0
  have H1 := n1
  have H2 := n2
  have H3 := n3
  clear nB n0 n1 n2 n3
  go_wp2_with fail
  go_at_call 16
  refine (laws_eqIntSS.calls k _ _ r0 _ _ r0 true _ (by repeat (first | exact (Kd.S_reads' H3.out).2.2 | (with_reducible refine Kd.C_alloc ?_ _) | (with_reducible refine Kd.C_drewN ?_ _) | (with_reducible refine Kd.C_drew ?_))) (Kd.S_reads' H3.out).2.1 (by repeat (first | exact (Kd.S_reads' H1.out).2.2 | (with_reducible refine Kd.C_alloc ?_ _) | (with_reducible refine Kd.C_drewN ?_ _) | (with_reducible refine Kd.C_drew ?_))) (Kd.S_reads' H1.out).2.1 E4.out).mono ?_
  rintro e w6 ⟨rfl, hd⟩
  have hb := drawn_below hd
  clear hd
  have Z6 := Aside0.mk (show w5.heap.size ≤ w6.heap.size from hb.size)
  have n0 := Aside0.mk (Kd.S_below (by (with_reducible repeat (first | apply Kd.S_alloc | apply Kd.S_drewN | apply Kd.S_drew)); exact H0.out) hb)
  have n1 := Aside0.mk (Kd.S_below (by (with_reducible repeat (first | apply Kd.S_alloc | apply Kd.S_drewN | apply Kd.S_drew)); exact H1.out) hb)
  have n2 := Aside0.mk (Kd.S_below (by (with_reducible repeat (first | apply Kd.S_alloc | apply Kd.S_drewN | apply Kd.S_drew)); exact H2.out) hb)
  have n3 := Aside0.mk (Kd.S_below (by (with_reducible repeat (first | apply Kd.S_alloc | apply Kd.S_drewN | apply Kd.S_drew)); exact H3.out) hb)
  have nB := Aside0.mk (below_step (by repeat (first | (with_reducible first | exact HB.out | apply below_alloc | apply pw_below_drewN | apply below_drew1) | exact HB.out)) hb)
  clear hb HB H0 H1 H2 H3
  have HB := nB
  have H0 := n0
  have H1 := n1
  have H2 := n2
  have H3 := n3
  clear nB n0 n1 n2 n3
  go_wp2_with fail
  go_at_call 14
  refine (laws_toIntSS.calls k _ _ l0 l0 _ (by repeat (first | exact HR0.out | (with_reducible refine Kd.C_alloc ?_ _) | (with_reducible refine Kd.C_drewN ?_ _) | (with_reducible refine Kd.C_drew ?_) | (refine Kd.C_below HR0.out ?_; exact (by repeat (first | (with_reducible first | exact HB.out | apply below_alloc | apply pw_below_drewN | apply below_drew1) | exact HB.out))))) HC0.out E1.out).mono ?_
  rintro e w7 ⟨v0, rfl, ho0, hb⟩
  have Z7 := Aside0.mk (show w6.heap.size ≤ w7.heap.size from hb.size)
  have n0 := Aside0.mk (Kd.S_below (by (with_reducible repeat (first | apply Kd.S_alloc | apply Kd.S_drewN | apply Kd.S_drew)); exact H0.out) hb)
  have n1 := Aside0.mk (Kd.S_below (by (with_reducible repeat (first | apply Kd.S_alloc | apply Kd.S_drewN | apply Kd.S_drew)); exact H1.out) hb)
  have n2 := Aside0.mk (Kd.S_below (by (with_reducible repeat (first | apply Kd.S_alloc | apply Kd.S_drewN | apply Kd.S_drew)); exact H2.out) hb)
  have n3 := Aside0.mk (Kd.S_below (by (with_reducible repeat (first | apply Kd.S_alloc | apply Kd.S_drewN | apply Kd.S_drew)); exact H3.out) hb)
  obtain ⟨AO4, cO4, eO4⟩ := Kd.S_slice ho0
  subst eO4
  have n4 : Aside0 (Kd.S (Kd.slice 3 (Kd.int .i64)) 47 w7 w.heap.size (fun k_ => w6.heap.size ≤ k_ ∧ k_ < w7.heap.size) (.slice AO4 l0.length cO4) l0) := Aside0.mk (Kd.S_lower (Kd.S_mono (Kd.S_bound ho0) (fun k_ h_ => ⟨h_.2.1, h_.2.2.1⟩)) (below_size (by repeat (first | (with_reducible first | exact HB.out | apply below_alloc | apply pw_below_drewN | apply below_drew1) | exact HB.out))))
  have nB := Aside0.mk (below_step (by repeat (first | (with_reducible first | exact HB.out | apply below_alloc | apply pw_below_drewN | apply below_drew1) | exact HB.out)) hb)
  clear hb HB ho0 H0 H1 H2 H3
  have HB := nB
  have H0 := n0
  have H1 := n1
  have H2 := n2
  have H3 := n3
  have H4 := n4
  clear nB n0 n1 n2 n3 n4
  go_wp2_with fail
  go_at_call 16
  refine (laws_eqIntSS.calls k _ _ l0 _ _ l0 true _ (by repeat (first | exact (Kd.S_reads' H2.out).2.2 | (with_reducible refine Kd.C_alloc ?_ _) | (with_reducible refine Kd.C_drewN ?_ _) | (with_reducible refine Kd.C_drew ?_))) (Kd.S_reads' H2.out).2.1 (by repeat (first | exact (Kd.S_reads' H4.out).2.2 | (with_reducible refine Kd.C_alloc ?_ _) | (with_reducible refine Kd.C_drewN ?_ _) | (with_reducible refine Kd.C_drew ?_))) (Kd.S_reads' H4.out).2.1 E5.out).mono ?_
  rintro e w8 ⟨rfl, hd⟩
  have hb := drawn_below hd
  clear hd
  have Z8 := Aside0.mk (show w7.heap.size ≤ w8.heap.size from hb.size)
  have n0 := Aside0.mk (Kd.S_below (by (with_reducible repeat (first | apply Kd.S_alloc | apply Kd.S_drewN | apply Kd.S_drew)); exact H0.out) hb)
  have n1 := Aside0.mk (Kd.S_below (by (with_reducible repeat (first | apply Kd.S_alloc | apply Kd.S_drewN | apply Kd.S_drew)); exact H1.out) hb)
  have n2 := Aside0.mk (Kd.S_below (by (with_reducible repeat (first | apply Kd.S_alloc | apply Kd.S_drewN | apply Kd.S_drew)); exact H2.out) hb)
  have n3 := Aside0.mk (Kd.S_below (by (with_reducible repeat (first | apply Kd.S_alloc | apply Kd.S_drewN | apply Kd.S_drew)); exact H3.out) hb)
  have n4 := Aside0.mk (Kd.S_below (by (with_reducible repeat (first | apply Kd.S_alloc | apply Kd.S_drewN | apply Kd.S_drew)); exact H4.out) hb)
  have nB := Aside0.mk (below_step (by repeat (first | (with_reducible first | exact HB.out | apply below_alloc | apply pw_below_drewN | apply below_drew1) | exact HB.out)) hb)
  clear hb HB H0 H1 H2 H3 H4
  have HB := nB
  have H0 := n0
  have H1 := n1
  have H2 := n2
  have H3 := n3
  have H4 := n4
  clear nB n0 n1 n2 n3 n4
  go_wp2_with fail
  go_at_call 17
  refine (laws_markIntSS.calls k (fun k_ => w3.heap.size ≤ k_ ∧ k_ < w4.heap.size) _ l0 1 M_l0 l0m w _ (by repeat (first | (with_reducible first | exact HB.out | apply below_alloc | apply pw_below_drewN | apply below_drew1) | exact HB.out)) (by (with_reducible repeat (first | apply Kd.S_alloc | apply Kd.S_drewN | apply Kd.S_drew)); exact H2.out) E6.out).mono ?_
  rintro e w9 ⟨rfl, hy, hb, hkp⟩
  have Z9 := Aside0.mk (show w8.heap.size ≤ w9.heap.size from hkp.1)
  have n0 := Aside0.mk (Kd.S_kept (by (with_reducible repeat (first | apply Kd.S_alloc | apply Kd.S_drewN | apply Kd.S_drew)); exact H0.out) hkp (fun k_ h1_ h2_ => by obtain ⟨h3_, h4_⟩ := h1_; obtain ⟨h5_, h6_⟩ := h2_; have := Z1.out; have := Z2.out; have := Z3.out; have := Z4.out; have := Z5.out; have := Z6.out; have := Z7.out; have := Z8.out; have := Z9.out; omega))
  have n1 := Aside0.mk (Kd.S_kept (by (with_reducible repeat (first | apply Kd.S_alloc | apply Kd.S_drewN | apply Kd.S_drew)); exact H1.out) hkp (fun k_ h1_ h2_ => by obtain ⟨h3_, h4_⟩ := h1_; obtain ⟨h5_, h6_⟩ := h2_; have := Z1.out; have := Z2.out; have := Z3.out; have := Z4.out; have := Z5.out; have := Z6.out; have := Z7.out; have := Z8.out; have := Z9.out; omega))
  have n3 := Aside0.mk (Kd.S_kept (by (with_reducible repeat (first | apply Kd.S_alloc | apply Kd.S_drewN | apply Kd.S_drew)); exact H3.out) hkp (fun k_ h1_ h2_ => by obtain ⟨h3_, h4_⟩ := h1_; obtain ⟨h5_, h6_⟩ := h2_; have := Z1.out; have := Z2.out; have := Z3.out; have := Z4.out; have := Z5.out; have := Z6.out; have := Z7.out; have := Z8.out; have := Z9.out; omega))
  have n4 := Aside0.mk (Kd.S_kept (by (with_reducible repeat (first | apply Kd.S_alloc | apply Kd.S_drewN | apply Kd.S_drew)); exact H4.out) hkp (fun k_ h1_ h2_ => by obtain ⟨h3_, h4_⟩ := h1_; obtain ⟨h5_, h6_⟩ := h2_; have := Z1.out; have := Z2.out; have := Z3.out; have := Z4.out; have := Z5.out; have := Z6.out; have := Z7.out; have := Z8.out; have := Z9.out; omega))
  have n2 : Aside0 (Kd.S (Kd.slice 3 (Kd.int .i64)) 47 w9 w.heap.size (fun k_ => w3.heap.size ≤ k_ ∧ k_ < w9.heap.size) (.slice AO2 l0.length cO2) l0m) := Aside0.mk (Kd.S_mono (Kd.S_bound hy) (fun k_ h_ => by obtain ⟨h1_, h2_, h3_, _⟩ := h_; have := Z1.out; have := Z2.out; have := Z3.out; have := Z4.out; have := Z5.out; have := Z6.out; have := Z7.out; have := Z8.out; have := Z9.out; rcases h1_ with ⟨h5_, h6_⟩ | h5_ <;> exact ⟨by first | exact h5_ | (have h7_ : w8.heap.size ≤ k_ := h5_; omega), h3_⟩))
  have nB := Aside0.mk hb
  clear hy hb hkp HB H0 H1 H2 H3 H4
  have HB := nB
  have H0 := n0
  have H1 := n1
  have H2 := n2
  have H3 := n3
  have H4 := n4
  clear nB n0 n1 n2 n3 n4
  go_wp2_with fail
  go_at_call 16
  refine (laws_eqIntSS.calls k _ _ r0 _ _ r0 true _ (by repeat (first | exact (Kd.S_reads' H3.out).2.2 | (with_reducible refine Kd.C_alloc ?_ _) | (with_reducible refine Kd.C_drewN ?_ _) | (with_reducible refine Kd.C_drew ?_))) (Kd.S_reads' H3.out).2.1 (by repeat (first | exact (Kd.S_reads' H1.out).2.2 | (with_reducible refine Kd.C_alloc ?_ _) | (with_reducible refine Kd.C_drewN ?_ _) | (with_reducible refine Kd.C_drew ?_))) (Kd.S_reads' H1.out).2.1 E4.out).mono ?_
  rintro e w10 ⟨rfl, hd⟩
  have hb := drawn_below hd
  clear hd
  have Z10 := Aside0.mk (show w9.heap.size ≤ w10.heap.size from hb.size)
  have n0 := Aside0.mk (Kd.S_below (by (with_reducible repeat (first | apply Kd.S_alloc | apply Kd.S_drewN | apply Kd.S_drew)); exact H0.out) hb)
  have n1 := Aside0.mk (Kd.S_below (by (with_reducible repeat (first | apply Kd.S_alloc | apply Kd.S_drewN | apply Kd.S_drew)); exact H1.out) hb)
  have n2 := Aside0.mk (Kd.S_below (by (with_reducible repeat (first | apply Kd.S_alloc | apply Kd.S_drewN | apply Kd.S_drew)); exact H2.out) hb)
  have n3 := Aside0.mk (Kd.S_below (by (with_reducible repeat (first | apply Kd.S_alloc | apply Kd.S_drewN | apply Kd.S_drew)); exact H3.out) hb)
  have n4 := Aside0.mk (Kd.S_below (by (with_reducible repeat (first | apply Kd.S_alloc | apply Kd.S_drewN | apply Kd.S_drew)); exact H4.out) hb)
  have nB := Aside0.mk (below_step (by repeat (first | (with_reducible first | exact HB.out | apply below_alloc | apply pw_below_drewN | apply below_drew1) | exact HB.out)) hb)
  clear hb HB H0 H1 H2 H3 H4
  have HB := nB
  have H0 := n0
  have H1 := n1
  have H2 := n2
  have H3 := n3
  have H4 := n4
  clear nB n0 n1 n2 n3 n4
  go_wp2_with fail
  go_at_call 17
  refine (laws_markIntSS.calls k (fun k_ => w4.heap.size ≤ k_ ∧ k_ < w5.heap.size) _ r0 1 M_r0 r0m w _ (by repeat (first | (with_reducible first | exact HB.out | apply below_alloc | apply pw_below_drewN | apply below_drew1) | exact HB.out)) (by (with_reducible repeat (first | apply Kd.S_alloc | apply Kd.S_drewN | apply Kd.S_drew)); exact H3.out) E7.out).mono ?_
  rintro e w11 ⟨rfl, hy, hb, hkp⟩
  have Z11 := Aside0.mk (show w10.heap.size ≤ w11.heap.size from hkp.1)
  clear H2
  have n0 := Aside0.mk (Kd.S_kept (by (with_reducible repeat (first | apply Kd.S_alloc | apply Kd.S_drewN | apply Kd.S_drew)); exact H0.out) hkp (fun k_ h1_ h2_ => by obtain ⟨h3_, h4_⟩ := h1_; obtain ⟨h5_, h6_⟩ := h2_; have := Z1.out; have := Z2.out; have := Z3.out; have := Z4.out; have := Z5.out; have := Z6.out; have := Z7.out; have := Z8.out; have := Z9.out; have := Z10.out; have := Z11.out; omega))
  have n1 := Aside0.mk (Kd.S_kept (by (with_reducible repeat (first | apply Kd.S_alloc | apply Kd.S_drewN | apply Kd.S_drew)); exact H1.out) hkp (fun k_ h1_ h2_ => by obtain ⟨h3_, h4_⟩ := h1_; obtain ⟨h5_, h6_⟩ := h2_; have := Z1.out; have := Z2.out; have := Z3.out; have := Z4.out; have := Z5.out; have := Z6.out; have := Z7.out; have := Z8.out; have := Z9.out; have := Z10.out; have := Z11.out; omega))
  have n4 := Aside0.mk (Kd.S_kept (by (with_reducible repeat (first | apply Kd.S_alloc | apply Kd.S_drewN | apply Kd.S_drew)); exact H4.out) hkp (fun k_ h1_ h2_ => by obtain ⟨h3_, h4_⟩ := h1_; obtain ⟨h5_, h6_⟩ := h2_; have := Z1.out; have := Z2.out; have := Z3.out; have := Z4.out; have := Z5.out; have := Z6.out; have := Z7.out; have := Z8.out; have := Z9.out; have := Z10.out; have := Z11.out; omega))
  have n3 : Aside0 (Kd.S (Kd.slice 3 (Kd.int .i64)) 47 w11 w.heap.size (fun k_ => w4.heap.size ≤ k_ ∧ k_ < w11.heap.size) (.slice AO3 r0.length cO3) r0m) := Aside0.mk (Kd.S_mono (Kd.S_bound hy) (fun k_ h_ => by obtain ⟨h1_, h2_, h3_, _⟩ := h_; have := Z1.out; have := Z2.out; have := Z3.out; have := Z4.out; have := Z5.out; have := Z6.out; have := Z7.out; have := Z8.out; have := Z9.out; have := Z10.out; have := Z11.out; rcases h1_ with ⟨h5_, h6_⟩ | h5_ <;> exact ⟨by first | exact h5_ | (have h7_ : w10.heap.size ≤ k_ := h5_; omega), h3_⟩))
  have nB := Aside0.mk hb
  clear hy hb hkp HB H0 H1 H3 H4
  have HB := nB
  have H0 := n0
  have H1 := n1
  have H3 := n3
  have H4 := n4
  clear nB n0 n1 n3 n4
  go_wp2_with fail
  go_at_call 18
  refine calls_of_args (args' := #[.slice AO3 r0m.length cO3, (.int .i64 1)]) (by rw [(Kd.S_reads' H3.out).1]) ?_
  refine (laws_heldIntSS.calls k _ _ r0m 1 M_r0 _ (by have h_ := Kd.S_reads' H3.out; have h2_ := h_.2.2; repeat (first | exact h2_ | (with_reducible refine Kd.C_alloc ?_ _) | (with_reducible refine Kd.C_drewN ?_ _) | (with_reducible refine Kd.C_drew ?_))) (by have h_ := Kd.S_reads' H3.out; have := h_.2.1; have := h_.1; omega) E8.out).mono ?_
  rintro e w12 ⟨rfl, hd⟩
  have hb := drawn_below hd
  clear hd
  have Z12 := Aside0.mk (show w11.heap.size ≤ w12.heap.size from hb.size)
  have n0 := Aside0.mk (Kd.S_below (by (with_reducible repeat (first | apply Kd.S_alloc | apply Kd.S_drewN | apply Kd.S_drew)); exact H0.out) hb)
  have n1 := Aside0.mk (Kd.S_below (by (with_reducible repeat (first | apply Kd.S_alloc | apply Kd.S_drewN | apply Kd.S_drew)); exact H1.out) hb)
  have n3 := Aside0.mk (Kd.S_below (by (with_reducible repeat (first | apply Kd.S_alloc | apply Kd.S_drewN | apply Kd.S_drew)); exact H3.out) hb)
  have n4 := Aside0.mk (Kd.S_below (by (with_reducible repeat (first | apply Kd.S_alloc | apply Kd.S_drewN | apply Kd.S_drew)); exact H4.out) hb)
  have nB := Aside0.mk (below_step (by repeat (first | (with_reducible first | exact HB.out | apply below_alloc | apply pw_below_drewN | apply below_drew1) | exact HB.out)) hb)
  clear hb HB H0 H1 H3 H4
  have HB := nB
  have H0 := n0
  have H1 := n1
  have H3 := n3
  have H4 := n4
  clear nB n0 n1 n3 n4
  go_wp2_with fail
  go_at_call 14
  refine (laws_toIntSS.calls k _ _ l0 l0 _ (by repeat (first | exact HR0.out | (with_reducible refine Kd.C_alloc ?_ _) | (with_reducible refine Kd.C_drewN ?_ _) | (with_reducible refine Kd.C_drew ?_) | (refine Kd.C_below HR0.out ?_; exact (by repeat (first | (with_reducible first | exact HB.out | apply below_alloc | apply pw_below_drewN | apply below_drew1) | exact HB.out))))) HC0.out E1.out).mono ?_
  rintro e w13 ⟨v0, rfl, ho0, hb⟩
  have Z13 := Aside0.mk (show w12.heap.size ≤ w13.heap.size from hb.size)
  have n0 := Aside0.mk (Kd.S_below (by (with_reducible repeat (first | apply Kd.S_alloc | apply Kd.S_drewN | apply Kd.S_drew)); exact H0.out) hb)
  have n1 := Aside0.mk (Kd.S_below (by (with_reducible repeat (first | apply Kd.S_alloc | apply Kd.S_drewN | apply Kd.S_drew)); exact H1.out) hb)
  have n3 := Aside0.mk (Kd.S_below (by (with_reducible repeat (first | apply Kd.S_alloc | apply Kd.S_drewN | apply Kd.S_drew)); exact H3.out) hb)
  have n4 := Aside0.mk (Kd.S_below (by (with_reducible repeat (first | apply Kd.S_alloc | apply Kd.S_drewN | apply Kd.S_drew)); exact H4.out) hb)
  obtain ⟨AO5, cO5, eO5⟩ := Kd.S_slice ho0
  subst eO5
  have n5 : Aside0 (Kd.S (Kd.slice 3 (Kd.int .i64)) 47 w13 w.heap.size (fun k_ => w12.heap.size ≤ k_ ∧ k_ < w13.heap.size) (.slice AO5 l0.length cO5) l0) := Aside0.mk (Kd.S_lower (Kd.S_mono (Kd.S_bound ho0) (fun k_ h_ => ⟨h_.2.1, h_.2.2.1⟩)) (below_size (by repeat (first | (with_reducible first | exact HB.out | apply below_alloc | apply pw_below_drewN | apply below_drew1) | exact HB.out))))
  have nB := Aside0.mk (below_step (by repeat (first | (with_reducible first | exact HB.out | apply below_alloc | apply pw_below_drewN | apply below_drew1) | exact HB.out)) hb)
  clear hb HB ho0 H0 H1 H3 H4
  have HB := nB
  have H0 := n0
  have H1 := n1
  have H3 := n3
  have H4 := n4
  have H5 := n5
  clear nB n0 n1 n3 n4 n5
  go_wp2_with fail
  go_at_call 32
  refine (impl_OnePolygon.calls k _ _ l0 r0 o1 _ (by repeat (first | exact (Kd.S_reads' H5.out).2.2 | (with_reducible refine Kd.C_alloc ?_ _) | (with_reducible refine Kd.C_drewN ?_ _) | (with_reducible refine Kd.C_drew ?_))) (Kd.S_reads' H5.out).2.1 E3.out).mono ?_
  rintro e w14 ⟨v0, rfl, ho0, hb⟩
  have Z14 := Aside0.mk (show w13.heap.size ≤ w14.heap.size from hb.size)
  have n0 := Aside0.mk (Kd.S_below (by (with_reducible repeat (first | apply Kd.S_alloc | apply Kd.S_drewN | apply Kd.S_drew)); exact H0.out) hb)
  have n1 := Aside0.mk (Kd.S_below (by (with_reducible repeat (first | apply Kd.S_alloc | apply Kd.S_drewN | apply Kd.S_drew)); exact H1.out) hb)
  have n3 := Aside0.mk (Kd.S_below (by (with_reducible repeat (first | apply Kd.S_alloc | apply Kd.S_drewN | apply Kd.S_drew)); exact H3.out) hb)
  have n4 := Aside0.mk (Kd.S_below (by (with_reducible repeat (first | apply Kd.S_alloc | apply Kd.S_drewN | apply Kd.S_drew)); exact H4.out) hb)
  have n5 := Aside0.mk (Kd.S_below (by (with_reducible repeat (first | apply Kd.S_alloc | apply Kd.S_drewN | apply Kd.S_drew)); exact H5.out) hb)
  obtain ⟨AO6, cO6, eO6⟩ := Kd.S_slice ho0
  subst eO6
  have n6 : Aside0 (Kd.S (Kd.slice 3 (Kd.int .i64)) 47 w14 w.heap.size (fun k_ => w13.heap.size ≤ k_ ∧ k_ < w14.heap.size) (.slice AO6 r0.length cO6) r0) := Aside0.mk (Kd.S_lower (Kd.S_mono (Kd.S_bound ho0) (fun k_ h_ => ⟨h_.2.1, h_.2.2.1⟩)) (below_size (by repeat (first | (with_reducible first | exact HB.out | apply below_alloc | apply pw_below_drewN | apply below_drew1) | exact HB.out))))
  have nB := Aside0.mk (below_step (by repeat (first | (with_reducible first | exact HB.out | apply below_alloc | apply pw_below_drewN | apply below_drew1) | exact HB.out)) hb)
  clear hb HB ho0 H0 H1 H3 H4 H5
  have HB := nB
  have H0 := n0
  have H1 := n1
  have H3 := n3
  have H4 := n4
  have H5 := n5
  have H6 := n6
  clear nB n0 n1 n3 n4 n5 n6
  go_wp2_with fail
  go_at_call 16
  refine (laws_eqIntSS.calls k _ _ r0 _ _ r0 true _ (by repeat (first | exact (Kd.S_reads' H6.out).2.2 | (with_reducible refine Kd.C_alloc ?_ _) | (with_reducible refine Kd.C_drewN ?_ _) | (with_reducible refine Kd.C_drew ?_))) (Kd.S_reads' H6.out).2.1 (by repeat (first | exact (Kd.S_reads' H1.out).2.2 | (with_reducible refine Kd.C_alloc ?_ _) | (with_reducible refine Kd.C_drewN ?_ _) | (with_reducible refine Kd.C_drew ?_))) (Kd.S_reads' H1.out).2.1 E4.out).mono ?_
  rintro e w15 ⟨rfl, hd⟩
  have hb := drawn_below hd
  clear hd
  have Z15 := Aside0.mk (show w14.heap.size ≤ w15.heap.size from hb.size)
  have n0 := Aside0.mk (Kd.S_below (by (with_reducible repeat (first | apply Kd.S_alloc | apply Kd.S_drewN | apply Kd.S_drew)); exact H0.out) hb)
  have n1 := Aside0.mk (Kd.S_below (by (with_reducible repeat (first | apply Kd.S_alloc | apply Kd.S_drewN | apply Kd.S_drew)); exact H1.out) hb)
  have n3 := Aside0.mk (Kd.S_below (by (with_reducible repeat (first | apply Kd.S_alloc | apply Kd.S_drewN | apply Kd.S_drew)); exact H3.out) hb)
  have n4 := Aside0.mk (Kd.S_below (by (with_reducible repeat (first | apply Kd.S_alloc | apply Kd.S_drewN | apply Kd.S_drew)); exact H4.out) hb)
  have n5 := Aside0.mk (Kd.S_below (by (with_reducible repeat (first | apply Kd.S_alloc | apply Kd.S_drewN | apply Kd.S_drew)); exact H5.out) hb)
  have n6 := Aside0.mk (Kd.S_below (by (with_reducible repeat (first | apply Kd.S_alloc | apply Kd.S_drewN | apply Kd.S_drew)); exact H6.out) hb)
  have nB := Aside0.mk (below_step (by repeat (first | (with_reducible first | exact HB.out | apply below_alloc | apply pw_below_drewN | apply below_drew1) | exact HB.out)) hb)
  clear hb HB H0 H1 H3 H4 H5 H6
  have HB := nB
  have H0 := n0
  have H1 := n1
  have H3 := n3
  have H4 := n4
  have H5 := n5
  have H6 := n6
  clear nB n0 n1 n3 n4 n5 n6
  go_wp2_with fail
  go_at_call 18
  refine calls_of_args (args' := #[.slice AO3 r0m.length cO3, (.int .i64 1)]) (by rw [(Kd.S_reads' H3.out).1]) ?_
  refine (laws_heldIntSS.calls k _ _ r0m 1 M_r0 _ (by have h_ := Kd.S_reads' H3.out; have h2_ := h_.2.2; repeat (first | exact h2_ | (with_reducible refine Kd.C_alloc ?_ _) | (with_reducible refine Kd.C_drewN ?_ _) | (with_reducible refine Kd.C_drew ?_))) (by have h_ := Kd.S_reads' H3.out; have := h_.2.1; have := h_.1; omega) E8.out).mono ?_
  rintro e w16 ⟨rfl, hd⟩
  have hb := drawn_below hd
  clear hd
  have Z16 := Aside0.mk (show w15.heap.size ≤ w16.heap.size from hb.size)
  have n0 := Aside0.mk (Kd.S_below (by (with_reducible repeat (first | apply Kd.S_alloc | apply Kd.S_drewN | apply Kd.S_drew)); exact H0.out) hb)
  have n1 := Aside0.mk (Kd.S_below (by (with_reducible repeat (first | apply Kd.S_alloc | apply Kd.S_drewN | apply Kd.S_drew)); exact H1.out) hb)
  have n3 := Aside0.mk (Kd.S_below (by (with_reducible repeat (first | apply Kd.S_alloc | apply Kd.S_drewN | apply Kd.S_drew)); exact H3.out) hb)
  have n4 := Aside0.mk (Kd.S_below (by (with_reducible repeat (first | apply Kd.S_alloc | apply Kd.S_drewN | apply Kd.S_drew)); exact H4.out) hb)
  have n5 := Aside0.mk (Kd.S_below (by (with_reducible repeat (first | apply Kd.S_alloc | apply Kd.S_drewN | apply Kd.S_drew)); exact H5.out) hb)
  have n6 := Aside0.mk (Kd.S_below (by (with_reducible repeat (first | apply Kd.S_alloc | apply Kd.S_drewN | apply Kd.S_drew)); exact H6.out) hb)
  have nB := Aside0.mk (below_step (by repeat (first | (with_reducible first | exact HB.out | apply below_alloc | apply pw_below_drewN | apply below_drew1) | exact HB.out)) hb)
  clear hb HB H0 H1 H3 H4 H5 H6
  have HB := nB
  have H0 := n0
  have H1 := n1
  have H3 := n3
  have H4 := n4
  have H5 := n5
  have H6 := n6
  clear nB n0 n1 n3 n4 n5 n6
  go_wp2
  go_ret
  exact ⟨by first | rfl | (simp [errW_none, errW_some] <;> rfl) | (simp [*, errW_none, errW_some] <;> rfl), by repeat (first | (with_reducible first | exact HB.out | apply below_alloc | apply pw_below_drewN | apply below_drew1) | exact HB.out)⟩
end Go.Proofs.Ytlnddmkkgjlmbaa.QFnExactOnePolygon
