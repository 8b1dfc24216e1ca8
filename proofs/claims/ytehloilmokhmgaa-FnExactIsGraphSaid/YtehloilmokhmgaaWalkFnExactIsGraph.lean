/- The law FnExactIsGraph's function: what it needs to be told, and what its call does. Conditions: those of the statement itself. -/
import Derived.Test.YtehloilmokhmgaaHandFnExactIsGraph
import Derived.Test.YtehloilmokhmgaaQFnExactIsGraphx
namespace Go.Proofs.Ytehloilmokhmgaa.QFnExactIsGraph
open Go.RowKit Go.Proofs.YtehloilmokhmgaaW.PrintWords Go.Proofs.YtehloilmokhmgaaW.PrintLast Go.Proofs.YtehloilmokhmgaaW.PrintMore
attribute [local go_sem] max2_int min2_int max_two min_two max_three min_three max_four min_four
set_option linter.unusedVariables false
set_option linter.unusedSimpArgs false
theorem drawn_below {W w' : World} (h : Drawn0 W w') : Below W.heap.size W w' := by obtain ⟨nd, rfl⟩ := h; exact pw_below_drewN (Below.refl _ _) nd
def laws_FnExactIsGraph.Facts (k : Nat) (l0 : List (List Int)) : Prop := ∃ (o0 : Bool), laws_toIntSS.f k l0 = some l0 ∧ spec_IsGraph.f k l0 = some o0 ∧ impl_IsGraph.f k l0 = some o0 ∧ laws_eqIntSS.f k l0 l0 = some true
open Classical in
noncomputable def laws_FnExactIsGraph.f (k : Nat) (l0 : List (List Int)) : Option Bool := if (∃ Lz : Int, laws_szIntSS.f k l0 1048576 = some Lz ∧ (Lz < 0 ∨ 0 ≤ Lz ∧ laws_FnExactIsGraph.Facts k l0)) then some true else none
set_option maxHeartbeats 8000000 in
set_option maxRecDepth 100000 in
theorem laws_FnExactIsGraph.calls (k : Nat) (A0 : Option Addr) (c0 : Nat) (l0 : List (List Int)) (r : Bool) (w : World) (hr0 : Kd.C (Kd.slice 3 (Kd.int .i64)) w A0 l0.length l0) (hc0 : l0.length ≤ c0) (h : laws_FnExactIsGraph.f k l0 = some r) :
    Calls Try.prog 11 #[.slice A0 l0.length c0] w fun e w' => e = .returned (.bool r) ∧ Below w.heap.size w w' := by
  have HR0 := Aside0.mk hr0
  have HC0 := Aside0.mk hc0
  clear hr0 hc0
  have HB := Aside0.mk (Below.refl w.heap.size w)
  unfold laws_FnExactIsGraph.f at h
  split at h
  rotate_left
  · cases h
  rename_i hF
  obtain rfl := Option.some.inj h
  clear h
  obtain ⟨Lz, E00, hF⟩ := hF
  have E0 := Aside0.mk E00
  clear E00
  go_enter Try.func11, Try.ntmps11
  go_wp2_with fail
  go_at_call 36
  refine (laws_szIntSS.calls k _ _ l0 1048576 Lz _ (by repeat (first | exact HR0.out | (with_reducible refine Kd.C_alloc ?_ _) | (with_reducible refine Kd.C_drewN ?_ _) | (with_reducible refine Kd.C_drew ?_) | (refine Kd.C_below HR0.out ?_; exact (by repeat (first | (with_reducible first | exact HB.out | apply below_alloc | apply pw_below_drewN | apply below_drew1) | exact HB.out))))) HC0.out E0.out).mono ?_
  rintro e w1 ⟨rfl, hd⟩
  have hb := drawn_below hd
  clear hd
  have Z1 := Aside0.mk (show w.heap.size ≤ w1.heap.size from hb.size)
  have nB := Aside0.mk (below_step (by repeat (first | (with_reducible first | exact HB.out | apply below_alloc | apply pw_below_drewN | apply below_drew1) | exact HB.out)) hb)
  clear hb HB
  have HB := nB
  clear nB
  rcases hF with hF | ⟨hF0, hF⟩
  · have c_Lz : decide (Lz < 0) = true := decide_eq_true hF
    clear hF
    go_wp2
    go_ret
    exact ⟨by first | rfl | (simp [errW_none, errW_some] <;> rfl) | (simp [*, errW_none, errW_some] <;> rfl), by repeat (first | (with_reducible first | exact HB.out | apply below_alloc | apply pw_below_drewN | apply below_drew1) | exact HB.out)⟩
  have c_Lz : decide (Lz < 0) = false := decide_eq_false (by omega)
  clear hF0
  obtain ⟨o0, E10, E20, E30, E40⟩ := hF
  have E1 := Aside0.mk E10
  have E2 := Aside0.mk E20
  have E3 := Aside0.mk E30
  have E4 := Aside0.mk E40
  clear E10
  clear E20
  clear E30
  clear E40
  have b_o0 : (!(o0 == o0)) = false := by cases o0 <;> rfl
  go_wp2_with fail
  go_at_call 38
  refine (laws_toIntSS.calls k _ _ l0 l0 _ (by repeat (first | exact HR0.out | (with_reducible refine Kd.C_alloc ?_ _) | (with_reducible refine Kd.C_drewN ?_ _) | (with_reducible refine Kd.C_drew ?_) | (refine Kd.C_below HR0.out ?_; exact (by repeat (first | (with_reducible first | exact HB.out | apply below_alloc | apply pw_below_drewN | apply below_drew1) | exact HB.out))))) HC0.out E1.out).mono ?_
  rintro e w2 ⟨v0, rfl, ho0, hb⟩
  have Z2 := Aside0.mk (show w1.heap.size ≤ w2.heap.size from hb.size)
  obtain ⟨AO0, cO0, eO0⟩ := Kd.S_slice ho0
  subst eO0
  have n0 : Aside0 (Kd.S (Kd.slice 3 (Kd.int .i64)) 54 w2 w.heap.size (fun k_ => w1.heap.size ≤ k_ ∧ k_ < w2.heap.size) (.slice AO0 l0.length cO0) l0) := Aside0.mk (Kd.S_lower (Kd.S_mono (Kd.S_bound ho0) (fun k_ h_ => ⟨h_.2.1, h_.2.2.1⟩)) (below_size (by repeat (first | (with_reducible first | exact HB.out | apply below_alloc | apply pw_below_drewN | apply below_drew1) | exact HB.out))))
  have nB := Aside0.mk (below_step (by repeat (first | (with_reducible first | exact HB.out | apply below_alloc | apply pw_below_drewN | apply below_drew1) | exact HB.out)) hb)
  clear hb HB ho0
  have HB := nB
  have H0 := n0
  clear nB n0
  go_wp2_with fail
  go_at_call 37
  refine (spec_IsGraph.calls k _ _ l0 o0 _ (by repeat (first | exact (Kd.S_reads' H0.out).2.2 | (with_reducible refine Kd.C_alloc ?_ _) | (with_reducible refine Kd.C_drewN ?_ _) | (with_reducible refine Kd.C_drew ?_))) (Kd.S_reads' H0.out).2.1 E2.out).mono ?_
  rintro e w3 ⟨rfl, hd⟩
  have hb := drawn_below hd
  clear hd
  have Z3 := Aside0.mk (show w2.heap.size ≤ w3.heap.size from hb.size)
  have n0 := Aside0.mk (Kd.S_below (by (with_reducible repeat (first | apply Kd.S_alloc | apply Kd.S_drewN | apply Kd.S_drew)); exact H0.out) hb)
  have nB := Aside0.mk (below_step (by repeat (first | (with_reducible first | exact HB.out | apply below_alloc | apply pw_below_drewN | apply below_drew1) | exact HB.out)) hb)
  clear hb HB H0
  have HB := nB
  have H0 := n0
  clear nB n0
  go_wp2_with fail
  go_at_call 38
  refine (laws_toIntSS.calls k _ _ l0 l0 _ (by repeat (first | exact HR0.out | (with_reducible refine Kd.C_alloc ?_ _) | (with_reducible refine Kd.C_drewN ?_ _) | (with_reducible refine Kd.C_drew ?_) | (refine Kd.C_below HR0.out ?_; exact (by repeat (first | (with_reducible first | exact HB.out | apply below_alloc | apply pw_below_drewN | apply below_drew1) | exact HB.out))))) HC0.out E1.out).mono ?_
  rintro e w4 ⟨v0, rfl, ho0, hb⟩
  have Z4 := Aside0.mk (show w3.heap.size ≤ w4.heap.size from hb.size)
  have n0 := Aside0.mk (Kd.S_below (by (with_reducible repeat (first | apply Kd.S_alloc | apply Kd.S_drewN | apply Kd.S_drew)); exact H0.out) hb)
  obtain ⟨AO1, cO1, eO1⟩ := Kd.S_slice ho0
  subst eO1
  have n1 : Aside0 (Kd.S (Kd.slice 3 (Kd.int .i64)) 54 w4 w.heap.size (fun k_ => w3.heap.size ≤ k_ ∧ k_ < w4.heap.size) (.slice AO1 l0.length cO1) l0) := Aside0.mk (Kd.S_lower (Kd.S_mono (Kd.S_bound ho0) (fun k_ h_ => ⟨h_.2.1, h_.2.2.1⟩)) (below_size (by repeat (first | (with_reducible first | exact HB.out | apply below_alloc | apply pw_below_drewN | apply below_drew1) | exact HB.out))))
  have nB := Aside0.mk (below_step (by repeat (first | (with_reducible first | exact HB.out | apply below_alloc | apply pw_below_drewN | apply below_drew1) | exact HB.out)) hb)
  clear hb HB ho0 H0
  have HB := nB
  have H0 := n0
  have H1 := n1
  clear nB n0 n1
  go_wp2_with fail
  go_at_call 39
  refine (impl_IsGraph.calls k _ _ l0 o0 _ (by repeat (first | exact (Kd.S_reads' H1.out).2.2 | (with_reducible refine Kd.C_alloc ?_ _) | (with_reducible refine Kd.C_drewN ?_ _) | (with_reducible refine Kd.C_drew ?_))) (Kd.S_reads' H1.out).2.1 E3.out).mono ?_
  rintro e w5 ⟨rfl, hd⟩
  have hb := drawn_below hd
  clear hd
  have Z5 := Aside0.mk (show w4.heap.size ≤ w5.heap.size from hb.size)
  have n0 := Aside0.mk (Kd.S_below (by (with_reducible repeat (first | apply Kd.S_alloc | apply Kd.S_drewN | apply Kd.S_drew)); exact H0.out) hb)
  have n1 := Aside0.mk (Kd.S_below (by (with_reducible repeat (first | apply Kd.S_alloc | apply Kd.S_drewN | apply Kd.S_drew)); exact H1.out) hb)
  have nB := Aside0.mk (below_step (by repeat (first | (with_reducible first | exact HB.out | apply below_alloc | apply pw_below_drewN | apply below_drew1) | exact HB.out)) hb)
  clear hb HB H0 H1
  have HB := nB
  have H0 := n0
  have H1 := n1
  clear nB n0 n1
  go_wp2_with fail
  go_at_call 38
  refine (laws_toIntSS.calls k _ _ l0 l0 _ (by repeat (first | exact HR0.out | (with_reducible refine Kd.C_alloc ?_ _) | (with_reducible refine Kd.C_drewN ?_ _) | (with_reducible refine Kd.C_drew ?_) | (refine Kd.C_below HR0.out ?_; exact (by repeat (first | (with_reducible first | exact HB.out | apply below_alloc | apply pw_below_drewN | apply below_drew1) | exact HB.out))))) HC0.out E1.out).mono ?_
  rintro e w6 ⟨v0, rfl, ho0, hb⟩
  have Z6 := Aside0.mk (show w5.heap.size ≤ w6.heap.size from hb.size)
  have n0 := Aside0.mk (Kd.S_below (by (with_reducible repeat (first | apply Kd.S_alloc | apply Kd.S_drewN | apply Kd.S_drew)); exact H0.out) hb)
  have n1 := Aside0.mk (Kd.S_below (by (with_reducible repeat (first | apply Kd.S_alloc | apply Kd.S_drewN | apply Kd.S_drew)); exact H1.out) hb)
  obtain ⟨AO2, cO2, eO2⟩ := Kd.S_slice ho0
  subst eO2
  have n2 : Aside0 (Kd.S (Kd.slice 3 (Kd.int .i64)) 54 w6 w.heap.size (fun k_ => w5.heap.size ≤ k_ ∧ k_ < w6.heap.size) (.slice AO2 l0.length cO2) l0) := Aside0.mk (Kd.S_lower (Kd.S_mono (Kd.S_bound ho0) (fun k_ h_ => ⟨h_.2.1, h_.2.2.1⟩)) (below_size (by repeat (first | (with_reducible first | exact HB.out | apply below_alloc | apply pw_below_drewN | apply below_drew1) | exact HB.out))))
  have nB := Aside0.mk (below_step (by repeat (first | (with_reducible first | exact HB.out | apply below_alloc | apply pw_below_drewN | apply below_drew1) | exact HB.out)) hb)
  clear hb HB ho0 H0 H1
  have HB := nB
  have H0 := n0
  have H1 := n1
  have H2 := n2
  clear nB n0 n1 n2
  go_wp2_with fail
  go_at_call 31
  refine (laws_eqIntSS.calls k _ _ l0 _ _ l0 true _ (by repeat (first | exact (Kd.S_reads' H1.out).2.2 | (with_reducible refine Kd.C_alloc ?_ _) | (with_reducible refine Kd.C_drewN ?_ _) | (with_reducible refine Kd.C_drew ?_))) (Kd.S_reads' H1.out).2.1 (by repeat (first | exact (Kd.S_reads' H2.out).2.2 | (with_reducible refine Kd.C_alloc ?_ _) | (with_reducible refine Kd.C_drewN ?_ _) | (with_reducible refine Kd.C_drew ?_))) (Kd.S_reads' H2.out).2.1 E4.out).mono ?_
  rintro e w7 ⟨rfl, hd⟩
  have hb := drawn_below hd
  clear hd
  have Z7 := Aside0.mk (show w6.heap.size ≤ w7.heap.size from hb.size)
  have n0 := Aside0.mk (Kd.S_below (by (with_reducible repeat (first | apply Kd.S_alloc | apply Kd.S_drewN | apply Kd.S_drew)); exact H0.out) hb)
  have n1 := Aside0.mk (Kd.S_below (by (with_reducible repeat (first | apply Kd.S_alloc | apply Kd.S_drewN | apply Kd.S_drew)); exact H1.out) hb)
  have n2 := Aside0.mk (Kd.S_below (by (with_reducible repeat (first | apply Kd.S_alloc | apply Kd.S_drewN | apply Kd.S_drew)); exact H2.out) hb)
  have nB := Aside0.mk (below_step (by repeat (first | (with_reducible first | exact HB.out | apply below_alloc | apply pw_below_drewN | apply below_drew1) | exact HB.out)) hb)
  clear hb HB H0 H1 H2
  have HB := nB
  have H0 := n0
  have H1 := n1
  have H2 := n2
  clear nB n0 n1 n2
  go_wp2
  go_ret
  exact ⟨by first | rfl | (simp [errW_none, errW_some] <;> rfl) | (simp [*, errW_none, errW_some] <;> rfl), by repeat (first | (with_reducible first | exact HB.out | apply below_alloc | apply pw_below_drewN | apply below_drew1) | exact HB.out)⟩
end Go.Proofs.Ytehloilmokhmgaa.QFnExactIsGraph
