/- markIntSS, which writes the rows of a row of rows: what it computes and what its call does (by hand). Conditions: the rows are made ones, each apart from the others. -/
import Derived.Test.YtlnddmkkgjlmbaaQFnExactOnePolygonx0
import Derived.Test.YtlnddmkkgjlmbaaQFnExactOnePolygonx1
import Derived.Test.YtlnddmkkgjlmbaaQFnExactOnePolygonx2
import Derived.Test.YtlnddmkkgjlmbaaQFnExactOnePolygonx3
import Derived.Test.YtlnddmkkgjlmbaaQFnExactOnePolygonx4
import Derived.Test.YtlnddmkkgjlmbaaQFnExactOnePolygonx5
import Derived.Test.YtlnddmkkgjlmbaaQFnExactOnePolygonx6
import Derived.Test.YtlnddmkkgjlmbaaQFnExactOnePolygonx7
import Derived.Test.YtlnddmkkgjlmbaaQFnExactOnePolygonx8
import Derived.Test.YtlnddmkkgjlmbaaQFnExactOnePolygonx9
import Derived.Test.YtlnddmkkgjlmbaaCom
namespace Go.Proofs.Ytlnddmkkgjlmbaa.QFnExactOnePolygon
open Go.RowKit Go.Proofs.YtlnddmkkgjlmbaaW.PrintWords Go.Proofs.YtlnddmkkgjlmbaaW.PrintLast Go.Proofs.YtlnddmkkgjlmbaaW.PrintMore Go.Proofs.Ytlnddmkkgjlmbaa.Com
attribute [local go_sem] max2_int min2_int max_two min_two max_three min_three max_four min_four
def laws_markIntSS.l0 : Nat → List (List Int) → Int → Int → Option (Int × List (List Int))
  | 0, _, _, _ => none
  | k + 1, x0, x1, x5 => if x5 < (x0.length : Int) then (if 0 ≤ x5 then ((laws_markIntS.f k (rd_L1 x0 x5) x1).bind fun bt => laws_markIntSS.l0 k (x0.set (x5 : Int).toNat bt.2) bt.1 (wrap64 (x5 + 1))) else none) else some (x1, x0)
def laws_markIntSS.f (k : Nat) (l0 : List (List Int)) (a1 : Int) : Option (Int × List (List Int)) := laws_markIntSS.l0 k l0 a1 0
set_option maxHeartbeats 8000000 in
set_option maxRecDepth 100000 in
theorem laws_markIntSS.calls (k : Nat) (P0_ : Nat → Prop) (u9000_ : Value) (l0 : List (List Int)) (a1 : Int) (r1 : Int) (r2 : List (List Int)) (w0 w : World) (hB : Below w0.heap.size w0 w) (ho0 : Kd.S (Kd.slice 3 (Kd.int .i64)) 47 w w0.heap.size P0_ u9000_ l0) (h : laws_markIntSS.f k l0 a1 = some (r1, r2)) :
    Calls Try.prog 17 #[u9000_, .int .i64 a1] w fun e w' => e = .returned (.int .i64 r1) ∧ Kd.S (Kd.slice 3 (Kd.int .i64)) 47 w' w0.heap.size (fun k_ => (P0_ k_ ∨ w.heap.size ≤ k_)) u9000_ r2 ∧ Below w0.heap.size w0 w' ∧ Kept w w' (fun k_ => P0_ k_) := by
  have HO0 := Aside0.mk (show Kd.S (Kd.slice 3 (Kd.int .i64)) 47 w w0.heap.size (fun k_ => (P0_ k_ ∨ w.heap.size ≤ k_)) u9000_ l0 from Kd.S_mono ho0 (fun k_ hk => (.inl hk)))
  have HK := Aside0.mk (Kept.refl w (fun k_ => P0_ k_))
  have HW0 := Aside0.mk hB.size
  have HB := Aside0.mk hB
  clear hB ho0
  have H : (laws_markIntSS.l0 k l0 a1 0) = some (r1, r2) := h
  clear h
  have H' := Aside0.mk H
  clear H
  go_enter Try.func17, Try.ntmps17
  go_wp2
  go_loopg [1, 5] k (fun kq v1 v5 w' => ∃ (x0_1 : List (List Int)) (x1_1 : Int) (x5_1 : Int), v1 = .int .i64 x1_1 ∧ v5 = .int .i64 x5_1 ∧ Aside0 (laws_markIntSS.l0 kq x0_1 x1_1 x5_1 = some (r1, r2)) ∧ Aside0 (kq ≤ k) ∧ Aside0 (Kd.S (Kd.slice 3 (Kd.int .i64)) 47 w' w0.heap.size (fun k_ => (P0_ k_ ∨ w.heap.size ≤ k_)) u9000_ x0_1) ∧ Aside0 (Kept w w' (fun k_ => P0_ k_)) ∧ Aside0 (Below w0.heap.size w0 w'))
  case atStart => exact ⟨(l0), (a1), (0), (by first | rfl | (simp; done) | (simp [*]; done)), (by first | rfl | (simp; done) | (simp [*]; done)), H', ⟨Nat.le_refl _⟩, ⟨by (with_reducible repeat (first | apply Kd.S_alloc | apply Kd.S_drewN | apply Kd.S_drew)); exact HO0.out⟩, ⟨by repeat (first | (with_reducible first | exact HK.out | apply Kept.alloc | apply Kept.drewN | apply Kept.drew) | exact HK.out)⟩, ⟨by repeat (first | (with_reducible first | exact HB.out | apply below_alloc | apply pw_below_drewN | apply below_drew1) | exact HB.out)⟩⟩
  case round =>
    clear H'
    obtain ⟨x0_1, x1_1, x5_1, rfl, rfl, HA, HK1, HO_0, HK, HB⟩ := hrel
    cases gk with
    | zero => exact absurd HA.out (by simp [laws_markIntSS.l0])
    | succ k1 =>
      have H := HA.out
      clear HA
      simp only [laws_markIntSS.l0] at H
      obtain ⟨Ao6, co6, eo6⟩ := Kd.S_slice HO_0.out
      subst eo6
      by_cases c3 : x5_1 < (x0_1.length : Int)
      · rw [if_pos c3] at H
        have c3b0 : decide (x5_1 < (x0_1.length : Int)) = true := decide_eq_true c3
        by_cases c4 : 0 ≤ x5_1
        · rw [if_pos c4] at H
          have hpos : 0 < x0_1.length := by omega
          obtain ⟨go5, co5, eo5, gb5, gl5, cl5, HG5⟩ := Kd.S_form HO_0.out hpos
          (first | cases eo5 | (injection eo5 with ea_ en_ ec_; (first | subst ea_ | (injection ea_ with ea_; subst ea_)); subst ec_; clear en_))
          clear HG5 gb5 gl5 hpos
          replace H := Option.bind_eq_some_iff.mp H
          obtain ⟨⟨t171, t172⟩, A50, H⟩ := H
          replace H : laws_markIntSS.l0 k1 (x0_1.set (x5_1 : Int).toNat t172) t171 (wrap64 (x5_1 + 1)) = some (r1, r2) := H
          have H' := Aside0.mk H
          have A5 := Aside0.mk A50
          clear H A50
          obtain ⟨oki, cs, hcl, hM, hcc, hoki, hH⟩ := Kd.S_lend HO_0.out ([] : List Int) x5_1 c4 c3
          obtain ⟨v7, rfl, hR⟩ := hM
          have hx5 : wr.cell? ⟨go5, (x5_1 : Int).toNat, none⟩ = some v7 := by have := hcc 0 v7 rfl; simpa [Kd.slice] using this
          obtain ⟨A7, c7, e7⟩ := Kd.R_slice hR
          subst e7
          have HX := Aside0.mk hH
          have HM := Aside0.mk hR
          have HI := Aside0.mk hoki
          clear hH hR hoki hcc hcl
          replace hx5 : wr.cell? ⟨go5, (x5_1 : Int).toNat, none⟩ = some (.slice A7 (rd_L1 x0_1 x5_1).length c7) := hx5
          have p5 : (0 ≤ (x5_1 : Int)) = True := eq_true c4
          have q5 : (x5_1 < (x0_1.length : Int)) = True := eq_true c3
          have c4b0 : decide (0 ≤ x5_1) = true := decide_eq_true c4
          clear c3 c4
          go_wp2_with (first | ((with_reducible refine gate_callee (f := 62) rfl ?_); refine goesL_ (some 17) rfl rfl Try.func62 (by kernel_rfl) rfl #[.slice A7 (rd_L1 x0_1 x5_1).length c7, .int .i64 x1_1] rfl (by (try simp only [List.map_toArray, List.map_cons, List.map_nil]); first | done | rfl) ?_; (with_reducible refine (laws_markIntS.calls k1 oki _ (rd_L1 x0_1 x5_1) x1_1 t171 t172 w0 _ ?side1 ?side2 A5.out).mono ?_); (case side1 => repeat (first | (with_reducible first | exact HB.out | apply below_alloc | apply pw_below_drewN | apply below_drew1) | exact HB.out)); (case side2 => ((with_reducible repeat (first | apply Kd.R_alloc | apply Kd.R_drewN | apply Kd.R_drew)); exact HM.out)); rintro e w8 ⟨rfl, hy0, hb, hkp⟩; refine ⟨_, rfl, ?_⟩))
          have hz : wr.heap.size ≤ w8.heap.size := hkp.1
          have hzw := HK.out.1
          have HN : Aside0 (Kd.S (Kd.slice 3 (Kd.int .i64)) 47 w8 w0.heap.size (fun k_ => (P0_ k_ ∨ w.heap.size ≤ k_)) (.slice (some ⟨go5, 0, none⟩) x0_1.length co6) (x0_1.set (x5_1 : Int).toNat t172)) :=
            ⟨Kd.H_back (okp := fun k_ => oki k_ ∨ wr.heap.size ≤ k_) (Kd.H_kept (Kd.H_widen HX.out) hkp (fun k_ _ hn hs => hn (.inl hs))) ⟨_, rfl, hy0⟩ (fun k_ hk => hk.imp id (fun h2 => ⟨.inr (Nat.le_trans hzw h2), h2⟩))⟩
          have HK2 : Aside0 (Kept w w8 (fun k_ => P0_ k_)) := ⟨Kept.then_ HK.out hkp (fun k_ hk => (HI.out k_ hk).1)⟩
          have HB2 : Aside0 (Below w0.heap.size w0 w8) := ⟨hb⟩
          clear hy0 hb hkp hz hzw HO_0 HK HB HX HM HI hx5
          go_roundg k1
          case measure => have := HK1.out; omega
          case rel => exact ⟨_, t171, (wrap64 (x5_1 + 1)), (by first | rfl | (simp; done) | (simp [*]; done)), (by first | rfl | (simp; done) | (simp [*]; done)), H', ⟨by have := HK1.out; omega⟩, ⟨by (with_reducible repeat (first | apply Kd.S_alloc | apply Kd.S_drewN | apply Kd.S_drew)); first | exact HN.out | (simpa only [List.length_set] using HN.out)⟩, ⟨by repeat (first | (with_reducible first | exact HK2.out | apply Kept.alloc | apply Kept.drewN | apply Kept.drew) | exact HK2.out)⟩, ⟨by repeat (first | (with_reducible first | exact HB2.out | apply below_alloc | apply pw_below_drewN | apply below_drew1) | exact HB2.out)⟩⟩
        · rw [if_neg c4] at H
          exact absurd H (by simp)
      · rw [if_neg c3] at H
        have c3b0 : decide (x5_1 < (x0_1.length : Int)) = false := decide_eq_false c3
        clear c3
        simp only [Option.some.injEq, Prod.mk.injEq] at H
        obtain ⟨rfl, rfl⟩ := H
        go_wp2
        go_ret
        exact ⟨by first | rfl | (simp; done) | (simp [*]; done), by (with_reducible repeat (first | apply Kd.S_alloc | apply Kd.S_drewN | apply Kd.S_drew)); exact HO_0.out, by repeat (first | (with_reducible first | exact HB.out | apply below_alloc | apply pw_below_drewN | apply below_drew1) | exact HB.out), by repeat (first | (with_reducible first | exact HK.out | apply Kept.alloc | apply Kept.drewN | apply Kept.drew) | exact HK.out)⟩
end Go.Proofs.Ytlnddmkkgjlmbaa.QFnExactOnePolygon
