/- IsGraph of the reference, by hand: whether every row is an edge and their number fits. Conditions: at most 1048576 rows. -/
import Derived.Test.YtehloilmokhmgaaQFnExactIsGraphx
import Derived.Test.YtehloilmokhmgaaCom
namespace Go.Proofs.Ytehloilmokhmgaa.QFnExactIsGraph
open Go.RowKit Go.Proofs.YtehloilmokhmgaaW.PrintWords Go.Proofs.YtehloilmokhmgaaW.PrintLast Go.Proofs.YtehloilmokhmgaaW.PrintMore Go.Proofs.Ytehloilmokhmgaa.Com
attribute [local go_sem] max2_int min2_int max_two min_two max_three min_three max_four min_four
set_option linter.unusedVariables false
set_option linter.unusedSimpArgs false

/-- A row is an edge. -/
def EdgeOk (e : List Int) : Prop := e.length = 2 ∧ (0 ≤ rd e 0 ∧ rd e 0 ≤ 6) ∧ (0 ≤ rd e 1 ∧ rd e 1 ≤ 6) ∧ rd e 0 ≠ rd e 1
instance (e : List Int) : Decidable (EdgeOk e) := by unfold EdgeOk; exact inferInstance
def GraphP (l : List (List Int)) : Prop := (∀ i : Nat, i < l.length → EdgeOk (l.getD i [])) ∧ 1 ≤ l.length ∧ l.length ≤ 10
theorem l1In_dec (a b c : Int) : spec_l1In.f a b c = some (decide (b ≤ a ∧ a ≤ c)) := by
  unfold spec_l1In.f
  by_cases h : b ≤ a
  · by_cases h2 : a ≤ c
    · simp [h, h2]
    · simp [h, h2]
  · simp [h]
open Classical in
noncomputable def spec_IsGraph.f (k : Nat) (l0 : List (List Int)) : Option Bool := if l0.length ≤ 1048576 then some (decide (GraphP l0)) else none
open Classical in
set_option maxHeartbeats 8000000 in
set_option maxRecDepth 100000 in
theorem spec_IsGraph.calls (k : Nat) (A0 : Option Addr) (c0 : Nat) (l0 : List (List Int)) (r : Bool) (w : World) (hr0 : Kd.C (Kd.slice 3 (Kd.int .i64)) w A0 l0.length l0) (hc0 : l0.length ≤ c0) (h : spec_IsGraph.f k l0 = some r) :
    Calls Try.prog 37 #[.slice A0 l0.length c0] w fun e w' => e = .returned (.bool r) ∧ Drawn0 w w' := by
  have HR0 := Aside0.mk hr0
  have HC0 := Aside0.mk hc0
  unfold spec_IsGraph.f at h
  by_cases hl : l0.length ≤ 1048576
  case neg => rw [if_neg hl] at h; cases h
  rw [if_pos hl] at h
  have HL := Aside0.mk hl
  have HRr := Aside0.mk (Option.some.inj h)
  clear hr0 hc0 h hl
  go_enter Try.func37, Try.ntmps37
  go_wp2
  go_loopg [3] l0.length (fun gk v3 w' => ∃ i : Nat, i + gk = l0.length ∧ v3 = .int .i64 (i : Int) ∧ Aside0 (∀ j : Nat, j < i → EdgeOk (l0.getD j [])) ∧ Drawn0 w w')
  case atStart => exact ⟨0, by omega, rfl, ⟨fun j hj => by omega⟩, by repeat (first | exact Drawn0.refl _ | apply Drawn0.step)⟩
  case round =>
    obtain ⟨i, hk, rfl, HE, ⟨m1, rfl⟩⟩ := hrel
    cases gk with
    | zero =>
      obtain rfl : i = l0.length := by omega
      have c1 : decide (l0.length < l0.length) = false := decide_eq_false (by omega)
      have HV := Aside0.mk (show (spec_l1In.f (l0.length : Int) 1 10) = some r by
        rw [l1In_dec, ← HRr.out]
        congr 1
        rw [decide_eq_decide]
        unfold GraphP
        constructor
        · intro h; exact ⟨HE.out, by omega, by omega⟩
        · intro h; have := h.2; omega)
      clear hk
      go_wp2_with (first | (go_at_call 40; (with_reducible refine (spec_l1In.calls (l0.length : Int) 1 10 r _ HV.out).mono ?_); rintro e w' ⟨rfl, ⟨nd, rfl⟩⟩))
      go_ret
      exact ⟨by first | rfl | (simp; done) | (simp [*]; done), by repeat (first | exact Drawn0.refl _ | apply Drawn0.step)⟩
    | succ q =>
      have HK := Aside0.mk hk
      have hlt : i < l0.length := by omega
      have c1 : decide (i < l0.length) = true := decide_eq_true hlt
      have hi0 : (0 : Int) ≤ (i : Int) := by omega
      have hi1 : (i : Int) < (l0.length : Int) := by omega
      obtain ⟨ad, A1, k1, e1, hx, hl1, hr1⟩ := at_L1 HR0.out (i : Int) hi0 hi1
      cases e1
      rw [Int.toNat_natCast] at hx
      have HRW := Aside0.mk (show rd_L1 l0 (i : Int) = l0.getD i [] from rfl)
      obtain ⟨e, he⟩ : ∃ e : List Int, rd_L1 l0 (i : Int) = e := ⟨_, rfl⟩
      rw [he] at hx hl1 hr1 HRW
      have HEL := Aside0.mk hr1
      clear he hk
      by_cases h2 : e.length = 2
      case neg =>
        have c2 : ((e.length : Int) == 2) = false := by rw [beq_eq_false_iff_ne]; omega
        have c3 : ((e.length : Int) != 2) = true := by rw [bne_iff_ne]; omega
        obtain rfl : r = false := by
          rw [← HRr.out]
          refine decide_eq_false fun hg => h2 ?_
          have := (hg.1 i hlt).1
          rw [← HRW.out] at this
          exact this
        clear h2 hr1 hl1
        go_wp2
        repeat (go_quiet (fail); try go_wp2)
        go_ret
        exact ⟨by first | rfl | (simp; done) | (simp [*]; done), by repeat (first | exact Drawn0.refl _ | apply Drawn0.step)⟩
      case pos =>
        have c2 : ((e.length : Int) == 2) = true := by rw [beq_iff_eq]; omega
        have c3 : ((e.length : Int) != 2) = false := by rw [bne_eq_false_iff_eq]; omega
        obtain ⟨ad2, e2, hy0⟩ := Kd.at_int hr1 0 (by omega) (by omega)
        cases e2
        obtain ⟨ad3, e3, hy1⟩ := Kd.at_int hr1 1 (by omega) (by omega)
        obtain rfl : ad2 = ad3 := by injection e3
        rw [show ((0 : Int)).toNat = 0 from rfl, Addr.add_zero'] at hy0
        simp only [show (1 : Int).toNat = 1 from rfl, Nat.reduceMul, Nat.reduceEqDiff, Go.Addr.add, ↓reduceIte] at hy1
        have n0 : (0 < e.length) = True := eq_true (by omega)
        have n1 : (1 < e.length) = True := eq_true (by omega)
        have n2 : (0 : Int) < (e.length : Int) := by omega
        have n3 : (1 : Int) < (e.length : Int) := by omega
        obtain ⟨x, hxx⟩ : ∃ x : Int, rd e 0 = x := ⟨_, rfl⟩
        obtain ⟨y, hyy⟩ : ∃ y : Int, rd e 1 = y := ⟨_, rfl⟩
        have HOK := Aside0.mk (show EdgeOk (l0.getD i []) ↔ (0 ≤ x ∧ x ≤ 6) ∧ (0 ≤ y ∧ y ≤ 6) ∧ x ≠ y by
          rw [← HRW.out, ← hxx, ← hyy]
          exact ⟨fun h => h.2, fun h => ⟨h2, h⟩⟩)
        have HNO := Aside0.mk (show ¬ EdgeOk (l0.getD i []) → r = false from fun hn => by
          rw [← HRr.out]
          exact decide_eq_false fun hg => hn (hg.1 i hlt))
        rw [hxx] at hy0
        rw [hyy] at hy1
        clear hxx hyy e3 hr1 hl1 h2
        have A7 := Aside0.mk (l1In_dec x 0 6)
        have A10 := Aside0.mk (l1In_dec y 0 6)
        by_cases hx6 : 0 ≤ x ∧ x ≤ 6
        case neg =>
          rw [decide_eq_false hx6] at A7
          obtain rfl := HNO.out fun h => hx6 (HOK.out.1 h).1
          clear hx6
          go_wp2
          repeat (go_quiet (first | (go_at_call 40; (with_reducible refine (spec_l1In.calls x 0 6 false _ A7.out).mono ?_); rintro e w' ⟨rfl, ⟨nd, rfl⟩⟩; (try first | exact ⟨rfl, _, World.drewN_drewN _ _ _⟩ | exact ⟨rfl, _, Eq.trans (World.drewN_drewN _ _ _) (congrArg (World.drewN _) (Nat.add_assoc _ _ _))⟩))); try go_wp2)
          go_ret
          exact ⟨by first | rfl | (simp; done) | (simp [*]; done), by repeat (first | exact Drawn0.refl _ | apply Drawn0.step)⟩
        case pos =>
          rw [decide_eq_true hx6] at A7
          by_cases hy6 : 0 ≤ y ∧ y ≤ 6
          case neg =>
            rw [decide_eq_false hy6] at A10
            obtain rfl := HNO.out fun h => hy6 (HOK.out.1 h).2.1
            clear hx6 hy6
            go_wp2
            repeat (go_quiet (first | (go_at_call 40; (with_reducible refine (spec_l1In.calls x 0 6 true _ A7.out).mono ?_); rintro e w' ⟨rfl, ⟨nd, rfl⟩⟩; (try first | exact ⟨rfl, _, World.drewN_drewN _ _ _⟩ | exact ⟨rfl, _, Eq.trans (World.drewN_drewN _ _ _) (congrArg (World.drewN _) (Nat.add_assoc _ _ _))⟩)) | (go_at_call 40; (with_reducible refine (spec_l1In.calls y 0 6 false _ A10.out).mono ?_); rintro e w' ⟨rfl, ⟨nd, rfl⟩⟩; (try first | exact ⟨rfl, _, World.drewN_drewN _ _ _⟩ | exact ⟨rfl, _, Eq.trans (World.drewN_drewN _ _ _) (congrArg (World.drewN _) (Nat.add_assoc _ _ _))⟩))); try go_wp2)
            go_ret
            exact ⟨by first | rfl | (simp; done) | (simp [*]; done), by repeat (first | exact Drawn0.refl _ | apply Drawn0.step)⟩
          case pos =>
            rw [decide_eq_true hy6] at A10
            by_cases hxy : x = y
            · have c5 : (x == y) = true := beq_iff_eq.mpr hxy
              obtain rfl := HNO.out fun h => (HOK.out.1 h).2.2 hxy
              clear hx6 hy6 hxy
              go_wp2
              repeat (go_quiet (first | (go_at_call 40; (with_reducible refine (spec_l1In.calls x 0 6 true _ A7.out).mono ?_); rintro e w' ⟨rfl, ⟨nd, rfl⟩⟩; (try first | exact ⟨rfl, _, World.drewN_drewN _ _ _⟩ | exact ⟨rfl, _, Eq.trans (World.drewN_drewN _ _ _) (congrArg (World.drewN _) (Nat.add_assoc _ _ _))⟩)) | (go_at_call 40; (with_reducible refine (spec_l1In.calls y 0 6 true _ A10.out).mono ?_); rintro e w' ⟨rfl, ⟨nd, rfl⟩⟩; (try first | exact ⟨rfl, _, World.drewN_drewN _ _ _⟩ | exact ⟨rfl, _, Eq.trans (World.drewN_drewN _ _ _) (congrArg (World.drewN _) (Nat.add_assoc _ _ _))⟩))); try go_wp2)
              go_ret
              exact ⟨by first | rfl | (simp; done) | (simp [*]; done), by repeat (first | exact Drawn0.refl _ | apply Drawn0.step)⟩
            · have c5 : (x == y) = false := beq_eq_false_iff_ne.mpr hxy
              have HE2 := Aside0.mk (show ∀ j : Nat, j < i + 1 → EdgeOk (l0.getD j []) from fun j hj => by
                by_cases hji : j = i
                · subst hji; exact HOK.out.2 ⟨hx6, hy6, hxy⟩
                · exact HE.out j (by omega))
              clear hx6 hy6 hxy
              go_wp2
              repeat (go_quiet (first | (go_at_call 40; (with_reducible refine (spec_l1In.calls x 0 6 true _ A7.out).mono ?_); rintro e w' ⟨rfl, ⟨nd, rfl⟩⟩; (try first | exact ⟨rfl, _, World.drewN_drewN _ _ _⟩ | exact ⟨rfl, _, Eq.trans (World.drewN_drewN _ _ _) (congrArg (World.drewN _) (Nat.add_assoc _ _ _))⟩)) | (go_at_call 40; (with_reducible refine (spec_l1In.calls y 0 6 true _ A10.out).mono ?_); rintro e w' ⟨rfl, ⟨nd, rfl⟩⟩; (try first | exact ⟨rfl, _, World.drewN_drewN _ _ _⟩ | exact ⟨rfl, _, Eq.trans (World.drewN_drewN _ _ _) (congrArg (World.drewN _) (Nat.add_assoc _ _ _))⟩))); try go_wp2)
              go_roundg q
              case measure => omega
              case rel => exact ⟨i + 1, by have := HK.out; omega, by first | rw [w64s hlt (by have := HL.out; omega)] | go_num, HE2, by repeat (first | exact Drawn0.refl _ | apply Drawn0.step)⟩
end Go.Proofs.Ytehloilmokhmgaa.QFnExactIsGraph
