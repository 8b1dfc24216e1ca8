/- AreConjugate of the program and of the reference, by hand. Conditions: none beside those of the callees. -/
import Derived.Test.YtokbhekicjnglaaHandKFnWords
namespace Go.Proofs.Ytokbhekicjnglaa.QFnWords
open Go.RowKit Go.Proofs.YtokbhekicjnglaaW.PrintWords Go.Proofs.YtokbhekicjnglaaW.PrintLast Go.Proofs.YtokbhekicjnglaaW.PrintMore Go.Proofs.Ytokbhekicjnglaa.Com
attribute [local go_sem] max2_int min2_int max_two min_two max_three min_three max_four min_four
set_option linter.unusedVariables false
set_option linter.unusedSimpArgs false
def spec_AreConjugate.l0 : Nat → List Int → List Int → Int → Option Bool
  | 0, _, _, _ => none
  | k + 1, a, b, x => if x < (a.length : Int) then ((spec_l2Turn.f a x).bind fun t => (spec_l2Same.f k t b).bind fun s => if s = true then some true else spec_AreConjugate.l0 k a b (wrap64 (x + 1))) else some (decide (a.length = 0 ∧ b.length = 0))
def spec_AreConjugate.f (k : Nat) (l0 l1 : List Int) : Option Bool := (spec_IsWord.f k l0).bind fun p => if p = true then ((spec_IsWord.f k l1).bind fun q => if q = true then ((spec_l2Core.f k l0).bind fun a => (spec_l2Core.f k l1).bind fun b => spec_AreConjugate.l0 k a b 0) else some false) else some false
set_option maxHeartbeats 8000000 in
set_option maxRecDepth 100000 in
theorem spec_AreConjugate.calls (k : Nat) (A0 : Option Addr) (c0 : Nat) (l0 : List Int) (A1 : Option Addr) (c1 : Nat) (l1 : List Int) (r : Bool) (w : World) (hr0 : Kd.C (Kd.int .i64) w A0 l0.length l0) (hc0 : l0.length ≤ c0) (hr1 : Kd.C (Kd.int .i64) w A1 l1.length l1) (hc1 : l1.length ≤ c1) (h : spec_AreConjugate.f k l0 l1 = some r) :
    Calls Try.prog 36 #[.slice A0 l0.length c0, .slice A1 l1.length c1] w fun e w' => e = .returned (.bool r) ∧ Below w.heap.size w w' := by
  have HR0 := Aside0.mk hr0
  have HC0 := Aside0.mk hc0
  have HR1 := Aside0.mk hr1
  have HC1 := Aside0.mk hc1
  obtain ⟨p, P10, H⟩ := Option.bind_eq_some_iff.mp h
  have P1 := Aside0.mk P10
  clear P10 h hr0 hc0 hr1 hc1
  cases p with
  | false =>
    rw [if_neg Bool.false_ne_true] at H
    obtain rfl := Option.some.inj H
    go_enter Try.func36, Try.ntmps36
    go_wp2_with fail
    go_at_call 14
    refine (spec_IsWord.calls k A0 c0 l0 false _ HR0.out HC0.out P1.out).mono ?_
    rintro e w1 ⟨rfl, hd⟩
    go_wp2
    go_ret
    exact ⟨rfl, hd.below⟩
  | true =>
    rw [if_pos rfl] at H
    obtain ⟨q, P20, H⟩ := Option.bind_eq_some_iff.mp H
    have P2 := Aside0.mk P20
    clear P20
    cases q with
    | false =>
      rw [if_neg Bool.false_ne_true] at H
      obtain rfl := Option.some.inj H
      go_enter Try.func36, Try.ntmps36
      go_wp2_with fail
      go_at_call 14
      refine (spec_IsWord.calls k A0 c0 l0 true _ HR0.out HC0.out P1.out).mono ?_
      rintro e w1 ⟨rfl, hd⟩
      have HB := Aside0.mk hd.below
      go_wp2_with fail
      go_at_call 14
      refine (spec_IsWord.calls k A1 c1 l1 false _ (Kd.C_below HR1.out HB.out) HC1.out P2.out).mono ?_
      rintro e w2 ⟨rfl, hd⟩
      have HB2 := Aside0.mk (below_step HB.out hd.below)
      go_wp2
      go_ret
      exact ⟨rfl, HB2.out⟩
    | true =>
      rw [if_pos rfl] at H
      obtain ⟨a, P30, H⟩ := Option.bind_eq_some_iff.mp H
      obtain ⟨b, P40, H⟩ := Option.bind_eq_some_iff.mp H
      have P3 := Aside0.mk P30
      have P4 := Aside0.mk P40
      have HF := Aside0.mk H
      clear P30 P40 H
      go_enter Try.func36, Try.ntmps36
      go_wp2_with fail
      go_at_call 14
      refine (spec_IsWord.calls k A0 c0 l0 true _ HR0.out HC0.out P1.out).mono ?_
      rintro e w1 ⟨rfl, hd⟩
      have HB := Aside0.mk hd.below
      go_wp2_with fail
      go_at_call 14
      refine (spec_IsWord.calls k A1 c1 l1 true _ (Kd.C_below HR1.out HB.out) HC1.out P2.out).mono ?_
      rintro e w2 ⟨rfl, hd⟩
      have HB2 := Aside0.mk (below_step HB.out hd.below)
      clear hd
      go_wp2_with fail
      go_at_call 55
      refine (spec_l2Core.calls k A0 c0 l0 a _ (Kd.C_below HR0.out HB2.out) HC0.out P3.out).mono ?_
      rintro e w3 ⟨va, rfl, hs, hb⟩
      obtain ⟨Da, ca, rfl⟩ := Kd.R_slice hs
      have HDa := Aside0.mk (Kd.R_reads' hs)
      have HB3 := Aside0.mk (below_step HB2.out hb)
      clear hs hb HB HB2
      go_wp2_with fail
      go_at_call 55
      refine (spec_l2Core.calls k A1 c1 l1 b _ (Kd.C_below HR1.out HB3.out) HC1.out P4.out).mono ?_
      rintro e w4 ⟨vb, rfl, hs, hb⟩
      obtain ⟨Db, cb, rfl⟩ := Kd.R_slice hs
      have HDb := Aside0.mk (Kd.R_reads' hs)
      have HCa := Aside0.mk (Kd.C_below HDa.out.2.2 hb)
      have HB4 := Aside0.mk (below_step HB3.out hb)
      clear hs hb HB3
      go_wp2
      go_loopg [7] k (fun gk v7 w' => ∃ x : Int, v7 = .int .i64 x ∧ Aside0 (spec_AreConjugate.l0 gk a b x = some r) ∧ Aside0 (gk ≤ k) ∧ Aside0 (Below w4.heap.size w4 w'))
      case atStart => exact ⟨0, rfl, HF, ⟨Nat.le_refl _⟩, ⟨Below.refl _ _⟩⟩
      case round =>
        clear HF
        obtain ⟨x, rfl, HF, HG, HB⟩ := hrel
        cases gk with
        | zero => exact absurd HF.out (by simp [spec_AreConjugate.l0])
        | succ g =>
          have H := HF.out
          clear HF
          unfold spec_AreConjugate.l0 at H
          by_cases c : x < (a.length : Int)
          · rw [if_pos c] at H
            have c5 : decide (x < (a.length : Int)) = true := decide_eq_true c
            obtain ⟨t, Q10, H⟩ := Option.bind_eq_some_iff.mp H
            obtain ⟨s, Q20, H⟩ := Option.bind_eq_some_iff.mp H
            have Q1 := Aside0.mk Q10
            have Q2 := Aside0.mk Q20
            clear Q10 Q20 c
            go_wp2_with fail
            go_at_call 53
            refine (spec_l2Turn.calls Da ca a x t _ (Kd.C_below HCa.out HB.out) HDa.out.2.1 Q1.out).mono ?_
            rintro e w5 ⟨vt, rfl, hs, hb⟩
            obtain ⟨Dt, ct, rfl⟩ := Kd.R_slice hs
            have HDt := Aside0.mk (Kd.R_reads' hs)
            have HB5 := Aside0.mk (below_step HB.out hb)
            clear hs hb
            cases s with
            | true =>
              rw [if_pos rfl] at H
              obtain rfl := Option.some.inj H
              go_wp2_with fail
              go_at_call 56
              refine (spec_l2Same.calls g Dt ct t Db cb b true _ HDt.out.2.2 HDt.out.2.1 (Kd.C_below HDb.out.2.2 HB5.out) HDb.out.2.1 Q2.out).mono ?_
              rintro e w6 ⟨rfl, hd⟩
              have HB6 := Aside0.mk (below_step HB5.out hd.below)
              clear hd
              go_wp2
              go_ret
              exact ⟨rfl, below_step HB4.out HB6.out⟩
            | false =>
              rw [if_neg Bool.false_ne_true] at H
              have HF := Aside0.mk H
              clear H
              go_wp2_with fail
              go_at_call 56
              refine (spec_l2Same.calls g Dt ct t Db cb b false _ HDt.out.2.2 HDt.out.2.1 (Kd.C_below HDb.out.2.2 HB5.out) HDb.out.2.1 Q2.out).mono ?_
              rintro e w6 ⟨rfl, hd⟩
              have HB6 := Aside0.mk (below_step HB5.out hd.below)
              clear hd
              go_wp2
              go_roundg g
              case measure => omega
              case rel => exact ⟨wrap64 (x + 1), by first | rfl | (simp; done) | (simp [*]; done), HF, ⟨by have := HG.out; omega⟩, HB6⟩
          · rw [if_neg c] at H
            have c5 : decide (x < (a.length : Int)) = false := decide_eq_false c
            clear c
            by_cases ha : a.length = 0
            · have c6 : ((a.length : Int) == 0) = true := by rw [beq_iff_eq]; omega
              by_cases hb : b.length = 0
              · have c7 : ((b.length : Int) == 0) = true := by rw [beq_iff_eq]; omega
                have e1 : decide (a.length = 0 ∧ b.length = 0) = true := decide_eq_true ⟨ha, hb⟩
                rw [e1] at H
                obtain rfl := Option.some.inj H
                clear ha hb e1 H
                go_wp2
                go_ret
                exact ⟨rfl, below_step HB4.out HB.out⟩
              · have c7 : ((b.length : Int) == 0) = false := by rw [beq_eq_false_iff_ne]; omega
                have e1 : decide (a.length = 0 ∧ b.length = 0) = false := decide_eq_false fun e => hb e.2
                rw [e1] at H
                obtain rfl := Option.some.inj H
                clear ha hb e1 H
                go_wp2
                go_ret
                exact ⟨rfl, below_step HB4.out HB.out⟩
            · have c6 : ((a.length : Int) == 0) = false := by rw [beq_eq_false_iff_ne]; omega
              have e1 : decide (a.length = 0 ∧ b.length = 0) = false := decide_eq_false fun e => ha e.1
              rw [e1] at H
              obtain rfl := Option.some.inj H
              clear ha e1 H
              go_wp2
              go_ret
              exact ⟨rfl, below_step HB4.out HB.out⟩
def impl_AreConjugate.l0 : Nat → List Int → List Int → Int → Int → Option Bool
  | 0, _, _, _, _ => none
  | k + 1, a, b, n, x => if x < n then ((impl_turn.f a x).bind fun t => (impl_sameInts.f k t b).bind fun s => if s = true then some true else impl_AreConjugate.l0 k a b n (wrap64 (x + 1))) else some false
def impl_AreConjugate.f (k : Nat) (l0 l1 : List Int) : Option Bool := (impl_IsWord.f k l0).bind fun p => if p = true then ((impl_IsWord.f k l1).bind fun q => if q = true then ((impl_CoreWord.f k l0).bind fun a => (impl_CoreWord.f k l1).bind fun b => if a.length = b.length then impl_AreConjugate.l0 k a b (if (a.length : Int) < 1 then 1 else (a.length : Int)) 0 else some false) else some false) else some false
set_option maxHeartbeats 8000000 in
set_option maxRecDepth 100000 in
theorem impl_AreConjugate.calls (k : Nat) (A0 : Option Addr) (c0 : Nat) (l0 : List Int) (A1 : Option Addr) (c1 : Nat) (l1 : List Int) (r : Bool) (w : World) (hr0 : Kd.C (Kd.int .i64) w A0 l0.length l0) (hc0 : l0.length ≤ c0) (hr1 : Kd.C (Kd.int .i64) w A1 l1.length l1) (hc1 : l1.length ≤ c1) (h : impl_AreConjugate.f k l0 l1 = some r) :
    Calls Try.prog 37 #[.slice A0 l0.length c0, .slice A1 l1.length c1] w fun e w' => e = .returned (.bool r) ∧ Below w.heap.size w w' := by
  have HR0 := Aside0.mk hr0
  have HC0 := Aside0.mk hc0
  have HR1 := Aside0.mk hr1
  have HC1 := Aside0.mk hc1
  obtain ⟨p, P10, H⟩ := Option.bind_eq_some_iff.mp h
  have P1 := Aside0.mk P10
  clear P10 h hr0 hc0 hr1 hc1
  cases p with
  | false =>
    rw [if_neg Bool.false_ne_true] at H
    obtain rfl := Option.some.inj H
    go_enter Try.func37, Try.ntmps37
    go_wp2_with fail
    go_at_call 16
    refine (impl_IsWord.calls k A0 c0 l0 false _ HR0.out HC0.out P1.out).mono ?_
    rintro e w1 ⟨rfl, hd⟩
    go_wp2
    go_ret
    exact ⟨rfl, hd.below⟩
  | true =>
    rw [if_pos rfl] at H
    obtain ⟨q, P20, H⟩ := Option.bind_eq_some_iff.mp H
    have P2 := Aside0.mk P20
    clear P20
    cases q with
    | false =>
      rw [if_neg Bool.false_ne_true] at H
      obtain rfl := Option.some.inj H
      go_enter Try.func37, Try.ntmps37
      go_wp2_with fail
      go_at_call 16
      refine (impl_IsWord.calls k A0 c0 l0 true _ HR0.out HC0.out P1.out).mono ?_
      rintro e w1 ⟨rfl, hd⟩
      have HB := Aside0.mk hd.below
      go_wp2_with fail
      go_at_call 16
      refine (impl_IsWord.calls k A1 c1 l1 false _ (Kd.C_below HR1.out HB.out) HC1.out P2.out).mono ?_
      rintro e w2 ⟨rfl, hd⟩
      have HB2 := Aside0.mk (below_step HB.out hd.below)
      go_wp2
      go_ret
      exact ⟨rfl, HB2.out⟩
    | true =>
      rw [if_pos rfl] at H
      obtain ⟨a, P30, H⟩ := Option.bind_eq_some_iff.mp H
      obtain ⟨b, P40, H⟩ := Option.bind_eq_some_iff.mp H
      have P3 := Aside0.mk P30
      have P4 := Aside0.mk P40
      clear P30 P40
      by_cases hab : a.length = b.length
      case neg =>
        rw [if_neg hab] at H
        obtain rfl := Option.some.inj H
        have c4 : ((a.length : Int) == (b.length : Int)) = false := by rw [beq_eq_false_iff_ne]; omega
        have c5 : ((a.length : Int) != (b.length : Int)) = true := by rw [bne_iff_ne]; omega
        clear H hab
        go_enter Try.func37, Try.ntmps37
        go_wp2_with fail
        go_at_call 16
        refine (impl_IsWord.calls k A0 c0 l0 true _ HR0.out HC0.out P1.out).mono ?_
        rintro e w1 ⟨rfl, hd⟩
        have HB := Aside0.mk hd.below
        go_wp2_with fail
        go_at_call 16
        refine (impl_IsWord.calls k A1 c1 l1 true _ (Kd.C_below HR1.out HB.out) HC1.out P2.out).mono ?_
        rintro e w2 ⟨rfl, hd⟩
        have HB2 := Aside0.mk (below_step HB.out hd.below)
        clear hd
        go_wp2_with fail
        go_at_call 35
        refine (impl_CoreWord.calls k A0 c0 l0 a _ (Kd.C_below HR0.out HB2.out) HC0.out P3.out).mono ?_
        rintro e w3 ⟨va, rfl, hs, hb⟩
        obtain ⟨Da, ca, rfl⟩ := Kd.R_slice hs
        have HDa := Aside0.mk (Kd.R_reads' hs)
        have HB3 := Aside0.mk (below_step HB2.out hb)
        clear hs hb HB HB2
        go_wp2_with fail
        go_at_call 35
        refine (impl_CoreWord.calls k A1 c1 l1 b _ (Kd.C_below HR1.out HB3.out) HC1.out P4.out).mono ?_
        rintro e w4 ⟨vb, rfl, hs, hb⟩
        obtain ⟨Db, cb, rfl⟩ := Kd.R_slice hs
        have HDb := Aside0.mk (Kd.R_reads' hs)
        have HCa := Aside0.mk (Kd.C_below HDa.out.2.2 hb)
        have HB4 := Aside0.mk (below_step HB3.out hb)
        clear hs hb HB3
        go_wp2
        go_ret
        exact ⟨rfl, HB4.out⟩
      rw [if_pos hab] at H
      by_cases hm : (a.length : Int) < 1
      · rw [if_pos hm] at H
        have HF := Aside0.mk H
        have hmi := eq_true hm
        clear H
        have c4 : ((a.length : Int) == (b.length : Int)) = true := by rw [beq_iff_eq]; omega
        have c5 : ((a.length : Int) != (b.length : Int)) = false := by rw [bne_eq_false_iff_eq]; omega
        clear hab
        go_enter Try.func37, Try.ntmps37
        go_wp2_with fail
        go_at_call 16
        refine (impl_IsWord.calls k A0 c0 l0 true _ HR0.out HC0.out P1.out).mono ?_
        rintro e w1 ⟨rfl, hd⟩
        have HB := Aside0.mk hd.below
        go_wp2_with fail
        go_at_call 16
        refine (impl_IsWord.calls k A1 c1 l1 true _ (Kd.C_below HR1.out HB.out) HC1.out P2.out).mono ?_
        rintro e w2 ⟨rfl, hd⟩
        have HB2 := Aside0.mk (below_step HB.out hd.below)
        clear hd
        go_wp2_with fail
        go_at_call 35
        refine (impl_CoreWord.calls k A0 c0 l0 a _ (Kd.C_below HR0.out HB2.out) HC0.out P3.out).mono ?_
        rintro e w3 ⟨va, rfl, hs, hb⟩
        obtain ⟨Da, ca, rfl⟩ := Kd.R_slice hs
        have HDa := Aside0.mk (Kd.R_reads' hs)
        have HB3 := Aside0.mk (below_step HB2.out hb)
        clear hs hb HB HB2
        go_wp2_with fail
        go_at_call 35
        refine (impl_CoreWord.calls k A1 c1 l1 b _ (Kd.C_below HR1.out HB3.out) HC1.out P4.out).mono ?_
        rintro e w4 ⟨vb, rfl, hs, hb⟩
        obtain ⟨Db, cb, rfl⟩ := Kd.R_slice hs
        have HDb := Aside0.mk (Kd.R_reads' hs)
        have HCa := Aside0.mk (Kd.C_below HDa.out.2.2 hb)
        have HB4 := Aside0.mk (below_step HB3.out hb)
        clear hs hb HB3
        go_wp2
        go_loopg [28] k (fun gk v28 w' => ∃ x : Int, v28 = .int .i64 x ∧ Aside0 (impl_AreConjugate.l0 gk a b 1 x = some r) ∧ Aside0 (gk ≤ k) ∧ Aside0 (Below w4.heap.size w4 w'))
        case atStart => exact ⟨0, rfl, HF, ⟨Nat.le_refl _⟩, ⟨Below.refl _ _⟩⟩
        case round =>
          clear HF
          obtain ⟨x, rfl, HF, HG, HB⟩ := hrel
          cases gk with
          | zero => exact absurd HF.out (by simp [impl_AreConjugate.l0])
          | succ g =>
            have H := HF.out
            clear HF
            unfold impl_AreConjugate.l0 at H
            by_cases c : x < 1
            · rw [if_pos c] at H
              have c8 : decide (x < 1) = true := decide_eq_true c
              obtain ⟨t, Q10, H⟩ := Option.bind_eq_some_iff.mp H
              obtain ⟨s, Q20, H⟩ := Option.bind_eq_some_iff.mp H
              have Q1 := Aside0.mk Q10
              have Q2 := Aside0.mk Q20
              clear Q10 Q20 c
              go_wp2_with fail
              go_at_call 54
              refine (impl_turn.calls Da ca a x t _ (Kd.C_below HCa.out HB.out) HDa.out.2.1 Q1.out).mono ?_
              rintro e w5 ⟨vt, rfl, hs, hb⟩
              obtain ⟨Dt, ct, rfl⟩ := Kd.R_slice hs
              have HDt := Aside0.mk (Kd.R_reads' hs)
              have HB5 := Aside0.mk (below_step HB.out hb)
              clear hs hb
              cases s with
              | true =>
                rw [if_pos rfl] at H
                obtain rfl := Option.some.inj H
                go_wp2_with fail
                go_at_call 57
                refine (impl_sameInts.calls g Dt ct t Db cb b true _ HDt.out.2.2 HDt.out.2.1 (Kd.C_below HDb.out.2.2 HB5.out) HDb.out.2.1 Q2.out).mono ?_
                rintro e w6 ⟨rfl, hd⟩
                have HB6 := Aside0.mk (below_step HB5.out hd.below)
                clear hd
                go_wp2
                go_ret
                exact ⟨rfl, below_step HB4.out HB6.out⟩
              | false =>
                rw [if_neg Bool.false_ne_true] at H
                have HF := Aside0.mk H
                clear H
                go_wp2_with fail
                go_at_call 57
                refine (impl_sameInts.calls g Dt ct t Db cb b false _ HDt.out.2.2 HDt.out.2.1 (Kd.C_below HDb.out.2.2 HB5.out) HDb.out.2.1 Q2.out).mono ?_
                rintro e w6 ⟨rfl, hd⟩
                have HB6 := Aside0.mk (below_step HB5.out hd.below)
                clear hd
                go_wp2
                go_roundg g
                case measure => omega
                case rel => exact ⟨wrap64 (x + 1), by first | rfl | (simp; done) | (simp [*]; done), HF, ⟨by have := HG.out; omega⟩, HB6⟩
            · rw [if_neg c] at H
              have c8 : decide (x < 1) = false := decide_eq_false c
              obtain rfl := Option.some.inj H
              clear H c
              go_wp2
              go_ret
              exact ⟨rfl, below_step HB4.out HB.out⟩
      · rw [if_neg hm] at H
        have HF := Aside0.mk H
        have hmi := eq_false hm
        clear H
        have c4 : ((a.length : Int) == (b.length : Int)) = true := by rw [beq_iff_eq]; omega
        have c5 : ((a.length : Int) != (b.length : Int)) = false := by rw [bne_eq_false_iff_eq]; omega
        clear hab
        go_enter Try.func37, Try.ntmps37
        go_wp2_with fail
        go_at_call 16
        refine (impl_IsWord.calls k A0 c0 l0 true _ HR0.out HC0.out P1.out).mono ?_
        rintro e w1 ⟨rfl, hd⟩
        have HB := Aside0.mk hd.below
        go_wp2_with fail
        go_at_call 16
        refine (impl_IsWord.calls k A1 c1 l1 true _ (Kd.C_below HR1.out HB.out) HC1.out P2.out).mono ?_
        rintro e w2 ⟨rfl, hd⟩
        have HB2 := Aside0.mk (below_step HB.out hd.below)
        clear hd
        go_wp2_with fail
        go_at_call 35
        refine (impl_CoreWord.calls k A0 c0 l0 a _ (Kd.C_below HR0.out HB2.out) HC0.out P3.out).mono ?_
        rintro e w3 ⟨va, rfl, hs, hb⟩
        obtain ⟨Da, ca, rfl⟩ := Kd.R_slice hs
        have HDa := Aside0.mk (Kd.R_reads' hs)
        have HB3 := Aside0.mk (below_step HB2.out hb)
        clear hs hb HB HB2
        go_wp2_with fail
        go_at_call 35
        refine (impl_CoreWord.calls k A1 c1 l1 b _ (Kd.C_below HR1.out HB3.out) HC1.out P4.out).mono ?_
        rintro e w4 ⟨vb, rfl, hs, hb⟩
        obtain ⟨Db, cb, rfl⟩ := Kd.R_slice hs
        have HDb := Aside0.mk (Kd.R_reads' hs)
        have HCa := Aside0.mk (Kd.C_below HDa.out.2.2 hb)
        have HB4 := Aside0.mk (below_step HB3.out hb)
        clear hs hb HB3
        go_wp2
        go_loopg [28] k (fun gk v28 w' => ∃ x : Int, v28 = .int .i64 x ∧ Aside0 (impl_AreConjugate.l0 gk a b (a.length : Int) x = some r) ∧ Aside0 (gk ≤ k) ∧ Aside0 (Below w4.heap.size w4 w'))
        case atStart => exact ⟨0, rfl, HF, ⟨Nat.le_refl _⟩, ⟨Below.refl _ _⟩⟩
        case round =>
          clear HF
          obtain ⟨x, rfl, HF, HG, HB⟩ := hrel
          cases gk with
          | zero => exact absurd HF.out (by simp [impl_AreConjugate.l0])
          | succ g =>
            have H := HF.out
            clear HF
            unfold impl_AreConjugate.l0 at H
            by_cases c : x < (a.length : Int)
            · rw [if_pos c] at H
              have c8 : decide (x < (a.length : Int)) = true := decide_eq_true c
              obtain ⟨t, Q10, H⟩ := Option.bind_eq_some_iff.mp H
              obtain ⟨s, Q20, H⟩ := Option.bind_eq_some_iff.mp H
              have Q1 := Aside0.mk Q10
              have Q2 := Aside0.mk Q20
              clear Q10 Q20 c
              go_wp2_with fail
              go_at_call 54
              refine (impl_turn.calls Da ca a x t _ (Kd.C_below HCa.out HB.out) HDa.out.2.1 Q1.out).mono ?_
              rintro e w5 ⟨vt, rfl, hs, hb⟩
              obtain ⟨Dt, ct, rfl⟩ := Kd.R_slice hs
              have HDt := Aside0.mk (Kd.R_reads' hs)
              have HB5 := Aside0.mk (below_step HB.out hb)
              clear hs hb
              cases s with
              | true =>
                rw [if_pos rfl] at H
                obtain rfl := Option.some.inj H
                go_wp2_with fail
                go_at_call 57
                refine (impl_sameInts.calls g Dt ct t Db cb b true _ HDt.out.2.2 HDt.out.2.1 (Kd.C_below HDb.out.2.2 HB5.out) HDb.out.2.1 Q2.out).mono ?_
                rintro e w6 ⟨rfl, hd⟩
                have HB6 := Aside0.mk (below_step HB5.out hd.below)
                clear hd
                go_wp2
                go_ret
                exact ⟨rfl, below_step HB4.out HB6.out⟩
              | false =>
                rw [if_neg Bool.false_ne_true] at H
                have HF := Aside0.mk H
                clear H
                go_wp2_with fail
                go_at_call 57
                refine (impl_sameInts.calls g Dt ct t Db cb b false _ HDt.out.2.2 HDt.out.2.1 (Kd.C_below HDb.out.2.2 HB5.out) HDb.out.2.1 Q2.out).mono ?_
                rintro e w6 ⟨rfl, hd⟩
                have HB6 := Aside0.mk (below_step HB5.out hd.below)
                clear hd
                go_wp2
                go_roundg g
                case measure => omega
                case rel => exact ⟨wrap64 (x + 1), by first | rfl | (simp; done) | (simp [*]; done), HF, ⟨by have := HG.out; omega⟩, HB6⟩
            · rw [if_neg c] at H
              have c8 : decide (x < (a.length : Int)) = false := decide_eq_false c
              obtain rfl := Option.some.inj H
              clear H c
              go_wp2
              go_ret
              exact ⟨rfl, below_step HB4.out HB.out⟩
end Go.Proofs.Ytokbhekicjnglaa.QFnWords
