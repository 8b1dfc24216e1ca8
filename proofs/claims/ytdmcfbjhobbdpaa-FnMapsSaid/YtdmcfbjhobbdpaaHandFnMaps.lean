/- GenusOf of the program, l6Genus and GenusOf of the reference, by hand: each answers the same sum of counts. Conditions: the list is one of darts, at most 24 of them. -/
import Derived.Test.YtdmcfbjhobbdpaaHandPFnMaps
namespace Go.Proofs.Ytdmcfbjhobbdpaa.QFnMaps
open Go.RowKit Go.Proofs.YtdmcfbjhobbdpaaW.PrintWords Go.Proofs.YtdmcfbjhobbdpaaW.PrintLast Go.Proofs.YtdmcfbjhobbdpaaW.PrintMore Go.Proofs.Ytdmcfbjhobbdpaa.Com Go.Proofs.Ytdmcfbjhobbdpaa.Joi Go.Proofs.Ytdmcfbjhobbdpaa.Kl
attribute [local go_sem] max2_int min2_int max_two min_two max_three min_three max_four min_four
set_option linter.unusedVariables false
set_option linter.unusedSimpArgs false
def genV (p c d n : Nat) : Int := wrap64 ((p : Int) - Int.tdiv ((c : Int) - (n : Int) / 2 + (d : Int)) 2)
open Classical in
noncomputable def spec_l6Genus.f (k : Nat) (l0 : List Int) : Option Int := (spec_l6Cycles.f k l0).bind fun c => (spec_l6Dual.f k l0).bind fun d => (spec_l6Cycles.f k d).bind fun e => if MapOk l0 ∧ c.length ≤ 1048576 ∧ e.length ≤ 1048576 then some (genV (partsN l0) c.length e.length l0.length) else none
set_option maxHeartbeats 8000000 in
set_option maxRecDepth 100000 in
theorem spec_l6Genus.calls (k : Nat) (A0 : Option Addr) (c0 : Nat) (l0 : List Int) (r : Int) (w : World) (hr0 : Kd.C (Kd.int .i64) w A0 l0.length l0) (hc0 : l0.length ≤ c0) (h : spec_l6Genus.f k l0 = some r) :
    Calls Try.prog 67 #[.slice A0 l0.length c0] w fun e w' => e = .returned (.int .i64 r) ∧ Below w.heap.size w w' := by
  have HR0 := Aside0.mk hr0
  have HC0 := Aside0.mk hc0
  obtain ⟨c, E1, H⟩ := Option.bind_eq_some_iff.mp h
  obtain ⟨d, E2, H⟩ := Option.bind_eq_some_iff.mp H
  obtain ⟨e, E3, H⟩ := Option.bind_eq_some_iff.mp H
  by_cases hm : MapOk l0 ∧ c.length ≤ 1048576 ∧ e.length ≤ 1048576
  case neg => rw [if_neg hm] at H; cases H
  rw [if_pos hm] at H
  have H' := Option.some.inj H
  have A1 := Aside0.mk E1
  have A2 := Aside0.mk E2
  have A3 := Aside0.mk E3
  have HM := Aside0.mk hm.1
  have HE := Aside0.mk H'
  have hb1 : (c.length : Int) ≤ 1048576 := by have := hm.2.1; omega
  have hb2 : (e.length : Int) ≤ 1048576 := by have := hm.2.2; omega
  have hb3 : (l0.length : Int) ≤ 24 := by have := hm.1.1; omega
  have hb4 : ((partsN l0 : Nat) : Int) ≤ 24 := by have := partsN_le l0; have := hm.1.1; omega
  clear h H H' E1 E2 E3 hm hr0 hc0
  go_enter Try.func67, Try.ntmps67
  go_wp2_with fail
  go_at_call 61
  refine (l6Parts_calls A0 c0 l0 w HR0.out HC0.out HM.out).mono ?_
  rintro e1 w1 ⟨rfl, hb⟩
  have HB1 := Aside0.mk hb
  clear hb
  go_wp2_with fail
  go_at_call 65
  refine (spec_l6Cycles.calls k A0 c0 l0 c w1 (Kd.C_below HR0.out HB1.out) HC0.out A1.out).mono ?_
  rintro e2 w2 ⟨v, rfl, hs, hb⟩
  obtain ⟨B, cb, rfl⟩ := Kd.S_slice hs
  have HB2 := Aside0.mk (below_step HB1.out hb)
  clear hb hs HB1
  go_wp2_with fail
  go_at_call 54
  refine (spec_l6Dual.calls k A0 c0 l0 d w2 (Kd.C_below HR0.out HB2.out) HC0.out A2.out).mono ?_
  rintro e3 w3 ⟨v3, rfl, hs, hb⟩
  obtain ⟨D, cd, rfl⟩ := Kd.R_slice hs
  have HD := Aside0.mk (Kd.R_reads' hs)
  have HB3 := Aside0.mk (below_step HB2.out hb)
  clear hb hs HB2
  go_wp2_with fail
  go_at_call 65
  refine (spec_l6Cycles.calls k D cd d e w3 HD.out.2.2 HD.out.2.1 A3.out).mono ?_
  rintro e4 w4 ⟨v4, rfl, hs, hb⟩
  obtain ⟨F, cf, rfl⟩ := Kd.S_slice hs
  have HB4 := Aside0.mk (below_step HB3.out hb)
  clear hb hs HB3
  go_wp2
  go_ret
  exact ⟨by rw [← HE.out]; rfl, HB4.out⟩
noncomputable def spec_GenusOf.f (k : Nat) (l0 : List Int) : Option Int := (spec_IsMap.f k l0).bind fun t => if t = true then spec_l6Genus.f k l0 else some (-1)
set_option maxHeartbeats 8000000 in
set_option maxRecDepth 100000 in
theorem spec_GenusOf.calls (k : Nat) (A0 : Option Addr) (c0 : Nat) (l0 : List Int) (r : Int) (w : World) (hr0 : Kd.C (Kd.int .i64) w A0 l0.length l0) (hc0 : l0.length ≤ c0) (h : spec_GenusOf.f k l0 = some r) :
    Calls Try.prog 39 #[.slice A0 l0.length c0] w fun e w' => e = .returned (.int .i64 r) ∧ Below w.heap.size w w' := by
  have HR0 := Aside0.mk hr0
  have HC0 := Aside0.mk hc0
  obtain ⟨t, A10, H⟩ := Option.bind_eq_some_iff.mp h
  have A1 := Aside0.mk A10
  clear A10 h hr0 hc0
  cases t with
  | false =>
    rw [if_neg Bool.false_ne_true] at H
    obtain rfl := Option.some.inj H
    go_enter Try.func39, Try.ntmps39
    go_wp2_with fail
    go_at_call 14
    refine (spec_IsMap.calls k A0 c0 l0 false w HR0.out HC0.out A1.out).mono ?_
    rintro e w1 ⟨rfl, hb⟩
    go_wp2
    go_ret
    exact ⟨rfl, hb⟩
  | true =>
    rw [if_pos rfl] at H
    have HG := Aside0.mk H
    clear H
    go_enter Try.func39, Try.ntmps39
    go_wp2_with fail
    go_at_call 14
    refine (spec_IsMap.calls k A0 c0 l0 true w HR0.out HC0.out A1.out).mono ?_
    rintro e w1 ⟨rfl, hb⟩
    have HB1 := Aside0.mk hb
    clear hb
    go_wp2_with fail
    go_at_call 67
    refine (spec_l6Genus.calls k A0 c0 l0 r w1 (Kd.C_below HR0.out HB1.out) HC0.out HG.out).mono ?_
    rintro e w2 ⟨rfl, hb2⟩
    have HB2 := Aside0.mk hb2
    clear hb2
    go_wp2
    go_ret
    exact ⟨rfl, below_step HB1.out HB2.out⟩
open Classical in
noncomputable def impl_GenusOf.f (k : Nat) (l0 : List Int) : Option Int := (impl_IsMap.f k l0).bind fun t => if t = true then ((impl_MapParts.f k l0).bind fun p => (impl_cycles.f k l0).bind fun c => (impl_dual.f k l0).bind fun d => (impl_cycles.f k d).bind fun e => if (p = ((partsN l0 : Nat) : Int) ∧ l0.length ≤ 24) ∧ c.length ≤ 1048576 ∧ e.length ≤ 1048576 then some (genV (partsN l0) c.length e.length l0.length) else none) else some (-1)
set_option maxHeartbeats 8000000 in
set_option maxRecDepth 100000 in
theorem impl_GenusOf.calls (k : Nat) (A0 : Option Addr) (c0 : Nat) (l0 : List Int) (r : Int) (w : World) (hr0 : Kd.C (Kd.int .i64) w A0 l0.length l0) (hc0 : l0.length ≤ c0) (h : impl_GenusOf.f k l0 = some r) :
    Calls Try.prog 40 #[.slice A0 l0.length c0] w fun e w' => e = .returned (.int .i64 r) ∧ Below w.heap.size w w' := by
  have HR0 := Aside0.mk hr0
  have HC0 := Aside0.mk hc0
  obtain ⟨t, A00, H⟩ := Option.bind_eq_some_iff.mp h
  have A0' := Aside0.mk A00
  clear A00 h hr0 hc0
  cases t with
  | false =>
    rw [if_neg Bool.false_ne_true] at H
    obtain rfl := Option.some.inj H
    go_enter Try.func40, Try.ntmps40
    go_wp2_with fail
    go_at_call 16
    refine (impl_IsMap.calls k A0 c0 l0 false w HR0.out HC0.out A0'.out).mono ?_
    rintro e w1 ⟨rfl, hb⟩
    go_wp2
    go_ret
    exact ⟨rfl, hb⟩
  | true =>
    rw [if_pos rfl] at H
    obtain ⟨p, E0, H⟩ := Option.bind_eq_some_iff.mp H
    obtain ⟨c, E1, H⟩ := Option.bind_eq_some_iff.mp H
    obtain ⟨d, E2, H⟩ := Option.bind_eq_some_iff.mp H
    obtain ⟨e, E3, H⟩ := Option.bind_eq_some_iff.mp H
    by_cases hm : (p = ((partsN l0 : Nat) : Int) ∧ l0.length ≤ 24) ∧ c.length ≤ 1048576 ∧ e.length ≤ 1048576
    case neg => rw [if_neg hm] at H; cases H
    rw [if_pos hm] at H
    have H' := Option.some.inj H
    obtain ⟨⟨rfl, h24⟩, hc1, he1⟩ := hm
    have AP := Aside0.mk E0
    have A1 := Aside0.mk E1
    have A2 := Aside0.mk E2
    have A3 := Aside0.mk E3
    have HE := Aside0.mk H'
    have hb1 : (c.length : Int) ≤ 1048576 := by omega
    have hb2 : (e.length : Int) ≤ 1048576 := by omega
    have hb3 : (l0.length : Int) ≤ 24 := by omega
    have hb4 : ((partsN l0 : Nat) : Int) ≤ 24 := by have := partsN_le l0; omega
    clear H H' E0 E1 E2 E3 hc1 he1 h24
    go_enter Try.func40, Try.ntmps40
    go_wp2_with fail
    go_at_call 16
    refine (impl_IsMap.calls k A0 c0 l0 true w HR0.out HC0.out A0'.out).mono ?_
    rintro e0 w0 ⟨rfl, hb⟩
    have HB0 := Aside0.mk hb
    clear hb
    go_wp2_with fail
    go_at_call 31
    refine (impl_MapParts.calls k A0 c0 l0 _ w0 (Kd.C_below HR0.out HB0.out) HC0.out AP.out).mono ?_
    rintro e1 w1 ⟨rfl, hb⟩
    have HB1 := Aside0.mk (below_step HB0.out hb)
    clear hb HB0
    go_wp2_with fail
    go_at_call 66
    refine (impl_cycles.calls k A0 c0 l0 c w1 (Kd.C_below HR0.out HB1.out) HC0.out A1.out).mono ?_
    rintro e2 w2 ⟨v, rfl, hs, hb⟩
    obtain ⟨B, cb, rfl⟩ := Kd.S_slice hs
    have HB2 := Aside0.mk (below_step HB1.out hb)
    clear hb hs HB1
    go_wp2_with fail
    go_at_call 55
    refine (impl_dual.calls k A0 c0 l0 d w2 (Kd.C_below HR0.out HB2.out) HC0.out A2.out).mono ?_
    rintro e3 w3 ⟨v3, rfl, hs, hb⟩
    obtain ⟨D, cd, rfl⟩ := Kd.R_slice hs
    have HD := Aside0.mk (Kd.R_reads' hs)
    have HB3 := Aside0.mk (below_step HB2.out hb)
    clear hb hs HB2
    go_wp2_with fail
    go_at_call 66
    refine (impl_cycles.calls k D cd d e w3 HD.out.2.2 HD.out.2.1 A3.out).mono ?_
    rintro e4 w4 ⟨v4, rfl, hs, hb⟩
    obtain ⟨F, cf, rfl⟩ := Kd.S_slice hs
    have HB4 := Aside0.mk (below_step HB3.out hb)
    clear hb hs HB3
    go_wp2
    go_ret
    exact ⟨by rw [← HE.out]; rfl, HB4.out⟩
end Go.Proofs.Ytdmcfbjhobbdpaa.QFnMaps
