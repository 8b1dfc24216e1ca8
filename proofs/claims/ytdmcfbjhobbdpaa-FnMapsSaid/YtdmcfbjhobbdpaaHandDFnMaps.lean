/- DropEdge of the program, by hand: what it answers. Conditions: the list is a permutation of at most 24 darts. -/
import Derived.Test.YtdmcfbjhobbdpaaQFnMapsx0
import Derived.Test.YtdmcfbjhobbdpaaQFnMapsx1
import Derived.Test.YtdmcfbjhobbdpaaQFnMapsx2
import Derived.Test.YtdmcfbjhobbdpaaQFnMapsx3
import Derived.Test.YtdmcfbjhobbdpaaQFnMapsx4
import Derived.Test.YtdmcfbjhobbdpaaQFnMapsx5
import Derived.Test.YtdmcfbjhobbdpaaQFnMapsx6
import Derived.Test.YtdmcfbjhobbdpaaQFnMapsx7
import Derived.Test.YtdmcfbjhobbdpaaQFnMapsx8
import Derived.Test.YtdmcfbjhobbdpaaDrp
namespace Go.Proofs.Ytdmcfbjhobbdpaa.QFnMaps
open Go.RowKit Go.Proofs.YtdmcfbjhobbdpaaW.PrintWords Go.Proofs.YtdmcfbjhobbdpaaW.PrintLast Go.Proofs.YtdmcfbjhobbdpaaW.PrintMore Go.Proofs.Ytdmcfbjhobbdpaa.Com Go.Proofs.Ytdmcfbjhobbdpaa.Joi
attribute [local go_sem] max2_int min2_int max_two min_two max_three min_three max_four min_four
set_option linter.unusedVariables false
set_option linter.unusedSimpArgs false
set_option maxHeartbeats 8000000 in
set_option maxRecDepth 100000 in
theorem clo_calls (p : Addr) (d a : Nat) (w : World) (hp : w.cell? p = some (.int .i64 (a : Int))) (hd : d ≤ 1048576) (g : Bool) (hg : g = decide (d / 2 = a)) :
    Calls Try.prog 60 #[.int .i64 (d : Int), .pointer (some p)] w fun e w' => e = .returned (.bool g) ∧ w' = w := by
  have hd0 : (0 : Int) ≤ (d : Int) := by omega
  have hd1 : (d : Int) ≤ 1048576 := by omega
  cases g with
  | true =>
    have hq : d / 2 = a := of_decide_eq_true hg.symm
    have c1 : ((d : Int) / 2 == (a : Int)) = true := by rw [beq_iff_eq]; omega
    clear hg hq
    go_enter Try.func60, Try.ntmps60
    go_wp2
    go_ret
    exact ⟨by first | rfl | simp [*], rfl⟩
  | false =>
    have hq : ¬ d / 2 = a := of_decide_eq_false hg.symm
    have c2 : ((d : Int) / 2 == (a : Int)) = false := by rw [beq_eq_false_iff_ne]; omega
    clear hg hq
    go_enter Try.func60, Try.ntmps60
    go_wp2
    go_ret
    exact ⟨by first | rfl | simp [*], rfl⟩
set_option maxHeartbeats 16000000 in
set_option maxRecDepth 100000 in
theorem without_calls (p : Addr) (a : Nat) (A0 : Option Addr) (c0 : Nat) (l0 : List Int) (w : World) (hr0 : Kd.C (Kd.int .i64) w A0 l0.length l0) (hc0 : l0.length ≤ c0) (hm : PermOk l0) (hp : w.cell? p = some (.int .i64 (a : Int))) :
    Calls Try.prog 59 #[.slice A0 l0.length c0, .func (.func 60) #[] #[.pointer (some p)]] w fun e w' => ∃ v0_ : Value, e = .returned v0_ ∧ w'.ownsRow w.heap.size 3 1 v0_ (dropTo l0 a l0.length).length (encs (Value.int .i64) (dropTo l0 a l0.length)) ∧ Below w.heap.size w w' := by
  have HR0 := Aside0.mk hr0
  have HC0 := Aside0.mk hc0
  have HM := Aside0.mk hm
  have HP := Aside0.mk hp
  have h24 : l0.length ≤ 24 := hm.1.1
  have hmk := print_make (P := Try.prog) 22 3 .i64 8 Try.underlying22 Joi.info3 (by decide) l0.length (by omega)
  clear hm hr0 hc0 hp
  go_enter Try.func59, Try.ntmps59
  go_wp2
  have HN0 : Aside0 (Up (w.alloc (.cells (madeCells #[.int .i64 0] l0.length) 3)) w.heap.size (.slice (some ⟨w.heap.size, 0, none⟩) l0.length l0.length) (numsTo a l0.length 0)) := ⟨by
    unfold Up
    rw [numsTo_len, numsTo_zero]
    exact own_made_of (enc := Value.int .i64) (d := (0 : Int)) w w.heap.size 3 l0.length (Nat.le_refl _) (by omega)⟩
  clear hmk
  go_loopg [6, 16] l0.length (fun gk v6 v16 w' => ∃ k : Nat, k + gk = l0.length ∧ v6 = .int .i64 ((nmN a k : Nat) : Int) ∧ v16 = .int .i64 (k : Int) ∧ Aside0 (Up w' w.heap.size (.slice (some ⟨w.heap.size, 0, none⟩) l0.length l0.length) (numsTo a l0.length k)) ∧ Aside0 (Below w.heap.size w w'))
  case atStart => exact ⟨0, by omega, rfl, rfl, HN0, ⟨below_alloc (Below.refl _ _) _⟩⟩
  case round =>
    clear HN0
    obtain ⟨k, hk, rfl, rfl, HN, HB⟩ := hrel
    have hpr := pw_cell_below HB.out HP.out
    cases gk with
    | succ q =>
      have HK := Aside0.mk hk
      have hlt : k < l0.length := by omega
      have c1 : decide (k < l0.length) = true := decide_eq_true hlt
      have hz := nmN_succ a k
      have hzl := nmN_le a k
      clear hk
      by_cases hg : k / 2 = a
      · have HG := Aside0.mk hg
        rw [if_neg (fun e => e hg)] at hz
        have HZ := Aside0.mk hz
        have HE := Aside0.mk (numsTo_neg (n := l0.length) hg)
        clear hz hg
        go_wp2_with fail
        go_at_call 60
        refine (clo_calls p k a wr hpr (by omega) true (decide_eq_true HG.out).symm).mono ?_
        rintro e w1 ⟨rfl, hw⟩
        obtain rfl := hw.symm
        clear hw
        go_wp2
        go_roundg q
        case measure => omega
        case rel => exact ⟨k + 1, by have := HK.out; omega, by rw [HZ.out]; rfl, by go_num, ⟨by rw [HE.out]; exact HN.out⟩, HB⟩
      · have HG := Aside0.mk hg
        rw [if_pos hg] at hz
        have HZ := Aside0.mk hz
        have HE := Aside0.mk (numsTo_pos (n := l0.length) hg)
        obtain ⟨u, cap, hv, hbu, hcp, hc0, hst⟩ := HN.out.laid (by rw [numsTo_len]; omega)
        rw [numsTo_len] at hv
        obtain ⟨rfl, rfl⟩ : w.heap.size = u ∧ l0.length = cap := by
          injection hv with e1 e2 e3
          injection e1 with e1
          injection e1 with e1
          exact ⟨e1, e3⟩
        have hck := hc0 k (by rw [numsTo_len]; exact hlt)
        have HST := Aside0.mk (hst k ((nmN a k : Nat) : Int) (by rw [numsTo_len]; exact hlt))
        have hk0 : (0 : Int) ≤ (k : Int) := by omega
        have hk1 : (k : Int) < (l0.length : Int) := by omega
        clear hz hg hv hbu hcp hc0 hst
        go_wp2_with fail
        go_at_call 60
        refine (clo_calls p k a wr hpr (by omega) false (decide_eq_false HG.out).symm).mono ?_
        rintro e w1 ⟨rfl, hw⟩
        obtain rfl := hw.symm
        clear hw
        go_wp2
        go_roundg q
        case measure => omega
        case rel => exact ⟨k + 1, by have := HK.out; omega, by rw [HZ.out]; go_num, by go_num, ⟨by rw [HE.out]; exact HST.out⟩, ⟨below_set HB.out (Nat.le_refl _)⟩⟩
    | zero =>
      obtain rfl : k = l0.length := by omega
      have c1 : decide (l0.length < l0.length) = false := decide_eq_false (by omega)
      clear hk
      have HSW := Aside0.mk (below_size HB.out)
      go_wp2
      have HO0 : Aside0 (Up (wr.alloc (.cells #[] 3)) w.heap.size (.slice (some ⟨wr.heap.size, 0, none⟩) 0 0) (dropTo l0 a 0)) := ⟨own_lit_of (enc := Value.int .i64) wr w.heap.size 3 ([] : List Int) HSW.out (by decide)⟩
      have HN1 : Aside0 (Up (wr.alloc (.cells #[] 3)) w.heap.size (.slice (some ⟨w.heap.size, 0, none⟩) l0.length l0.length) (numsTo a l0.length l0.length)) := ⟨HN.out.below (below_alloc (Below.refl _ _) _)⟩
      have HNE0 : Aside0 (NeRow (.slice (some ⟨wr.heap.size, 0, none⟩) 0 0) (.slice (some ⟨w.heap.size, 0, none⟩) l0.length l0.length)) := ⟨ne_made HN.out⟩
      have HB1 : Aside0 (Below w.heap.size w (wr.alloc (.cells #[] 3))) := ⟨below_alloc HB.out _⟩
      clear HN HB hpr HSW
      go_loopg [8, 33] l0.length (fun gk v8 v33 w' => ∃ (k : Nat) (v : Value), k + gk = l0.length ∧ v = v8 ∧ v33 = .int .i64 (k : Int) ∧ Aside0 (Up w' w.heap.size (.slice (some ⟨w.heap.size, 0, none⟩) l0.length l0.length) (numsTo a l0.length l0.length)) ∧ Aside0 (Up w' w.heap.size v (dropTo l0 a k)) ∧ Aside0 (NeRow v (.slice (some ⟨w.heap.size, 0, none⟩) l0.length l0.length)) ∧ Aside0 (Below w.heap.size w w'))
      case atStart => exact ⟨0, _, by omega, rfl, rfl, HN1, HO0, HNE0, HB1⟩
      case round =>
        clear HN1 HO0 HNE0 HB1 c1
        obtain ⟨k, v, hk, rfl, rfl, HN, HO, HNE, HB⟩ := hrel
        have hpr := pw_cell_below HB.out HP.out
        cases gk with
        | zero =>
          obtain rfl : k = l0.length := by omega
          have c1 : decide (l0.length < l0.length) = false := decide_eq_false (by omega)
          clear hk
          go_wp2
          go_ret
          exact ⟨_, rfl, HO.out, HB.out⟩
        | succ q =>
          have HK := Aside0.mk hk
          have hlt : k < l0.length := by omega
          have c1 : decide (k < l0.length) = true := decide_eq_true hlt
          clear hk
          by_cases hg : k / 2 = a
          · have HG := Aside0.mk hg
            have HE := Aside0.mk (dropTo_neg l0 hg)
            clear hg
            go_wp2_with fail
            go_at_call 60
            refine (clo_calls p k a _ hpr (by omega) true (decide_eq_true HG.out).symm).mono ?_
            rintro e w1 ⟨rfl, hw⟩
            obtain rfl := hw.symm
            clear hw
            go_wp2
            go_roundg q
            case measure => omega
            case rel => exact ⟨k + 1, _, by have := HK.out; omega, rfl, by go_num, HN, ⟨by rw [HE.out]; exact HO.out⟩, HNE, HB⟩
          · have HG := Aside0.mk hg
            have HE := Aside0.mk (dropTo_pos l0 hg)
            obtain ⟨nf, _, hfol⟩ := flN_fol HM.out hlt hg
            obtain ⟨hx1, hx2⟩ := nx_lt HM.out.1 hlt
            have HF := Aside0.mk hfol
            have HR1 := Kd.C_below HR0.out HB.out
            obtain ⟨ad, hA, hcell⟩ := Kd.at_int HR1 (k : Int) (by omega) (by omega)
            subst hA
            rw [Int.toNat_natCast, hx2] at hcell
            have HRR := Aside0.mk HR1
            have hk0 : (0 : Int) ≤ (k : Int) := by omega
            have hk1 : (k : Int) < (l0.length : Int) := by omega
            clear hg hfol hx2 HR1
            go_wp2_with fail
            go_at_call 60
            refine (clo_calls p k a _ hpr (by omega) false (decide_eq_false HG.out).symm).mono ?_
            rintro e w1 ⟨rfl, hw⟩
            obtain rfl := hw.symm
            clear hw
            go_wp2
            obtain ⟨wo, hwo⟩ : ∃ wo : World, wo = wr := ⟨_, rfl⟩
            subst hwo
            go_loopg [10] nf (fun gk v10 w' => ∃ i : Nat, v10 = .int .i64 (i : Int) ∧ i < l0.length ∧ Aside0 (fol l0 a gk i (flN l0 a k)) ∧ wo = w')
            case atStart => exact ⟨nx l0 k, rfl, hx1, HF, rfl⟩
            case round =>
              clear HF hx1 hcell
              obtain ⟨i, rfl, hil, HF, rfl⟩ := hrel
              cases gk with
              | zero =>
                obtain ⟨hi1, hi2⟩ := HF.out
                have HI := Aside0.mk hi1
                have HG2 := Aside0.mk hi2
                obtain ⟨u, cap, hv, hbu, hcp, hc0, hst⟩ := HN.out.laid (by rw [numsTo_len]; omega)
                rw [numsTo_len] at hv
                obtain ⟨rfl, rfl⟩ : w.heap.size = u ∧ l0.length = cap := by
                  injection hv with e1 e2 e3
                  injection e1 with e1
                  injection e1 with e1
                  exact ⟨e1, e3⟩
                have hci := (hc0 i (by rw [numsTo_len]; exact hil)).1
                rw [numsTo_rd hil hi2] at hci
                have hi0 : (0 : Int) ≤ (i : Int) := by omega
                have hi3 : (i : Int) < (l0.length : Int) := by omega
                have HSZ := Aside0.mk (below_size HB.out)
                have HDL := Aside0.mk (dropTo_len l0 a k)
                clear hi1 hi2 hv hbu hcp hc0 hst
                go_wp2_with fail
                go_at_call 60
                refine (clo_calls p i a _ hpr (by omega) false (decide_eq_false HG2.out).symm).mono ?_
                rintro e w1 ⟨rfl, hw⟩
                obtain rfl := hw.symm
                clear hw
                go_wp2_with ((with_reducible refine gate_builtin (b := .append) (xs := #[.tmp 50, .tmp 55]) rfl ?_); at_builtin; refine print_append_of (w0 := w) (Value.int .i64) w.heap.size rfl (.tmp 50) (.tmp 55) 22 3 (.int .i64 0) 8 rfl Try.underlying22 Joi.info3 rfl (by decide) v (dropTo l0 a k) ((nmN a i : Nat) : Int) rfl rfl rfl ?aO ?aB ?aS ?aL ?_; (case aO => exact HO.out); (case aB => exact HB.out); (case aS => exact HSZ.out); (case aL => have := HDL.out; omega); intro v1 w1 hown hb hgr hat; have HO2 := Aside0.mk hown; have HB2 := Aside0.mk hb; have HN2 := Aside0.mk (own_other HN.out hgr (ne_other HNE.out)); have HNE2 := Aside0.mk (ne_append HNE.out hat HN.out); clear hown hb hgr hat)
                go_roundg q
                case measure => omega
                case rel => exact ⟨k + 1, _, by have := HK.out; omega, rfl, by go_num, HN2, ⟨by rw [HE.out, ← HI.out]; exact HO2.out⟩, HNE2, HB2⟩
              | succ q2 =>
                obtain ⟨hi2, hf2⟩ := HF.out
                obtain ⟨hx1, hx2⟩ := nx_lt HM.out.1 hil
                have HF2 := Aside0.mk hf2
                have HG2 := Aside0.mk hi2
                obtain ⟨ad2, hA2, hcell⟩ := Kd.at_int HRR.out (i : Int) (by omega) (by omega)
                cases hA2
                rw [Int.toNat_natCast, hx2] at hcell
                have hi0 : (0 : Int) ≤ (i : Int) := by omega
                have hi3 : (i : Int) < (l0.length : Int) := by omega
                clear hf2 hi2 hx2 HF
                go_wp2_with fail
                go_at_call 60
                refine (clo_calls p i a _ hpr (by omega) true (decide_eq_true HG2.out).symm).mono ?_
                rintro e w1 ⟨rfl, hw⟩
                obtain rfl := hw.symm
                clear hw
                go_wp2
                go_roundg q2
                case measure => omega
                case rel => exact ⟨nx l0 i, rfl, hx1, HF2, rfl⟩
theorem within_dec (a b c : Int) : impl_within.f a b c = some (decide (b ≤ a ∧ a ≤ c)) := by
  unfold impl_within.f
  by_cases h : a ≥ b
  · rw [if_pos h]
    by_cases h2 : a ≤ c
    · rw [decide_eq_true h2, decide_eq_true ⟨h, h2⟩]
    · rw [decide_eq_false h2, decide_eq_false (fun h3 => h2 h3.2)]
  · rw [if_neg h, decide_eq_false (fun h3 => h h3.1)]
open Classical in
noncomputable def impl_DropEdge.f (k : Nat) (l0 : List Int) (a1 : Int) : Option (List Int × Bool) := (impl_IsMap.f k l0).bind fun t => if t = true then (if 0 ≤ a1 ∧ a1 ≤ (l0.length : Int) / 2 - 1 then (if l0.length = 2 then some ([], false) else if PermOk l0 then some (dropTo l0 a1.toNat l0.length, true) else none) else if l0.length ≤ 1048576 then some ([], false) else none) else some ([], false)
set_option maxHeartbeats 16000000 in
set_option maxRecDepth 100000 in
theorem impl_DropEdge.calls (k : Nat) (A0 : Option Addr) (c0 : Nat) (l0 : List Int) (a1 : Int) (r1 : List Int) (r2 : Bool) (w : World) (hr0 : Kd.C (Kd.int .i64) w A0 l0.length l0) (hc0 : l0.length ≤ c0) (h : impl_DropEdge.f k l0 a1 = some (r1, r2)) :
    Calls Try.prog 29 #[.slice A0 l0.length c0, .int .i64 a1] w fun e w' => ∃ v0_ : Value, e = .returned (.tuple #[v0_, .bool r2]) ∧ Kd.R (Kd.int .i64) 3 w' w.heap.size (fun _ => True) v0_ r1 ∧ Below w.heap.size w w' := by
  have HR0 := Aside0.mk hr0
  have HC0 := Aside0.mk hc0
  have HMF := Aside0.mk (fun (fn : Fn) (first cap : Array Value) (w : World) => (rfl : (Instr.makeFunc fn first cap).run Try.prog w = .ok (.func fn first cap) w))
  obtain ⟨t, A10, H⟩ := Option.bind_eq_some_iff.mp h
  have A1 := Aside0.mk A10
  have HB0 := Aside0.mk (below_alloc (Below.refl w.heap.size w) (.cells #[.int .i64 a1] 3))
  have hcell : (w.alloc (.cells #[.int .i64 a1] 3)).cell? ⟨w.heap.size, 0, none⟩ = some (.int .i64 a1) := by rw [blk_cell (blk_new w _)]; rfl
  have HCE := Aside0.mk hcell
  clear A10 h hr0 hc0 hcell
  cases t with
  | false =>
    rw [if_neg Bool.false_ne_true] at H
    obtain ⟨rfl, rfl⟩ := Prod.mk.inj (Option.some.inj H)
    go_enter Try.func29, Try.ntmps29
    go_wp2_with fail
    go_at_call 16
    refine (impl_IsMap.calls k A0 c0 l0 false _ (Kd.C_below HR0.out HB0.out) HC0.out A1.out).mono ?_
    rintro e w1 ⟨rfl, hb⟩
    have HB1 := Aside0.mk (below_step HB0.out hb)
    clear hb
    go_wp2
    go_ret2
    exact ⟨_, rfl, Kd.R_nil _ _ _ _ _, HB1.out⟩
  | true =>
    rw [if_pos rfl] at H
    by_cases hc : 0 ≤ a1 ∧ a1 ≤ (l0.length : Int) / 2 - 1
    case neg =>
      rw [if_neg hc] at H
      by_cases hl : l0.length ≤ 1048576
      case neg => rw [if_neg hl] at H; cases H
      rw [if_pos hl] at H
      obtain ⟨rfl, rfl⟩ := Prod.mk.inj (Option.some.inj H)
      have hl1 : (l0.length : Int) ≤ 1048576 := by omega
      have HW := Aside0.mk ((within_dec a1 0 ((l0.length : Int) / 2 - 1)).trans (by rw [decide_eq_false hc]))
      clear H hc hl
      go_enter Try.func29, Try.ntmps29
      go_wp2_with fail
      go_at_call 16
      refine (impl_IsMap.calls k A0 c0 l0 true _ (Kd.C_below HR0.out HB0.out) HC0.out A1.out).mono ?_
      rintro e w1 ⟨rfl, hb⟩
      have HB1 := Aside0.mk (below_step HB0.out hb)
      have hce := pw_cell_below hb HCE.out
      clear hb
      go_wp2_with fail
      go_at_call 50
      refine (impl_within.calls a1 0 ((l0.length : Int) / 2 - 1) false _ HW.out).mono ?_
      rintro e w2 ⟨rfl, ⟨n2, rfl⟩⟩
      go_wp2
      go_ret2
      exact ⟨_, rfl, Kd.R_nil _ _ _ _ _, pw_below_drewN HB1.out _⟩
    rw [if_pos hc] at H
    have HW := Aside0.mk ((within_dec a1 0 ((l0.length : Int) / 2 - 1)).trans (by rw [decide_eq_true hc]))
    by_cases h2 : l0.length = 2
    · rw [if_pos h2] at H
      obtain ⟨rfl, rfl⟩ := Prod.mk.inj (Option.some.inj H)
      have hl1 : (l0.length : Int) ≤ 1048576 := by omega
      have c1 : ((l0.length : Int) == 2) = true := by rw [beq_iff_eq]; omega
      clear H hc h2
      go_enter Try.func29, Try.ntmps29
      go_wp2_with fail
      go_at_call 16
      refine (impl_IsMap.calls k A0 c0 l0 true _ (Kd.C_below HR0.out HB0.out) HC0.out A1.out).mono ?_
      rintro e w1 ⟨rfl, hb⟩
      have HB1 := Aside0.mk (below_step HB0.out hb)
      have hce := pw_cell_below hb HCE.out
      clear hb
      go_wp2_with fail
      go_at_call 50
      refine (impl_within.calls a1 0 ((l0.length : Int) / 2 - 1) true _ HW.out).mono ?_
      rintro e w2 ⟨rfl, ⟨n2, rfl⟩⟩
      go_wp2
      go_ret2
      exact ⟨_, rfl, Kd.R_nil _ _ _ _ _, pw_below_drewN HB1.out _⟩
    rw [if_neg h2] at H
    by_cases hm : PermOk l0
    case neg => rw [if_neg hm] at H; cases H
    rw [if_pos hm] at H
    obtain ⟨rfl, rfl⟩ := Prod.mk.inj (Option.some.inj H)
    obtain ⟨a, rfl⟩ := Int.eq_ofNat_of_zero_le hc.1
    have hl1 : (l0.length : Int) ≤ 1048576 := by have := hm.1.1; omega
    have c1 : ((l0.length : Int) == 2) = false := by rw [beq_eq_false_iff_ne]; omega
    have HM := Aside0.mk hm
    clear H hc h2 hm
    go_enter Try.func29, Try.ntmps29
    go_wp2_with fail
    go_at_call 16
    refine (impl_IsMap.calls k A0 c0 l0 true _ (Kd.C_below HR0.out HB0.out) HC0.out A1.out).mono ?_
    rintro e w1 ⟨rfl, hb⟩
    have HB1 := Aside0.mk (below_step HB0.out hb)
    have hce := pw_cell_below hb HCE.out
    clear hb
    go_wp2_with fail
    go_at_call 50
    refine (impl_within.calls (a : Int) 0 ((l0.length : Int) / 2 - 1) true _ HW.out).mono ?_
    rintro e w2 ⟨rfl, ⟨n2, rfl⟩⟩
    have hmf := HMF.out
    go_wp2_with fail
    go_at_call 59
    refine (without_calls ⟨w.heap.size, 0, none⟩ a A0 c0 l0 (w1.drewN n2) (Kd.C_below HR0.out (pw_below_drewN HB1.out _)) HC0.out HM.out hce).mono ?_
    rintro e w3 ⟨v, rfl, hown, hb⟩
    have HB3 := Aside0.mk (below_step (pw_below_drewN HB1.out n2) hb)
    have HO := Aside0.mk (Kd.R_lower (Kd.R_of_own (h1 := fun _ => rfl) (ok := fun _ => True) hown (fun _ _ => trivial)) (below_size (pw_below_drewN HB1.out n2)))
    clear hown hb
    go_wp2
    go_ret2
    exact ⟨_, rfl, HO.out, HB3.out⟩
end Go.Proofs.Ytdmcfbjhobbdpaa.QFnMaps
