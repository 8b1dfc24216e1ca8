/- MapParts of the program and l6Parts of the reference, by hand: each answers the number of classes. Conditions: the list is one of darts, at most 24 of them. -/
import Derived.Test.YtdmcfbjhobbdpaaQFnMapsx0
import Derived.Test.YtdmcfbjhobbdpaaQFnMapsx1
import Derived.Test.YtdmcfbjhobbdpaaQFnMapsx2
import Derived.Test.YtdmcfbjhobbdpaaQFnMapsx3
import Derived.Test.YtdmcfbjhobbdpaaQFnMapsx4
import Derived.Test.YtdmcfbjhobbdpaaQFnMapsx5
import Derived.Test.YtdmcfbjhobbdpaaQFnMapsx6
import Derived.Test.YtdmcfbjhobbdpaaQFnMapsx7
import Derived.Test.YtdmcfbjhobbdpaaQFnMapsx8
import Derived.Test.YtdmcfbjhobbdpaaPrt
import Derived.StillTailTactics
namespace Go.Proofs.Ytdmcfbjhobbdpaa.QFnMaps
open Go.RowKit Go.Proofs.YtdmcfbjhobbdpaaW.PrintWords Go.Proofs.YtdmcfbjhobbdpaaW.PrintLast Go.Proofs.YtdmcfbjhobbdpaaW.PrintMore Go.Proofs.Ytdmcfbjhobbdpaa.Com Go.Proofs.Ytdmcfbjhobbdpaa.Joi Go.Proofs.Ytdmcfbjhobbdpaa.Kl
attribute [local go_sem] max2_int min2_int max_two min_two max_three min_three max_four min_four
set_option linter.unusedVariables false
set_option linter.unusedSimpArgs false
open Classical in
noncomputable def impl_MapParts.f (k : Nat) (l0 : List Int) : Option Int := (impl_IsMap.f k l0).bind fun t => if t = true then (if MapOk l0 then some ((partsN l0 : Nat) : Int) else none) else some (-1)
set_option maxHeartbeats 8000000 in
set_option maxRecDepth 100000 in
theorem impl_MapParts.calls (k : Nat) (A0 : Option Addr) (c0 : Nat) (l0 : List Int) (r : Int) (w : World) (hr0 : Kd.C (Kd.int .i64) w A0 l0.length l0) (hc0 : l0.length ≤ c0) (h : impl_MapParts.f k l0 = some r) :
    Calls Try.prog 31 #[.slice A0 l0.length c0] w fun e w' => e = .returned (.int .i64 r) ∧ Below w.heap.size w w' := by
  have HR0 := Aside0.mk hr0
  have HC0 := Aside0.mk hc0
  obtain ⟨t, A10, H⟩ := Option.bind_eq_some_iff.mp h
  have A1 := Aside0.mk A10
  clear A10 h hr0 hc0
  cases t with
  | false =>
    rw [if_neg Bool.false_ne_true] at H
    obtain rfl := Option.some.inj H
    go_enter Try.func31, Try.ntmps31
    go_wp2_with fail
    go_at_call 16
    refine (impl_IsMap.calls k A0 c0 l0 false w HR0.out HC0.out A1.out).mono ?_
    rintro e w1 ⟨rfl, hb⟩
    go_wp2
    go_ret
    exact ⟨rfl, hb⟩
  | true =>
    rw [if_pos rfl] at H
    by_cases hm : MapOk l0
    case neg => rw [if_neg hm] at H; cases H
    rw [if_pos hm] at H
    obtain rfl := Option.some.inj H
    clear H
    have HM := Aside0.mk hm
    have h24 : l0.length ≤ 24 := hm.1
    clear hm
    go_enter Try.func31, Try.ntmps31
    go_wp2_with fail
    go_at_call 16
    refine (impl_IsMap.calls k A0 c0 l0 true w HR0.out HC0.out A1.out).mono ?_
    rintro e w1 ⟨rfl, hb⟩
    go_wp2_with fail
    go_at_call 62
    refine (new_calls l0.length w1 (by omega)).mono ?_
    rintro e w2 ⟨rfl, hJ, hb2⟩
    have HJ2 := Aside0.mk hJ
    have HB1 := Aside0.mk hb
    have HB2 := Aside0.mk hb2
    clear hJ hb hb2
    go_wp2
    go_loopg [14] l0.length (fun gk v14 w' => ∃ (k : Nat) (xs : List Int), k + gk = l0.length ∧ v14 = .int .i64 (k : Int) ∧ Aside0 (xs.length = l0.length) ∧ Aside0 (UF xs (relM l0 k)) ∧ Aside0 (Jn w' w1.heap.size w1.heap.size xs) ∧ Aside0 (Below w1.heap.size w1 w'))
    case atStart => exact ⟨0, iota l0.length, by omega, rfl, ⟨iota_length _⟩, ⟨uf_iota _⟩, HJ2, HB2⟩
    case round =>
      obtain ⟨k, xs, hk, rfl, HXL, HUF, HJ, HB⟩ := hrel
      clear HJ2 HB2
      cases gk with
      | zero =>
        obtain rfl : k = l0.length := by omega
        have c1 : decide (l0.length < l0.length) = false := decide_eq_false (by omega)
        clear hk
        go_wp2_with fail
        go_at_call 64
        refine (count_calls w1.heap.size xs _ _ HJ.out (by rw [HXL.out]; omega)).mono ?_
        rintro e w3 ⟨rfl, hw⟩
        obtain rfl := hw.symm
        have hcnt := uf_count HUF.out
        rw [HXL.out] at hcnt
        have HC := Aside0.mk (show ownsTo xs xs.length = partsN l0 by rw [HXL.out]; exact hcnt)
        clear hcnt
        go_wp2
        go_ret
        exact ⟨by rw [HC.out]; rfl, below_step HB1.out HB.out⟩
      | succ q =>
        have HK := Aside0.mk hk
        have hlt : k < l0.length := by omega
        have c1 : decide (k < l0.length) = true := decide_eq_true hlt
        clear hk
        obtain ⟨m, hml, hme⟩ := HM.out.2.2 k hlt
        have HR1 := Kd.C_below HR0.out (below_step HB1.out HB.out)
        obtain ⟨ad, hA, hcell⟩ := Kd.at_int HR1 (k : Int) (by omega) (by omega)
        subst hA
        rw [Int.toNat_natCast, hme] at hcell
        clear HR1
        have hk0 : (0 : Int) ≤ (k : Int) := by omega
        have hk1 : (k : Int) < (l0.length : Int) := by omega
        have hx := xor1 k (by omega)
        have hml2 := mtN_lt HM.out hlt
        obtain ⟨ra, hra⟩ := HUF.out.tot k (by rw [HXL.out]; omega)
        obtain ⟨rb, hrb⟩ := HUF.out.tot m (by rw [HXL.out]; omega)
        have u1 := uf_join HUF.out hra hrb
        have hl1 : (joinL xs ra rb).length = l0.length := by rw [joinL_length, HXL.out]
        obtain ⟨rc, hrc⟩ := u1.tot k (by omega)
        obtain ⟨rd', hrd⟩ := u1.tot (mtN k) (by omega)
        have u2 := uf_join u1 hrc hrd
        have hl2 : (joinL (joinL xs ra rb) rc rd').length = l0.length := by rw [joinL_length, hl1]
        obtain ⟨na, hna⟩ := rch_of hra
        obtain ⟨nb, hnb⟩ := rch_of hrb
        obtain ⟨nc, hnc⟩ := rch_of hrc
        obtain ⟨nd, hnd⟩ := rch_of hrd
        have he : relM l0 (k + 1) = mrg (mrg (relM l0 k) k m) k (mtN k) := by
          show mrg (mrg (relM l0 k) k (rd l0 k).toNat) k (mtN k) = _
          rw [hme, Int.toNat_natCast]
        have U2 := Aside0.mk (show UF (joinL (joinL xs ra rb) rc rd') (relM l0 (k + 1)) by rw [he]; exact u2)
        have L1 := Aside0.mk hl1
        have L2 := Aside0.mk hl2
        have N1 := Aside0.mk hna
        have N2 := Aside0.mk hnb
        have N3 := Aside0.mk hnc
        have N4 := Aside0.mk hnd
        have HSX : xs.length ≤ 1048576 := by rw [HXL.out]; omega
        have HSY : (joinL xs ra rb).length ≤ 1048576 := by omega
        have S1 := Aside0.mk HSX
        have S2 := Aside0.mk HSY
        clear he hna hnb hnc hnd u2 u1 hl1 hl2 hra hrb hrc hrd hme HUF HSX HSY
        go_wp2_with fail
        go_at_call 63
        refine (join_calls w1.heap.size xs k m ra rb na nb w1 _ HB.out HJ.out N1.out N2.out S1.out).mono ?_
        rintro e w3 ⟨rfl, hJ3, hB3⟩
        have HJ3 := Aside0.mk hJ3
        have HB3 := Aside0.mk hB3
        clear hJ3 hB3 HJ HB
        go_wp2_with fail
        go_at_call 63
        refine (join_calls w1.heap.size (joinL xs ra rb) k (mtN k) rc rd' nc nd w1 _ HB3.out HJ3.out N3.out N4.out S2.out).mono ?_
        rintro e w4 ⟨rfl, hJ4, hB4⟩
        have HJ4 := Aside0.mk hJ4
        have HB4 := Aside0.mk hB4
        clear hJ4 hB4 HJ3 HB3
        go_wp2
        go_roundg q
        case measure => omega
        case rel => exact ⟨k + 1, _, by have := HK.out; omega, by go_num, L2, U2, HJ4, HB4⟩
theorem mate_eq (k : Nat) (h : k < 64) : spec_l6Mate.f (k : Int) = some ((mtN k : Nat) : Int) := by
  unfold spec_l6Mate.f mtN
  have e : Int.tmod (k : Int) 2 = ((k % 2 : Nat) : Int) := by rw [Int.tmod_eq_emod_of_nonneg (by omega)]; omega
  rw [e, w64 (x := (k : Int) + 1) (by omega) (by omega), w64 (x := 2 * ((k % 2 : Nat) : Int)) (by omega) (by omega), w64 (by omega) (by omega)]
  congr 1
  split <;> omega
set_option maxHeartbeats 16000000 in
set_option maxRecDepth 100000 in
theorem l6Parts_calls (A0 : Option Addr) (c0 : Nat) (l0 : List Int) (w : World) (hr0 : Kd.C (Kd.int .i64) w A0 l0.length l0) (hc0 : l0.length ≤ c0) (hm : MapOk l0) :
    Calls Try.prog 61 #[.slice A0 l0.length c0] w fun e w' => e = .returned (.int .i64 ((partsN l0 : Nat) : Int)) ∧ Below w.heap.size w w' := by
  have HR0 := Aside0.mk hr0
  have HC0 := Aside0.mk hc0
  have HM := Aside0.mk hm
  have h24 : l0.length ≤ 24 := hm.1
  clear hm hr0 hc0
  go_enter Try.func61, Try.ntmps61
  go_wp2
  go_loopg [3, 4] l0.length (fun gk v3 v4 w' => ∃ (k : Nat) (v : Value), k + gk = l0.length ∧ v = v3 ∧ v4 = .int .i64 (k : Int) ∧ Aside0 (Up w' w.heap.size v (iota k)) ∧ Aside0 (Below w.heap.size w w'))
  case atStart => exact ⟨0, _, by omega, rfl, rfl, ⟨own_lit_of (enc := Value.int .i64) w w.heap.size 3 ([] : List Int) (Nat.le_refl _) (by decide)⟩, ⟨by repeat (first | exact Below.refl _ _ | apply below_alloc)⟩⟩
  case round =>
    obtain ⟨k, v, hk, rfl, rfl, HU, HB⟩ := hrel
    cases gk with
    | succ q =>
      have HIL := Aside0.mk (iota_length k)
      have HK := Aside0.mk hk
      have hkn : k ≤ 1048576 := by omega
      have c1 : decide (k < l0.length) = true := decide_eq_true (by omega)
      have HSZ := Aside0.mk (below_size HB.out)
      clear hk
      go_wp2_with ((with_reducible refine gate_builtin (b := .append) (xs := #[.tmp 15, .tmp 17]) rfl ?_); at_builtin; refine print_append_of (w0 := w) (Value.int .i64) w.heap.size rfl (.tmp 15) (.tmp 17) 22 3 (.int .i64 0) 8 rfl Try.underlying22 Joi.info3 rfl (by decide) v (iota k) (k : Int) rfl rfl rfl ?aO ?aB ?aS ?aL ?_; (case aO => exact HU.out); (case aB => exact HB.out); (case aS => exact HSZ.out); (case aL => rw [HIL.out]; omega); intro v1 w1 hown hb hgr hat; have HO := Aside0.mk hown; have HB1 := Aside0.mk hb; clear hown hb hgr hat)
      go_roundg q
      case measure => omega
      case rel => exact ⟨k + 1, _, by have := HK.out; omega, rfl, by go_num, ⟨by rw [iota_succ]; exact HO.out⟩, HB1⟩
    | zero =>
      obtain rfl : k = l0.length := by omega
      have c1 : decide (l0.length < l0.length) = false := decide_eq_false (by omega)
      clear hk
      go_wp2
      go_loopg [5] l0.length (fun gk v5 w' => ∃ (k : Nat) (xs : List Int), k + gk = l0.length ∧ v5 = .int .i64 (k : Int) ∧ Aside0 (xs.length = l0.length) ∧ Aside0 (UF xs (relM l0 k)) ∧ Aside0 (Up w' w.heap.size v xs) ∧ Aside0 (Below w.heap.size w w'))
      case atStart => exact ⟨0, iota l0.length, by omega, rfl, ⟨iota_length _⟩, ⟨uf_iota _⟩, HU, HB⟩
      case round =>
        clear HU HB c1
        obtain ⟨k, xs, hk, rfl, HXL, HUF, HU, HB⟩ := hrel
        cases gk with
        | succ q =>
          have HK := Aside0.mk hk
          have hlt : k < l0.length := by omega
          have c1 : decide (k < l0.length) = true := decide_eq_true hlt
          clear hk
          obtain ⟨m, hml, hme⟩ := HM.out.2.2 k hlt
          have HR1 := Kd.C_below HR0.out HB.out
          obtain ⟨ad, hA, hcell⟩ := Kd.at_int HR1 (k : Int) (by omega) (by omega)
          subst hA
          rw [Int.toNat_natCast, hme] at hcell
          clear HR1
          have hk0 : (0 : Int) ≤ (k : Int) := by omega
          have hk1 : (k : Int) < (l0.length : Int) := by omega
          have hml2 := mtN_lt HM.out hlt
          obtain ⟨ra, hra⟩ := HUF.out.tot k (by rw [HXL.out]; omega)
          obtain ⟨rb, hrb⟩ := HUF.out.tot m (by rw [HXL.out]; omega)
          have u1 := HUF.out.join hra hrb
          have hl1 : (xs.set ra (rb : Int)).length = l0.length := by rw [List.length_set, HXL.out]
          obtain ⟨rc, hrc⟩ := u1.tot k (by omega)
          obtain ⟨rd', hrd⟩ := u1.tot (mtN k) (by omega)
          have u2 := u1.join hrc hrd
          have hl2 : ((xs.set ra (rb : Int)).set rc (rd' : Int)).length = l0.length := by rw [List.length_set, hl1]
          obtain ⟨na, hna⟩ := rch_of hra
          obtain ⟨nb, hnb⟩ := rch_of hrb
          obtain ⟨nc, hnc⟩ := rch_of hrc
          obtain ⟨nd, hnd⟩ := rch_of hrd
          have he : relM l0 (k + 1) = mrg (mrg (relM l0 k) k m) k (mtN k) := by
            show mrg (mrg (relM l0 k) k (rd l0 k).toNat) k (mtN k) = _
            rw [hme, Int.toNat_natCast]
          have hral : ra < l0.length := by have := hra.lt.2; rw [HXL.out] at this; exact this
          have hrcl : rc < l0.length := by have := hrc.lt.2; rw [hl1] at this; exact this
          have U2 := Aside0.mk (show UF ((xs.set ra (rb : Int)).set rc (rd' : Int)) (relM l0 (k + 1)) by rw [he]; exact u2)
          have L1 := Aside0.mk hl1
          have L2 := Aside0.mk hl2
          have N1 := Aside0.mk hna
          have N2 := Aside0.mk hnb
          have N3 := Aside0.mk hnc
          have N4 := Aside0.mk hnd
          clear he hna hnb hnc hnd u2 u1 hl1 hl2 hra hrb hrc hrd hme HUF
          obtain ⟨u, cap, hv, hbu, hcp, hc0, hst0⟩ := HU.out.laid (by rw [HXL.out]; omega)
          rw [HXL.out] at hv
          subst hv
          have HCp := Aside0.mk hcp
          have HBU := Aside0.mk hbu
          have HST := Aside0.mk hst0
          have hca := (hc0 ra (by rw [HXL.out]; omega))
          clear hcp hbu hc0 hst0
          have HC1 := Aside0.mk (HU.out.C).1
          go_wp2
          refine wp_region_still_tail 11 (by kernel_rfl) (by kernel_rfl) ?_
          simp only [List.take_succ_cons, List.take_zero, List.drop_succ_cons, List.drop_zero]
          change wpStill _ _ wr.drew _ _ _
          repeat still_step
          still_call (find_calls (some ⟨u, 0, none⟩) l0.length cap xs HXL.out k ra na wr.drew HC1.out HCp.out N1.out (by rw [HXL.out]; omega))
          repeat still_step
          still_call (find_calls (some ⟨u, 0, none⟩) l0.length cap xs HXL.out m rb nb wr.drew HC1.out HCp.out N2.out (by rw [HXL.out]; omega))
          repeat still_step
          refine wpStill_nil ?_
          change wpList _ _ _ _ _ wr.drew
          go_wp2_with fail
          have HU2 : Aside0 (Up (wr.setCell ⟨u, ra, none⟩ (.int .i64 (rb : Int))).drew w.heap.size (.slice (some ⟨u, 0, none⟩) l0.length cap) (xs.set ra (rb : Int))) := ⟨HST.out ra rb (by rw [HXL.out]; exact hral)⟩
          have HB2 : Aside0 (Below w.heap.size w (wr.setCell ⟨u, ra, none⟩ (.int .i64 (rb : Int))).drew) := ⟨below_drew (below_set HB.out HBU.out)⟩
          clear HU HB HST HC1 hcell hca
          generalize (wr.setCell ⟨u, ra, none⟩ (.int .i64 (rb : Int))).drew = W3 at HU2 HB2 ⊢
          obtain ⟨u', cap', hv', hbu', hcp', hc0', hst0'⟩ := HU2.out.laid (by rw [L1.out]; omega)
          have hca' := hc0' rc (by rw [L1.out]; omega)
          have HST := Aside0.mk hst0'
          have hcc := HU2.out.C
          have HC1 := Aside0.mk hcc.1
          have HC2 := Aside0.mk hcc.2.1
          obtain ⟨rfl, rfl⟩ : u = u' ∧ cap = cap' := by
            injection hv' with e1 e2 e3
            injection e1 with e1
            injection e1 with e1
            exact ⟨e1, e3⟩
          clear hv' hbu' hcp' hc0' hst0' hcc HC0
          have LL1 := L1
          refine (find_calls (some ⟨u, 0, none⟩) l0.length cap (xs.set ra (rb : Int)) L1.out k rc nc W3 HC1.out HC2.out N3.out (by rw [L1.out]; omega)).mono ?_
          rintro e w4 ⟨rfl, hw⟩
          obtain rfl := hw.symm
          clear hw
          go_wp2_with fail
          go_at_call 71
          refine (spec_l6Mate.calls (k : Int) (mtN k : Int) _ (mate_eq k (by omega))).mono ?_
          rintro e w5 ⟨rfl, ⟨n5, rfl⟩⟩
          go_wp2_with fail
          refine (find_calls (some ⟨u, 0, none⟩) l0.length cap (xs.set ra (rb : Int)) L1.out (mtN k) rd' nd (W3.drewN n5) (Kd.C_below HC1.out (pw_below_drewN (Below.refl _ _) n5)) HC2.out N4.out (by rw [L1.out]; omega)).mono ?_
          rintro e w6 ⟨rfl, hw⟩
          obtain rfl := hw.symm
          clear hw
          go_wp2
          go_roundg q
          case measure => omega
          case rel => exact ⟨k + 1, _, by have := HK.out; omega, by go_num, L2, U2, ⟨HST.out rc rd' (by rw [L1.out]; exact hrcl)⟩, ⟨by first | exact below_set (pw_below_drewN HB2.out _) HBU.out | exact pw_below_drewN (below_set HB2.out HBU.out) _⟩⟩
        | zero =>
          obtain rfl : k = l0.length := by omega
          have c1 : decide (l0.length < l0.length) = false := decide_eq_false (by omega)
          clear hk
          go_wp2
          go_loopg [6, 7] l0.length (fun gk v6 v7 w' => ∃ (j : Nat) (n : Nat), j + gk = l0.length ∧ v6 = .int .i64 ((ownsTo xs j : Nat) : Int) ∧ v7 = .int .i64 (j : Int) ∧ w' = wr.drewN n)
          case atStart => exact ⟨0, 0, by omega, rfl, rfl, rfl⟩
          case round =>
            clear c1
            obtain ⟨j, n, hk, rfl, rfl, rfl⟩ := hrel
            cases gk with
            | zero =>
              obtain rfl : j = l0.length := by omega
              have c1 : decide (l0.length < l0.length) = false := decide_eq_false (by omega)
              have hcnt := uf_count HUF.out
              rw [HXL.out] at hcnt
              have HC := Aside0.mk (show ownsTo xs l0.length = partsN l0 from hcnt)
              clear hcnt hk
              go_wp2
              go_ret
              exact ⟨by rw [HC.out]; rfl, pw_below_drewN HB.out _⟩
            | succ q =>
              have HK := Aside0.mk hk
              have hlt : j < l0.length := by omega
              have c1 : decide (j < l0.length) = true := decide_eq_true hlt
              obtain ⟨u, cap, hv, _, _, hc0, _⟩ := HU.out.laid (by rw [HXL.out]; omega)
              have hcj := (hc0 j (by rw [HXL.out]; omega)).1
              rw [HXL.out] at hv
              subst hv
              have hj0 : (0 : Int) ≤ (j : Int) := by omega
              have hj1 : (j : Int) < (l0.length : Int) := by omega
              have hz := ownsTo_succ xs j
              have hzl := ownsTo_le xs j
              clear hk hc0
              have hjx : j < xs.length := by rw [HXL.out]; exact hlt
              by_cases hr : xs[j]? = some (j : Int)
              · rw [if_pos hr] at hz
                have hrd : rd xs (j : Int) = (j : Int) := by rw [rd_lt hjx]; exact (List.getElem?_eq_some_iff.1 hr).2
                rw [hrd] at hcj
                have HZ := Aside0.mk hz
                clear hrd hr hz hjx
                go_wp2_with (go_at_call 58; refine (spec_l1Bit.calls true 1 _ rfl).mono ?_; rintro e w' ⟨rfl, ⟨nd, rfl⟩⟩)
                go_roundg q
                case measure => omega
                case rel => exact ⟨j + 1, _, by have := HK.out; omega, by rw [HZ.out]; go_num, by go_num, rfl⟩
              · rw [if_neg hr] at hz
                have hrd : rd xs (j : Int) ≠ (j : Int) := by rw [rd_lt hjx]; intro e; exact hr (by rw [List.getElem?_eq_getElem hjx, e])
                have c2 : (rd xs (j : Int) == (j : Int)) = false := by rw [beq_eq_false_iff_ne]; exact hrd
                have HZ := Aside0.mk hz
                clear hrd hr hz hjx
                go_wp2_with (go_at_call 58; refine (spec_l1Bit.calls false 0 _ rfl).mono ?_; rintro e w' ⟨rfl, ⟨nd, rfl⟩⟩)
                go_roundg q
                case measure => omega
                case rel => exact ⟨j + 1, _, by have := HK.out; omega, by rw [HZ.out]; rfl, by go_num, rfl⟩
open Classical in
noncomputable def spec_MapParts.f (k : Nat) (l0 : List Int) : Option Int := (spec_IsMap.f k l0).bind fun t => if t = true then (if MapOk l0 then some ((partsN l0 : Nat) : Int) else none) else some (-1)
set_option maxHeartbeats 8000000 in
set_option maxRecDepth 100000 in
theorem spec_MapParts.calls (k : Nat) (A0 : Option Addr) (c0 : Nat) (l0 : List Int) (r : Int) (w : World) (hr0 : Kd.C (Kd.int .i64) w A0 l0.length l0) (hc0 : l0.length ≤ c0) (h : spec_MapParts.f k l0 = some r) :
    Calls Try.prog 30 #[.slice A0 l0.length c0] w fun e w' => e = .returned (.int .i64 r) ∧ Below w.heap.size w w' := by
  have HR0 := Aside0.mk hr0
  have HC0 := Aside0.mk hc0
  obtain ⟨t, A10, H⟩ := Option.bind_eq_some_iff.mp h
  have A1 := Aside0.mk A10
  clear A10 h hr0 hc0
  cases t with
  | false =>
    rw [if_neg Bool.false_ne_true] at H
    obtain rfl := Option.some.inj H
    go_enter Try.func30, Try.ntmps30
    go_wp2_with fail
    go_at_call 14
    refine (spec_IsMap.calls k A0 c0 l0 false w HR0.out HC0.out A1.out).mono ?_
    rintro e w1 ⟨rfl, hb⟩
    go_wp2
    go_ret
    exact ⟨rfl, hb⟩
  | true =>
    rw [if_pos rfl] at H
    by_cases hm : MapOk l0
    case neg => rw [if_neg hm] at H; cases H
    rw [if_pos hm] at H
    obtain rfl := Option.some.inj H
    clear H
    have HM := Aside0.mk hm
    clear hm
    go_enter Try.func30, Try.ntmps30
    go_wp2_with fail
    go_at_call 14
    refine (spec_IsMap.calls k A0 c0 l0 true w HR0.out HC0.out A1.out).mono ?_
    rintro e w1 ⟨rfl, hb⟩
    have HB1 := Aside0.mk hb
    clear hb
    go_wp2_with fail
    go_at_call 61
    refine (l6Parts_calls A0 c0 l0 w1 (Kd.C_below HR0.out HB1.out) HC0.out HM.out).mono ?_
    rintro e w2 ⟨rfl, hb2⟩
    have HB2 := Aside0.mk hb2
    clear hb2
    go_wp2
    go_ret
    exact ⟨rfl, below_step HB1.out HB2.out⟩
end Go.Proofs.Ytdmcfbjhobbdpaa.QFnMaps
