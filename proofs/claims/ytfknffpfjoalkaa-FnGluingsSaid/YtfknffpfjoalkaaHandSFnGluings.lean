/- CountBorders of the reference, by hand: the number of classes of letters that touch. Conditions: at most four polygons of at most 24 letters each, none empty. -/
import Derived.Test.YtfknffpfjoalkaaHandIFnGluings
import Derived.StillTailTactics
import Derived.Test.YtfknffpfjoalkaaZip
namespace Go.Proofs.Ytfknffpfjoalkaa.QFnGluings
open Go.Proofs.Ytfknffpfjoalkaa.Zip Go.RowKit Go.Proofs.YtfknffpfjoalkaaW.PrintWords Go.Proofs.YtfknffpfjoalkaaW.PrintLast Go.Proofs.YtfknffpfjoalkaaW.PrintMore Go.Proofs.Ytfknffpfjoalkaa.Com Go.Proofs.Ytfknffpfjoalkaa.Joi Go.Proofs.Ytfknffpfjoalkaa.Kl
attribute [local go_sem] max2_int min2_int max_two min_two max_three min_three max_four min_four
set_option linter.unusedVariables false
set_option linter.unusedSimpArgs false
def S2 (g : List (List Int)) (ys : List Nat) (a b : Nat) : Nat → Nat → Prop := fun u v => v < u ∧ (u < a ∨ u = a ∧ v < b) ∧ Tch g ys u v
def S3 (g : List (List Int)) (ys : List Nat) (a b k : Nat) : Nat → Nat → Prop := fun u v => S2 g ys a b u v ∨ (u = a ∧ v = b ∧ ∃ q, q < k ∧ EG (Sl g) (2 * ys.getD a 0 + q % 2) (2 * ys.getD b 0 + q / 2))
theorem s2_next (g : List (List Int)) (ys : List Nat) (a : Nat) (u v : Nat) (h : S2 g ys (a + 1) 0 u v) : S2 g ys a a u v := ⟨h.1, by have := h.1; have := h.2.1; omega, h.2.2⟩
theorem s3_start (g : List (List Int)) (ys : List Nat) (a b : Nat) (u v : Nat) (h : S3 g ys a b 0 u v) : S2 g ys a b u v := by
 rcases h with h | ⟨_, _, q, hq, _⟩
 ·
  exact h
 ·
  omega
theorem s3_end (g : List (List Int)) (ys : List Nat) (a b : Nat) (u v : Nat) (h : S2 g ys a (b + 1) u v) : S3 g ys a b 4 u v := by
 obtain ⟨h0, h1, h2⟩ := h
 by_cases e : u = a ∧ v = b
 ·
  obtain ⟨rfl, rfl⟩ := e
  obtain ⟨_, _, k, l, hk, hl, h3⟩ := h2
  exact .inr ⟨rfl, rfl, 2 * l + k, by omega, by rw [show (2 * l + k) / 2 = l by omega, show (2 * l + k) % 2 = k by omega]; exact h3⟩
 ·
  exact .inl ⟨h0, by omega, h2⟩
theorem s3_join (g : List (List Int)) (ys : List Nat) (a b k : Nat) (u v : Nat) (h : S3 g ys a b (k + 1) u v) : S3 g ys a b k u v ∨ (u = a ∧ v = b) := by
 rcases h with h | ⟨h1, h2, _⟩
 ·
  exact .inl (.inl h)
 ·
  exact .inr ⟨h1, h2⟩
theorem s3_skip (g : List (List Int)) (ys : List Nat) (a b k : Nat) (hn : ¬ EG (Sl g) (2 * ys.getD a 0 + k % 2) (2 * ys.getD b 0 + k / 2)) (u v : Nat) (h : S3 g ys a b (k + 1) u v) : S3 g ys a b k u v := by
 rcases h with h | ⟨h1, h2, q, hq, e⟩
 ·
  exact .inl h
 ·
  by_cases hqk : q = k
  ·
   subst hqk; exact (hn e).elim
  ·
   exact .inr ⟨h1, h2, q, by omega, e⟩
theorem s2_all (g : List (List Int)) (ys : List Nat) (a b : Nat) (h : EG (Tch g ys) a b) : EG (S2 g ys ys.length 0) a b :=
 EG_min (EG_eqv _) (fun a b hs => by
  rcases Nat.lt_trichotomy a b with hab | hab | hab
  ·
   exact .symm (.base ⟨hab, .inl hs.2.1, tch_symm hs⟩)
  ·
   subst hab; exact .refl a
  ·
   exact .base ⟨hab, .inl hs.1, hs⟩) h
open Classical in
noncomputable def spec_CountBorders.f (k : Nat) (l0 : List (List Int)) : Option Int := (spec_IsGluing.f k l0).bind fun t => if t = true then ((spec_l3Letters.f k l0 1 1).bind fun fs => (spec_l3Ends.f k l0).bind fun up => if (CorOk l0 ∧ up.length = 18 ∧ UF up (EG (Sl l0))) ∧ ∃ ys : List Nat, fs = ys.map (fun y : Nat => (y : Int)) ∧ Occ l0 ys then some ((bordN l0 (fs.map Int.toNat) : Nat) : Int) else none) else some (-1)
set_option maxHeartbeats 16000000 in
set_option maxRecDepth 100000 in
theorem spec_CountBorders.calls (k : Nat) (A0 : Option Addr) (c0 : Nat) (l0 : List (List Int)) (r : Int) (w : World) (hr0 : Kd.C (Kd.slice 3 (Kd.int .i64)) w A0 l0.length l0) (hc0 : l0.length ≤ c0) (h : spec_CountBorders.f k l0 = some r) :
  Calls Try.prog 41 #[.slice A0 l0.length c0] w fun e w' => e = .returned (.int .i64 r) ∧ Below w.heap.size w w' := by
 have HR0 := Aside0.mk hr0
 have HC0 := Aside0.mk hc0
 obtain ⟨t, A10, H⟩ := Option.bind_eq_some_iff.mp h
 have A1 := Aside0.mk A10
 clear A10 h hr0 hc0
 cases t with
 | false =>
  rw [if_neg Bool.false_ne_true] at H
  obtain rfl := Option.some.inj H
  go_enter Try.func41, Try.ntmps41
  go_wp2_with fail
  go_at_call 16
  refine (spec_IsGluing.calls k A0 c0 l0 false w HR0.out HC0.out A1.out).mono ?_
  rintro e w1 ⟨rfl, hb⟩
  go_wp2
  go_ret
  exact ⟨rfl, hb⟩
 | true =>
  rw [if_pos rfl] at H
  obtain ⟨fs, E1, H⟩ := Option.bind_eq_some_iff.mp H
  obtain ⟨up, E2, H⟩ := Option.bind_eq_some_iff.mp H
  by_cases hm : (CorOk l0 ∧ up.length = 18 ∧ UF up (EG (Sl l0))) ∧ ∃ ys : List Nat, fs = ys.map (fun y : Nat => (y : Int)) ∧ Occ l0 ys
  case neg => rw [if_neg hm] at H; cases H
  rw [if_pos hm] at H
  obtain ⟨⟨hco, hul, huf⟩, ys, rfl, hoc⟩ := hm
  rw [toNat_cast] at H
  obtain rfl := Option.some.inj H
  clear H
  have HM := Aside0.mk hco
  have HUL := Aside0.mk hul
  have HUF := Aside0.mk huf
  have HOC := Aside0.mk hoc
  have AF := Aside0.mk E1
  have AE := Aside0.mk E2
  have hy8 : ys.length ≤ 8 := hoc.1
  clear hco hul huf hoc E1 E2
  go_enter Try.func41, Try.ntmps41
  go_wp2_with fail
  go_at_call 16
  refine (spec_IsGluing.calls k A0 c0 l0 true w HR0.out HC0.out A1.out).mono ?_
  rintro e w1 ⟨rfl, hb⟩
  have HB1 := Aside0.mk hb
  clear hb
  go_wp2_with fail
  go_at_call 59
  refine (spec_l3Letters.calls k A0 c0 l0 1 1 (ys.map (fun y : Nat => (y : Int))) w1 (Kd.C_below HR0.out HB1.out) HC0.out AF.out).mono ?_
  rintro e w2 ⟨v2, rfl, hs, hb⟩
  obtain ⟨D, cd, rfl⟩ := Kd.R_slice hs
  rw [List.length_map] at hs ⊢
  have HD := Aside0.mk (Kd.R_reads' hs)
  have HB2 := Aside0.mk (below_step HB1.out hb)
  clear hs hb HB1
  go_wp2_with fail
  go_at_call 73
  refine (spec_l3Ends.calls k A0 c0 l0 up w2 (Kd.C_below HR0.out HB2.out) HC0.out AE.out).mono ?_
  rintro e w4 ⟨v4, rfl, hs, hb⟩
  obtain ⟨U, cu, rfl⟩ := Kd.R_slice hs
  have HU := Aside0.mk (Kd.R_reads' hs)
  have HDW := Aside0.mk (Kd.C_below HD.out.2.2 hb)
  have HB4 := Aside0.mk (below_step HB2.out hb)
  clear hs hb HB2
  go_wp2
  have HO0 : Aside0 (Up (w4.alloc (.cells #[] 3)) w4.heap.size (.slice (some ⟨w4.heap.size, 0, none⟩) 0 0) (iota 0)) := ⟨own_lit_of (enc := Value.int .i64) w4 w4.heap.size 3 ([] : List Int) (Nat.le_refl _) (by decide)⟩
  have HB0 := Aside0.mk (below_alloc (Below.refl w4.heap.size w4) (.cells #[] 3))
  go_loopg [5, 6] ys.length (fun gk v5 v6 w' => ∃ (k : Nat) (v : Value), k + gk = ys.length ∧ v = v5 ∧ v6 = .int .i64 (k : Int) ∧ Aside0 (Up w' w4.heap.size v (iota k)) ∧ Aside0 (Below w4.heap.size w4 w'))
  case atStart => exact ⟨0, _, by omega, rfl, rfl, HO0, HB0⟩
  case round =>
   clear HO0 HB0
   obtain ⟨k, v, hk, rfl, rfl, HO, HB⟩ := hrel
   cases gk with
   | succ q =>
    have HIL := Aside0.mk (iota_length k)
    have HK := Aside0.mk hk
    have hkn : k ≤ 1048576 := by omega
    have c1 : decide (k < ys.length) = true := decide_eq_true (by omega)
    have HSZ := Aside0.mk (below_size HB.out)
    clear hk
    go_wp2_with ((with_reducible refine gate_builtin (b := .append) (xs := #[.tmp 26, .tmp 28]) rfl ?_); at_builtin; refine print_append_of (w0 := w4) (Value.int .i64) w4.heap.size rfl (.tmp 26) (.tmp 28) 27 3 (.int .i64 0) 8 rfl Try.underlying27 Joi.info3 rfl (by decide) v (iota k) (k : Int) rfl rfl rfl ?aO ?aB ?aS ?aL ?_; (case aO => exact HO.out); (case aB => exact HB.out); (case aS => exact HSZ.out); (case aL => rw [HIL.out]; omega); intro v1 w9 hown hb hgr hat; have HO2 := Aside0.mk hown; have HB9 := Aside0.mk hb; clear hown hb hgr hat)
    go_roundg q
    case measure => omega
    case rel => exact ⟨k + 1, _, by have := HK.out; omega, rfl, by go_num, ⟨by rw [iota_succ]; exact HO2.out⟩, HB9⟩
   | zero =>
    obtain rfl : k = ys.length := by omega
    have c1 : decide (ys.length < ys.length) = false := decide_eq_false (by omega)
    clear hk
    go_wp2
    go_loopg [7] ys.length (fun gk v7 w' => ∃ (a : Nat) (zs : List Int), a + gk = ys.length ∧ v7 = .int .i64 (a : Int) ∧ Aside0 (PInv ys.length (Tch l0 ys) zs (S2 l0 ys a 0)) ∧ Aside0 (Up w' w4.heap.size v zs) ∧ Aside0 (Below w4.heap.size w4 w'))
    case atStart => exact ⟨0, iota ys.length, by omega, rfl, ⟨(PInv.start _ _).weaken fun u v h => by unfold S2 at h; omega⟩, HO, HB⟩
    case round =>
     clear HO HB c1
     obtain ⟨a, zs, hk, rfl, HP, HK, HBW⟩ := hrel
     cases gk with
     | zero =>
      obtain rfl : a = ys.length := by omega
      have c1 : decide (ys.length < ys.length) = false := decide_eq_false (by omega)
      clear hk
      go_wp2
      go_loopg [10, 11] ys.length (fun gk v10 v11 w' => ∃ (j : Nat) (n : Nat), j + gk = ys.length ∧ v10 = .int .i64 ((ownsTo zs j : Nat) : Int) ∧ v11 = .int .i64 (j : Int) ∧ w' = wr.drewN n)
      case atStart => exact ⟨0, 0, by omega, rfl, rfl, rfl⟩
      case round =>
       clear c1
       obtain ⟨j, n, hk, rfl, rfl, rfl⟩ := hrel
       have hzl0 := HP.out.1
       cases gk with
       | zero =>
        obtain rfl : j = ys.length := by omega
        obtain ⟨A3, c3, rfl⟩ := own_slice HK.out
        have HC := Aside0.mk (show ownsTo zs ys.length = bordN l0 ys from HP.out.count fun a b _ _ e => s2_all l0 ys a b e)
        have c1 : decide (ys.length < zs.length) = false := decide_eq_false (by omega)
        clear hk hzl0
        go_wp2
        go_ret
        exact ⟨by rw [HC.out]; rfl, below_step HB4.out (pw_below_drewN HBW.out _)⟩
       | succ q =>
        have HKj := Aside0.mk hk
        have HPL := Aside0.mk hzl0
        have hlt : j < ys.length := by omega
        have c1 : decide (j < ys.length) = true := decide_eq_true hlt
        obtain ⟨u, cap, hv, _, _, hc0, _⟩ := HK.out.laid (by rw [HPL.out]; omega)
        have hcj := (hc0 j (by rw [HPL.out]; omega)).1
        rw [HPL.out] at hv
        subst hv
        have hj0 : (0 : Int) ≤ (j : Int) := by omega
        have hj1 : (j : Int) < (ys.length : Int) := by omega
        have hz := ownsTo_succ zs j
        have hzl := ownsTo_le zs j
        clear hk hc0 hzl0
        have hjx : j < zs.length := by rw [HPL.out]; exact hlt
        by_cases hr : zs[j]? = some (j : Int)
        ·
         rw [if_pos hr] at hz
         have hrd : rd zs (j : Int) = (j : Int) := by rw [rd_lt hjx]; exact (List.getElem?_eq_some_iff.1 hr).2
         rw [hrd] at hcj
         have HZ := Aside0.mk hz
         clear hrd hr hz hjx
         go_wp2_with (go_at_call 68; refine (spec_l1Bit.calls true 1 _ rfl).mono ?_; rintro e w' ⟨rfl, ⟨nd, rfl⟩⟩)
         go_roundg q
         case measure => omega
         case rel => exact ⟨j + 1, _, by have := HKj.out; omega, by rw [HZ.out]; go_num, by go_num, rfl⟩
        ·
         rw [if_neg hr] at hz
         have hrd : rd zs (j : Int) ≠ (j : Int) := by rw [rd_lt hjx]; intro e; exact hr (by rw [List.getElem?_eq_getElem hjx, e])
         have c2 : (rd zs (j : Int) == (j : Int)) = false := by rw [beq_eq_false_iff_ne]; exact hrd
         have HZ := Aside0.mk hz
         clear hrd hr hz hjx
         go_wp2_with (go_at_call 68; refine (spec_l1Bit.calls false 0 _ rfl).mono ?_; rintro e w' ⟨rfl, ⟨nd, rfl⟩⟩)
         go_roundg q
         case measure => omega
         case rel => exact ⟨j + 1, _, by have := HKj.out; omega, by rw [HZ.out]; rfl, by go_num, rfl⟩
     | succ ga =>
      have HKa := Aside0.mk hk
      have hlt : a < ys.length := by omega
      have c1 : decide (a < ys.length) = true := decide_eq_true hlt
      clear hk
      obtain ⟨wo, hwo⟩ : ∃ wo : World, wo = wr := ⟨_, rfl⟩
      subst hwo
      go_wp2
      go_loopg [8] a (fun gk v8 w' => ∃ (b' : Nat) (zs : List Int), b' + gk = a ∧ v8 = .int .i64 (b' : Int) ∧ Aside0 (PInv ys.length (Tch l0 ys) zs (S2 l0 ys a b')) ∧ Aside0 (Up w' w4.heap.size v zs) ∧ Aside0 (Below w4.heap.size w4 w'))
      case atStart => exact ⟨0, zs, by omega, rfl, HP, HK, HBW⟩
      case round =>
       clear HP HK HBW
       obtain ⟨b', zs, hk, rfl, HP, HK, HBW⟩ := hrel
       cases gk with
       | zero =>
        obtain rfl : b' = a := by omega
        have c2 : decide (b' < b') = false := decide_eq_false (by omega)
        clear hk
        go_wp2
        go_roundg ga
        case measure => omega
        case rel => exact ⟨b' + 1, zs, by have := HKa.out; omega, by go_num, ⟨HP.out.weaken (s2_next l0 ys b')⟩, HK, HBW⟩
       | succ gb =>
        have HKb := Aside0.mk hk
        have hba : b' < a := by omega
        have hltb : b' < ys.length := by omega
        have c2 : decide (b' < a) = true := decide_eq_true hba
        clear hk
        obtain ⟨wo2, hwo2⟩ : ∃ wo2 : World, wo2 = wr := ⟨_, rfl⟩
        subst hwo2
        go_wp2
        go_loopg [9] 4 (fun gk v9 w' => ∃ (q : Nat) (zs : List Int), q + gk = 4 ∧ v9 = .int .i64 (q : Int) ∧ Aside0 (PInv ys.length (Tch l0 ys) zs (S3 l0 ys a b' q)) ∧ Aside0 (Up w' w4.heap.size v zs) ∧ Aside0 (Below w4.heap.size w4 w'))
        case atStart => exact ⟨0, zs, by omega, rfl, ⟨HP.out.weaken (s3_start l0 ys a b')⟩, HK, HBW⟩
        case round =>
         clear HP HK HBW
         obtain ⟨q, zs, hk, rfl, HP, HK, HBW⟩ := hrel
         cases gk with
         | zero =>
          obtain rfl : q = 4 := by omega
          clear hk
          go_wp2
          go_roundg gb
          case measure => omega
          case rel => exact ⟨b' + 1, zs, by have := HKb.out; omega, by go_num, ⟨HP.out.weaken (s3_end l0 ys a b')⟩, HK, HBW⟩
         | succ gq =>
          have HKq := Aside0.mk hk
          have hq4 : q < 4 := by omega
          have hq4i : (q : Int) < 4 := by omega
          have hq0 : (0 : Int) ≤ (q : Int) := by omega
          have c3 : decide ((q : Int) < 4) = true := decide_eq_true hq4i
          obtain ⟨ad1, hA1, hca⟩ := Kd.at_int (Kd.C_below HDW.out HBW.out) (a : Int) (by omega) (by rw [List.length_map]; omega)
          subst hA1
          have hya : rd (ys.map (fun y : Nat => (y : Int))) (a : Int) = ((ys.getD a 0 : Nat) : Int) := by rw [rd_lt (by rw [List.length_map]; exact hlt), List.getElem_map, getD_lt hlt]
          rw [Int.toNat_natCast, hya] at hca
          have hma : ys.getD a 0 ∈ ys := by rw [getD_lt hlt]; exact List.getElem_mem hlt
          have h9a : ys.getD a 0 < 9 := by obtain ⟨p, i, hs, e⟩ := HOC.out.2 _ hma; have := ltr_ok HM.out hs; omega
          obtain ⟨ad2, hA2, hcb⟩ := Kd.at_int (Kd.C_below HDW.out HBW.out) (b' : Int) (by omega) (by rw [List.length_map]; omega)
          cases hA2
          have hyb : rd (ys.map (fun y : Nat => (y : Int))) (b' : Int) = ((ys.getD b' 0 : Nat) : Int) := by rw [rd_lt (by rw [List.length_map]; exact hltb), List.getElem_map, getD_lt hltb]
          rw [Int.toNat_natCast, hyb] at hcb
          have hmb : ys.getD b' 0 ∈ ys := by rw [getD_lt hltb]; exact List.getElem_mem hltb
          have h9b : ys.getD b' 0 < 9 := by obtain ⟨p, i, hs, e⟩ := HOC.out.2 _ hmb; have := ltr_ok HM.out hs; omega
          have ha0 : (0 : Int) ≤ (a : Int) := by omega
          have ha1 : (a : Int) < (ys.length : Int) := by omega
          have hb0 : (0 : Int) ≤ (b' : Int) := by omega
          have hb1 : (b' : Int) < (ys.length : Int) := by omega
          obtain ⟨q1, hq1⟩ : ∃ q1 : Nat, q / 2 = q1 := ⟨_, rfl⟩
          obtain ⟨q2, hq2⟩ : ∃ q2 : Nat, q % 2 = q2 := ⟨_, rfl⟩
          obtain ⟨rc, hrc⟩ := HUF.out.tot (2 * ys.getD a 0 + q2) (by rw [HUL.out]; omega)
          obtain ⟨rd', hrd⟩ := HUF.out.tot (2 * ys.getD b' 0 + q1) (by rw [HUL.out]; omega)
          have HSAME := Aside0.mk (show rc = rd' ↔ EG (Sl l0) (2 * ys.getD a 0 + q % 2) (2 * ys.getD b' 0 + q / 2) by rw [hq1, hq2]; exact HUF.out.iff hrc hrd)
          obtain ⟨nc, hnc⟩ := rch_of hrc
          obtain ⟨nd, hnd⟩ := rch_of hrd
          obtain ⟨x, hx⟩ : ∃ x : Nat, ys.getD a 0 = x := ⟨_, rfl⟩
          obtain ⟨y, hy⟩ : ∃ y : Nat, ys.getD b' 0 = y := ⟨_, rfl⟩
          rw [hx] at hca hnc h9a
          rw [hy] at hcb hnd h9b
          have HUR := Aside0.mk (Kd.C_below HU.out.2.2 HBW.out)
          have t1 : IntKind.i64.wrap ((q : Int) / 2) = (q1 : Int) := by rw [IntWalk.i64_in _ (by omega)]; omega
          have t2 : IntKind.i64.wrap ((q : Int) % 2) = (q2 : Int) := by rw [IntWalk.i64_in _ (by omega)]; omega
          have t3 : Int.tmod (q : Int) 2 = (q2 : Int) := by rw [Int.tmod_eq_emod_of_nonneg (by omega)]; omega
          have t4 : Int.tdiv (q : Int) 2 = (q1 : Int) := by rw [Int.tdiv_eq_ediv_of_nonneg (by omega)]; omega
          have t5 : IntKind.i64.wrap (2 * (x : Int)) = 2 * (x : Int) := IntWalk.i64_in _ (by omega)
          have t6 : IntKind.i64.wrap (2 * (y : Int)) = 2 * (y : Int) := IntWalk.i64_in _ (by omega)
          obtain ⟨z1, hz1⟩ : ∃ z1 : Nat, 2 * x + q2 = z1 := ⟨_, rfl⟩
          obtain ⟨z2, hz2⟩ : ∃ z2 : Nat, 2 * y + q1 = z2 := ⟨_, rfl⟩
          have t7 : IntKind.i64.wrap (2 * (x : Int) + (q2 : Int)) = (z1 : Int) := by rw [IntWalk.i64_in _ (by omega)]; omega
          have t8 : IntKind.i64.wrap (2 * (y : Int) + (q1 : Int)) = (z2 : Int) := by rw [IntWalk.i64_in _ (by omega)]; omega
          have t9 : IntKind.i64.wrap (q1 : Int) = (q1 : Int) := IntWalk.i64_in _ (by omega)
          have z1l : z1 ≤ 18 := by omega
          have z2l : z2 ≤ 18 := by omega
          rw [hz1] at hnc
          rw [hz2] at hnd
          have M1 := Aside0.mk hnc
          have M2 := Aside0.mk hnd
          clear hz1 hz2
          clear hnc hnd hrc hrd hx hy hya hyb hma hmb hq1 hq2
          by_cases hcr : rc = rd'
          ·
           subst hcr
           have HSH := Aside0.mk (show EG (Tch l0 ys) a b' from .base ⟨hlt, hltb, q % 2, q / 2, by omega, by omega, HSAME.out.1 rfl⟩)
           obtain ⟨ra, hra⟩ := HP.out.root hlt
           obtain ⟨rb, hrb⟩ := HP.out.root hltb
           have HP2 := Aside0.mk ((HP.out.hang hra hrb HSH.out).weaken (T' := S3 l0 ys a b' (q + 1)) (s3_join l0 ys a b' q))
           have hral : ra < ys.length := by have := hra.lt.2; rw [HP.out.1] at this; exact this
           obtain ⟨na, hna⟩ := rch_of hra
           obtain ⟨nb, hnb⟩ := rch_of hrb
           have N1 := Aside0.mk hna
           have N2 := Aside0.mk hnb
           have HPL := Aside0.mk HP.out.1
           clear hna hnb hra hrb HP
           go_wp2
           refine wp_region_still_lit (by kernel_rfl) (by kernel_rfl) ?_
           change wpStill _ _ wr.drew _ _ _
           repeat still_step
           still_call (find_calls U up.length cu up rfl z1 rc nc wr.drew HUR.out HU.out.2.1 M1.out (by rw [HUL.out]; omega))
           repeat still_step
           still_call (find_calls U up.length cu up rfl z2 rc nd wr.drew HUR.out HU.out.2.1 M2.out (by rw [HUL.out]; omega))
           repeat still_step
           refine wpStill_nil ?_
           change Exit.then _ _ _ _ wr.drew
           have HK2 := Aside0.mk (show Up wr.drew w4.heap.size v zs from HK.out)
           have HB2' := Aside0.mk (below_drew HBW.out)
           clear HK HBW hca hcb
           generalize wr.drew = w7 at HK2 HB2' ⊢
           obtain ⟨u, cap, hv, hbu, hcp, hc0, hst⟩ := HK2.out.laid (by rw [HPL.out]; omega)
           rw [HPL.out] at hv
           subst hv
           have hcc := HK2.out.C
           have HC1 := Aside0.mk hcc.1
           have HC2 := Aside0.mk hcc.2.1
           have hcra := hc0 ra (by rw [HPL.out]; exact hral)
           have HST := Aside0.mk (hst ra (rb : Int) (by rw [HPL.out]; exact hral))
           have HBU' := Aside0.mk hbu
           have hra0 : (0 : Int) ≤ (ra : Int) := by omega
           have hra1 : (ra : Int) < (ys.length : Int) := by omega
           clear hcc hcp hc0 hst hbu
           go_wp2_with fail
           go_at_call 67
           refine (find_calls (some ⟨u, 0, none⟩) ys.length cap zs HPL.out a ra na w7 HC1.out HC2.out N1.out (by rw [HPL.out]; omega)).mono ?_
           rintro e w8 ⟨rfl, hw⟩
           obtain rfl := hw.symm
           clear hw
           go_wp2_with fail
           go_at_call 67
           refine (find_calls (some ⟨u, 0, none⟩) ys.length cap zs HPL.out b' rb nb w7 HC1.out HC2.out N2.out (by rw [HPL.out]; omega)).mono ?_
           rintro e w8 ⟨rfl, hw⟩
           obtain rfl := hw.symm
           clear hw
           go_wp2
           go_roundg gq
           case measure => omega
           case rel => exact ⟨q + 1, _, by have := HKq.out; omega, by go_num, HP2, HST, ⟨below_set HB2'.out HBU'.out⟩⟩
          ·
           have HP2 := Aside0.mk (HP.out.weaken (T' := S3 l0 ys a b' (q + 1)) (s3_skip l0 ys a b' q (fun e => hcr (HSAME.out.2 e))))
           have e1 : ((rc : Int) == (rd' : Int)) = false := by rw [beq_eq_false_iff_ne]; omega
           have e2 : decide (rc = rd') = false := decide_eq_false hcr
           clear HP hcr
           go_wp2
           refine wp_region_still_lit (by kernel_rfl) (by kernel_rfl) ?_
           change wpStill _ _ wr.drew _ _ _
           repeat still_step
           still_call (find_calls U up.length cu up rfl z1 rc nc wr.drew HUR.out HU.out.2.1 M1.out (by rw [HUL.out]; omega))
           repeat still_step
           still_call (find_calls U up.length cu up rfl z2 rd' nd wr.drew HUR.out HU.out.2.1 M2.out (by rw [HUL.out]; omega))
           repeat still_step
           refine wpStill_nil ?_
           change Exit.then _ _ _ _ wr.drew
           have HK2 := Aside0.mk (show Up wr.drew w4.heap.size v zs from HK.out)
           have HB2' := Aside0.mk (below_drew HBW.out)
           clear HK HBW hca hcb
           generalize wr.drew = w7 at HK2 HB2' ⊢
           go_wp2
           go_roundg gq
           case measure => omega
           case rel => exact ⟨q + 1, _, by have := HKq.out; omega, by go_num, HP2, HK2, HB2'⟩
end Go.Proofs.Ytfknffpfjoalkaa.QFnGluings
