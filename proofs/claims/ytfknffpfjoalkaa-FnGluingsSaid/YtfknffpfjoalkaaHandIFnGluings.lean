/- CountBorders of the program, by hand: the number of classes of letters that touch. Conditions: at most four polygons of at most 24 letters each, none empty. -/
import Derived.Test.YtfknffpfjoalkaaHandCFnGluings
import Derived.Test.YtfknffpfjoalkaaBor
import Derived.StillTactics
import Derived.Test.YtfknffpfjoalkaaZip
namespace Go.Proofs.Ytfknffpfjoalkaa.QFnGluings
open Go.Proofs.Ytfknffpfjoalkaa.Zip Go.RowKit Go.Proofs.YtfknffpfjoalkaaW.PrintWords Go.Proofs.YtfknffpfjoalkaaW.PrintLast Go.Proofs.YtfknffpfjoalkaaW.PrintMore Go.Proofs.Ytfknffpfjoalkaa.Com Go.Proofs.Ytfknffpfjoalkaa.Joi Go.Proofs.Ytfknffpfjoalkaa.Kl
attribute [local go_sem] max2_int min2_int max_two min_two max_three min_three max_four min_four
set_option linter.unusedVariables false
set_option linter.unusedSimpArgs false
def Q2 (g : List (List Int)) (ys : List Nat) (a b : Nat) : Nat → Nat → Prop := fun u v => (u < a ∨ u = a ∧ v < b) ∧ Tch g ys u v
def Q3 (g : List (List Int)) (ys : List Nat) (a b k : Nat) : Nat → Nat → Prop := fun u v => Q2 g ys a b u v ∨ (u = a ∧ v = b ∧ ∃ q, q < k ∧ EG (Sl g) (2 * ys.getD a 0 + q / 2) (2 * ys.getD b 0 + q % 2))
theorem q2_next (g : List (List Int)) (ys : List Nat) (a : Nat) (u v : Nat) (h : Q2 g ys (a + 1) 0 u v) : Q2 g ys a ys.length u v := by
 obtain ⟨h1, h2⟩ := h
 have := h2.2.1
 exact ⟨by omega, h2⟩
theorem q3_start (g : List (List Int)) (ys : List Nat) (a b : Nat) (u v : Nat) (h : Q3 g ys a b 0 u v) : Q2 g ys a b u v := by
 rcases h with h | ⟨_, _, q, hq, _⟩
 ·
  exact h
 ·
  omega
theorem q3_end (g : List (List Int)) (ys : List Nat) (a b : Nat) (u v : Nat) (h : Q2 g ys a (b + 1) u v) : Q3 g ys a b 4 u v := by
 obtain ⟨h1, h2⟩ := h
 by_cases e : u = a ∧ v = b
 ·
  obtain ⟨rfl, rfl⟩ := e
  obtain ⟨_, _, k, l, hk, hl, h3⟩ := h2
  exact .inr ⟨rfl, rfl, 2 * k + l, by omega, by rw [show (2 * k + l) / 2 = k by omega, show (2 * k + l) % 2 = l by omega]; exact h3⟩
 ·
  exact .inl ⟨by omega, h2⟩
theorem q3_join (g : List (List Int)) (ys : List Nat) (a b k : Nat) (u v : Nat) (h : Q3 g ys a b (k + 1) u v) : Q3 g ys a b k u v ∨ (u = a ∧ v = b) := by
 rcases h with h | ⟨h1, h2, _⟩
 ·
  exact .inl (.inl h)
 ·
  exact .inr ⟨h1, h2⟩
theorem q3_skip (g : List (List Int)) (ys : List Nat) (a b k : Nat) (hn : ¬ EG (Sl g) (2 * ys.getD a 0 + k / 2) (2 * ys.getD b 0 + k % 2)) (u v : Nat) (h : Q3 g ys a b (k + 1) u v) : Q3 g ys a b k u v := by
 rcases h with h | ⟨h1, h2, q, hq, e⟩
 ·
  exact .inl h
 ·
  by_cases hqk : q = k
  ·
   subst hqk; exact (hn e).elim
  ·
   exact .inr ⟨h1, h2, q, by omega, e⟩
open Classical in
noncomputable def impl_CountBorders.f (k : Nat) (l0 : List (List Int)) : Option Int := (impl_IsGluing.f k l0).bind fun t => if t = true then ((impl_FreeLetters.f k l0).bind fun fs => if (CorOk l0 ∧ NZ l0) ∧ ∃ ys : List Nat, fs = ys.map (fun y : Nat => (y : Int)) ∧ Occ l0 ys then some ((bordN l0 (fs.map Int.toNat) : Nat) : Int) else none) else some (-1)
theorem toNat_cast (ys : List Nat) : (ys.map (fun y : Nat => (y : Int))).map Int.toNat = ys := by
 rw [List.map_map]
 exact (List.map_congr_left fun y _ => Int.toNat_natCast y).trans (List.map_id ys)
set_option maxHeartbeats 16000000 in
set_option maxRecDepth 100000 in
theorem impl_CountBorders.calls (k : Nat) (A0 : Option Addr) (c0 : Nat) (l0 : List (List Int)) (r : Int) (w : World) (hr0 : Kd.C (Kd.slice 3 (Kd.int .i64)) w A0 l0.length l0) (hc0 : l0.length ≤ c0) (h : impl_CountBorders.f k l0 = some r) :
  Calls Try.prog 42 #[.slice A0 l0.length c0] w fun e w' => e = .returned (.int .i64 r) ∧ Below w.heap.size w w' := by
 have HR0 := Aside0.mk hr0
 have HC0 := Aside0.mk hc0
 obtain ⟨t, A10, H⟩ := Option.bind_eq_some_iff.mp h
 have A1 := Aside0.mk A10
 clear A10 h hr0 hc0
 cases t with
 | false =>
  rw [if_neg Bool.false_ne_true] at H
  obtain rfl := Option.some.inj H
  go_enter Try.func42, Try.ntmps42
  go_wp2_with fail
  go_at_call 18
  refine (impl_IsGluing.calls k A0 c0 l0 false w HR0.out HC0.out A1.out).mono ?_
  rintro e w1 ⟨rfl, hb⟩
  go_wp2
  go_ret
  exact ⟨rfl, hb⟩
 | true =>
  rw [if_pos rfl] at H
  obtain ⟨fs, E1, H⟩ := Option.bind_eq_some_iff.mp H
  by_cases hm : (CorOk l0 ∧ NZ l0) ∧ ∃ ys : List Nat, fs = ys.map (fun y : Nat => (y : Int)) ∧ Occ l0 ys
  case neg => rw [if_neg hm] at H; cases H
  rw [if_pos hm] at H
  obtain ⟨⟨hco, hnz⟩, ys, rfl, hoc⟩ := hm
  rw [toNat_cast] at H
  obtain rfl := Option.some.inj H
  clear H
  have HM := Aside0.mk hco
  have HNZ := Aside0.mk hnz
  have HOC := Aside0.mk hoc
  have AF := Aside0.mk E1
  have hy8 : ys.length ≤ 8 := hoc.1
  clear hco hnz hoc E1
  go_enter Try.func42, Try.ntmps42
  go_wp2_with fail
  go_at_call 18
  refine (impl_IsGluing.calls k A0 c0 l0 true w HR0.out HC0.out A1.out).mono ?_
  rintro e w1 ⟨rfl, hb⟩
  have HB1 := Aside0.mk hb
  clear hb
  go_wp2_with fail
  go_at_call 74
  refine (corners_calls A0 c0 l0 w1 (Kd.C_below HR0.out HB1.out) HC0.out HM.out).mono ?_
  rintro e w2 hpost
  obtain ⟨b, g, xs, ats, rfl, hbb, hJ, hI, hb2⟩ := hpost
  have HI := Aside0.mk hI
  have HZ := Aside0.mk (blk_new w2 (.cells  #[.int .i64 0, .int .i64 0, .int .i64 0, .int .i64 0, .int .i64 0, .int .i64 0, .int .i64 0, .int .i64 0, .int .i64 0, .int .i64 0, .int .i64 0, .int .i64 0, .int .i64 0, .int .i64 0, .int .i64 0, .int .i64 0, .int .i64 0, .int .i64 0] 63))
  have HJ := Aside0.mk hJ
  have HB2 := Aside0.mk (below_step HB1.out hb2)
  have HS18 := Aside0.mk (show (encs (Value.int .i64) ats).length = 18 by rw [encs_length, hI.2.1])
  clear hI hJ hb2 hbb
  go_wp2_with (first | ((with_reducible refine gate_store (t := 63) (p := 4) rfl ?_); refine store_event (t := 63) (p := 4) (v := .tmp 19) (w1 := (w2.alloc (.cells #[.int .i64 0, .int .i64 0, .int .i64 0, .int .i64 0, .int .i64 0, .int .i64 0, .int .i64 0, .int .i64 0, .int .i64 0, .int .i64 0, .int .i64 0, .int .i64 0, .int .i64 0, .int .i64 0, .int .i64 0, .int .i64 0, .int .i64 0, .int .i64 0] 63)).setCells w2.heap.size 0 (encs (Value.int .i64) ats)) rfl rfl rfl ?hrr ?_; (case hrr => (have hrun := run_store_run (P := Try.prog) (w := w2.alloc (.cells #[.int .i64 0, .int .i64 0, .int .i64 0, .int .i64 0, .int .i64 0, .int .i64 0, .int .i64 0, .int .i64 0, .int .i64 0, .int .i64 0, .int .i64 0, .int .i64 0, .int .i64 0, .int .i64 0, .int .i64 0, .int .i64 0, .int .i64 0, .int .i64 0] 63)) (g := w2.heap.size) (o := 0) (e := 63) (cur := #[.int .i64 0, .int .i64 0, .int .i64 0, .int .i64 0, .int .i64 0, .int .i64 0, .int .i64 0, .int .i64 0, .int .i64 0, .int .i64 0, .int .i64 0, .int .i64 0, .int .i64 0, .int .i64 0, .int .i64 0, .int .i64 0, .int .i64 0, .int .i64 0]) 63 (.agg (encs (Value.int .i64) ats).toArray) (encs (Value.int .i64) ats) HZ.out (by simp [Value.cells]) (by rw [HS18.out]; kernel_rfl) (by rw [HS18.out]; decide) (by intro q hq; simp only [encs, List.mem_map] at hq; obtain ⟨z, _, rfl⟩ := hq; rfl); simp only [execOp, Act.eval]; exact store_skip hrun)); intro w9 hw9; have HW9 := Aside0.mk hw9; clear hw9))
  have HB9 : Aside0 (Below w2.heap.size w2 w9) := ⟨by rw [HW9.out]; exact below_setCells (below_alloc (Below.refl _ _) _) (Nat.le_refl _) _ _⟩
  have HAT9 : Aside0 (AtB w9 w2.heap.size ats) := ⟨by
   rw [HW9.out]
   obtain ⟨cur, hcur, _, hcl⟩ := setCells_row (encs (Value.int .i64) ats) 0 _ _ HZ.out (by rw [HS18.out]; decide)
   have hcur2 : cur = (encs (Value.int .i64) ats).toArray := by
    apply Array.toList_inj.1
    rw [hcl, List.take_zero, List.nil_append, List.drop_of_length_le (by rw [Nat.zero_add, HS18.out]; decide), List.append_nil]
   rw [hcur2] at hcur
   exact hcur⟩
  have HJ9 := Aside0.mk (HJ.out.below HB9.out)
  have HBT := Aside0.mk (below_step HB2.out HB9.out)
  clear HW9 HZ HJ HB9
  (try go_wp2_with fail)
  go_at_call 27
  refine (impl_FreeLetters.calls k A0 c0 l0 (ys.map (fun y : Nat => (y : Int))) w9 (Kd.C_below HR0.out HBT.out) HC0.out AF.out).mono ?_
  rintro e w4 ⟨v4, rfl, hs, hb⟩
  obtain ⟨D, cd, rfl⟩ := Kd.R_slice hs
  rw [List.length_map] at hs ⊢
  have HD := Aside0.mk (Kd.R_reads' hs)
  have HBU := Aside0.mk (below_step HBT.out hb)
  have HJ4 := Aside0.mk (HJ9.out.below hb)
  have HAT4 := Aside0.mk (HAT9.out.below hb)
  clear hs hb HJ9 HAT9
  go_wp2_with fail
  go_at_call 69
  refine (new_calls ys.length w4 (by omega)).mono ?_
  rintro e w5 ⟨rfl, hK, hb⟩
  have HK5 := Aside0.mk hK
  have HB5 := Aside0.mk hb
  clear hK hb
  go_wp2
  go_loopg [27] ys.length (fun gk v27 w' => ∃ (a : Nat) (zs : List Int), a + gk = ys.length ∧ v27 = .int .i64 (a : Int) ∧ Aside0 (PInv ys.length (Tch l0 ys) zs (Q2 l0 ys a 0)) ∧ Aside0 (Jn w' w4.heap.size w4.heap.size zs) ∧ Aside0 (Below w4.heap.size w4 w'))
  case atStart => exact ⟨0, iota ys.length, by omega, rfl, ⟨(PInv.start _ _).weaken fun u v h => by unfold Q2 at h; omega⟩, HK5, HB5⟩
  case round =>
   clear HK5 HB5
   obtain ⟨a, zs, hk, rfl, HP, HK, HBW⟩ := hrel
   cases gk with
   | zero =>
    obtain rfl : a = ys.length := by omega
    have c1 : decide (ys.length < ys.length) = false := decide_eq_false (by omega)
    clear hk
    go_wp2_with fail
    go_at_call 72
    refine (count_calls w4.heap.size zs _ _ HK.out (by rw [HP.out.1]; omega)).mono ?_
    rintro e w6 ⟨rfl, hw⟩
    obtain rfl := hw.symm
    have HC := Aside0.mk (show ownsTo zs zs.length = bordN l0 ys by
     rw [HP.out.1]
     exact HP.out.count fun a b ha hb e => EG_min (EG_eqv _) (fun a b hs => EG.base ⟨.inl hs.1, hs⟩) e)
    clear hw
    go_wp2
    go_ret
    exact ⟨by rw [HC.out]; rfl, below_step HBU.out HBW.out⟩
   | succ ga =>
    have HKa := Aside0.mk hk
    have hlt : a < ys.length := by omega
    have c1 : decide (a < ys.length) = true := decide_eq_true hlt
    obtain ⟨ad, hA, hca⟩ := Kd.at_int (Kd.C_below HD.out.2.2 HBW.out) (a : Int) (by omega) (by rw [List.length_map]; omega)
    subst hA
    have hya : rd (ys.map (fun y : Nat => (y : Int))) (a : Int) = ((ys.getD a 0 : Nat) : Int) := by rw [rd_lt (by rw [List.length_map]; exact hlt), List.getElem_map, getD_lt hlt]
    rw [Int.toNat_natCast, hya] at hca
    have hma : ys.getD a 0 ∈ ys := by rw [getD_lt hlt]; exact List.getElem_mem hlt
    have hoa := HOC.out.2 _ hma
    have ha9 : ys.getD a 0 < 9 := by obtain ⟨p, i, hs, e⟩ := hoa; have := ltr_ok HM.out hs; omega
    have HOA := Aside0.mk hoa
    have ha0 : (0 : Int) ≤ (a : Int) := by omega
    have ha1 : (a : Int) < (ys.length : Int) := by omega
    obtain ⟨x, hx⟩ : ∃ x : Nat, ys.getD a 0 = x := ⟨_, rfl⟩
    rw [hx] at hca ha9
    have HX := Aside0.mk hx
    clear hk hya hma hoa hx
    obtain ⟨wo, hwo⟩ : ∃ wo : World, wo = wr := ⟨_, rfl⟩
    subst hwo
    go_wp2
    go_loopg [34] ys.length (fun gk v34 w' => ∃ (b' : Nat) (zs : List Int), b' + gk = ys.length ∧ v34 = .int .i64 (b' : Int) ∧ Aside0 (PInv ys.length (Tch l0 ys) zs (Q2 l0 ys a b')) ∧ Aside0 (Jn w' w4.heap.size w4.heap.size zs) ∧ Aside0 (Below w4.heap.size w4 w'))
    case atStart => exact ⟨0, zs, by omega, rfl, HP, HK, HBW⟩
    case round =>
     clear HP HK HBW hca
     obtain ⟨b', zs, hk, rfl, HP, HK, HBW⟩ := hrel
     cases gk with
     | zero =>
      obtain rfl : b' = ys.length := by omega
      have c2 : decide (ys.length < ys.length) = false := decide_eq_false (by omega)
      clear hk
      go_wp2
      go_roundg ga
      case measure => omega
      case rel => exact ⟨a + 1, zs, by have := HKa.out; omega, by go_num, ⟨HP.out.weaken (q2_next l0 ys a)⟩, HK, HBW⟩
     | succ gb =>
      have HKb := Aside0.mk hk
      have hltb : b' < ys.length := by omega
      have c2 : decide (b' < ys.length) = true := decide_eq_true hltb
      obtain ⟨ad2, hA2, hcb⟩ := Kd.at_int (Kd.C_below HD.out.2.2 HBW.out) (b' : Int) (by omega) (by rw [List.length_map]; omega)
      cases hA2
      have hyb : rd (ys.map (fun y : Nat => (y : Int))) (b' : Int) = ((ys.getD b' 0 : Nat) : Int) := by rw [rd_lt (by rw [List.length_map]; exact hltb), List.getElem_map, getD_lt hltb]
      rw [Int.toNat_natCast, hyb] at hcb
      have hmb : ys.getD b' 0 ∈ ys := by rw [getD_lt hltb]; exact List.getElem_mem hltb
      have hob := HOC.out.2 _ hmb
      have hb9 : ys.getD b' 0 < 9 := by obtain ⟨p, i, hs, e⟩ := hob; have := ltr_ok HM.out hs; omega
      have HOB := Aside0.mk hob
      have hb0 : (0 : Int) ≤ (b' : Int) := by omega
      have hb1 : (b' : Int) < (ys.length : Int) := by omega
      obtain ⟨y, hy⟩ : ∃ y : Nat, ys.getD b' 0 = y := ⟨_, rfl⟩
      rw [hy] at hcb hb9
      have HY := Aside0.mk hy
      clear hk hyb hmb hob hy
      obtain ⟨wo2, hwo2⟩ : ∃ wo2 : World, wo2 = wr := ⟨_, rfl⟩
      subst hwo2
      go_wp2
      go_loopg [39] 4 (fun gk v39 w' => ∃ (q : Nat) (zs : List Int), q + gk = 4 ∧ v39 = .int .i64 (q : Int) ∧ Aside0 (PInv ys.length (Tch l0 ys) zs (Q3 l0 ys a b' q)) ∧ Aside0 (Jn w' w4.heap.size w4.heap.size zs) ∧ Aside0 (Below w4.heap.size w4 w'))
      case atStart => exact ⟨0, zs, by omega, rfl, ⟨HP.out.weaken (q3_start l0 ys a b')⟩, HK, HBW⟩
      case round =>
       clear HP HK HBW hcb
       obtain ⟨q, zs, hk, rfl, HP, HK, HBW⟩ := hrel
       cases gk with
       | zero =>
        obtain rfl : q = 4 := by omega
        clear hk
        go_wp2
        go_roundg gb
        case measure => omega
        case rel => exact ⟨b' + 1, zs, by have := HKb.out; omega, by go_num, ⟨HP.out.weaken (q3_end l0 ys a b')⟩, HK, HBW⟩
       | succ gq =>
        have HKq := Aside0.mk hk
        have hq4 : q < 4 := by omega
        have hq4i : (q : Int) < 4 := by omega
        have hq0 : (0 : Int) ≤ (q : Int) := by omega
        have hx9 : (x : Int) < 9 := by omega
        have hx0 : (0 : Int) ≤ (x : Int) := by omega
        have hy9 : (y : Int) < 9 := by omega
        have hy0 : (0 : Int) ≤ (y : Int) := by omega
        have c3 : decide ((q : Int) < 4) = true := decide_eq_true hq4i
        obtain ⟨c, d, hc, hd, hrc, hrd, hiff⟩ := HI.out.touch HM.out HNZ.out (k := q / 2) (l := q % 2) (by omega) (by omega) HOA.out HOB.out
        rw [HX.out] at hrc
        rw [HY.out] at hrd
        have hal : ats.length = 18 := HI.out.2.1
        have hat1 := ((HAT4.out.below HBW.out).cell (x * 2 + q / 2) (by omega)).1
        have hat2 := ((HAT4.out.below HBW.out).cell (y * 2 + q % 2) (by omega)).1
        rw [hrc] at hat1
        rw [hrd] at hat2
        have HJW := Aside0.mk (HJ4.out.below HBW.out)
        have hUF := HI.out.done HM.out (fun _ _ _ _ _ => trivial)
        obtain ⟨rc, hrc'⟩ := hUF.tot c (by rw [HI.out.1]; exact hc)
        obtain ⟨rd', hrd'⟩ := hUF.tot d (by rw [HI.out.1]; exact hd)
        have hsame := hUF.iff hrc' hrd'
        obtain ⟨nc, hnc⟩ := rch_of hrc'
        obtain ⟨nd, hnd⟩ := rch_of hrd'
        have M1 := Aside0.mk hnc
        have M2 := Aside0.mk hnd
        have M3 := Aside0.mk (show xs.length ≤ 1048576 by rw [HI.out.1]; have := HM.out.2.2; omega)
        have HSAME := Aside0.mk (hsame.trans hiff)
        obtain ⟨q1, hq1⟩ : ∃ q1 : Nat, q / 2 = q1 := ⟨_, rfl⟩
        obtain ⟨q2, hq2⟩ : ∃ q2 : Nat, q % 2 = q2 := ⟨_, rfl⟩
        rw [hq1] at hat1
        rw [hq2] at hat2
        have t1 : IntKind.i64.wrap ((q : Int) / 2) = (q1 : Int) := by rw [IntWalk.i64_in _ (by omega)]; omega
        have t2 : IntKind.i64.wrap ((q : Int) % 2) = (q2 : Int) := by rw [IntWalk.i64_in _ (by omega)]; omega
        have t3 : Int.tmod (q : Int) 2 = (q2 : Int) := by rw [Int.tmod_eq_emod_of_nonneg (by omega)]; omega
        have t4 : Int.tdiv (q : Int) 2 = (q1 : Int) := by rw [Int.tdiv_eq_ediv_of_nonneg (by omega)]; omega
        have t5 : IntKind.i64.wrap (q1 : Int) = (q1 : Int) := IntWalk.i64_in _ (by omega)
        have t6 : IntKind.i64.wrap (q2 : Int) = (q2 : Int) := IntWalk.i64_in _ (by omega)
        have b1 : (0 : Int) ≤ (q1 : Int) := by omega
        have b2 : (q1 : Int) < 2 := by omega
        have b3 : (0 : Int) ≤ (q2 : Int) := by omega
        have b4 : (q2 : Int) < 2 := by omega
        clear hk hnc hnd hrc' hrd' hsame hiff hUF hrc hrd hal hc hd hq1 hq2
        by_cases hcr : rc = rd'
        ·
         subst hcr
         have HSH := Aside0.mk (show EG (Tch l0 ys) a b' from .base ⟨hlt, hltb, q / 2, q % 2, by omega, by omega, HSAME.out.1 rfl⟩)
         obtain ⟨ra, hra⟩ := HP.out.root hlt
         obtain ⟨rb, hrb⟩ := HP.out.root hltb
         have HP2 := Aside0.mk ((HP.out.join hra hrb HSH.out).weaken (T' := Q3 l0 ys a b' (q + 1)) (q3_join l0 ys a b' q))
         obtain ⟨na, hna⟩ := rch_of hra
         obtain ⟨nb, hnb⟩ := rch_of hrb
         have N1 := Aside0.mk hna
         have N2 := Aside0.mk hnb
         have S1 := Aside0.mk (show zs.length ≤ 1048576 by rw [HP.out.1]; omega)
         clear hna hnb hra hrb HP
         go_wp2
         refine wp_region_still_lit (by kernel_rfl) (by kernel_rfl) ?_
         change wpStill _ _ wr.drew _ _ _
         repeat still_step
         still_call (top_calls g xs b c rc nc wr.drew HJW.out M1.out M3.out)
         repeat still_step
         still_call (top_calls g xs b d rc nd wr.drew HJW.out M2.out M3.out)
         repeat still_step
         refine wpStill_nil ?_
         change Exit.then _ _ _ _ wr.drew
         have HK2 := Aside0.mk (show Jn wr.drew w4.heap.size w4.heap.size zs from HK.out)
         have HB2' := Aside0.mk (below_drew HBW.out)
         clear HK HBW hat1 hat2
         generalize wr.drew = w7 at HK2 HB2' ⊢
         go_wp2_with fail
         go_at_call 71
         refine (join_calls w4.heap.size zs a b' ra rb na nb w4 _ HB2'.out HK2.out N1.out N2.out S1.out).mono ?_
         rintro e w8 ⟨rfl, hJ8, hB8⟩
         have HJ8 := Aside0.mk hJ8
         have HB8 := Aside0.mk hB8
         clear hJ8 hB8 HK2 HB2'
         go_wp2
         go_roundg gq
         case measure => omega
         case rel => exact ⟨q + 1, _, by have := HKq.out; omega, by go_num, HP2, HJ8, HB8⟩
        ·
         have HP2 := Aside0.mk (HP.out.weaken (T' := Q3 l0 ys a b' (q + 1)) (q3_skip l0 ys a b' q (fun e => hcr (HSAME.out.2 e))))
         have e1 : ((rc : Int) == (rd' : Int)) = false := by rw [beq_eq_false_iff_ne]; omega
         have e2 : decide (rc = rd') = false := decide_eq_false hcr
         clear HP hcr
         go_wp2
         refine wp_region_still_lit (by kernel_rfl) (by kernel_rfl) ?_
         change wpStill _ _ wr.drew _ _ _
         repeat still_step
         still_call (top_calls g xs b c rc nc wr.drew HJW.out M1.out M3.out)
         repeat still_step
         still_call (top_calls g xs b d rd' nd wr.drew HJW.out M2.out M3.out)
         repeat still_step
         refine wpStill_nil ?_
         change Exit.then _ _ _ _ wr.drew
         have HK2 := Aside0.mk (show Jn wr.drew w4.heap.size w4.heap.size zs from HK.out)
         have HB2' := Aside0.mk (below_drew HBW.out)
         clear HK HBW hat1 hat2
         generalize wr.drew = w7 at HK2 HB2' ⊢
         go_wp2
         go_roundg gq
         case measure => omega
         case rel => exact ⟨q + 1, _, by have := HKq.out; omega, by go_num, HP2, HK2, HB2'⟩
end Go.Proofs.Ytfknffpfjoalkaa.QFnGluings
