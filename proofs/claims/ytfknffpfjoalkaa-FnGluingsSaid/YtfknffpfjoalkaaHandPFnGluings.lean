/- PartsOf of the program, by hand: it answers the number of classes of polygons that share letters. Conditions: at most four polygons, at most 24 sides each. -/
import Derived.Test.YtfknffpfjoalkaaQFnGluingsx0
import Derived.Test.YtfknffpfjoalkaaQFnGluingsx1
import Derived.Test.YtfknffpfjoalkaaQFnGluingsx2
import Derived.Test.YtfknffpfjoalkaaQFnGluingsx3
import Derived.Test.YtfknffpfjoalkaaQFnGluingsx4
import Derived.Test.YtfknffpfjoalkaaQFnGluingsx5
import Derived.Test.YtfknffpfjoalkaaQFnGluingsx6
import Derived.Test.YtfknffpfjoalkaaQFnGluingsx7
import Derived.Test.YtfknffpfjoalkaaQFnGluingsx8
import Derived.Test.YtfknffpfjoalkaaQFnGluingsx9
import Derived.Test.YtfknffpfjoalkaaQFnGluingsx10
import Derived.Test.YtfknffpfjoalkaaQFnGluingsx11
import Derived.Test.YtfknffpfjoalkaaQFnGluingsx12
import Derived.Test.YtfknffpfjoalkaaQFnGluingsx13
import Derived.Test.YtfknffpfjoalkaaQFnGluingsx14
import Derived.Test.YtfknffpfjoalkaaPrg
namespace Go.Proofs.Ytfknffpfjoalkaa.QFnGluings
open Go.RowKit Go.Proofs.YtfknffpfjoalkaaW.PrintWords Go.Proofs.YtfknffpfjoalkaaW.PrintLast Go.Proofs.YtfknffpfjoalkaaW.PrintMore Go.Proofs.Ytfknffpfjoalkaa.Com Go.Proofs.Ytfknffpfjoalkaa.Joi Go.Proofs.Ytfknffpfjoalkaa.Kl
attribute [local go_sem] max2_int min2_int max_two min_two max_three min_three max_four min_four
set_option linter.unusedVariables false
set_option linter.unusedSimpArgs false
def IdxPost (xs : List Int) (x : Int) (w : World) (e : Ending) (w' : World) : Prop := ∃ r : Int, e = .returned (.int .i64 r) ∧ ((0 ≤ r ∧ x ∈ xs) ∨ (r = -1 ∧ x ∉ xs)) ∧ w' = w
set_option maxHeartbeats 8000000 in
set_option maxRecDepth 100000 in
theorem idx_calls (A : Option Addr) (c : Nat) (xs : List Int) (x : Int) (w : World) (hR : (Kd.int .i64).C w A xs.length xs) (hc : xs.length ≤ c) (hl : xs.length ≤ 1048576) :
  Calls Try.prog 70 #[.slice A xs.length c, .int .i64 x] w (IdxPost xs x w) := by
 have HC := Aside0.mk hR
 have HL : ((xs.length : Nat) : Int) ≤ 1048576 := by omega
 clear hR
 go_enter Try.func70, Try.ntmps70
 go_wp2
 go_loopg [9] xs.length (fun gk v9 w' => ∃ k : Nat, k + gk = xs.length ∧ v9 = .int .i64 (k : Int) ∧ Aside0 (∀ j : Nat, j < k → xs[j]? ≠ some x) ∧ w = w')
 case atStart => exact ⟨0, by omega, rfl, ⟨fun j hj => by omega⟩, rfl⟩
 case round =>
  obtain ⟨k, hk, rfl, HF, rfl⟩ := hrel
  cases gk with
  | zero =>
   obtain rfl : k = xs.length := by omega
   have c1 : decide (xs.length < xs.length) = false := decide_eq_false (by omega)
   clear hk
   go_wp2
   go_ret
   refine ⟨-1, by first | rfl | simp, .inr ⟨rfl, fun hm => ?_⟩, rfl⟩
   obtain ⟨j, hj, e⟩ := List.getElem_of_mem hm
   exact HF.out j hj (by rw [List.getElem?_eq_getElem hj, e])
  | succ q =>
   have HK := Aside0.mk hk
   have hlt : k < xs.length := by omega
   have c1 : decide (k < xs.length) = true := decide_eq_true hlt
   obtain ⟨ad, hA, hcell⟩ := Kd.at_int HC.out (k : Int) (by omega) (by omega)
   subst hA
   rw [Int.toNat_natCast] at hcell
   have hk0 : (0 : Int) ≤ (k : Int) := by omega
   have hk1 : (k : Int) < (xs.length : Int) := by omega
   clear hk
   by_cases hx : rd xs (k : Int) = x
   ·
    have c2 : (rd xs (k : Int) == x) = true := by rw [beq_iff_eq]; exact hx
    have HX := Aside0.mk hx
    clear hx
    go_wp2
    go_ret
    refine ⟨(k : Int), by first | rfl | simp, .inl ⟨by omega, ?_⟩, rfl⟩
    have := HX.out
    rw [rd_lt hlt] at this
    rw [← this]
    exact List.getElem_mem hlt
   ·
    have c2 : (rd xs (k : Int) == x) = false := by rw [beq_eq_false_iff_ne]; exact hx
    have HX := Aside0.mk hx
    clear hx
    go_wp2
    go_roundg q
    case measure => omega
    case rel =>
     refine ⟨k + 1, by have := HK.out; omega, by go_num, ⟨fun j hj => ?_⟩, rfl⟩
     by_cases e : j = k
     ·
      subst e
      have := HX.out
      rw [rd_lt hlt] at this
      rw [List.getElem?_eq_getElem hlt]
      intro h; injection h with h; exact this h
     ·
      exact HF.out j (by omega)
def T2 (g : List (List Int)) (p q : Nat) : Nat → Nat → Prop := fun a b => (a < p ∨ a = p ∧ b < q) ∧ Sh g a b
def T3 (g : List (List Int)) (p q i : Nat) : Nat → Nat → Prop := fun a b => T2 g p q a b ∨ (a = p ∧ b = q ∧ ∃ j : Nat, j < i ∧ ∃ y ∈ g.getD q [], (rd (g.getD p []) j).natAbs = y.natAbs)
theorem t2_next (g : List (List Int)) (p : Nat) (a b : Nat) (h : T2 g (p + 1) 0 a b) : T2 g p g.length a b := by
 obtain ⟨h1, h2⟩ := h
 have := h2.2.1
 exact ⟨by omega, h2⟩
theorem t3_start (g : List (List Int)) (p q : Nat) (a b : Nat) (h : T3 g p q 0 a b) : T2 g p q a b := by
 rcases h with h | ⟨_, _, j, hj, _⟩
 ·
  exact h
 ·
  omega
theorem t3_end (g : List (List Int)) (p q : Nat) (a b : Nat) (h : T2 g p (q + 1) a b) : T3 g p q (g.getD p []).length a b := by
 obtain ⟨h1, h2⟩ := h
 by_cases e : a = p ∧ b = q
 ·
  obtain ⟨rfl, rfl⟩ := e
  obtain ⟨_, _, x, hx, y, hy, hxy⟩ := h2
  obtain ⟨j, hj, rfl⟩ := List.getElem_of_mem hx
  exact .inr ⟨rfl, rfl, j, hj, y, hy, by rw [rd_lt hj]; exact hxy⟩
 ·
  exact .inl ⟨by omega, h2⟩
theorem t3_join (g : List (List Int)) (p q i : Nat) (a b : Nat) (h : T3 g p q (i + 1) a b) : T3 g p q i a b ∨ (a = p ∧ b = q) := by
 rcases h with h | ⟨h1, h2, _⟩
 ·
  exact .inl (.inl h)
 ·
  exact .inr ⟨h1, h2⟩
theorem t3_skip (g : List (List Int)) (p q i : Nat) (hn : ∀ y ∈ g.getD q [], (rd (g.getD p []) i).natAbs = y.natAbs → False) (a b : Nat) (h : T3 g p q (i + 1) a b) : T3 g p q i a b := by
 rcases h with h | ⟨h1, h2, j, hj, y, hy, e⟩
 ·
  exact .inl h
 ·
  by_cases hji : j = i
  ·
   subst hji; exact (hn y hy e).elim
  ·
   exact .inr ⟨h1, h2, j, by omega, y, hy, e⟩
open Classical in
noncomputable def impl_PartsOf.f (k : Nat) (l0 : List (List Int)) : Option Int := (impl_IsGluing.f k l0).bind fun t => if t = true then (if GOk l0 then some ((partsG l0 : Nat) : Int) else none) else some (-1)
set_option maxHeartbeats 16000000 in
set_option maxRecDepth 100000 in
theorem impl_PartsOf.calls (k : Nat) (A0 : Option Addr) (c0 : Nat) (l0 : List (List Int)) (r : Int) (w : World) (hr0 : Kd.C (Kd.slice 3 (Kd.int .i64)) w A0 l0.length l0) (hc0 : l0.length ≤ c0) (h : impl_PartsOf.f k l0 = some r) :
  Calls Try.prog 34 #[.slice A0 l0.length c0] w fun e w' => e = .returned (.int .i64 r) ∧ Below w.heap.size w w' := by
 have HR0 := Aside0.mk hr0
 have HC0 := Aside0.mk hc0
 obtain ⟨t, A10, H⟩ := Option.bind_eq_some_iff.mp h
 have A1 := Aside0.mk A10
 clear A10 h hr0 hc0
 cases t with
 | false =>
  rw [if_neg Bool.false_ne_true] at H
  obtain rfl := Option.some.inj H
  go_enter Try.func34, Try.ntmps34
  go_wp2_with fail
  go_at_call 18
  refine (impl_IsGluing.calls k A0 c0 l0 false w HR0.out HC0.out A1.out).mono ?_
  rintro e w1 ⟨rfl, hb⟩
  go_wp2
  go_ret
  exact ⟨rfl, hb⟩
 | true =>
  rw [if_pos rfl] at H
  by_cases hm : GOk l0
  case neg => rw [if_neg hm] at H; cases H
  rw [if_pos hm] at H
  obtain rfl := Option.some.inj H
  clear H
  have HM := Aside0.mk hm
  have h4 : l0.length ≤ 4 := hm.1
  clear hm
  go_enter Try.func34, Try.ntmps34
  go_wp2_with fail
  go_at_call 18
  refine (impl_IsGluing.calls k A0 c0 l0 true w HR0.out HC0.out A1.out).mono ?_
  rintro e w1 ⟨rfl, hb⟩
  go_wp2_with fail
  go_at_call 69
  refine (new_calls l0.length w1 (by omega)).mono ?_
  rintro e w2 ⟨rfl, hJ, hb2⟩
  have HJ2 := Aside0.mk hJ
  have HB1 := Aside0.mk hb
  have HB2 := Aside0.mk hb2
  clear hJ hb hb2
  go_wp2
  go_loopg [16] l0.length (fun gk v16 w' => ∃ (p : Nat) (xs : List Int), p + gk = l0.length ∧ v16 = .int .i64 (p : Int) ∧ Aside0 (PInv l0.length (Sh l0) xs (T2 l0 p 0)) ∧ Aside0 (Jn w' w1.heap.size w1.heap.size xs) ∧ Aside0 (Below w1.heap.size w1 w'))
  case atStart => exact ⟨0, iota l0.length, by omega, rfl, ⟨(PInv.start _ _).weaken fun a b h => by unfold T2 at h; omega⟩, HJ2, HB2⟩
  case round =>
   obtain ⟨p, xs, hk, rfl, HI, HJ, HB⟩ := hrel
   clear HJ2 HB2
   cases gk with
   | zero =>
    obtain rfl : p = l0.length := by omega
    have c1 : decide (l0.length < l0.length) = false := decide_eq_false (by omega)
    clear hk
    go_wp2_with fail
    go_at_call 72
    refine (count_calls w1.heap.size xs _ _ HJ.out (by rw [HI.out.1]; omega)).mono ?_
    rintro e w3 ⟨rfl, hw⟩
    obtain rfl := hw.symm
    have HC := Aside0.mk (show ownsTo xs xs.length = partsG l0 by
     rw [HI.out.1]
     exact HI.out.count fun a b ha hb e => EG_min (EG_eqv _) (fun a b hs => EG.base ⟨.inl hs.1, hs⟩) e)
    clear hw
    go_wp2
    go_ret
    exact ⟨by rw [HC.out]; rfl, below_step HB1.out HB.out⟩
   | succ gq =>
    have HK := Aside0.mk hk
    have hlt : p < l0.length := by omega
    have c1 : decide (p < l0.length) = true := decide_eq_true hlt
    clear hk
    obtain ⟨wo, hwo⟩ : ∃ wo : World, wo = wr := ⟨_, rfl⟩
    subst hwo
    go_wp2
    go_loopg [7, 21] l0.length (fun gk v7 v21 w' => ∃ (q : Nat) (xs : List Int), q + gk = l0.length ∧ v21 = .int .i64 (q : Int) ∧ Aside0 (PInv l0.length (Sh l0) xs (T2 l0 p q)) ∧ Aside0 (Jn w' w1.heap.size w1.heap.size xs) ∧ Aside0 (Below w1.heap.size w1 w'))
    case atStart => exact ⟨0, xs, by omega, rfl, HI, HJ, HB⟩
    case round =>
     obtain ⟨q, xs, hk, rfl, HI, HJ, HB⟩ := hrel
     cases gk with
     | zero =>
      obtain rfl : q = l0.length := by omega
      have c2 : decide (l0.length < l0.length) = false := decide_eq_false (by omega)
      clear hk
      go_wp2
      go_roundg gq
      case measure => omega
      case rel => exact ⟨p + 1, xs, by have := HK.out; omega, by go_num, ⟨HI.out.weaken (t2_next l0 p)⟩, HJ, HB⟩
     | succ gr =>
      have HKq := Aside0.mk hk
      have hltq : q < l0.length := by omega
      have c2 : decide (q < l0.length) = true := decide_eq_true hltq
      clear hk
      obtain ⟨ad, Ap, cp, hA, hcellp, hcp, hCp⟩ := at_row HR0.out p hlt
      subst hA
      obtain ⟨ad2, Aq, cq, hA2, hcellq, hcq, hCq⟩ := at_row HR0.out q hltq
      cases hA2
      have HCP := Aside0.mk hCp
      have HCQ := Aside0.mk hCq
      have HQL := Aside0.mk hcq
      have HPL := Aside0.mk hcp
      have HXP := Aside0.mk hcellp
      have HXQ := Aside0.mk hcellq
      have hlp : (l0.getD p []).length ≤ 24 := (HM.out.2 p hlt).1
      have hlq : (l0.getD q []).length ≤ 24 := (HM.out.2 q hltq).1
      generalize hRP : l0.getD p [] = rp at *
      generalize hRQ : l0.getD q [] = rq at *
      have GRP := Aside0.mk hRP
      have GRQ := Aside0.mk hRQ
      have hcp' := pw_cell_below (below_step HB1.out HB.out) hcellp
      have hp0 : (0 : Int) ≤ (p : Int) := by omega
      have hp1 : (p : Int) < (l0.length : Int) := by omega
      have hq0 : (0 : Int) ≤ (q : Int) := by omega
      have hq1 : (q : Int) < (l0.length : Int) := by omega
      clear hRP hRQ hCp hCq hcq hcp hcellp hcellq
      obtain ⟨wo2, hwo2⟩ : ∃ wo2 : World, wo2 = wr := ⟨_, rfl⟩
      subst hwo2
      go_wp2
      go_loopg [29] rp.length (fun gk v29 w' => ∃ (i : Nat) (xs : List Int), i + gk = rp.length ∧ v29 = .int .i64 (i : Int) ∧ Aside0 (PInv l0.length (Sh l0) xs (T3 l0 p q i)) ∧ Aside0 (Jn w' w1.heap.size w1.heap.size xs) ∧ Aside0 (Below w1.heap.size w1 w'))
      case atStart => exact ⟨0, xs, by omega, rfl, ⟨HI.out.weaken (t3_start l0 p q)⟩, HJ, HB⟩
      case round =>
       clear HI HJ HB hcp'
       obtain ⟨i, xs, hk, rfl, HI, HJ, HB⟩ := hrel
       cases gk with
       | zero =>
        obtain rfl : i = rp.length := by omega
        have c3 : decide (rp.length < rp.length) = false := decide_eq_false (by omega)
        clear hk
        go_wp2
        go_roundg gr
        case measure => omega
        case rel => exact ⟨q + 1, xs, by have := HKq.out; omega, by go_num, ⟨HI.out.weaken (by have := t3_end l0 p q; rw [GRP.out] at this; exact this)⟩, HJ, HB⟩
       | succ gi =>
        have HKi := Aside0.mk hk
        have hli : i < rp.length := by omega
        have c3 : decide (i < rp.length) = true := decide_eq_true hli
        clear hk
        have hBW := below_step HB1.out HB.out
        obtain ⟨adp, hAp, hcx⟩ := Kd.at_int (Kd.C_below HCP.out hBW) (i : Int) (by omega) (by omega)
        rw [Int.toNat_natCast] at hcx
        subst hAp
        have hi0 : (0 : Int) ≤ (i : Int) := by omega
        have hi1 : (i : Int) < (rp.length : Int) := by omega
        have hxm : rd rp (i : Int) ∈ l0.getD p [] := by rw [GRP.out, rd_lt hli]; exact List.getElem_mem hli
        have hx1 := ((HM.out.2 p hlt).2 _ hxm).1
        have hx2 := ((HM.out.2 p hlt).2 _ hxm).2
        have HXM := Aside0.mk hxm
        have hcq' := pw_cell_below hBW HXQ.out
        have HCQ2 := Aside0.mk (Kd.C_below HCQ.out hBW)
        clear hBW hxm
        have GX := Aside0.mk (rfl : rd rp (i : Int) = rd rp (i : Int))
        generalize hX : rd rp (i : Int) = x at *
        have HX := Aside0.mk hX
        clear hX GX
        go_wp2_with fail
        go_at_call 70
        refine (idx_calls Aq cq rq x wr HCQ2.out HQL.out (by omega)).mono ?_
        rintro e w2' ⟨r1, rfl, hr1, hw⟩
        obtain rfl := hw.symm
        clear hw
        rcases hr1 with ⟨h0, hmem⟩ | ⟨rfl, hnot⟩
        ·
         have c4 : decide (0 ≤ r1) = true := decide_eq_true h0
         have HSH := Aside0.mk (show EG (Sh l0) p q from EG.base ⟨hlt, hltq, x, HXM.out, x, by rw [GRQ.out]; exact hmem, rfl⟩)
         clear hmem h0
         obtain ⟨ra, hra⟩ := HI.out.root hlt
         obtain ⟨rb, hrb⟩ := HI.out.root hltq
         have HI2 := Aside0.mk ((HI.out.join hra hrb HSH.out).weaken (T' := T3 l0 p q (i + 1)) (t3_join l0 p q i))
         obtain ⟨na, hna⟩ := rch_of hra
         obtain ⟨nb, hnb⟩ := rch_of hrb
         have N1 := Aside0.mk hna
         have N2 := Aside0.mk hnb
         have S1 := Aside0.mk (show xs.length ≤ 1048576 by rw [HI.out.1]; omega)
         clear hna hnb hra hrb HI
         go_wp2_with fail
         go_at_call 71
         refine (join_calls w1.heap.size xs p q ra rb na nb w1 _ HB.out HJ.out N1.out N2.out S1.out).mono ?_
         rintro e w3 ⟨rfl, hJ3, hB3⟩
         have HJ3 := Aside0.mk hJ3
         have HB3 := Aside0.mk hB3
         clear hJ3 hB3 HJ HB
         go_wp2
         go_roundg gi
         case measure => omega
         case rel => exact ⟨i + 1, _, by have := HKi.out; omega, by go_num, HI2, HJ3, HB3⟩
        ·
         have HN1 := Aside0.mk hnot
         clear hnot
         go_wp2_with fail
         go_at_call 70
         refine (idx_calls Aq cq rq (-x) wr HCQ2.out HQL.out (by omega)).mono ?_
         rintro e w2' ⟨r1, rfl, hr1, hw⟩
         obtain rfl := hw.symm
         clear hw
         rcases hr1 with ⟨h0, hmem⟩ | ⟨rfl, hnot⟩
         ·
          have c4 : decide (0 ≤ r1) = true := decide_eq_true h0
          have HSH := Aside0.mk (show EG (Sh l0) p q from EG.base ⟨hlt, hltq, x, HXM.out, -x, by rw [GRQ.out]; exact hmem, by omega⟩)
          clear hmem h0
          obtain ⟨ra, hra⟩ := HI.out.root hlt
          obtain ⟨rb, hrb⟩ := HI.out.root hltq
          have HI2 := Aside0.mk ((HI.out.join hra hrb HSH.out).weaken (T' := T3 l0 p q (i + 1)) (t3_join l0 p q i))
          obtain ⟨na, hna⟩ := rch_of hra
          obtain ⟨nb, hnb⟩ := rch_of hrb
          have N1 := Aside0.mk hna
          have N2 := Aside0.mk hnb
          have S1 := Aside0.mk (show xs.length ≤ 1048576 by rw [HI.out.1]; omega)
          clear hna hnb hra hrb HI
          go_wp2_with fail
          go_at_call 71
          refine (join_calls w1.heap.size xs p q ra rb na nb w1 _ HB.out HJ.out N1.out N2.out S1.out).mono ?_
          rintro e w3 ⟨rfl, hJ3, hB3⟩
          have HJ3 := Aside0.mk hJ3
          have HB3 := Aside0.mk hB3
          clear hJ3 hB3 HJ HB
          go_wp2
          go_roundg gi
          case measure => omega
          case rel => exact ⟨i + 1, _, by have := HKi.out; omega, by go_num, HI2, HJ3, HB3⟩
         ·
          have HN2 := Aside0.mk hnot
          have HI2 := Aside0.mk (HI.out.weaken (T' := T3 l0 p q (i + 1)) (by
           refine t3_skip l0 p q i fun y hy e => ?_
           rw [GRP.out, HX.out] at e
           rw [GRQ.out] at hy
           rcases (show y = x ∨ y = -x by omega) with h | h
           ·
            exact HN1.out (h ▸ hy)
           ·
            exact HN2.out (h ▸ hy)))
          clear hnot HI
          go_wp2
          go_roundg gi
          case measure => omega
          case rel => exact ⟨i + 1, _, by have := HKi.out; omega, by go_num, HI2, HJ, HB⟩
end Go.Proofs.Ytfknffpfjoalkaa.QFnGluings
