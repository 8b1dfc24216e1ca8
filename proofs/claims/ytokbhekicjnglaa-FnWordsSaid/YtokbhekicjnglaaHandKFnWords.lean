/- Words reduced around, by hand: what spec.l2Core, spec.CoreWord and impl.CoreWord answer. Conditions: none beside the lengths that the model bounds. -/
import Derived.Test.YtokbhekicjnglaaQFnWordsx0
import Derived.Test.YtokbhekicjnglaaQFnWordsx1
import Derived.Test.YtokbhekicjnglaaQFnWordsx2
import Derived.Test.YtokbhekicjnglaaQFnWordsx3
import Derived.Test.YtokbhekicjnglaaQFnWordsx4
import Derived.Test.YtokbhekicjnglaaQFnWordsx5
import Derived.Test.YtokbhekicjnglaaQFnWordsx6
import Derived.Test.YtokbhekicjnglaaQFnWordsx7
import Derived.Test.YtokbhekicjnglaaQFnWordsx8
import Derived.Test.YtokbhekicjnglaaCom
namespace Go.Proofs.Ytokbhekicjnglaa.QFnWords
open Go.RowKit Go.Proofs.YtokbhekicjnglaaW.PrintWords Go.Proofs.YtokbhekicjnglaaW.PrintLast Go.Proofs.YtokbhekicjnglaaW.PrintMore Go.Proofs.Ytokbhekicjnglaa.Com
attribute [local go_sem] max2_int min2_int max_two min_two max_three min_three max_four min_four
set_option linter.unusedVariables false
set_option linter.unusedSimpArgs false
def coreL : Nat → List Int → List Int
  | 0, l => l
  | n + 1, l => if 2 ≤ l.length ∧ rd l 0 = wrap64 (-(rd l ((l.length : Int) - 1))) then coreL n ((l.drop 1).take (l.length - 2)) else l
theorem coreL_succ (n : Nat) (l : List Int) : coreL (n + 1) l = if 2 ≤ l.length ∧ rd l 0 = wrap64 (-(rd l ((l.length : Int) - 1))) then coreL n ((l.drop 1).take (l.length - 2)) else l := rfl
theorem coreL_len : ∀ (n : Nat) (l : List Int), (coreL n l).length ≤ l.length
  | 0, l => Nat.le_refl _
  | n + 1, l => by
    unfold coreL
    split
    · have := coreL_len n ((l.drop 1).take (l.length - 2))
      rw [List.length_take, List.length_drop] at this
      omega
    · exact Nat.le_refl _
theorem cut_in (A : Option Addr) (c : Nat) (xs : List Int) (j : Nat) (hj : j + 1 = xs.length) (h1 : 1 ≤ j) (hc : xs.length ≤ c) :
    ∃ A2 : Option Addr, (∀ W : World, (Instr.slice 22 (.slice A xs.length c) (some (.int .i64 1)) (some (.int .i64 (j : Int))) none).run Try.prog W = .ok (.slice A2 ((xs.drop 1).take (xs.length - 2)).length (c - 1)) W) ∧
      (∀ w : World, Kd.C (Kd.int .i64) w A xs.length xs → Kd.C (Kd.int .i64) w A2 ((xs.drop 1).take (xs.length - 2)).length ((xs.drop 1).take (xs.length - 2))) ∧ ((xs.drop 1).take (xs.length - 2)).length ≤ c - 1 := by
  have hl : ((xs.drop 1).take (xs.length - 2)).length = xs.length - 2 := by rw [List.length_take, List.length_drop]; omega
  obtain ⟨i0, hi, _, hsz, _⟩ := info_parts info3
  refine ⟨if c = 1 then A else A.map (·.add 1), fun W => ?_, fun w h => ?_, by rw [hl]; omega⟩
  · have := cut_mid (P := Try.prog) 22 3 .i64 .i64 Try.underlying22 hi 1 hsz A xs.length c 1 (j : Int) (by omega) (by omega) (by omega) hc W
    rw [hl]
    rw [this]
    have e1 : ((j : Int).toNat - (1 : Int).toNat) = xs.length - 2 := by omega
    rw [e1]
    rfl
  · rw [hl]
    have h2 := (Kd.reads_of_C (d := (0 : Int)) h).drop_ 1 (by omega) hc
    have h3 := h2.take_ (xs.length - 2) (by omega)
    exact Kd.C_of_reads (h1 := fun _ => rfl) h3
def spec_l2Core.f (k : Nat) (l0 : List Int) : Option (List Int) := (spec_l2Reduce.f k l0).bind fun r => if r.length < 17592186044416 then some (coreL r.length r) else none
set_option maxHeartbeats 8000000 in
set_option maxRecDepth 100000 in
theorem spec_l2Core.calls (k : Nat) (A0 : Option Addr) (c0 : Nat) (l0 : List Int) (r : List Int) (w : World) (hr0 : Kd.C (Kd.int .i64) w A0 l0.length l0) (hc0 : l0.length ≤ c0) (h : spec_l2Core.f k l0 = some r) :
    Calls Try.prog 55 #[.slice A0 l0.length c0] w fun e w' => ∃ v0_ : Value, e = .returned (v0_) ∧ Kd.R (Kd.int .i64) 3 w' w.heap.size (fun _ => True) v0_ r ∧ Below w.heap.size w w' := by
  have HR0 := Aside0.mk hr0
  have HC0 := Aside0.mk hc0
  obtain ⟨t, A10, H⟩ := Option.bind_eq_some_iff.mp h
  have A1 := Aside0.mk A10
  by_cases hl : t.length < 17592186044416
  case neg => rw [if_neg hl] at H; cases H
  rw [if_pos hl] at H
  obtain rfl := Option.some.inj H
  have HTL := Aside0.mk hl
  clear A10 h hr0 hc0 H hl
  go_enter Try.func55, Try.ntmps55
  go_wp2_with fail
  go_at_call 50
  refine (spec_l2Reduce.calls k A0 c0 l0 t w HR0.out HC0.out A1.out).mono ?_
  rintro e w1 ⟨v1, rfl, hs, hb⟩
  obtain ⟨D, cd, rfl⟩ := Kd.R_slice hs
  have HB1 := Aside0.mk hb
  have HD := Aside0.mk (Kd.R_reads' hs)
  clear hs hb
  go_wp2
  go_loopg [3] t.length (fun gk v3 w' => ∃ (xs : List Int) (A : Option Addr) (c : Nat), xs.length ≤ gk ∧ v3 = .slice A xs.length c ∧ Aside0 (Kd.C (Kd.int .i64) w' A xs.length xs) ∧ Aside0 (xs.length ≤ c) ∧ Aside0 (xs.length ≤ t.length) ∧ Aside0 (coreL gk xs = coreL t.length t) ∧ Aside0 (Below w.heap.size w w'))
  case atStart => exact ⟨t, D, cd, Nat.le_refl _, rfl, ⟨HD.out.2.2⟩, ⟨HD.out.2.1⟩, ⟨Nat.le_refl _⟩, ⟨rfl⟩, HB1⟩
  case round =>
    clear HD HB1
    obtain ⟨xs, A, c, hk, rfl, HX, HXC, HXT, HE, HB⟩ := hrel
    by_cases h2 : 2 ≤ xs.length
    case neg =>
      have c1 : decide (2 ≤ xs.length) = false := decide_eq_false h2
      have c2 : decide ((2 : Int) ≤ (xs.length : Int)) = false := decide_eq_false (by omega)
      have HV := Aside0.mk (show xs = coreL t.length t by
        rw [← HE.out]
        cases gk with
        | zero => rfl
        | succ g => unfold coreL; rw [if_neg (fun e => h2 e.1)])
      clear h2 hk
      go_wp2
      go_quiet (fail)
      go_wp2_with (first | ((with_reducible refine gate_dst (N := 27) rfl ?_); refine Kd.R_lit (Kd.int .i64) _ 3 ?hg (N := 27) ?hd (xs := ([] : List Int)) (inner := []) (ok := fun _ => True) (okp := fun _ => True) ?hr ?hp (fun _ hk => hk) trivial (Below.refl _ _) (Nat.le_refl _) (by simp) ?_; (case hd => rfl); (case hg => rfl); (case hr => first | (go_simp; done) | (go_simp; rfl)); (case hp => exact (Reps.none _ _)); intro vl wl hol hbl hg_ hnew_; clear hg_ hnew_; have HOL := Aside0.mk (Kd.R_lower hol (below_size (by repeat (first | exact HB.out | apply pw_below_drewN)))); have HXL := Aside0.mk (Kd.C_below (by repeat (first | exact HX.out | (with_reducible refine Kd.C_drewN ?_ _))) hbl); have HBL := Aside0.mk (below_step (by repeat (first | exact HB.out | apply pw_below_drewN)) hbl); clear hbl hol) | ((with_reducible refine gate_builtin (b := .append) (xs := #[.tmp 27, .tmp 28]) rfl ?_); at_builtin; refine Kd.R_append_rows (Kd.int .i64) (w0 := w) w.heap.size rfl (.tmp 27) (.tmp 28) 22 3 (.int .i64 0) 8 rfl Try.underlying22 info3 rfl (by decide) (by omega) vl ([] : List Int) xs _ _ _ (fun _ => True) (fun _ => False) rfl rfl ?aO ?aR (fun _ _ h => h) (fun _ h => h.elim) ?aF ?aB ?aS ?aL ?_; (case aR => exact HXL.out); (case aB => exact HBL.out); (case aF => exact (fun _ _ => trivial)); (case aO => exact HOL.out); (case aS => exact below_size HBL.out); (case aL => have := HTL.out; have := HXT.out; rw [List.length_nil]; omega); intro va wa hoa hba hga hata; rw [List.nil_append] at hoa; have HOA := Aside0.mk hoa; have HBA := Aside0.mk hba; clear hoa hba hga hata))
      go_ret
      exact ⟨_, rfl, by rw [← HV.out]; exact HOA.out, HBA.out⟩
    case pos =>
      cases gk with
      | zero => omega
      | succ g =>
        obtain ⟨j, hj⟩ : ∃ j : Nat, j + 1 = xs.length := ⟨xs.length - 1, by omega⟩
        have c1 : decide (2 ≤ xs.length) = true := decide_eq_true h2
        have c2 : decide ((2 : Int) ≤ (xs.length : Int)) = true := decide_eq_true (by omega)
        have t1 : IntKind.i64.wrap ((xs.length : Int) - 1) = (j : Int) := by have := HXT.out; have := HTL.out; rw [IntWalk.i64_in _ (by omega)]; omega
        obtain ⟨ad, hA, h0⟩ := Kd.at_int HX.out 0 (by omega) (by omega)
        subst hA
        obtain ⟨ad2, hA2, h1⟩ := Kd.at_int HX.out (j : Int) (by omega) (by omega)
        cases hA2
        obtain ⟨y, hy⟩ : ∃ y : Int, wrap64 (-(rd xs (j : Int))) = y := ⟨_, rfl⟩
        have t2 : IntKind.i64.wrap (-(rd xs (j : Int))) = y := (i64_w _).trans hy
        obtain ⟨x, hx⟩ : ∃ x : Int, rd xs 0 = x := ⟨_, rfl⟩
        have hjl : ((xs.length : Int) - 1) = (j : Int) := by omega
        have HE2 := HE.out
        rw [coreL_succ, hjl, hx, hy] at HE2
        rw [hx] at h0
        rw [Int.toNat_natCast] at h1
        rw [Int.toNat_zero, show ad.add 0 = ad from by cases ad; simp [Addr.add]] at h0
        have h0z : (0 : Int) ≤ 0 := by omega
        have h0p : (0 : Int) < (xs.length : Int) := by omega
        have h0n : 0 < xs.length := by omega
        have h0e : (0 < xs.length) = True := eq_true h0n
        have hj0 : (0 : Int) ≤ (j : Int) := by omega
        have hj1 : (j : Int) < (xs.length : Int) := by omega
        by_cases hxy : x = y
        · rw [if_pos ⟨h2, hxy⟩] at HE2
          have c3 : (x == y) = true := beq_iff_eq.mpr hxy
          obtain ⟨A2, hcut, hC2, hl2⟩ := cut_in (some ad) c xs j hj (by omega) HXC.out
          have HX2 := Aside0.mk (hC2 wr HX.out)
          have HL2 := Aside0.mk hl2
          have HE3 := Aside0.mk HE2
          have HM := Aside0.mk (show ((xs.drop 1).take (xs.length - 2)).length ≤ g ∧ ((xs.drop 1).take (xs.length - 2)).length ≤ t.length by
            have := HXT.out
            rw [List.length_take, List.length_drop]; omega)
          clear hC2 hl2 HE2 hxy hx hy h2 hk hjl
          generalize (xs.drop 1).take (xs.length - 2) = zs at hcut HX2 HL2 HE3 HM
          go_wp2
          go_quiet (fail)
          go_wp2
          go_roundg g
          case measure => omega
          case rel => exact ⟨zs, A2, c - 1, HM.out.1, rfl, ⟨by repeat (first | exact HX2.out | (with_reducible refine Kd.C_drewN ?_ _))⟩, HL2, ⟨HM.out.2⟩, HE3, ⟨by repeat (first | exact HB.out | apply pw_below_drewN)⟩⟩
        · rw [if_neg (fun e => hxy e.2)] at HE2
          have c3 : (x == y) = false := beq_eq_false_iff_ne.mpr hxy
          have HV := Aside0.mk HE2
          clear HE2 hxy hx hy h2 hk hjl
          go_wp2
          go_quiet (fail)
          go_wp2_with (first | ((with_reducible refine gate_dst (N := 27) rfl ?_); refine Kd.R_lit (Kd.int .i64) _ 3 ?hg (N := 27) ?hd (xs := ([] : List Int)) (inner := []) (ok := fun _ => True) (okp := fun _ => True) ?hr ?hp (fun _ hk => hk) trivial (Below.refl _ _) (Nat.le_refl _) (by simp) ?_; (case hd => rfl); (case hg => rfl); (case hr => first | (go_simp; done) | (go_simp; rfl)); (case hp => exact (Reps.none _ _)); intro vl wl hol hbl hg_ hnew_; clear hg_ hnew_; have HOL := Aside0.mk (Kd.R_lower hol (below_size (by repeat (first | exact HB.out | apply pw_below_drewN)))); have HXL := Aside0.mk (Kd.C_below (by repeat (first | exact HX.out | (with_reducible refine Kd.C_drewN ?_ _))) hbl); have HBL := Aside0.mk (below_step (by repeat (first | exact HB.out | apply pw_below_drewN)) hbl); clear hbl hol) | ((with_reducible refine gate_builtin (b := .append) (xs := #[.tmp 27, .tmp 28]) rfl ?_); at_builtin; refine Kd.R_append_rows (Kd.int .i64) (w0 := w) w.heap.size rfl (.tmp 27) (.tmp 28) 22 3 (.int .i64 0) 8 rfl Try.underlying22 info3 rfl (by decide) (by omega) vl ([] : List Int) xs _ _ _ (fun _ => True) (fun _ => False) rfl rfl ?aO ?aR (fun _ _ h => h) (fun _ h => h.elim) ?aF ?aB ?aS ?aL ?_; (case aR => exact HXL.out); (case aB => exact HBL.out); (case aF => exact (fun _ _ => trivial)); (case aO => exact HOL.out); (case aS => exact below_size HBL.out); (case aL => have := HTL.out; have := HXT.out; rw [List.length_nil]; omega); intro va wa hoa hba hga hata; rw [List.nil_append] at hoa; have HOA := Aside0.mk hoa; have HBA := Aside0.mk hba; clear hoa hba hga hata))
          go_ret
          exact ⟨_, rfl, by rw [← HV.out]; exact HOA.out, HBA.out⟩
theorem copy_f {xs : List Int} (h : xs.length < 17592186044416) : impl_copyOf.f xs = some xs := by
  unfold impl_copyOf.f
  rw [Option.bind_some, List.length_nil, Nat.zero_add, if_pos h, List.nil_append]
def impl_CoreWord.f (k : Nat) (l0 : List Int) : Option (List Int) := (impl_IsWord.f k l0).bind fun b => if b = true then ((impl_reduce.f k l0).bind fun r => if r.length < 17592186044416 then some (coreL r.length r) else none) else some []
set_option maxHeartbeats 8000000 in
set_option maxRecDepth 100000 in
theorem impl_CoreWord.calls (k : Nat) (A0 : Option Addr) (c0 : Nat) (l0 : List Int) (r : List Int) (w : World) (hr0 : Kd.C (Kd.int .i64) w A0 l0.length l0) (hc0 : l0.length ≤ c0) (h : impl_CoreWord.f k l0 = some r) :
    Calls Try.prog 35 #[.slice A0 l0.length c0] w fun e w' => ∃ v0_ : Value, e = .returned (v0_) ∧ Kd.R (Kd.int .i64) 3 w' w.heap.size (fun _ => True) v0_ r ∧ Below w.heap.size w w' := by
  have HR0 := Aside0.mk hr0
  have HC0 := Aside0.mk hc0
  obtain ⟨b, A20, H⟩ := Option.bind_eq_some_iff.mp h
  have A2 := Aside0.mk A20
  clear A20 h hr0 hc0
  cases b with
  | false =>
    rw [if_neg Bool.false_ne_true] at H
    obtain rfl := Option.some.inj H
    go_enter Try.func35, Try.ntmps35
    go_wp2_with fail
    go_at_call 16
    refine (impl_IsWord.calls k A0 c0 l0 false _ HR0.out HC0.out A2.out).mono ?_
    rintro e w1 ⟨rfl, hd⟩
    go_wp2
    go_ret
    exact ⟨_, rfl, Kd.R_nil _ _ _ _ _, hd.below⟩
  | true =>
    rw [if_pos rfl] at H
    obtain ⟨t, A10, H⟩ := Option.bind_eq_some_iff.mp H
    have A1 := Aside0.mk A10
    by_cases hl : t.length < 17592186044416
    case neg => rw [if_neg hl] at H; cases H
    rw [if_pos hl] at H
    obtain rfl := Option.some.inj H
    have HTL := Aside0.mk hl
    clear A10 H hl
    go_enter Try.func35, Try.ntmps35
    go_wp2_with fail
    go_at_call 16
    refine (impl_IsWord.calls k A0 c0 l0 true _ HR0.out HC0.out A2.out).mono ?_
    rintro e w0 ⟨rfl, hd⟩
    have HB0 := Aside0.mk (show Below w.heap.size w w0 from hd.below)
    go_wp2_with fail
    go_at_call 51
    refine (impl_reduce.calls k A0 c0 l0 t _ (Kd.C_below HR0.out HB0.out) HC0.out A1.out).mono ?_
    rintro e w1 ⟨v1, rfl, hs, hb⟩
    obtain ⟨D, cd, rfl⟩ := Kd.R_slice hs
    have HB1 := Aside0.mk (below_step HB0.out hb)
    have HD := Aside0.mk (Kd.R_reads' hs)
    clear hs hb
    go_wp2
    go_loopg [3] t.length (fun gk v3 w' => ∃ (xs : List Int) (A : Option Addr) (c : Nat), xs.length ≤ gk ∧ v3 = .slice A xs.length c ∧ Aside0 (Kd.C (Kd.int .i64) w' A xs.length xs) ∧ Aside0 (xs.length ≤ c) ∧ Aside0 (xs.length ≤ t.length) ∧ Aside0 (coreL gk xs = coreL t.length t) ∧ Aside0 (Below w.heap.size w w'))
    case atStart => exact ⟨t, D, cd, Nat.le_refl _, rfl, ⟨HD.out.2.2⟩, ⟨HD.out.2.1⟩, ⟨Nat.le_refl _⟩, ⟨rfl⟩, HB1⟩
    case round =>
      clear HD HB1
      obtain ⟨xs, A, c, hk, rfl, HX, HXC, HXT, HE, HB⟩ := hrel
      by_cases h2 : 2 ≤ xs.length
      case neg =>
        have c1 : decide (2 ≤ xs.length) = false := decide_eq_false h2
        have c2 : decide ((2 : Int) ≤ (xs.length : Int)) = false := decide_eq_false (by omega)
        have HV := Aside0.mk (show xs = coreL t.length t by
          rw [← HE.out]
          cases gk with
          | zero => rfl
          | succ g => unfold coreL; rw [if_neg (fun e => h2 e.1)])
        clear h2 hk
        go_wp2
        go_quiet (fail)
        go_wp2_with fail
        go_at_call 52
        refine (impl_copyOf.calls _ _ xs xs _ (by repeat (first | exact HX.out | (with_reducible refine Kd.C_drewN ?_ _))) HXC.out (copy_f (by have := HXT.out; have := HTL.out; omega))).mono ?_
        rintro e wa ⟨va, rfl, hoa, hba⟩
        have HOA := Aside0.mk (Kd.R_lower hoa (below_size (by repeat (first | exact HB.out | apply pw_below_drewN))))
        have HBA := Aside0.mk (below_step (by repeat (first | exact HB.out | apply pw_below_drewN)) hba)
        clear hoa hba
        go_wp2
        go_ret
        exact ⟨_, rfl, by rw [← HV.out]; exact HOA.out, HBA.out⟩
      case pos =>
        cases gk with
        | zero => omega
        | succ g =>
          obtain ⟨j, hj⟩ : ∃ j : Nat, j + 1 = xs.length := ⟨xs.length - 1, by omega⟩
          have c1 : decide (2 ≤ xs.length) = true := decide_eq_true h2
          have c2 : decide ((2 : Int) ≤ (xs.length : Int)) = true := decide_eq_true (by omega)
          have t1 : IntKind.i64.wrap ((xs.length : Int) - 1) = (j : Int) := by have := HXT.out; have := HTL.out; rw [IntWalk.i64_in _ (by omega)]; omega
          obtain ⟨ad, hA, h0⟩ := Kd.at_int HX.out 0 (by omega) (by omega)
          subst hA
          obtain ⟨ad2, hA2, h1⟩ := Kd.at_int HX.out (j : Int) (by omega) (by omega)
          cases hA2
          obtain ⟨y, hy⟩ : ∃ y : Int, wrap64 (-(rd xs (j : Int))) = y := ⟨_, rfl⟩
          have t2 : IntKind.i64.wrap (-(rd xs (j : Int))) = y := (i64_w _).trans hy
          obtain ⟨x, hx⟩ : ∃ x : Int, rd xs 0 = x := ⟨_, rfl⟩
          have hjl : ((xs.length : Int) - 1) = (j : Int) := by omega
          have HE2 := HE.out
          rw [coreL_succ, hjl, hx, hy] at HE2
          rw [hx] at h0
          rw [Int.toNat_natCast] at h1
          rw [Int.toNat_zero, show ad.add 0 = ad from by cases ad; simp [Addr.add]] at h0
          have h0z : (0 : Int) ≤ 0 := by omega
          have h0p : (0 : Int) < (xs.length : Int) := by omega
          have h0n : 0 < xs.length := by omega
          have h0e : (0 < xs.length) = True := eq_true h0n
          have hj0 : (0 : Int) ≤ (j : Int) := by omega
          have hj1 : (j : Int) < (xs.length : Int) := by omega
          by_cases hxy : x = y
          · rw [if_pos ⟨h2, hxy⟩] at HE2
            have c3 : (x == y) = true := beq_iff_eq.mpr hxy
            obtain ⟨A2, hcut, hC2, hl2⟩ := cut_in (some ad) c xs j hj (by omega) HXC.out
            have HX2 := Aside0.mk (hC2 wr HX.out)
            have HL2 := Aside0.mk hl2
            have HE3 := Aside0.mk HE2
            have HM := Aside0.mk (show ((xs.drop 1).take (xs.length - 2)).length ≤ g ∧ ((xs.drop 1).take (xs.length - 2)).length ≤ t.length by
              have := HXT.out
              rw [List.length_take, List.length_drop]; omega)
            clear hC2 hl2 HE2 hxy hx hy h2 hk hjl
            generalize (xs.drop 1).take (xs.length - 2) = zs at hcut HX2 HL2 HE3 HM
            go_wp2
            go_quiet (fail)
            go_wp2
            go_roundg g
            case measure => omega
            case rel => exact ⟨zs, A2, c - 1, HM.out.1, rfl, ⟨by repeat (first | exact HX2.out | (with_reducible refine Kd.C_drewN ?_ _))⟩, HL2, ⟨HM.out.2⟩, HE3, ⟨by repeat (first | exact HB.out | apply pw_below_drewN)⟩⟩
          · rw [if_neg (fun e => hxy e.2)] at HE2
            have c3 : (x == y) = false := beq_eq_false_iff_ne.mpr hxy
            have HV := Aside0.mk HE2
            clear HE2 hxy hx hy h2 hk hjl
            go_wp2
            go_quiet (fail)
            go_wp2_with fail
            go_at_call 52
            refine (impl_copyOf.calls _ _ xs xs _ (by repeat (first | exact HX.out | (with_reducible refine Kd.C_drewN ?_ _))) HXC.out (copy_f (by have := HXT.out; have := HTL.out; omega))).mono ?_
            rintro e wa ⟨va, rfl, hoa, hba⟩
            have HOA := Aside0.mk (Kd.R_lower hoa (below_size (by repeat (first | exact HB.out | apply pw_below_drewN))))
            have HBA := Aside0.mk (below_step (by repeat (first | exact HB.out | apply pw_below_drewN)) hba)
            clear hoa hba
            go_wp2
            go_ret
            exact ⟨_, rfl, by rw [← HV.out]; exact HOA.out, HBA.out⟩
end Go.Proofs.Ytokbhekicjnglaa.QFnWords
