/- l5Swap of the reference, by hand: letters replaced, signs kept. Conditions: the numbers of the gluing are letters, the copy is the gluing. -/
import Derived.Test.YtlnddmkkgjlmbaaHandEFnExactReverseLetter
namespace Go.Proofs.Ytlnddmkkgjlmbaa.QFnExactReverseLetter
open Go.RowKit Go.Proofs.YtlnddmkkgjlmbaaW.PrintWords Go.Proofs.YtlnddmkkgjlmbaaW.PrintLast Go.Proofs.YtlnddmkkgjlmbaaW.PrintMore Go.Proofs.Ytlnddmkkgjlmbaa.Com
attribute [local go_sem] max2_int min2_int max_two min_two max_three min_three max_four min_four
set_option linter.unusedVariables false
set_option linter.unusedSimpArgs false

def selZ (x a y b z : Int) : Int := if z = x then a else if z = y then b else z
theorem rowTo_same (h : Int → Int) (k : Nat) (row : List Int) (hk : k < row.length) (e : eachZ h row[k] = row[k]) : rowTo h (k + 1) row = rowTo h k row := by
  rw [← rowTo_set h k row hk, e]
  have h2 := rowTo_get h k row hk
  rw [List.getElem?_eq_getElem hk] at h2
  apply List.ext_getElem?
  intro i
  rw [List.getElem?_set]
  split
  · rename_i hi
    subst hi
    rw [if_pos (by rw [rowTo_len]; exact hk), h2]
  · rfl
theorem l1In_dec (a b c : Int) : spec_l1In.f a b c = some (decide (b ≤ a ∧ a ≤ c)) := by
  unfold spec_l1In.f
  by_cases h : a ≥ b
  · rw [if_pos h]
    by_cases h2 : a ≤ c
    · rw [decide_eq_true h2, decide_eq_true ⟨h, h2⟩]
    · rw [decide_eq_false h2, decide_eq_false (fun h3 => h2 h3.2)]
  · rw [if_neg h, decide_eq_false (fun h3 => h h3.1)]
theorem l3Abs_f (x : Int) (h1 : -8 ≤ x) (h2 : x ≤ 8) : spec_l3Abs.f x = some (if x > 0 then x else -x) := by
  unfold spec_l3Abs.f spec_l1Max.f
  rw [w64 (by omega) (by omega)]
  by_cases h : x > 0
  · rw [if_pos (by omega), if_pos h]; rfl
  · rw [if_neg (by omega), if_neg h]; rfl
open Classical in
noncomputable def spec_l5Swap.f (k : Nat) (l0 : List (List Int)) (x a y b : Int) : Option (List (List Int) × Bool) := (spec_IsGluing.f k l0).bind fun g => if g = true then (if 1 ≤ x ∧ x ≤ 8 then (if 1 ≤ y ∧ y ≤ 8 then ((spec_l5Copy.f k l0).bind fun t => if t = l0 ∧ LetOk l0 ∧ (-8 ≤ a ∧ a ≤ 8) ∧ (-8 ≤ b ∧ b ≤ 8) then some (l0.map (List.map (eachZ (selZ x a y b))), true) else none) else some ([], false)) else some ([], false)) else some ([], false)
set_option maxHeartbeats 32000000 in
set_option maxRecDepth 100000 in
theorem spec_l5Swap.calls (k : Nat) (A0 : Option Addr) (c0 : Nat) (l0 : List (List Int)) (a1 : Int) (a2 : Int) (a3 : Int) (a4 : Int) (r1 : List (List Int)) (r2 : Bool) (w : World) (hr0 : Kd.C (Kd.slice 3 (Kd.int .i64)) w A0 l0.length l0) (hc0 : l0.length ≤ c0) (h : spec_l5Swap.f k l0 a1 a2 a3 a4 = some (r1, r2)) :
    Calls Try.prog 71 #[.slice A0 l0.length c0, .int .i64 a1, .int .i64 a2, .int .i64 a3, .int .i64 a4] w fun e w' => ∃ v0_ : Value, e = .returned (.tuple #[v0_, .bool r2]) ∧ Kd.S (Kd.slice 3 (Kd.int .i64)) 47 w' w.heap.size (fun _ => True) v0_ r1 ∧ Below w.heap.size w w' := by
  have HR0 := Aside0.mk hr0
  have HC0 := Aside0.mk hc0
  obtain ⟨b, A10, H⟩ := Option.bind_eq_some_iff.mp h
  have A1 := Aside0.mk A10
  clear A10 h hr0 hc0
  cases b with
  | false =>
    rw [if_neg Bool.false_ne_true] at H
    obtain ⟨rfl, rfl⟩ := Prod.mk.inj (Option.some.inj H)
    go_enter Try.func71, Try.ntmps71
    go_wp2_with fail
    go_at_call 52
    refine (spec_IsGluing.calls k A0 c0 l0 false _ HR0.out HC0.out A1.out).mono ?_
    rintro e w1 ⟨rfl, hb⟩
    have HB1 := Aside0.mk hb
    go_wp2_with ((with_reducible refine gate_dst (N := 29) rfl ?_); refine Kd.S_lit (Kd.slice 3 (Kd.int .i64)) _ 47 ?hg (N := 29) ?hd (xs := ([] : List (List Int))) (inner := []) (ok := fun _ => True) (okp := fun _ => True) ?hr ?hp (fun _ hk => hk) trivial (Below.refl _ _) (Nat.le_refl _) (by simp) ?_; (case hd => rfl); (case hg => rfl); (case hr => first | (go_simp; done) | (go_simp; rfl)); (case hp => exact (Reps.none _ _)); intro vl wl hol hbl hg_ hnew_; clear hg_ hnew_; have HBL := Aside0.mk (below_step HB1.out hbl); have HOL := Aside0.mk hol; clear hbl hol)
    go_ret2
    exact ⟨_, rfl, Kd.S_lower HOL.out (below_size HB1.out), HBL.out⟩
  | true =>
    rw [if_pos rfl] at H
    by_cases hx8 : 1 ≤ a1 ∧ a1 ≤ 8
    case neg =>
      rw [if_neg hx8] at H
      obtain ⟨rfl, rfl⟩ := Prod.mk.inj (Option.some.inj H)
      have HW := Aside0.mk ((l1In_dec a1 1 8).trans (by rw [decide_eq_false hx8]))
      clear H hx8
      go_enter Try.func71, Try.ntmps71
      go_wp2_with fail
      go_at_call 52
      refine (spec_IsGluing.calls k A0 c0 l0 true _ HR0.out HC0.out A1.out).mono ?_
      rintro e w1 ⟨rfl, hb⟩
      have HB1 := Aside0.mk hb
      go_wp2_with fail
      go_at_call 53
      refine (spec_l1In.calls a1 1 8 false _ HW.out).mono ?_
      rintro e w2 ⟨rfl, ⟨n2, rfl⟩⟩
      have HB0 := Aside0.mk (pw_below_drewN HB1.out n2)
      clear HB1
      have HB1 := HB0
      go_wp2_with ((with_reducible refine gate_dst (N := 29) rfl ?_); refine Kd.S_lit (Kd.slice 3 (Kd.int .i64)) _ 47 ?hg (N := 29) ?hd (xs := ([] : List (List Int))) (inner := []) (ok := fun _ => True) (okp := fun _ => True) ?hr ?hp (fun _ hk => hk) trivial (Below.refl _ _) (Nat.le_refl _) (by simp) ?_; (case hd => rfl); (case hg => rfl); (case hr => first | (go_simp; done) | (go_simp; rfl)); (case hp => exact (Reps.none _ _)); intro vl wl hol hbl hg_ hnew_; clear hg_ hnew_; have HBL := Aside0.mk (below_step HB1.out hbl); have HOL := Aside0.mk hol; clear hbl hol)
      go_ret2
      exact ⟨_, rfl, Kd.S_lower HOL.out (below_size HB1.out), HBL.out⟩
    rw [if_pos hx8] at H
    have HWX := Aside0.mk ((l1In_dec a1 1 8).trans (by rw [decide_eq_true hx8]))
    by_cases hy8 : 1 ≤ a3 ∧ a3 ≤ 8
    case neg =>
      rw [if_neg hy8] at H
      obtain ⟨rfl, rfl⟩ := Prod.mk.inj (Option.some.inj H)
      have HW := Aside0.mk ((l1In_dec a3 1 8).trans (by rw [decide_eq_false hy8]))
      clear H hx8 hy8
      go_enter Try.func71, Try.ntmps71
      go_wp2_with fail
      go_at_call 52
      refine (spec_IsGluing.calls k A0 c0 l0 true _ HR0.out HC0.out A1.out).mono ?_
      rintro e w1 ⟨rfl, hb⟩
      have HB1 := Aside0.mk hb
      go_wp2_with fail
      go_at_call 53
      refine (spec_l1In.calls a1 1 8 true _ HWX.out).mono ?_
      rintro e w2 ⟨rfl, ⟨n2, rfl⟩⟩
      go_wp2_with fail
      go_at_call 53
      refine (spec_l1In.calls a3 1 8 false _ HW.out).mono ?_
      rintro e w3 ⟨rfl, ⟨n3, rfl⟩⟩
      have HB0 := Aside0.mk (pw_below_drewN HB1.out (n2 + n3))
      clear HB1
      have HB1 := HB0
      go_wp2_with ((with_reducible refine gate_dst (N := 29) rfl ?_); refine Kd.S_lit (Kd.slice 3 (Kd.int .i64)) _ 47 ?hg (N := 29) ?hd (xs := ([] : List (List Int))) (inner := []) (ok := fun _ => True) (okp := fun _ => True) ?hr ?hp (fun _ hk => hk) trivial (Below.refl _ _) (Nat.le_refl _) (by simp) ?_; (case hd => rfl); (case hg => rfl); (case hr => first | (go_simp; done) | (go_simp; rfl)); (case hp => exact (Reps.none _ _)); intro vl wl hol hbl hg_ hnew_; clear hg_ hnew_; have HBL := Aside0.mk (below_step HB1.out hbl); have HOL := Aside0.mk hol; clear hbl hol)
      go_ret2
      exact ⟨_, rfl, Kd.S_lower HOL.out (below_size HB1.out), HBL.out⟩
    rw [if_pos hy8] at H
    have HWY := Aside0.mk ((l1In_dec a3 1 8).trans (by rw [decide_eq_true hy8]))
    obtain ⟨t, T10, H⟩ := Option.bind_eq_some_iff.mp H
    by_cases hok : t = l0 ∧ LetOk l0 ∧ (-8 ≤ a2 ∧ a2 ≤ 8) ∧ (-8 ≤ a4 ∧ a4 ≤ 8)
    case neg => rw [if_neg hok] at H; cases H
    rw [if_pos hok] at H
    obtain ⟨rfl, rfl⟩ := Prod.mk.inj (Option.some.inj H)
    obtain ⟨rfl, hok, ha8, hb8⟩ := hok
    have HT := Aside0.mk T10
    have HOK := Aside0.mk hok
    have htl : t.length ≤ 1048576 := hok.1
    obtain ⟨hz, hzd⟩ : ∃ hz : Int → Int, hz = selZ a1 a2 a3 a4 := ⟨_, rfl⟩
    rw [← hzd]
    have HZD := Aside0.mk hzd
    have HA8 := Aside0.mk ha8
    have HB8 := Aside0.mk hb8
    clear H hx8 hy8 T10 hok hzd ha8 hb8
    go_enter Try.func71, Try.ntmps71
    go_wp2_with fail
    go_at_call 52
    refine (spec_IsGluing.calls k A0 c0 t true _ HR0.out HC0.out A1.out).mono ?_
    rintro e w1 ⟨rfl, hb⟩
    have HB1 := Aside0.mk hb
    go_wp2_with fail
    go_at_call 53
    refine (spec_l1In.calls a1 1 8 true _ HWX.out).mono ?_
    rintro e w2 ⟨rfl, ⟨n2, rfl⟩⟩
    go_wp2_with fail
    go_at_call 53
    refine (spec_l1In.calls a3 1 8 true _ HWY.out).mono ?_
    rintro e w3 ⟨rfl, ⟨n3, rfl⟩⟩
    go_wp2_with fail
    go_at_call 65
    refine (spec_l5Copy.calls k A0 c0 t t _ (Kd.C_below HR0.out (pw_below_drewN HB1.out (n2 + n3))) HC0.out HT.out).mono ?_
    rintro e w4 ⟨v1, rfl, hs, hb⟩
    obtain ⟨D, cd, rfl⟩ := Kd.S_slice hs
    have HS0 := Aside0.mk (Kd.S_lower hs (below_size (pw_below_drewN HB1.out (n2 + n3))))
    have HB0 := Aside0.mk (below_step (pw_below_drewN HB1.out (n2 + n3)) hb)
    clear hs hb HB1
    go_wp2
    go_loopg [13] t.length (fun gk v13 w' => ∃ p : Nat, p + gk = t.length ∧ v13 = .int .i64 (p : Int) ∧ Aside0 (Kd.S (Kd.slice 3 (Kd.int .i64)) 47 w' w.heap.size (fun _ => True) (.slice D t.length cd) (rowsTo hz p t)) ∧ Aside0 (Below w.heap.size w w'))
    case atStart => exact ⟨0, by omega, rfl, HS0, HB0⟩
    case round =>
      clear HS0 HB0
      obtain ⟨p, hk, rfl, HS, HB⟩ := hrel
      cases gk with
      | zero =>
        obtain rfl : p = t.length := by omega
        have c1 : decide (t.length < t.length) = false := decide_eq_false (by omega)
        have HS2 := Aside0.mk HS.out
        rw [rowsTo_all] at HS2
        clear hk HS
        go_wp2
        go_ret2
        exact ⟨_, rfl, HS2.out, HB.out⟩
      | succ q =>
        have HKp := Aside0.mk hk
        have hlt : p < t.length := by omega
        have c1 : decide (p < t.length) = true := decide_eq_true hlt
        have hp0 : (0 : Int) ≤ (p : Int) := by omega
        have hp1 : (p : Int) < (t.length : Int) := by omega
        obtain ⟨gd, cdd, eD, gb, gl, cl, HG⟩ := Kd.S_form HS.out (by rw [rowsTo_len]; omega)
        obtain ⟨rfl, rfl⟩ : D = some ⟨gd, 0, none⟩ ∧ cd = cdd := by
          injection eD with e1 e2 e3
          exact ⟨e1, e3⟩
        clear gb gl cl HG eD
        obtain ⟨oki, cs, hcl, hM, hcc, hoki, hH⟩ := Kd.S_lend HS.out ([] : List Int) (p : Int) hp0 hp1
        obtain ⟨v7, rfl, hR⟩ := hM
        have hx5 : wr.cell? ⟨gd, p, none⟩ = some v7 := by have := hcc 0 v7 rfl; simpa [Kd.slice] using this
        rw [Int.toNat_natCast, rowsTo_rd hz p t hlt] at hR
        obtain ⟨row, hrow⟩ : ∃ row, t[p] = row := ⟨_, rfl⟩
        have HROW := Aside0.mk hrow
        have HLET := Aside0.mk (HOK.out.2 row (by rw [← hrow]; exact List.getElem_mem hlt))
        obtain ⟨ad, A2, k2, e1, hgx, hl1, hr1⟩ := at_L1 HR0.out (p : Int) hp0 hp1
        subst e1
        have hrw : rd_L1 t (p : Int) = row := by rw [← hrow]; show t.getD p [] = _; rw [List.getD_eq_getElem?_getD, List.getElem?_eq_getElem hlt]; rfl
        rw [Int.toNat_natCast, hrw] at hgx
        rw [hrw] at hr1
        have HGR := Aside0.mk hr1
        have HGX := Aside0.mk hgx
        rw [hrow] at hR
        obtain ⟨A7, c7, e7⟩ := Kd.R_slice hR
        subst e7
        have HX := Aside0.mk hH
        have HX5 := Aside0.mk hx5
        have HNG := Aside0.mk (show ¬ oki gd from fun hk => (hoki gd hk).2 rfl)
        have HM0 := Aside0.mk hR
        have hrl : row.length ≤ 1048576 := HLET.out.1
        have HK0 := Aside0.mk (Kept.refl wr oki)
        clear hH hR hcc hcl hoki hrow hk HS hgx hr1 hl1 hrw hx5
        obtain ⟨wo, hwo⟩ : ∃ wo : World, wo = wr := ⟨_, rfl⟩
        subst hwo
        go_wp2
        go_loopg [14] row.length (fun gk v14 w' => ∃ j : Nat, j + gk = row.length ∧ v14 = .int .i64 (j : Int) ∧ Aside0 (Kd.R (Kd.int .i64) 3 w' w.heap.size oki (.slice A7 row.length c7) (rowTo hz j row)) ∧ Aside0 (Kept wo w' oki) ∧ Aside0 (Below w.heap.size w w'))
        case atStart => exact ⟨0, by omega, rfl, HM0, HK0, HB⟩
        case round =>
          clear HM0 HK0 HB
          obtain ⟨j, hk, rfl, HR, HK, HB⟩ := hrel
          have hgx := pw_cell_below HB.out HGX.out
          cases gk with
          | zero =>
            obtain rfl : j = row.length := by omega
            have c2 : decide (row.length < row.length) = false := decide_eq_false (by omega)
            have hS2 := Kd.H_back (okp := oki) (Kd.H_kept HX.out HK.out (fun k_ _ hn hs => hn hs)) ⟨_, rfl, HR.out⟩ (fun _ hk => hk)
            rw [Int.toNat_natCast, rowTo_all, ← HROW.out, rowsTo_set hz p t hlt] at hS2
            have HS2 := Aside0.mk hS2
            clear hk hS2
            go_wp2
            go_roundg q
            case measure => omega
            case rel => exact ⟨p + 1, by have := HKp.out; omega, by go_num, HS2, HB⟩
          | succ q2 =>
            have HKj := Aside0.mk hk
            have hlj : j < row.length := by omega
            have c2 : decide (j < row.length) = true := decide_eq_true hlj
            have hj0 : (0 : Int) ≤ (j : Int) := by omega
            have hj1 : (j : Int) < (row.length : Int) := by omega
            obtain ⟨g7, c8, e8, gb7, gl7, cl7, HG7⟩ := Kd.R_form HR.out (by rw [rowTo_len]; omega)
            obtain ⟨rfl, rfl⟩ : A7 = some ⟨g7, 0, none⟩ ∧ c7 = c8 := by
              injection e8 with e1 e2 e3
              exact ⟨e1, e3⟩
            have HGB := Aside0.mk gb7
            have HOI := Aside0.mk (HR.out.1 g7 rfl)
            clear gl7 cl7 HG7 e8 gb7
            obtain ⟨hcell, hfrz⟩ := Kd.R_celln (0 : Int) HR.out (j : Int) hj0 hj1
            rw [Int.toNat_natCast] at hcell hfrz
            rw [show rdOf (0 : Int) (rowTo hz j row) (j : Int) = row[j] from rowTo_rd hz j row hlj] at hcell
            have hhx := cell_kept HX5.out HK.out HNG.out
            obtain ⟨ad2, e9, hel⟩ := Kd.at_int (Kd.C_below HGR.out HB.out) (j : Int) hj0 hj1
            subst e9
            rw [Int.toNat_natCast, rd_lt hlj] at hel
            have hxl := HLET.out.2 row[j] (List.getElem_mem hlj)
            have hset := rowTo_set hz j row hlj
            have hsame := rowTo_same hz j row hlj
            obtain ⟨x, hx⟩ : ∃ x : Int, row[j] = x := ⟨_, rfl⟩
            rw [hx] at hcell hxl hset hel hsame
            rw [HZD.out] at hset hsame
            have habs := l3Abs_f x hxl.2.1 hxl.2.2
            have ha8 := HA8.out
            have hb8 := HB8.out
            clear hx hk
            by_cases hpos : x > 0
            · have c3 : decide (0 < x) = true := decide_eq_true hpos
              have c4 : decide (x < 0) = false := decide_eq_false (by omega)
              rw [if_pos hpos] at habs
              have HA := Aside0.mk habs
              by_cases hzx : x = a1
              · have c5 : (x == a1) = true := beq_iff_eq.mpr hzx
                have he : eachZ (selZ a1 a2 a3 a4) x = a2 := (if_pos hpos : eachZ (selZ a1 a2 a3 a4) x = selZ a1 a2 a3 a4 x).trans (if_pos hzx)
                rw [he, ← HZD.out] at hset
                have t1 : IntKind.i64.wrap a2 = a2 := IntWalk.i64_in _ (by omega)
                have t2 : IntKind.i64.wrap (1 * a2) = a2 := by rw [Int.one_mul]; exact t1
                have HST := Aside0.mk (show ∀ n : Nat, Kd.R (Kd.int .i64) 3 ((wr.drewN n).setCell ⟨g7, j, none⟩ (.int .i64 a2)) w.heap.size oki (.slice (some ⟨g7, 0, none⟩) row.length c7) (rowTo hz (j + 1) row) from fun n => by
                  have h0 := (Kd.R_put (W := wr.drewN n) (xs := rowTo hz j row) (by rw [rowTo_len]; exact Kd.R_drewN HR.out n) (j : Int) a2).1
                  rw [Int.toNat_natCast, hset, rowTo_len] at h0
                  exact h0)
                clear he hset hsame hpos hxl habs hzx ha8 hb8
                go_wp2
                go_quiet (first | (go_at_call 83; (with_reducible refine (spec_l1Bit.calls true 1 _ rfl).mono ?_); rintro e w' ⟨rfl, ⟨nd, rfl⟩⟩; (try first | exact ⟨rfl, _, World.drewN_drewN _ _ _⟩ | exact ⟨rfl, _, Eq.trans (World.drewN_drewN _ _ _) (congrArg (World.drewN _) (Nat.add_assoc _ _ _))⟩)) | (go_at_call 83; (with_reducible refine (spec_l1Bit.calls false 0 _ rfl).mono ?_); rintro e w' ⟨rfl, ⟨nd, rfl⟩⟩; (try first | exact ⟨rfl, _, World.drewN_drewN _ _ _⟩ | exact ⟨rfl, _, Eq.trans (World.drewN_drewN _ _ _) (congrArg (World.drewN _) (Nat.add_assoc _ _ _))⟩)))
                go_wp2_with fail
                go_at_call 99
                refine (spec_l3Abs.calls x x _ HA.out).mono ?_
                rintro e w' ⟨rfl, ⟨nd, rfl⟩⟩
                go_wp2
                go_roundg q2
                case measure => omega
                case rel => exact ⟨j + 1, by have := HKj.out; omega, by go_num, ⟨HST.out _⟩, ⟨(HK.out.drewN _).setCell (.inl HOI.out) _⟩, ⟨below_set (pw_below_drewN HB.out _) HGB.out⟩⟩
              · have c5 : (x == a1) = false := beq_eq_false_iff_ne.mpr hzx
                by_cases hzy : x = a3
                · have c6 : (x == a3) = true := beq_iff_eq.mpr hzy
                  have he : eachZ (selZ a1 a2 a3 a4) x = a4 := (if_pos hpos : eachZ (selZ a1 a2 a3 a4) x = selZ a1 a2 a3 a4 x).trans ((if_neg hzx).trans (if_pos hzy))
                  rw [he, ← HZD.out] at hset
                  have t1 : IntKind.i64.wrap a4 = a4 := IntWalk.i64_in _ (by omega)
                  have t2 : IntKind.i64.wrap (1 * a4) = a4 := by rw [Int.one_mul]; exact t1
                  have HST := Aside0.mk (show ∀ n : Nat, Kd.R (Kd.int .i64) 3 ((wr.drewN n).setCell ⟨g7, j, none⟩ (.int .i64 a4)) w.heap.size oki (.slice (some ⟨g7, 0, none⟩) row.length c7) (rowTo hz (j + 1) row) from fun n => by
                    have h0 := (Kd.R_put (W := wr.drewN n) (xs := rowTo hz j row) (by rw [rowTo_len]; exact Kd.R_drewN HR.out n) (j : Int) a4).1
                    rw [Int.toNat_natCast, hset, rowTo_len] at h0
                    exact h0)
                  clear he hset hsame hpos hxl habs hzx ha8 hb8 hzy
                  go_wp2
                  go_quiet (first | (go_at_call 83; (with_reducible refine (spec_l1Bit.calls true 1 _ rfl).mono ?_); rintro e w' ⟨rfl, ⟨nd, rfl⟩⟩; (try first | exact ⟨rfl, _, World.drewN_drewN _ _ _⟩ | exact ⟨rfl, _, Eq.trans (World.drewN_drewN _ _ _) (congrArg (World.drewN _) (Nat.add_assoc _ _ _))⟩)) | (go_at_call 83; (with_reducible refine (spec_l1Bit.calls false 0 _ rfl).mono ?_); rintro e w' ⟨rfl, ⟨nd, rfl⟩⟩; (try first | exact ⟨rfl, _, World.drewN_drewN _ _ _⟩ | exact ⟨rfl, _, Eq.trans (World.drewN_drewN _ _ _) (congrArg (World.drewN _) (Nat.add_assoc _ _ _))⟩)))
                  go_wp2_with fail
                  go_at_call 99
                  refine (spec_l3Abs.calls x x _ HA.out).mono ?_
                  rintro e w' ⟨rfl, ⟨nd, rfl⟩⟩
                  go_wp2
                  go_roundg q2
                  case measure => omega
                  case rel => exact ⟨j + 1, by have := HKj.out; omega, by go_num, ⟨HST.out _⟩, ⟨(HK.out.drewN _).setCell (.inl HOI.out) _⟩, ⟨below_set (pw_below_drewN HB.out _) HGB.out⟩⟩
                · have c6 : (x == a3) = false := beq_eq_false_iff_ne.mpr hzy
                  have he : eachZ (selZ a1 a2 a3 a4) x = x := ((if_pos hpos : eachZ (selZ a1 a2 a3 a4) x = selZ a1 a2 a3 a4 x).trans ((if_neg hzx).trans (if_neg hzy)))
                  have HST := Aside0.mk (show Kd.R (Kd.int .i64) 3 wr w.heap.size oki (.slice (some ⟨g7, 0, none⟩) row.length c7) (rowTo hz (j + 1) row) from by rw [HZD.out, hsame he, ← HZD.out]; exact HR.out)
                  clear he hset hsame hpos hxl habs hzx ha8 hb8 hzy
                  go_wp2
                  go_quiet (first | (go_at_call 83; (with_reducible refine (spec_l1Bit.calls true 1 _ rfl).mono ?_); rintro e w' ⟨rfl, ⟨nd, rfl⟩⟩; (try first | exact ⟨rfl, _, World.drewN_drewN _ _ _⟩ | exact ⟨rfl, _, Eq.trans (World.drewN_drewN _ _ _) (congrArg (World.drewN _) (Nat.add_assoc _ _ _))⟩)) | (go_at_call 83; (with_reducible refine (spec_l1Bit.calls false 0 _ rfl).mono ?_); rintro e w' ⟨rfl, ⟨nd, rfl⟩⟩; (try first | exact ⟨rfl, _, World.drewN_drewN _ _ _⟩ | exact ⟨rfl, _, Eq.trans (World.drewN_drewN _ _ _) (congrArg (World.drewN _) (Nat.add_assoc _ _ _))⟩)))
                  go_wp2_with fail
                  go_at_call 99
                  refine (spec_l3Abs.calls x x _ HA.out).mono ?_
                  rintro e w' ⟨rfl, ⟨nd, rfl⟩⟩
                  go_wp2
                  go_roundg q2
                  case measure => omega
                  case rel => exact ⟨j + 1, by have := HKj.out; omega, by go_num, ⟨Kd.R_drewN HST.out _⟩, ⟨HK.out.drewN _⟩, ⟨pw_below_drewN HB.out _⟩⟩
            · have c3 : decide (0 < x) = false := decide_eq_false hpos
              have c4 : decide (x < 0) = true := decide_eq_true (by omega)
              obtain ⟨z, hzz⟩ : ∃ z : Int, -x = z := ⟨_, rfl⟩
              rw [if_neg hpos, hzz] at habs
              have HA := Aside0.mk habs
              by_cases hzx : -x = a1
              · have c5 : (z == a1) = true := beq_iff_eq.mpr (by omega)
                have he : eachZ (selZ a1 a2 a3 a4) x = -a2 := (if_neg hpos : eachZ (selZ a1 a2 a3 a4) x = -(selZ a1 a2 a3 a4 (-x))).trans (congrArg (fun n : Int => -n) (if_pos hzx))
                rw [he, ← HZD.out] at hset
                obtain ⟨s, hs⟩ : ∃ s : Int, -a2 = s := ⟨_, rfl⟩
                rw [hs] at hset
                have t1 : IntKind.i64.wrap (-a2) = s := by rw [IntWalk.i64_in _ (by omega)]; exact hs
                have t2 : IntKind.i64.wrap (-1 * a2) = s := by rw [IntWalk.i64_in _ (by omega)]; omega
                have HST := Aside0.mk (show ∀ n : Nat, Kd.R (Kd.int .i64) 3 ((wr.drewN n).setCell ⟨g7, j, none⟩ (.int .i64 s)) w.heap.size oki (.slice (some ⟨g7, 0, none⟩) row.length c7) (rowTo hz (j + 1) row) from fun n => by
                  have h0 := (Kd.R_put (W := wr.drewN n) (xs := rowTo hz j row) (by rw [rowTo_len]; exact Kd.R_drewN HR.out n) (j : Int) s).1
                  rw [Int.toNat_natCast, hset, rowTo_len] at h0
                  exact h0)
                clear he hset hsame hpos hxl habs hzx ha8 hb8 hzz hs
                go_wp2
                go_quiet (first | (go_at_call 83; (with_reducible refine (spec_l1Bit.calls true 1 _ rfl).mono ?_); rintro e w' ⟨rfl, ⟨nd, rfl⟩⟩; (try first | exact ⟨rfl, _, World.drewN_drewN _ _ _⟩ | exact ⟨rfl, _, Eq.trans (World.drewN_drewN _ _ _) (congrArg (World.drewN _) (Nat.add_assoc _ _ _))⟩)) | (go_at_call 83; (with_reducible refine (spec_l1Bit.calls false 0 _ rfl).mono ?_); rintro e w' ⟨rfl, ⟨nd, rfl⟩⟩; (try first | exact ⟨rfl, _, World.drewN_drewN _ _ _⟩ | exact ⟨rfl, _, Eq.trans (World.drewN_drewN _ _ _) (congrArg (World.drewN _) (Nat.add_assoc _ _ _))⟩)))
                go_wp2_with fail
                go_at_call 99
                refine (spec_l3Abs.calls x z _ HA.out).mono ?_
                rintro e w' ⟨rfl, ⟨nd, rfl⟩⟩
                go_wp2
                go_roundg q2
                case measure => omega
                case rel => exact ⟨j + 1, by have := HKj.out; omega, by go_num, ⟨HST.out _⟩, ⟨(HK.out.drewN _).setCell (.inl HOI.out) _⟩, ⟨below_set (pw_below_drewN HB.out _) HGB.out⟩⟩
              · have c5 : (z == a1) = false := beq_eq_false_iff_ne.mpr (by omega)
                by_cases hzy : -x = a3
                · have c6 : (z == a3) = true := beq_iff_eq.mpr (by omega)
                  have he : eachZ (selZ a1 a2 a3 a4) x = -a4 := (if_neg hpos : eachZ (selZ a1 a2 a3 a4) x = -(selZ a1 a2 a3 a4 (-x))).trans (congrArg (fun n : Int => -n) ((if_neg hzx).trans (if_pos hzy)))
                  rw [he, ← HZD.out] at hset
                  obtain ⟨s, hs⟩ : ∃ s : Int, -a4 = s := ⟨_, rfl⟩
                  rw [hs] at hset
                  have t1 : IntKind.i64.wrap (-a4) = s := by rw [IntWalk.i64_in _ (by omega)]; exact hs
                  have t2 : IntKind.i64.wrap (-1 * a4) = s := by rw [IntWalk.i64_in _ (by omega)]; omega
                  have HST := Aside0.mk (show ∀ n : Nat, Kd.R (Kd.int .i64) 3 ((wr.drewN n).setCell ⟨g7, j, none⟩ (.int .i64 s)) w.heap.size oki (.slice (some ⟨g7, 0, none⟩) row.length c7) (rowTo hz (j + 1) row) from fun n => by
                    have h0 := (Kd.R_put (W := wr.drewN n) (xs := rowTo hz j row) (by rw [rowTo_len]; exact Kd.R_drewN HR.out n) (j : Int) s).1
                    rw [Int.toNat_natCast, hset, rowTo_len] at h0
                    exact h0)
                  clear he hset hsame hpos hxl habs hzx ha8 hb8 hzz hzy hs
                  go_wp2
                  go_quiet (first | (go_at_call 83; (with_reducible refine (spec_l1Bit.calls true 1 _ rfl).mono ?_); rintro e w' ⟨rfl, ⟨nd, rfl⟩⟩; (try first | exact ⟨rfl, _, World.drewN_drewN _ _ _⟩ | exact ⟨rfl, _, Eq.trans (World.drewN_drewN _ _ _) (congrArg (World.drewN _) (Nat.add_assoc _ _ _))⟩)) | (go_at_call 83; (with_reducible refine (spec_l1Bit.calls false 0 _ rfl).mono ?_); rintro e w' ⟨rfl, ⟨nd, rfl⟩⟩; (try first | exact ⟨rfl, _, World.drewN_drewN _ _ _⟩ | exact ⟨rfl, _, Eq.trans (World.drewN_drewN _ _ _) (congrArg (World.drewN _) (Nat.add_assoc _ _ _))⟩)))
                  go_wp2_with fail
                  go_at_call 99
                  refine (spec_l3Abs.calls x z _ HA.out).mono ?_
                  rintro e w' ⟨rfl, ⟨nd, rfl⟩⟩
                  go_wp2
                  go_roundg q2
                  case measure => omega
                  case rel => exact ⟨j + 1, by have := HKj.out; omega, by go_num, ⟨HST.out _⟩, ⟨(HK.out.drewN _).setCell (.inl HOI.out) _⟩, ⟨below_set (pw_below_drewN HB.out _) HGB.out⟩⟩
                · have c6 : (z == a3) = false := beq_eq_false_iff_ne.mpr (by omega)
                  have he : eachZ (selZ a1 a2 a3 a4) x = x := ((if_neg hpos : eachZ (selZ a1 a2 a3 a4) x = -(selZ a1 a2 a3 a4 (-x))).trans (congrArg (fun n : Int => -n) ((if_neg hzx).trans (if_neg hzy)))).trans (by omega)
                  have HST := Aside0.mk (show Kd.R (Kd.int .i64) 3 wr w.heap.size oki (.slice (some ⟨g7, 0, none⟩) row.length c7) (rowTo hz (j + 1) row) from by rw [HZD.out, hsame he, ← HZD.out]; exact HR.out)
                  clear he hset hsame hpos hxl habs hzx ha8 hb8 hzz hzy
                  go_wp2
                  go_quiet (first | (go_at_call 83; (with_reducible refine (spec_l1Bit.calls true 1 _ rfl).mono ?_); rintro e w' ⟨rfl, ⟨nd, rfl⟩⟩; (try first | exact ⟨rfl, _, World.drewN_drewN _ _ _⟩ | exact ⟨rfl, _, Eq.trans (World.drewN_drewN _ _ _) (congrArg (World.drewN _) (Nat.add_assoc _ _ _))⟩)) | (go_at_call 83; (with_reducible refine (spec_l1Bit.calls false 0 _ rfl).mono ?_); rintro e w' ⟨rfl, ⟨nd, rfl⟩⟩; (try first | exact ⟨rfl, _, World.drewN_drewN _ _ _⟩ | exact ⟨rfl, _, Eq.trans (World.drewN_drewN _ _ _) (congrArg (World.drewN _) (Nat.add_assoc _ _ _))⟩)))
                  go_wp2_with fail
                  go_at_call 99
                  refine (spec_l3Abs.calls x z _ HA.out).mono ?_
                  rintro e w' ⟨rfl, ⟨nd, rfl⟩⟩
                  go_wp2
                  go_roundg q2
                  case measure => omega
                  case rel => exact ⟨j + 1, by have := HKj.out; omega, by go_num, ⟨Kd.R_drewN HST.out _⟩, ⟨HK.out.drewN _⟩, ⟨pw_below_drewN HB.out _⟩⟩
end Go.Proofs.Ytlnddmkkgjlmbaa.QFnExactReverseLetter
