-- Written by a program of this session (the kit's print, turned in places): the functions that the law FnGluings comes to, and what their calls do.
import Derived.Test.YtfknffpfjoalkaaQFnGluingsx0
import Derived.Test.YtfknffpfjoalkaaQFnGluingsx2
import Derived.Test.YtfknffpfjoalkaaQFnGluingsx5
import Derived.Test.YtfknffpfjoalkaaZip
namespace Go.Proofs.Ytfknffpfjoalkaa.QFnGluings
open Go.Proofs.Ytfknffpfjoalkaa.Zip Go.RowKit Go.Proofs.YtfknffpfjoalkaaW.PrintWords Go.Proofs.YtfknffpfjoalkaaW.PrintLast Go.Proofs.YtfknffpfjoalkaaW.PrintMore
attribute [local go_sem] max2_int min2_int max_two min_two max_three min_three max_four min_four   -- for this text's walks alone
set_option linter.unusedVariables false
set_option linter.unusedSimpArgs false
mutual
def spec_ParseWord.l0 : Nat → ByteArray → List Int → Int → Option (List Int × Bool)
 | 0, _, _, _ => none
 | k + 1, x0, x4, x5 => if x5 < (x0.size : Int) then (if 0 ≤ x5 then (if (bt x0 x5) ≥ 97 then (spec_ParseWord.j1 k x0 x4 x5 (decide ((bt x0 x5) ≤ 104))) else (spec_ParseWord.j1 k x0 x4 x5 false)) else (none)) else (if (x4.length : Int) = 0 then (some ((([] : List Int)), false)) else (if (x4.length : Int) > 24 then (some ((([] : List Int)), false)) else (some (x4, true))))
def spec_ParseWord.j1 : Nat → ByteArray → List Int → Int → Bool → Option (List Int × Bool)
 | 0, _, _, _, _ => none
 | k + 1, x0, x4, x5, x17 => if x17 = true then (if 0 ≤ x5 then (if x5 < (x0.size : Int) then (if x4.length < 17592186044416 then (spec_ParseWord.l0 k x0 (x4 ++ [wrap64 ((wrap64 ((wrap64 (bt x0 x5)) - 97)) + 1)]) (wrap64 (x5 + 1))) else (none)) else (none)) else (none)) else (if 0 ≤ x5 then (if x5 < (x0.size : Int) then (if (bt x0 x5) ≥ 65 then (if (bt x0 x5) ≤ 72 then (if x4.length < 17592186044416 then (spec_ParseWord.l0 k x0 (x4 ++ [wrap64 (-(wrap64 ((wrap64 ((wrap64 (bt x0 x5)) - 65)) + 1)))]) (wrap64 (x5 + 1))) else (none)) else (some ((([] : List Int)), false))) else (some ((([] : List Int)), false))) else (none)) else (none))
end
def spec_ParseWord.f (k : Nat) (a0 : ByteArray) : Option (List Int × Bool) := (some (([] : List Int) : List Int)).bind fun y221 => (if a0.toList = ([45] : List UInt8) then (some (y221, true)) else (spec_ParseWord.l0 k a0 y221 0))
set_option maxHeartbeats 8000000 in
set_option maxRecDepth 100000 in
theorem spec_ParseWord.calls (k : Nat) (a0 : ByteArray) (r1 : List Int) (r2 : Bool) (w : World) (h : spec_ParseWord.f k a0 = some (r1, r2)) :
  Calls Try.prog 63 #[.string a0] w fun e w' => ∃ v0_ : Value, e = .returned (.tuple #[v0_, .bool r2]) ∧ Kd.R (Kd.int .i64) 3 w' w.heap.size (fun _ => True) v0_ r1 ∧ Below w.heap.size w w' := by
 have HB := Aside0.mk (Below.refl w.heap.size w)
 have H := h
 clear h
 unfold spec_ParseWord.f at H
 obtain ⟨y221, hy221⟩ : ∃ y_ : List Int, y_ = (([] : List Int)) := ⟨_, rfl⟩
 replace H : (if a0.toList = ([45] : List UInt8) then (some (y221, true)) else (spec_ParseWord.l0 k a0 y221 0)) = some (r1, r2) := zy hy221 H
 have Ny221 := Aside0.mk hy221
 clear hy221
 by_cases c2 : a0.toList = ([45] : List UInt8)
 ·
  rw [if_pos c2] at H
  have c2b0 : (a0.toList == ([45] : List UInt8)) = true := beq_iff_eq.mpr c2
  have c2b1 : (a0.toList != ([45] : List UInt8)) = false := bne_eq_false_iff_eq.mpr c2
  clear c2
  simp only [Option.some.injEq, Prod.mk.injEq] at H
  obtain ⟨rfl, rfl⟩ := H
  go_enter Try.func63, Try.ntmps63
  go_wp2_with (first | ((with_reducible refine gate_dst (N := 6) rfl ?_); (try (refine gate_guard (by rfl) ?_; dsimp only)); refine Kd.R_lit (Kd.int .i64) _ 3 ?hg (N := 6) ?hd (xs := ([] : List Int)) (inner := []) (ok := fun _ => True) (okp := fun _ => True) ?hr ?hp (fun _ hk => hk) trivial (Below.refl _ _) (Nat.le_refl _) (by simp) ?_; (case hd => rfl); (case hg => rfl); (case hr => first | (go_simp; done) | (go_simp; rfl)); (case hp => exact (Reps.none _ _)); intro v222 w3 ho4 hb hg_ hnew_; clear hg_ hnew_; (first | rw [← Ny221.out] at ho4 | (simp only [Int.reduceToNat] at ho4; rw [← Ny221.out] at ho4)); have HO223 := Aside0.mk (Kd.R_lower ho4 (below_size z0)); replace HB := Aside0.mk (below_step z0 hb); clear hb ho4))
  go_ret2
  exact ⟨_, ze, zr HO223.out, z0⟩
 ·
  rw [if_neg c2] at H
  have c2b0 : (a0.toList == ([45] : List UInt8)) = false := beq_eq_false_iff_ne.mpr c2
  have c2b1 : (a0.toList != ([45] : List UInt8)) = true := bne_iff_ne.mpr c2
  have H' := Aside0.mk H
  clear H
  go_enter Try.func63, Try.ntmps63
  go_wp2_with (first | ((with_reducible refine gate_dst (N := 6) rfl ?_); (try (refine gate_guard (by rfl) ?_; dsimp only)); refine Kd.R_lit (Kd.int .i64) _ 3 ?hg (N := 6) ?hd (xs := ([] : List Int)) (inner := []) (ok := fun _ => True) (okp := fun _ => True) ?hr ?hp (fun _ hk => hk) trivial (Below.refl _ _) (Nat.le_refl _) (by simp) ?_; (case hd => rfl); (case hg => rfl); (case hr => first | (go_simp; done) | (go_simp; rfl)); (case hp => exact (Reps.none _ _)); intro v222 w5 ho6 hb hg_ hnew_; clear hg_ hnew_; (first | rw [← Ny221.out] at ho6 | (simp only [Int.reduceToNat] at ho6; rw [← Ny221.out] at ho6)); have HO223 := Aside0.mk (Kd.R_lower ho6 (below_size z0)); replace HB := Aside0.mk (below_step z0 hb); clear hb ho6))
  go_loopg [4, 5] k (fun kq v4 v5 w' => ∃ (x4_1 : List Int) (x5_1 : Int), v5 = .int .i64 x5_1 ∧ Aside0 (spec_ParseWord.l0 kq a0 x4_1 x5_1 = some (r1, r2)) ∧ Aside0 (kq ≤ k) ∧ Aside0 (Kd.R (Kd.int .i64) 3 w' w.heap.size (fun _ => True) v4 x4_1) ∧ Aside0 (Below w.heap.size w w'))
  case atStart => exact ⟨(y221), (0), zd, H', ⟨Nat.le_refl _⟩, ⟨zr HO223.out⟩, ⟨z0⟩⟩
  case round =>
   clear H'
   try clear c2
   try clear c2b0
   try clear c2b1
   try clear p2
   try clear c6
   obtain ⟨x4_1, x5_1, rfl, HA, HK1, HO_4, HB⟩ := hrel
   cases gk with
   | zero => exact absurd HA.out (by simp [spec_ParseWord.l0])
   | succ k1 =>
    have H := HA.out
    clear HA
    simp only [spec_ParseWord.l0] at H
    by_cases c7 : x5_1 < (a0.size : Int)
    ·
     rw [if_pos c7] at H
     have c7b0 : decide (x5_1 < (a0.size : Int)) = true := decide_eq_true c7
     clear c7
     have HC8 := Aside0.mk H
     clear H
     go_upto_region 8 with (fail)
     go_cut [17] (fun v17 wc => ∃ (kq : Nat) (x17_7 : Bool), v17 = .bool x17_7 ∧ Aside0 (spec_ParseWord.j1 kq a0 x4_1 x5_1 x17_7 = some (r1, r2)) ∧ Aside0 (kq ≤ k1) ∧ Aside0 (Kd.R (Kd.int .i64) 3 wc w.heap.size (fun _ => True) u4 x4_1) ∧ Aside0 (Below w.heap.size w wc))
     case first =>
      have H := HC8.out
      clear HC8
      by_cases c9 : 0 ≤ x5_1
      ·
       rw [if_pos c9] at H
       have c9b0 : decide (0 ≤ x5_1) = true := decide_eq_true c9
       clear c9
       (first | rw [c9b0] | (simp only [i64_w, i32_w]; rw [c9b0]) | skip)
       by_cases c11 : (bt a0 x5_1) ≥ 97
       ·
        rw [if_pos c11] at H
        have c11b0 : decide (97 ≤ (bt a0 x5_1)) = true := decide_eq_true c11
        clear c11
        have H' := Aside0.mk H
        clear H
        have p10 : 0 ≤ (x5_1 : Int) := za
        have q10 : x5_1 < (a0.size : Int) := za
        have hx10 := bt_at a0 x5_1
        replace p10 := eq_true p10
        replace q10 := eq_true q10
        have p12 : 0 ≤ (x5_1 : Int) := za
        have q12 : x5_1 < (a0.size : Int) := za
        have hx12 := bt_at a0 x5_1
        replace p12 := eq_true p12
        replace q12 := eq_true q12
        go_wp2
        go_meet
        case rel => exact ⟨_, (decide ((bt a0 x5_1) ≤ 104)), zd, H', ⟨by have := HK1.out; first | omega | exact Nat.le_refl _⟩, ⟨zr HO_4.out⟩, ⟨z0⟩⟩
       ·
        rw [if_neg c11] at H
        have c11b0 : decide (97 ≤ (bt a0 x5_1)) = false := decide_eq_false c11
        clear c11
        have H' := Aside0.mk H
        clear H
        have p10 : 0 ≤ (x5_1 : Int) := za
        have q10 : x5_1 < (a0.size : Int) := za
        have hx10 := bt_at a0 x5_1
        replace p10 := eq_true p10
        replace q10 := eq_true q10
        go_wp2
        go_meet
        case rel => exact ⟨_, (false), zd, H', ⟨by have := HK1.out; first | omega | exact Nat.le_refl _⟩, ⟨zr HO_4.out⟩, ⟨z0⟩⟩
      ·
       rw [if_neg c9] at H
       exact absurd H (by simp)
     case rest =>
      clear HC8
      try clear c1
      try clear p1
      try clear q1
      try clear hx1
      try clear c2
      try clear c2b0
      try clear c2b1
      try clear p2
      try clear c6
      try clear c7
      try clear c7b0
      try clear c9
      try clear c9b0
      try clear p10
      try clear q10
      try clear hx10
      try clear c11
      try clear c11b0
      try clear p12
      try clear q12
      try clear hx12
      try clear p10
      try clear p12
      try clear p2
      try clear q10
      try clear q12
      obtain ⟨kq, x17_7, rfl, HA, HJ7, HO_4, HB⟩ := hcut
      cases kq with
      | zero => exact absurd HA.out (by simp [spec_ParseWord.j1])
      | succ kj7 =>
       have H := HA.out
       clear HA
       simp only [spec_ParseWord.j1] at H
       by_cases c13 : x17_7 = true
       ·
        subst c13
        rw [if_pos rfl] at H
        by_cases c14 : 0 ≤ x5_1
        ·
         rw [if_pos c14] at H
         have c14b0 : decide (0 ≤ x5_1) = true := decide_eq_true c14
         clear c14
         by_cases c15 : x5_1 < (a0.size : Int)
         ·
          rw [if_pos c15] at H
          have c15b0 : decide (x5_1 < (a0.size : Int)) = true := decide_eq_true c15
          clear c15
          by_cases c17 : x4_1.length < 17592186044416
          ·
           rw [if_pos c17] at H
           have LMc17 := Aside0.mk c17
           clear c17
           obtain ⟨y230, hy230⟩ : ∃ y_ : List Int, y_ = (x4_1 ++ [wrap64 ((wrap64 ((wrap64 (bt a0 x5_1)) - 97)) + 1)]) := ⟨_, rfl⟩
           replace H : (spec_ParseWord.l0 kj7 a0 y230 (wrap64 (x5_1 + 1))) = some (r1, r2) := zy hy230 H
           have Ny230 := Aside0.mk hy230
           clear hy230
           have H' := Aside0.mk H
           clear H
           have p16 : 0 ≤ (x5_1 : Int) := za
           have q16 : x5_1 < (a0.size : Int) := za
           have hx16 := bt_at a0 x5_1
           replace p16 := eq_true p16
           replace q16 := eq_true q16
           go_wp2_with (first | ((with_reducible refine gate_builtin (b := .append) (xs := #[.tmp 28, .tmp 35]) rfl ?_); (try (refine gate_guard (by rfl) ?_; dsimp only)); at_builtin; refine Kd.R_append (Kd.int .i64) (w0 := w) w.heap.size rfl (.tmp 28) (.tmp 35) 27 3 (.int .i64 0) 8 rfl Try.underlying27 info3 rfl (by decide) (by omega) u4 x4_1 (wrap64 ((wrap64 ((wrap64 (bt a0 x5_1)) - 97)) + 1)) [.int .i64 (wrap64 ((wrap64 ((wrap64 (bt a0 x5_1)) - 97)) + 1))] (fun _ => True) (fun _ => False) rfl rfl ?aP (fun _ hk => hk.elim) ?aF ?aO ?aB ?aS ?aL ?_; (case aP => exact rfl); (case aB => exact z0); (case aF => exact (fun _ _ => trivial)); (case aO => exact (zr HO_4.out)); (case aS => exact (below_size z0)); (case aL => have := LMc17.out; omega); intro v231 w18 ho hb hg hat; rw [← Ny230.out] at ho; have n0_ := Aside0.mk (hb); have n1_ := Aside0.mk (ho); clear HB; clear HO_4; have HB := n0_; have HO232 := n1_; clear n0_ n1_; clear ho hb hg hat))
           go_roundg kj7
           case measure => have := HK1.out; have := HJ7.out; omega
           case rel => exact ⟨(y230), (wrap64 (x5_1 + 1)), zd, H', ⟨by have := HK1.out; have := HJ7.out; omega⟩, ⟨zr HO232.out⟩, ⟨z0⟩⟩
          ·
           rw [if_neg c17] at H
           exact absurd H (by simp)
         ·
          rw [if_neg c15] at H
          exact absurd H (by simp)
        ·
         rw [if_neg c14] at H
         exact absurd H (by simp)
       ·
        replace c13 := Bool.eq_false_iff.mpr c13
        subst c13
        rw [if_neg (show ¬ (false = true) by decide)] at H
        by_cases c19 : 0 ≤ x5_1
        ·
         rw [if_pos c19] at H
         have c19b0 : decide (0 ≤ x5_1) = true := decide_eq_true c19
         clear c19
         by_cases c20 : x5_1 < (a0.size : Int)
         ·
          rw [if_pos c20] at H
          have c20b0 : decide (x5_1 < (a0.size : Int)) = true := decide_eq_true c20
          clear c20
          by_cases c22 : (bt a0 x5_1) ≥ 65
          ·
           rw [if_pos c22] at H
           have c22b0 : decide (65 ≤ (bt a0 x5_1)) = true := decide_eq_true c22
           clear c22
           by_cases c24 : (bt a0 x5_1) ≤ 72
           ·
            rw [if_pos c24] at H
            have c24b0 : decide ((bt a0 x5_1) ≤ 72) = true := decide_eq_true c24
            clear c24
            by_cases c26 : x4_1.length < 17592186044416
            ·
             rw [if_pos c26] at H
             have LMc26 := Aside0.mk c26
             clear c26
             obtain ⟨y233, hy233⟩ : ∃ y_ : List Int, y_ = (x4_1 ++ [wrap64 (-(wrap64 ((wrap64 ((wrap64 (bt a0 x5_1)) - 65)) + 1)))]) := ⟨_, rfl⟩
             replace H : (spec_ParseWord.l0 kj7 a0 y233 (wrap64 (x5_1 + 1))) = some (r1, r2) := zy hy233 H
             have Ny233 := Aside0.mk hy233
             clear hy233
             have H' := Aside0.mk H
             clear H
             have p21 : 0 ≤ (x5_1 : Int) := za
             have q21 : x5_1 < (a0.size : Int) := za
             have hx21 := bt_at a0 x5_1
             replace p21 := eq_true p21
             replace q21 := eq_true q21
             have p23 : 0 ≤ (x5_1 : Int) := za
             have q23 : x5_1 < (a0.size : Int) := za
             have hx23 := bt_at a0 x5_1
             replace p23 := eq_true p23
             replace q23 := eq_true q23
             have p25 : 0 ≤ (x5_1 : Int) := za
             have q25 : x5_1 < (a0.size : Int) := za
             have hx25 := bt_at a0 x5_1
             replace p25 := eq_true p25
             replace q25 := eq_true q25
             go_wp2_with (first | ((with_reducible refine gate_builtin (b := .append) (xs := #[.tmp 48, .tmp 56]) rfl ?_); (try (refine gate_guard (by rfl) ?_; dsimp only)); at_builtin; refine Kd.R_append (Kd.int .i64) (w0 := w) w.heap.size rfl (.tmp 48) (.tmp 56) 27 3 (.int .i64 0) 8 rfl Try.underlying27 info3 rfl (by decide) (by omega) u4 x4_1 (wrap64 (-(wrap64 ((wrap64 ((wrap64 (bt a0 x5_1)) - 65)) + 1)))) [.int .i64 (wrap64 (-(wrap64 ((wrap64 ((wrap64 (bt a0 x5_1)) - 65)) + 1))))] (fun _ => True) (fun _ => False) rfl rfl ?aP (fun _ hk => hk.elim) ?aF ?aO ?aB ?aS ?aL ?_; (case aP => exact rfl); (case aB => exact z0); (case aF => exact (fun _ _ => trivial)); (case aO => exact (zr HO_4.out)); (case aS => exact (below_size z0)); (case aL => have := LMc26.out; omega); intro v234 w27 ho hb hg hat; rw [← Ny233.out] at ho; have n0_ := Aside0.mk (hb); have n1_ := Aside0.mk (ho); clear HB; clear HO_4; have HB := n0_; have HO235 := n1_; clear n0_ n1_; clear ho hb hg hat))
             go_roundg kj7
             case measure => have := HK1.out; have := HJ7.out; omega
             case rel => exact ⟨(y233), (wrap64 (x5_1 + 1)), zd, H', ⟨by have := HK1.out; have := HJ7.out; omega⟩, ⟨zr HO235.out⟩, ⟨z0⟩⟩
            ·
             rw [if_neg c26] at H
             exact absurd H (by simp)
           ·
            rw [if_neg c24] at H
            have c24b0 : decide ((bt a0 x5_1) ≤ 72) = false := decide_eq_false c24
            clear c24
            obtain ⟨y236, hy236⟩ : ∃ y_ : List Int, y_ = (([] : List Int)) := ⟨_, rfl⟩
            replace H : (some (y236, false)) = some (r1, r2) := zy hy236 H
            have Ny236 := Aside0.mk hy236
            clear hy236
            simp only [Option.some.injEq, Prod.mk.injEq] at H
            obtain ⟨rfl, rfl⟩ := H
            have p21 : 0 ≤ (x5_1 : Int) := za
            have q21 : x5_1 < (a0.size : Int) := za
            have hx21 := bt_at a0 x5_1
            replace p21 := eq_true p21
            replace q21 := eq_true q21
            have p23 : 0 ≤ (x5_1 : Int) := za
            have q23 : x5_1 < (a0.size : Int) := za
            have hx23 := bt_at a0 x5_1
            replace p23 := eq_true p23
            replace q23 := eq_true q23
            go_wp2_with (first | ((with_reducible refine gate_dst (N := 16) rfl ?_); (try (refine gate_guard (by rfl) ?_; dsimp only)); refine Kd.R_lit (Kd.int .i64) _ 3 ?hg (N := 16) ?hd (xs := ([] : List Int)) (inner := []) (ok := fun _ => True) (okp := fun _ => True) ?hr ?hp (fun _ hk => hk) trivial (Below.refl _ _) (Nat.le_refl _) (by simp) ?_; (case hd => rfl); (case hg => rfl); (case hr => first | (go_simp; done) | (go_simp; rfl)); (case hp => exact (Reps.none _ _)); intro v237 w28 ho29 hb hg_ hnew_; clear hg_ hnew_; (first | rw [← Ny236.out] at ho29 | (simp only [Int.reduceToNat] at ho29; rw [← Ny236.out] at ho29)); have HO238 := Aside0.mk (Kd.R_lower (Kd.R_new' ho29 (Kd.R_lt (zr HO_4.out))) (below_size z0)); replace HO_4 := Aside0.mk (Kd.R_elder' (zr HO_4.out) (Kd.R_base ho29) hb); replace HB := Aside0.mk (below_step z0 hb); clear hb ho29))
            go_ret2
            exact ⟨_, ze, by (with_reducible repeat (first | apply Kd.R_alloc | apply Kd.R_drewN | apply Kd.R_drew)); exact Kd.R_mono HO238.out (fun _ hk => trivial), z0⟩
          ·
           rw [if_neg c22] at H
           have c22b0 : decide (65 ≤ (bt a0 x5_1)) = false := decide_eq_false c22
           clear c22
           obtain ⟨y239, hy239⟩ : ∃ y_ : List Int, y_ = (([] : List Int)) := ⟨_, rfl⟩
           replace H : (some (y239, false)) = some (r1, r2) := zy hy239 H
           have Ny239 := Aside0.mk hy239
           clear hy239
           simp only [Option.some.injEq, Prod.mk.injEq] at H
           obtain ⟨rfl, rfl⟩ := H
           have p21 : 0 ≤ (x5_1 : Int) := za
           have q21 : x5_1 < (a0.size : Int) := za
           have hx21 := bt_at a0 x5_1
           replace p21 := eq_true p21
           replace q21 := eq_true q21
           go_wp2_with (first | ((with_reducible refine gate_dst (N := 16) rfl ?_); (try (refine gate_guard (by rfl) ?_; dsimp only)); refine Kd.R_lit (Kd.int .i64) _ 3 ?hg (N := 16) ?hd (xs := ([] : List Int)) (inner := []) (ok := fun _ => True) (okp := fun _ => True) ?hr ?hp (fun _ hk => hk) trivial (Below.refl _ _) (Nat.le_refl _) (by simp) ?_; (case hd => rfl); (case hg => rfl); (case hr => first | (go_simp; done) | (go_simp; rfl)); (case hp => exact (Reps.none _ _)); intro v240 w30 ho31 hb hg_ hnew_; clear hg_ hnew_; (first | rw [← Ny239.out] at ho31 | (simp only [Int.reduceToNat] at ho31; rw [← Ny239.out] at ho31)); have HO241 := Aside0.mk (Kd.R_lower (Kd.R_new' ho31 (Kd.R_lt (zr HO_4.out))) (below_size z0)); replace HO_4 := Aside0.mk (Kd.R_elder' (zr HO_4.out) (Kd.R_base ho31) hb); replace HB := Aside0.mk (below_step z0 hb); clear hb ho31))
           go_ret2
           exact ⟨_, ze, by (with_reducible repeat (first | apply Kd.R_alloc | apply Kd.R_drewN | apply Kd.R_drew)); exact Kd.R_mono HO241.out (fun _ hk => trivial), z0⟩
         ·
          rw [if_neg c20] at H
          exact absurd H (by simp)
        ·
         rw [if_neg c19] at H
         exact absurd H (by simp)
    ·
     rw [if_neg c7] at H
     have c7b0 : decide (x5_1 < (a0.size : Int)) = false := decide_eq_false c7
     clear c7
     by_cases c32 : (x4_1.length : Int) = 0
     ·
      rw [if_pos c32] at H
      have c32b0 : ((x4_1.length : Int) == 0) = true := beq_iff_eq.mpr c32
      have c32b1 : ((x4_1.length : Int) != 0) = false := bne_eq_false_iff_eq.mpr c32
      clear c32
      obtain ⟨y224, hy224⟩ : ∃ y_ : List Int, y_ = (([] : List Int)) := ⟨_, rfl⟩
      replace H : (some (y224, false)) = some (r1, r2) := zy hy224 H
      have Ny224 := Aside0.mk hy224
      clear hy224
      simp only [Option.some.injEq, Prod.mk.injEq] at H
      obtain ⟨rfl, rfl⟩ := H
      obtain ⟨Ao33, co33, eo33⟩ := Kd.R_slice HO_4.out
      subst eo33
      go_wp2_with (first | ((with_reducible refine gate_dst (N := 66) rfl ?_); (try (refine gate_guard (by rfl) ?_; dsimp only)); refine Kd.R_lit (Kd.int .i64) _ 3 ?hg (N := 66) ?hd (xs := ([] : List Int)) (inner := []) (ok := fun _ => True) (okp := fun _ => True) ?hr ?hp (fun _ hk => hk) trivial (Below.refl _ _) (Nat.le_refl _) (by simp) ?_; (case hd => rfl); (case hg => rfl); (case hr => first | (go_simp; done) | (go_simp; rfl)); (case hp => exact (Reps.none _ _)); intro v225 w34 ho35 hb hg_ hnew_; clear hg_ hnew_; (first | rw [← Ny224.out] at ho35 | (simp only [Int.reduceToNat] at ho35; rw [← Ny224.out] at ho35)); have HO226 := Aside0.mk (Kd.R_lower (Kd.R_new' ho35 (Kd.R_lt (zr HO_4.out))) (below_size z0)); replace HO_4 := Aside0.mk (Kd.R_elder' (zr HO_4.out) (Kd.R_base ho35) hb); replace HB := Aside0.mk (below_step z0 hb); clear hb ho35))
      go_ret2
      exact ⟨_, ze, by (with_reducible repeat (first | apply Kd.R_alloc | apply Kd.R_drewN | apply Kd.R_drew)); exact Kd.R_mono HO226.out (fun _ hk => trivial), z0⟩
     ·
      rw [if_neg c32] at H
      have c32b0 : ((x4_1.length : Int) == 0) = false := beq_eq_false_iff_ne.mpr c32
      have c32b1 : ((x4_1.length : Int) != 0) = true := bne_iff_ne.mpr c32
      have c32b2 : ¬ (x4_1 = []) := fun h_ => c32 (by rw [h_]; rfl)
      by_cases c36 : (x4_1.length : Int) > 24
      ·
       rw [if_pos c36] at H
       have c36b0 : decide (24 < (x4_1.length : Int)) = true := decide_eq_true c36
       have c36b1 : decide (24 < x4_1.length) = true := decide_eq_true (by omega)
       clear c36
       obtain ⟨y227, hy227⟩ : ∃ y_ : List Int, y_ = (([] : List Int)) := ⟨_, rfl⟩
       replace H : (some (y227, false)) = some (r1, r2) := zy hy227 H
       have Ny227 := Aside0.mk hy227
       clear hy227
       simp only [Option.some.injEq, Prod.mk.injEq] at H
       obtain ⟨rfl, rfl⟩ := H
       obtain ⟨Ao37, co37, eo37⟩ := Kd.R_slice HO_4.out
       subst eo37
       go_wp2_with (first | ((with_reducible refine gate_dst (N := 66) rfl ?_); (try (refine gate_guard (by rfl) ?_; dsimp only)); refine Kd.R_lit (Kd.int .i64) _ 3 ?hg (N := 66) ?hd (xs := ([] : List Int)) (inner := []) (ok := fun _ => True) (okp := fun _ => True) ?hr ?hp (fun _ hk => hk) trivial (Below.refl _ _) (Nat.le_refl _) (by simp) ?_; (case hd => rfl); (case hg => rfl); (case hr => first | (go_simp; done) | (go_simp; rfl)); (case hp => exact (Reps.none _ _)); intro v228 w38 ho39 hb hg_ hnew_; clear hg_ hnew_; (first | rw [← Ny227.out] at ho39 | (simp only [Int.reduceToNat] at ho39; rw [← Ny227.out] at ho39)); have HO229 := Aside0.mk (Kd.R_lower (Kd.R_new' ho39 (Kd.R_lt (zr HO_4.out))) (below_size z0)); replace HO_4 := Aside0.mk (Kd.R_elder' (zr HO_4.out) (Kd.R_base ho39) hb); replace HB := Aside0.mk (below_step z0 hb); clear hb ho39))
       go_ret2
       exact ⟨_, ze, by (with_reducible repeat (first | apply Kd.R_alloc | apply Kd.R_drewN | apply Kd.R_drew)); exact Kd.R_mono HO229.out (fun _ hk => trivial), z0⟩
      ·
       rw [if_neg c36] at H
       have c36b0 : decide (24 < (x4_1.length : Int)) = false := decide_eq_false c36
       have c36b1 : decide (24 < x4_1.length) = false := decide_eq_false (by omega)
       clear c36
       simp only [Option.some.injEq, Prod.mk.injEq] at H
       obtain ⟨rfl, rfl⟩ := H
       obtain ⟨Ao40, co40, eo40⟩ := Kd.R_slice HO_4.out
       subst eo40
       go_wp2
       go_ret2
       exact ⟨_, ze, zr HO_4.out, z0⟩
def spec_ParseGluing.l0 : Nat → List (List Int) → List ByteArray → Int → Option ((List (List Int)) × Bool)
 | 0, _, _, _ => none
 | k + 1, x4, x5, x6 => if x6 < (x5.length : Int) then (if 0 ≤ x6 then ((spec_ParseWord.f k (rdOf ByteArray.empty x5 x6)).bind fun bt249 => (if bt249.2 = true then (if (bt249.1.length : Int) = 0 then (some ((([] : List (List Int))), false)) else (if x4.length < 5864062014805 then (spec_ParseGluing.l0 k (x4 ++ [bt249.1]) x5 (wrap64 (x6 + 1))) else (none))) else (some ((([] : List (List Int))), false)))) else (none)) else ((spec_IsGluing.f k x4).bind fun t262 => (if t262 = true then (some (x4, true)) else (some ((([] : List (List Int))), false))))
def spec_ParseGluing.f (k : Nat) (a0 : ByteArray) : Option ((List (List Int)) × Bool) := (spec_SplitByte.f k a0 32).bind fun t245 => (spec_ParseGluing.l0 k (([] : List (List Int))) t245 0)
set_option maxHeartbeats 8000000 in
set_option maxRecDepth 100000 in
theorem spec_ParseGluing.calls (k : Nat) (a0 : ByteArray) (r1 : List (List Int)) (r2 : Bool) (w : World) (h : spec_ParseGluing.f k a0 = some (r1, r2)) :
  Calls Try.prog 30 #[.string a0] w fun e w' => ∃ v0_ : Value, e = .returned (.tuple #[v0_, .bool r2]) ∧ Kd.S (Kd.slice 3 (Kd.int .i64)) 27 w' w.heap.size (fun _ => True) v0_ r1 ∧ Below w.heap.size w w' := by
 have HB := Aside0.mk (Below.refl w.heap.size w)
 have H := h
 clear h
 unfold spec_ParseGluing.f at H
 obtain ⟨y242, hy242⟩ : ∃ y_ : List (List Int), y_ = (([] : List (List Int))) := ⟨_, rfl⟩
 replace H : ((spec_SplitByte.f k a0 32).bind fun t245 => (spec_ParseGluing.l0 k y242 t245 0)) = some (r1, r2) := zy hy242 H
 have Ny242 := Aside0.mk hy242
 clear hy242
 replace H := Option.bind_eq_some_iff.mp H
 obtain ⟨t245, A20, H⟩ := H
 have A2 := Aside0.mk A20
 clear A20
 have H' := Aside0.mk H
 clear H
 go_enter Try.func30, Try.ntmps30
 go_wp2_with (first | ((with_reducible refine gate_dst (N := 9) rfl ?_); (try (refine gate_guard (by rfl) ?_; dsimp only)); refine Kd.S_lit (Kd.slice 3 (Kd.int .i64)) _ 27 ?hg (N := 9) ?hd (xs := ([] : List (List Int))) (inner := []) (ok := fun _ => True) (okp := fun _ => True) ?hr ?hp (fun _ hk => hk) trivial (Below.refl _ _) (Nat.le_refl _) (by simp) ?_; (case hd => rfl); (case hg => rfl); (case hr => first | (go_simp; done) | (go_simp; rfl)); (case hp => exact (Reps.none _ _)); intro v243 w3 ho4 hb hg_ hnew_; clear hg_ hnew_; (first | rw [← Ny242.out] at ho4 | (simp only [Int.reduceToNat] at ho4; rw [← Ny242.out] at ho4)); have HO244 := Aside0.mk (Kd.S_lower ho4 (below_size z0)); replace HB := Aside0.mk (below_step z0 hb); clear hb ho4) | ((with_reducible refine zg 62 rfl ?_); refine zl (some 11) Try.func62 #[.string a0, .int .u8 32] ?_; (with_reducible refine (spec_SplitByte.calls k a0 32 t245 _ A2.out).mono ?_); rintro e w5 ⟨v246, rfl, ho0, hb⟩; refine ⟨_, rfl, ?_⟩; replace HO244 := Aside0.mk (Kd.S_below (zs HO244.out) hb); have HO247 := Aside0.mk (Kd.R_lower ho0 (below_size z0)); replace HB := Aside0.mk (below_step z0 hb)))
 go_loopg [4, 6] k (fun kq v4 v6 w' => ∃ (x4_1 : List (List Int)) (x6_1 : Int), v6 = .int .i64 x6_1 ∧ Aside0 (spec_ParseGluing.l0 kq x4_1 t245 x6_1 = some (r1, r2)) ∧ Aside0 (kq ≤ k) ∧ Aside0 (Kd.S (Kd.slice 3 (Kd.int .i64)) 27 w' w.heap.size (fun _ => True) v4 x4_1) ∧ Aside0 (Kd.R Kd.string 9 w' w.heap.size (fun _ => True) v246 t245) ∧ Aside0 (Below w.heap.size w w'))
 case atStart => exact ⟨(y242), (0), zd, H', ⟨Nat.le_refl _⟩, ⟨zs HO244.out⟩, ⟨zr HO247.out⟩, ⟨z0⟩⟩
 case round =>
  clear H'
  try clear p2
  try clear c3
  obtain ⟨x4_1, x6_1, rfl, HA, HK1, HO_4, HO_5, HB⟩ := hrel
  cases gk with
  | zero => exact absurd HA.out (by simp [spec_ParseGluing.l0])
  | succ k1 =>
   have H := HA.out
   clear HA
   simp only [spec_ParseGluing.l0] at H
   by_cases c6 : x6_1 < (t245.length : Int)
   ·
    rw [if_pos c6] at H
    have c6b0 : decide (x6_1 < (t245.length : Int)) = true := decide_eq_true c6
    clear c6
    by_cases c7 : 0 ≤ x6_1
    ·
     rw [if_pos c7] at H
     have c7b0 : decide (0 ≤ x6_1) = true := decide_eq_true c7
     clear c7
     replace H := Option.bind_eq_some_iff.mp H
     obtain ⟨⟨t249, t250⟩, A80, H⟩ := H
     dsimp only at H
     have A8 := Aside0.mk A80
     clear A80
     by_cases c9 : t250 = true
     ·
      subst c9
      rw [if_pos rfl] at H
      by_cases c10 : (t249.length : Int) = 0
      ·
       rw [if_pos c10] at H
       have c10b0 : ((t249.length : Int) == 0) = true := beq_iff_eq.mpr c10
       have c10b1 : ((t249.length : Int) != 0) = false := bne_eq_false_iff_eq.mpr c10
       clear c10
       obtain ⟨y253, hy253⟩ : ∃ y_ : List (List Int), y_ = (([] : List (List Int))) := ⟨_, rfl⟩
       replace H : (some (y253, false)) = some (r1, r2) := zy hy253 H
       have Ny253 := Aside0.mk hy253
       clear hy253
       simp only [Option.some.injEq, Prod.mk.injEq] at H
       obtain ⟨rfl, rfl⟩ := H
       obtain ⟨Ao11, co11, eo11⟩ := Kd.R_slice HO_5.out
       subst eo11
       have p248 : 0 ≤ (x6_1 : Int) := za
       have q248 : x6_1 < (t245.length : Int) := za
       obtain ⟨ad248, e248, hx248_0⟩ := Kd.at_string (Kd.R_reads' HO_5.out).2.2 x6_1 p248 q248
       cases e248
       replace p248 := eq_true p248
       replace q248 := eq_true q248
       go_wp2_with (first | ((with_reducible refine zg 63 rfl ?_); refine zl (some 23) Try.func63 #[.string (rdOf ByteArray.empty t245 x6_1)] ?_; (with_reducible refine (spec_ParseWord.calls k1 (rdOf ByteArray.empty t245 x6_1) t249 true _ A8.out).mono ?_); rintro e w12 ⟨v251, rfl, ho0, hb⟩; refine ⟨_, rfl, ?_⟩; replace HO_4 := Aside0.mk (Kd.S_elder' (zs HO_4.out) (Kd.R_base ho0) hb); replace HO_5 := Aside0.mk (Kd.R_below (zr HO_5.out) hb); have HO252 := Aside0.mk (Kd.R_lower ho0 (below_size z0)); replace HB := Aside0.mk (below_step z0 hb); (try clear hb); (try clear hb2); (try clear hk); (try clear hi); (try clear ho0); obtain ⟨Ao13, co13, eo13⟩ := Kd.R_slice HO252.out; subst eo13) | ((with_reducible refine gate_dst (N := 33) rfl ?_); (try (refine gate_guard (by rfl) ?_; dsimp only)); refine Kd.S_lit (Kd.slice 3 (Kd.int .i64)) _ 27 ?hg (N := 33) ?hd (xs := ([] : List (List Int))) (inner := []) (ok := fun _ => True) (okp := fun _ => True) ?hr ?hp (fun _ hk => hk) trivial (Below.refl _ _) (Nat.le_refl _) (by simp) ?_; (case hd => rfl); (case hg => rfl); (case hr => first | (go_simp; done) | (go_simp; rfl)); (case hp => exact (Reps.none _ _)); intro v254 w14 ho15 hb hg_ hnew_; clear hg_ hnew_; (first | rw [← Ny253.out] at ho15 | (simp only [Int.reduceToNat] at ho15; rw [← Ny253.out] at ho15)); replace HO_5 := Aside0.mk (Kd.R_below (zr HO_5.out) hb); have HO255 := Aside0.mk (Kd.S_lower (Kd.S_new' (Kd.S_new' ho15 (Kd.S_lt (zs HO_4.out))) (Kd.R_lt (zr HO252.out))) (below_size z0)); replace HO_4 := Aside0.mk (Kd.S_elder' (zs HO_4.out) (Kd.S_base ho15) hb); replace HO252 := Aside0.mk (Kd.R_below (zr HO252.out) hb); replace HB := Aside0.mk (below_step z0 hb); clear hb ho15))
       go_ret2
       exact ⟨_, ze, by (with_reducible repeat (first | apply Kd.S_alloc | apply Kd.S_drewN | apply Kd.S_drew)); exact Kd.S_mono HO255.out (fun _ hk => trivial), z0⟩
      ·
       rw [if_neg c10] at H
       have c10b0 : ((t249.length : Int) == 0) = false := beq_eq_false_iff_ne.mpr c10
       have c10b1 : ((t249.length : Int) != 0) = true := bne_iff_ne.mpr c10
       have c10b2 : ¬ (t249 = []) := fun h_ => c10 (by rw [h_]; rfl)
       by_cases c16 : x4_1.length < 5864062014805
       ·
        rw [if_pos c16] at H
        have LMc16 := Aside0.mk c16
        clear c16
        obtain ⟨y256, hy256⟩ : ∃ y_ : List (List Int), y_ = (x4_1 ++ [t249]) := ⟨_, rfl⟩
        replace H : (spec_ParseGluing.l0 k1 y256 t245 (wrap64 (x6_1 + 1))) = some (r1, r2) := zy hy256 H
        have Ny256 := Aside0.mk hy256
        clear hy256
        have H' := Aside0.mk H
        clear H
        obtain ⟨Ao17, co17, eo17⟩ := Kd.R_slice HO_5.out
        subst eo17
        have p248 : 0 ≤ (x6_1 : Int) := za
        have q248 : x6_1 < (t245.length : Int) := za
        obtain ⟨ad248, e248, hx248_0⟩ := Kd.at_string (Kd.R_reads' HO_5.out).2.2 x6_1 p248 q248
        cases e248
        replace p248 := eq_true p248
        replace q248 := eq_true q248
        go_wp2_with (first | ((with_reducible refine zg 63 rfl ?_); refine zl (some 23) Try.func63 #[.string (rdOf ByteArray.empty t245 x6_1)] ?_; (with_reducible refine (spec_ParseWord.calls k1 (rdOf ByteArray.empty t245 x6_1) t249 true _ A8.out).mono ?_); rintro e w18 ⟨v251, rfl, ho0, hb⟩; refine ⟨_, rfl, ?_⟩; replace HO_4 := Aside0.mk (Kd.S_elder' (zs HO_4.out) (Kd.R_base ho0) hb); replace HO_5 := Aside0.mk (Kd.R_below (zr HO_5.out) hb); have HO252 := Aside0.mk (Kd.R_lower ho0 (below_size z0)); replace HB := Aside0.mk (below_step z0 hb); (try clear hb); (try clear hb2); (try clear hk); (try clear hi); (try clear ho0); obtain ⟨Ao19, co19, eo19⟩ := Kd.R_slice HO252.out; subst eo19) | ((with_reducible refine gate_builtin (b := .append) (xs := #[.tmp 34, .tmp 36]) rfl ?_); (try (refine gate_guard (by rfl) ?_; dsimp only)); at_builtin; refine Kd.S_append (Kd.slice 3 (Kd.int .i64)) (w0 := w) w.heap.size rfl (.tmp 34) (.tmp 36) 22 27 (.slice none 0 0) 24 rfl Try.underlying22 info27 rfl (by decide) (by omega) u4 x4_1 t249 [.slice Ao19 t249.length co19] (fun _ => True) (fun k_ => some k_ = (.slice Ao19 t249.length co19 : Value).ownBlock) rfl rfl ?aP (fun k_ hk_ => ((Kd.R_mono (ok' := fun k_ => ((fun _ => True)) k_ ∧ some k_ ≠ (u4 : Value).ownBlock) (Kd.R_apart' (HO252.out) (Kd.S_typed HO_4.out) (by decide)) (fun k_ hk => ⟨trivial, hk.2⟩))).1 k_ hk_.symm) ?aF ?aO ?aB ?aS ?aL ?_; (case aP => exact Kd.M_row (Kd.R_mono (Kd.R_tight rfl (Kd.R_mono (ok' := fun k_ => ((fun _ => True)) k_ ∧ some k_ ≠ (u4 : Value).ownBlock) (Kd.R_apart' (HO252.out) (Kd.S_typed HO_4.out) (by decide)) (fun k_ hk => ⟨trivial, hk.2⟩))) (fun _ h_ => h_))); (case aB => exact z0); (case aF => exact (fun _ _ => trivial)); (case aO => exact (by (with_reducible repeat (first | apply Kd.S_alloc | apply Kd.S_drewN | apply Kd.S_drew)); exact Kd.S_mono HO_4.out (fun k_ hk => ⟨trivial, fun e_ => hk.2 e_⟩))); (case aS => exact (below_size z0)); (case aL => have := LMc16.out; omega); intro v257 w20 ho hb hg hat; rw [← Ny256.out] at ho; have n0_ := Aside0.mk (Kd.R_over' (zr HO_5.out) (Kd.S_typed (zs HO_4.out)) (by decide) hg); have n1_ := Aside0.mk (hb); have n2_ := Aside0.mk (ho); clear HO_5; clear HB; clear HO_4; clear HO252; have HO_5 := n0_; have HB := n1_; have HO258 := n2_; clear n0_ n1_ n2_; clear ho hb hg hat))
        go_roundg k1
        case measure => have := HK1.out; omega
        case rel => exact ⟨(y256), (wrap64 (x6_1 + 1)), zd, H', ⟨by have := HK1.out; omega⟩, ⟨zs HO258.out⟩, ⟨zr HO_5.out⟩, ⟨z0⟩⟩
       ·
        rw [if_neg c16] at H
        exact absurd H (by simp)
     ·
      replace c9 := Bool.eq_false_iff.mpr c9
      subst c9
      rw [if_neg (show ¬ (false = true) by decide)] at H
      obtain ⟨y259, hy259⟩ : ∃ y_ : List (List Int), y_ = (([] : List (List Int))) := ⟨_, rfl⟩
      replace H : (some (y259, false)) = some (r1, r2) := zy hy259 H
      have Ny259 := Aside0.mk hy259
      clear hy259
      simp only [Option.some.injEq, Prod.mk.injEq] at H
      obtain ⟨rfl, rfl⟩ := H
      obtain ⟨Ao21, co21, eo21⟩ := Kd.R_slice HO_5.out
      subst eo21
      have p248 : 0 ≤ (x6_1 : Int) := za
      have q248 : x6_1 < (t245.length : Int) := za
      obtain ⟨ad248, e248, hx248_0⟩ := Kd.at_string (Kd.R_reads' HO_5.out).2.2 x6_1 p248 q248
      cases e248
      replace p248 := eq_true p248
      replace q248 := eq_true q248
      go_wp2_with (first | ((with_reducible refine zg 63 rfl ?_); refine zl (some 23) Try.func63 #[.string (rdOf ByteArray.empty t245 x6_1)] ?_; (with_reducible refine (spec_ParseWord.calls k1 (rdOf ByteArray.empty t245 x6_1) t249 false _ A8.out).mono ?_); rintro e w22 ⟨v251, rfl, ho0, hb⟩; refine ⟨_, rfl, ?_⟩; replace HO_4 := Aside0.mk (Kd.S_elder' (zs HO_4.out) (Kd.R_base ho0) hb); replace HO_5 := Aside0.mk (Kd.R_below (zr HO_5.out) hb); have HO252 := Aside0.mk (Kd.R_lower ho0 (below_size z0)); replace HB := Aside0.mk (below_step z0 hb)) | ((with_reducible refine gate_dst (N := 33) rfl ?_); (try (refine gate_guard (by rfl) ?_; dsimp only)); refine Kd.S_lit (Kd.slice 3 (Kd.int .i64)) _ 27 ?hg (N := 33) ?hd (xs := ([] : List (List Int))) (inner := []) (ok := fun _ => True) (okp := fun _ => True) ?hr ?hp (fun _ hk => hk) trivial (Below.refl _ _) (Nat.le_refl _) (by simp) ?_; (case hd => rfl); (case hg => rfl); (case hr => first | (go_simp; done) | (go_simp; rfl)); (case hp => exact (Reps.none _ _)); intro v260 w23 ho24 hb hg_ hnew_; clear hg_ hnew_; (first | rw [← Ny259.out] at ho24 | (simp only [Int.reduceToNat] at ho24; rw [← Ny259.out] at ho24)); replace HO_5 := Aside0.mk (Kd.R_below (zr HO_5.out) hb); have HO261 := Aside0.mk (Kd.S_lower (Kd.S_new' (Kd.S_new' ho24 (Kd.S_lt (zs HO_4.out))) (Kd.R_lt (zr HO252.out))) (below_size z0)); replace HO_4 := Aside0.mk (Kd.S_elder' (zs HO_4.out) (Kd.S_base ho24) hb); replace HO252 := Aside0.mk (Kd.R_below (zr HO252.out) hb); replace HB := Aside0.mk (below_step z0 hb); clear hb ho24))
      go_ret2
      exact ⟨_, ze, by (with_reducible repeat (first | apply Kd.S_alloc | apply Kd.S_drewN | apply Kd.S_drew)); exact Kd.S_mono HO261.out (fun _ hk => trivial), z0⟩
    ·
     rw [if_neg c7] at H
     exact absurd H (by simp)
   ·
    rw [if_neg c6] at H
    have c6b0 : decide (x6_1 < (t245.length : Int)) = false := decide_eq_false c6
    clear c6
    replace H := Option.bind_eq_some_iff.mp H
    obtain ⟨t262, A250, H⟩ := H
    have A25 := Aside0.mk A250
    clear A250
    by_cases c26 : t262 = true
    ·
     subst c26
     rw [if_pos rfl] at H
     simp only [Option.some.injEq, Prod.mk.injEq] at H
     obtain ⟨rfl, rfl⟩ := H
     obtain ⟨Ao27, co27, eo27⟩ := Kd.R_slice HO_5.out
     subst eo27
     obtain ⟨Ao28, co28, eo28⟩ := Kd.S_slice HO_4.out
     subst eo28
     go_wp2_with (first | ((with_reducible refine zg 16 rfl ?_); refine zl (some 39) Try.func16 #[.slice Ao28 x4_1.length co28] ?_; (with_reducible refine (spec_IsGluing.calls k1 _ _ x4_1 true _ ?side1 ?side2 A25.out).mono ?_); (case side1 => exact zc (Kd.S_reads' HO_4.out).2.2); (case side2 => exact (Kd.S_reads' HO_4.out).2.1); rintro e w29 ⟨rfl, hb⟩; refine ⟨_, rfl, ?_⟩; replace HO_4 := Aside0.mk (Kd.S_below (zs HO_4.out) hb); replace HO_5 := Aside0.mk (Kd.R_below (zr HO_5.out) hb); replace HB := Aside0.mk (below_step z0 hb)))
     go_ret2
     exact ⟨_, ze, zs HO_4.out, z0⟩
    ·
     replace c26 := Bool.eq_false_iff.mpr c26
     subst c26
     rw [if_neg (show ¬ (false = true) by decide)] at H
     obtain ⟨y263, hy263⟩ : ∃ y_ : List (List Int), y_ = (([] : List (List Int))) := ⟨_, rfl⟩
     replace H : (some (y263, false)) = some (r1, r2) := zy hy263 H
     have Ny263 := Aside0.mk hy263
     clear hy263
     simp only [Option.some.injEq, Prod.mk.injEq] at H
     obtain ⟨rfl, rfl⟩ := H
     obtain ⟨Ao30, co30, eo30⟩ := Kd.R_slice HO_5.out
     subst eo30
     obtain ⟨Ao31, co31, eo31⟩ := Kd.S_slice HO_4.out
     subst eo31
     go_wp2_with (first | ((with_reducible refine zg 16 rfl ?_); refine zl (some 39) Try.func16 #[.slice Ao31 x4_1.length co31] ?_; (with_reducible refine (spec_IsGluing.calls k1 _ _ x4_1 false _ ?side1 ?side2 A25.out).mono ?_); (case side1 => exact zc (Kd.S_reads' HO_4.out).2.2); (case side2 => exact (Kd.S_reads' HO_4.out).2.1); rintro e w32 ⟨rfl, hb⟩; refine ⟨_, rfl, ?_⟩; replace HO_4 := Aside0.mk (Kd.S_below (zs HO_4.out) hb); replace HO_5 := Aside0.mk (Kd.R_below (zr HO_5.out) hb); replace HB := Aside0.mk (below_step z0 hb)) | ((with_reducible refine gate_dst (N := 41) rfl ?_); (try (refine gate_guard (by rfl) ?_; dsimp only)); refine Kd.S_lit (Kd.slice 3 (Kd.int .i64)) _ 27 ?hg (N := 41) ?hd (xs := ([] : List (List Int))) (inner := []) (ok := fun _ => True) (okp := fun _ => True) ?hr ?hp (fun _ hk => hk) trivial (Below.refl _ _) (Nat.le_refl _) (by simp) ?_; (case hd => rfl); (case hg => rfl); (case hr => first | (go_simp; done) | (go_simp; rfl)); (case hp => exact (Reps.none _ _)); intro v264 w33 ho34 hb hg_ hnew_; clear hg_ hnew_; (first | rw [← Ny263.out] at ho34 | (simp only [Int.reduceToNat] at ho34; rw [← Ny263.out] at ho34)); replace HO_5 := Aside0.mk (Kd.R_below (zr HO_5.out) hb); have HO265 := Aside0.mk (Kd.S_lower (Kd.S_new' ho34 (Kd.S_lt (zs HO_4.out))) (below_size z0)); replace HO_4 := Aside0.mk (Kd.S_elder' (zs HO_4.out) (Kd.S_base ho34) hb); replace HB := Aside0.mk (below_step z0 hb); clear hb ho34))
     go_ret2
     exact ⟨_, ze, by (with_reducible repeat (first | apply Kd.S_alloc | apply Kd.S_drewN | apply Kd.S_drew)); exact Kd.S_mono HO265.out (fun _ hk => trivial), z0⟩
def impl_SplitByte.l0 : Nat → ByteArray → Int → List ByteArray → Int → Int → Int → Option (List ByteArray)
 | 0, _, _, _, _, _, _ => none
 | k + 1, x0, x1, x5, x6, x10, x11 => if x11 < x10 then (if 0 ≤ x11 then (if x11 < (x0.size : Int) then (if (bt x0 x11) = x1 then (if 0 ≤ x6 then (if x6 ≤ x11 then (if x11 ≤ (x0.size : Int) then (if x5.length < 8796093022208 then (impl_SplitByte.l0 k x0 x1 (x5 ++ [x0.extract (x6 : Int).toNat (x11 : Int).toNat]) (wrap64 (x11 + 1)) x10 (wrap64 (x11 + 1))) else (none)) else (none)) else (none)) else (none)) else (impl_SplitByte.l0 k x0 x1 x5 x6 x10 (wrap64 (x11 + 1)))) else (none)) else (none)) else (if 0 ≤ x6 then (if x6 ≤ (x0.size : Int) then (if x5.length < 8796093022208 then (some (x5 ++ [x0.extract (x6 : Int).toNat x0.size])) else (none)) else (none)) else (none))
def impl_SplitByte.f (k : Nat) (a0 : ByteArray) (a1 : Int) : Option (List ByteArray) := impl_SplitByte.l0 k a0 a1 (([] : List ByteArray)) 0 (a0.size : Int) 0
set_option maxHeartbeats 8000000 in
set_option maxRecDepth 100000 in
theorem impl_SplitByte.calls (k : Nat) (a0 : ByteArray) (a1 : Int) (r : List ByteArray) (w : World) (h : impl_SplitByte.f k a0 a1 = some r) :
  Calls Try.prog 64 #[.string a0, .int .u8 a1] w fun e w' => ∃ v0_ : Value, e = .returned (v0_) ∧ Kd.R Kd.string 9 w' w.heap.size (fun _ => True) v0_ r ∧ Below w.heap.size w w' := by
 have HB := Aside0.mk (Below.refl w.heap.size w)
 have H := h
 clear h
 unfold impl_SplitByte.f at H
 obtain ⟨y266, hy266⟩ : ∃ y_ : List ByteArray, y_ = (([] : List ByteArray)) := ⟨_, rfl⟩
 replace H : (impl_SplitByte.l0 k a0 a1 y266 0 (a0.size : Int) 0) = some r := zy hy266 H
 have Ny266 := Aside0.mk hy266
 clear hy266
 have H' := Aside0.mk H
 clear H
 go_enter Try.func64, Try.ntmps64
 go_wp2_with (first | ((with_reducible refine gate_dst (N := 8) rfl ?_); refine Kd.R_lit Kd.string _ 9 ?hg (N := 8) ?hd (xs := ([] : List ByteArray)) (inner := []) (ok := fun _ => True) (okp := fun _ => True) ?hr ?hp (fun _ hk => hk) trivial (Below.refl _ _) (Nat.le_refl _) (by simp) ?_; (case hd => rfl); (case hg => rfl); (case hr => first | (go_simp; done) | (go_simp; rfl)); (case hp => exact (Reps.none _ _)); intro v267 w3 ho4 hb hg_ hnew_; clear hg_ hnew_; (first | rw [← Ny266.out] at ho4 | (simp only [Int.reduceToNat] at ho4; rw [← Ny266.out] at ho4)); have HO268 := Aside0.mk (Kd.R_lower ho4 (below_size z0)); replace HB := Aside0.mk (below_step z0 hb); clear hb ho4))
 go_loopg [5, 6, 11] k (fun kq v5 v6 v11 w' => ∃ (x5_1 : List ByteArray) (x6_1 : Int) (x11_1 : Int), v6 = .int .i64 x6_1 ∧ v11 = .int .i64 x11_1 ∧ Aside0 (impl_SplitByte.l0 kq a0 a1 x5_1 x6_1 (a0.size : Int) x11_1 = some r) ∧ Aside0 (kq ≤ k) ∧ Aside0 (Kd.R Kd.string 9 w' w.heap.size (fun _ => True) v5 x5_1) ∧ Aside0 (Below w.heap.size w w'))
 case atStart => exact ⟨(y266), (0), (0), zd, zd, H', ⟨Nat.le_refl _⟩, ⟨zr HO268.out⟩, ⟨z0⟩⟩
 case round =>
  clear H'
  try clear p2
  obtain ⟨x5_1, x6_1, x11_1, rfl, rfl, HA, HK1, HO_5, HB⟩ := hrel
  cases gk with
  | zero => exact absurd HA.out (by simp [impl_SplitByte.l0])
  | succ k1 =>
   have H := HA.out
   clear HA
   simp only [impl_SplitByte.l0] at H
   by_cases c5 : x11_1 < (a0.size : Int)
   ·
    rw [if_pos c5] at H
    have c5b0 : decide (x11_1 < (a0.size : Int)) = true := decide_eq_true c5
    clear c5
    by_cases c6 : 0 ≤ x11_1
    ·
     rw [if_pos c6] at H
     have c6b0 : decide (0 ≤ x11_1) = true := decide_eq_true c6
     clear c6
     by_cases c7 : x11_1 < (a0.size : Int)
     ·
      rw [if_pos c7] at H
      have c7b0 : decide (x11_1 < (a0.size : Int)) = true := decide_eq_true c7
      clear c7
      by_cases c9 : (bt a0 x11_1) = a1
      ·
       rw [if_pos c9] at H
       have c9b0 : ((bt a0 x11_1) == a1) = true := beq_iff_eq.mpr c9
       have c9b1 : ((bt a0 x11_1) != a1) = false := bne_eq_false_iff_eq.mpr c9
       clear c9
       by_cases c10 : 0 ≤ x6_1
       ·
        rw [if_pos c10] at H
        have c10b0 := eq_true c10
        have c10b1 : decide (0 ≤ x6_1) = true := decide_eq_true c10
        clear c10
        by_cases c11 : x6_1 ≤ x11_1
        ·
         rw [if_pos c11] at H
         have c11b0 := eq_true c11
         have c11b1 : decide (x6_1 ≤ x11_1) = true := decide_eq_true c11
         clear c11
         by_cases c12 : x11_1 ≤ (a0.size : Int)
         ·
          rw [if_pos c12] at H
          have c12b0 := eq_true c12
          have c12b1 : decide (x11_1 ≤ (a0.size : Int)) = true := decide_eq_true c12
          clear c12
          by_cases c13 : x5_1.length < 8796093022208
          ·
           rw [if_pos c13] at H
           have LMc13 := Aside0.mk c13
           clear c13
           obtain ⟨y269, hy269⟩ : ∃ y_ : List ByteArray, y_ = (x5_1 ++ [a0.extract (x6_1 : Int).toNat (x11_1 : Int).toNat]) := ⟨_, rfl⟩
           replace H : (impl_SplitByte.l0 k1 a0 a1 y269 (wrap64 (x11_1 + 1)) (a0.size : Int) (wrap64 (x11_1 + 1))) = some r := zy hy269 H
           have Ny269 := Aside0.mk hy269
           clear hy269
           have H' := Aside0.mk H
           clear H
           have p8 : 0 ≤ (x11_1 : Int) := za
           have q8 : x11_1 < (a0.size : Int) := za
           have hx8 := bt_at a0 x11_1
           replace p8 := eq_true p8
           replace q8 := eq_true q8
           go_wp2_with (first | ((with_reducible refine gate_builtin (b := .append) (xs := #[.tmp 19, .tmp 24]) rfl ?_); at_builtin; refine Kd.R_append Kd.string (w0 := w) w.heap.size rfl (.tmp 19) (.tmp 24) 52 9 (.string ⟨#[]⟩) 16 rfl Try.underlying52 info9 rfl (by decide) (by omega) u5 x5_1 (a0.extract (x6_1 : Int).toNat (x11_1 : Int).toNat) [.string (a0.extract (x6_1 : Int).toNat (x11_1 : Int).toNat)] (fun _ => True) (fun _ => False) rfl rfl ?aP (fun _ hk => hk.elim) ?aF ?aO ?aB ?aS ?aL ?_; (case aP => exact rfl); (case aB => exact z0); (case aF => exact (fun _ _ => trivial)); (case aO => exact (zr HO_5.out)); (case aS => exact (below_size z0)); (case aL => have := LMc13.out; omega); intro v270 w14 ho hb hg hat; rw [← Ny269.out] at ho; have n0_ := Aside0.mk (hb); have n1_ := Aside0.mk (ho); clear HB; clear HO_5; have HB := n0_; have HO271 := n1_; clear n0_ n1_; clear ho hb hg hat))
           go_roundg k1
           case measure => have := HK1.out; omega
           case rel => exact ⟨(y269), (wrap64 (x11_1 + 1)), (wrap64 (x11_1 + 1)), zd, zd, H', ⟨by have := HK1.out; omega⟩, ⟨zr HO271.out⟩, ⟨z0⟩⟩
          ·
           rw [if_neg c13] at H
           exact absurd H (by simp)
         ·
          rw [if_neg c12] at H
          exact absurd H (by simp)
        ·
         rw [if_neg c11] at H
         exact absurd H (by simp)
       ·
        rw [if_neg c10] at H
        exact absurd H (by simp)
      ·
       rw [if_neg c9] at H
       have c9b0 : ((bt a0 x11_1) == a1) = false := beq_eq_false_iff_ne.mpr c9
       have c9b1 : ((bt a0 x11_1) != a1) = true := bne_iff_ne.mpr c9
       have H' := Aside0.mk H
       clear H
       have p8 : 0 ≤ (x11_1 : Int) := za
       have q8 : x11_1 < (a0.size : Int) := za
       have hx8 := bt_at a0 x11_1
       replace p8 := eq_true p8
       replace q8 := eq_true q8
       go_wp2
       go_roundg k1
       case measure => have := HK1.out; omega
       case rel => exact ⟨(x5_1), (x6_1), (wrap64 (x11_1 + 1)), zd, zd, H', ⟨by have := HK1.out; omega⟩, ⟨zr HO_5.out⟩, ⟨z0⟩⟩
     ·
      rw [if_neg c7] at H
      exact absurd H (by simp)
    ·
     rw [if_neg c6] at H
     exact absurd H (by simp)
   ·
    rw [if_neg c5] at H
    have c5b0 : decide (x11_1 < (a0.size : Int)) = false := decide_eq_false c5
    clear c5
    by_cases c15 : 0 ≤ x6_1
    ·
     rw [if_pos c15] at H
     have c15b0 := eq_true c15
     have c15b1 : decide (0 ≤ x6_1) = true := decide_eq_true c15
     clear c15
     by_cases c16 : x6_1 ≤ (a0.size : Int)
     ·
      rw [if_pos c16] at H
      have c16b0 := eq_true c16
      have c16b1 : decide (x6_1 ≤ (a0.size : Int)) = true := decide_eq_true c16
      clear c16
      by_cases c17 : x5_1.length < 8796093022208
      ·
       rw [if_pos c17] at H
       have LMc17 := Aside0.mk c17
       clear c17
       obtain ⟨y272, hy272⟩ : ∃ y_ : List ByteArray, y_ = (x5_1 ++ [a0.extract (x6_1 : Int).toNat a0.size]) := ⟨_, rfl⟩
       replace H : (some y272) = some r := zy hy272 H
       have Ny272 := Aside0.mk hy272
       clear hy272
       obtain rfl := Option.some.inj H
       go_wp2_with (first | ((with_reducible refine gate_builtin (b := .append) (xs := #[.tmp 29, .tmp 33]) rfl ?_); at_builtin; refine Kd.R_append Kd.string (w0 := w) w.heap.size rfl (.tmp 29) (.tmp 33) 52 9 (.string ⟨#[]⟩) 16 rfl Try.underlying52 info9 rfl (by decide) (by omega) u5 x5_1 (a0.extract (x6_1 : Int).toNat a0.size) [.string (a0.extract (x6_1 : Int).toNat a0.size)] (fun _ => True) (fun _ => False) rfl rfl ?aP (fun _ hk => hk.elim) ?aF ?aO ?aB ?aS ?aL ?_; (case aP => exact rfl); (case aB => exact z0); (case aF => exact (fun _ _ => trivial)); (case aO => exact (zr HO_5.out)); (case aS => exact (below_size z0)); (case aL => have := LMc17.out; omega); intro v273 w18 ho hb hg hat; rw [← Ny272.out] at ho; have n0_ := Aside0.mk (hb); have n1_ := Aside0.mk (ho); clear HB; clear HO_5; have HB := n0_; have HO274 := n1_; clear n0_ n1_; clear ho hb hg hat))
       go_ret
       exact ⟨_, ze, zr HO274.out, z0⟩
      ·
       rw [if_neg c17] at H
       exact absurd H (by simp)
     ·
      rw [if_neg c16] at H
      exact absurd H (by simp)
    ·
     rw [if_neg c15] at H
     exact absurd H (by simp)
end Go.Proofs.Ytfknffpfjoalkaa.QFnGluings
