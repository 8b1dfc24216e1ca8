-- Written by a program of this session (the kit's print, turned in places): the functions that the law FnGluings comes to, and what their calls do.
import Derived.Test.YtfknffpfjoalkaaQFnGluingsx0
import Derived.Test.YtfknffpfjoalkaaQFnGluingsx1
import Derived.Test.YtfknffpfjoalkaaQFnGluingsx3
import Derived.Test.YtfknffpfjoalkaaQFnGluingsx6
import Derived.Test.YtfknffpfjoalkaaZip
namespace Go.Proofs.Ytfknffpfjoalkaa.QFnGluings
open Go.Proofs.Ytfknffpfjoalkaa.Zip Go.RowKit Go.Proofs.YtfknffpfjoalkaaW.PrintWords Go.Proofs.YtfknffpfjoalkaaW.PrintLast Go.Proofs.YtfknffpfjoalkaaW.PrintMore
attribute [local go_sem] max2_int min2_int max_two min_two max_three min_three max_four min_four   -- for this text's walks alone
set_option linter.unusedVariables false
set_option linter.unusedSimpArgs false
mutual
def impl_ParseWord.l0 : Nat → ByteArray → List Int → Int → Int → Option (List Int × Bool)
 | 0, _, _, _, _ => none
 | k + 1, x0, x4, x12, x13 => if x13 < x12 then (if 0 ≤ x13 then (if x13 < (x0.size : Int) then (if (bt x0 x13) ≥ 97 then (impl_ParseWord.j1 k x0 x4 (bt x0 x13) x12 x13 (decide ((bt x0 x13) < 105))) else (impl_ParseWord.j1 k x0 x4 (bt x0 x13) x12 x13 false)) else (none)) else (none)) else (if x0.toList = ([] : List UInt8) then (some (([] : List Int), false)) else (if (x4.length : Int) > 24 then (some (([] : List Int), false)) else (some (x4, true))))
def impl_ParseWord.j1 : Nat → ByteArray → List Int → Int → Int → Int → Bool → Option (List Int × Bool)
 | 0, _, _, _, _, _, _ => none
 | k + 1, x0, x4, x6, x12, x13, x19 => if x19 = true then (if x4.length < 17592186044416 then (impl_ParseWord.l0 k x0 (x4 ++ [((x6 - 97) % 256) + 1]) x12 (wrap64 (x13 + 1))) else (none)) else (if x6 ≥ 65 then (if x6 < 73 then (if x4.length < 17592186044416 then (impl_ParseWord.l0 k x0 (x4 ++ [(-((x6 - 65) % 256)) - 1]) x12 (wrap64 (x13 + 1))) else (none)) else (some (([] : List Int), false))) else (some (([] : List Int), false)))
end
def impl_ParseWord.f (k : Nat) (a0 : ByteArray) : Option (List Int × Bool) := if a0.toList = ([45] : List UInt8) then (some ((([] : List Int)), true)) else (impl_ParseWord.l0 k a0 (([] : List Int)) (a0.size : Int) 0)
set_option maxHeartbeats 8000000 in
set_option maxRecDepth 100000 in
theorem impl_ParseWord.calls (k : Nat) (a0 : ByteArray) (r1 : List Int) (r2 : Bool) (w : World) (h : impl_ParseWord.f k a0 = some (r1, r2)) :
  Calls Try.prog 65 #[.string a0] w fun e w' => ∃ v0_ : Value, e = .returned (.tuple #[v0_, .bool r2]) ∧ Kd.R (Kd.int .i64) 3 w' w.heap.size (fun _ => True) v0_ r1 ∧ Below w.heap.size w w' := by
 have HB := Aside0.mk (Below.refl w.heap.size w)
 have H := h
 clear h
 unfold impl_ParseWord.f at H
 by_cases c2 : a0.toList = ([45] : List UInt8)
 ·
  rw [if_pos c2] at H
  have c2b0 : (a0.toList == ([45] : List UInt8)) = true := beq_iff_eq.mpr c2
  have c2b1 : (a0.toList != ([45] : List UInt8)) = false := bne_eq_false_iff_eq.mpr c2
  clear c2
  obtain ⟨y275, hy275⟩ : ∃ y_ : List Int, y_ = (([] : List Int)) := ⟨_, rfl⟩
  replace H : (some (y275, true)) = some (r1, r2) := zy hy275 H
  have Ny275 := Aside0.mk hy275
  clear hy275
  simp only [Option.some.injEq, Prod.mk.injEq] at H
  obtain ⟨rfl, rfl⟩ := H
  go_enter Try.func65, Try.ntmps65
  go_wp2_with (first | ((with_reducible refine gate_dst (N := 9) rfl ?_); (try (refine gate_guard (by rfl) ?_; dsimp only)); refine Kd.R_lit (Kd.int .i64) _ 3 ?hg (N := 9) ?hd (xs := ([] : List Int)) (inner := []) (ok := fun _ => True) (okp := fun _ => True) ?hr ?hp (fun _ hk => hk) trivial (Below.refl _ _) (Nat.le_refl _) (by simp) ?_; (case hd => rfl); (case hg => rfl); (case hr => first | (go_simp; done) | (go_simp; rfl)); (case hp => exact (Reps.none _ _)); intro v276 w3 ho4 hb hg_ hnew_; clear hg_ hnew_; (first | rw [← Ny275.out] at ho4 | (simp only [Int.reduceToNat] at ho4; rw [← Ny275.out] at ho4)); have HO277 := Aside0.mk (Kd.R_lower ho4 (below_size z0)); replace HB := Aside0.mk (below_step z0 hb); clear hb ho4))
  go_ret2
  exact ⟨_, ze, zr HO277.out, z0⟩
 ·
  rw [if_neg c2] at H
  have c2b0 : (a0.toList == ([45] : List UInt8)) = false := beq_eq_false_iff_ne.mpr c2
  have c2b1 : (a0.toList != ([45] : List UInt8)) = true := bne_iff_ne.mpr c2
  obtain ⟨y278, hy278⟩ : ∃ y_ : List Int, y_ = (([] : List Int)) := ⟨_, rfl⟩
  replace H : (impl_ParseWord.l0 k a0 y278 (a0.size : Int) 0) = some (r1, r2) := zy hy278 H
  have Ny278 := Aside0.mk hy278
  clear hy278
  have H' := Aside0.mk H
  clear H
  go_enter Try.func65, Try.ntmps65
  go_wp2_with (first | ((with_reducible refine gate_dst (N := 10) rfl ?_); (try (refine gate_guard (by rfl) ?_; dsimp only)); refine Kd.R_lit (Kd.int .i64) _ 3 ?hg (N := 10) ?hd (xs := ([] : List Int)) (inner := []) (ok := fun _ => True) (okp := fun _ => True) ?hr ?hp (fun _ hk => hk) trivial (Below.refl _ _) (Nat.le_refl _) (by simp) ?_; (case hd => rfl); (case hg => rfl); (case hr => first | (go_simp; done) | (go_simp; rfl)); (case hp => exact (Reps.none _ _)); intro v279 w5 ho6 hb hg_ hnew_; clear hg_ hnew_; (first | rw [← Ny278.out] at ho6 | (simp only [Int.reduceToNat] at ho6; rw [← Ny278.out] at ho6)); have HO280 := Aside0.mk (Kd.R_lower ho6 (below_size z0)); replace HB := Aside0.mk (below_step z0 hb); clear hb ho6))
  go_loopg [4, 13] k (fun kq v4 v13 w' => ∃ (x4_1 : List Int) (x13_1 : Int), v13 = .int .i64 x13_1 ∧ Aside0 (impl_ParseWord.l0 kq a0 x4_1 (a0.size : Int) x13_1 = some (r1, r2)) ∧ Aside0 (kq ≤ k) ∧ Aside0 (Kd.R (Kd.int .i64) 3 w' w.heap.size (fun _ => True) v4 x4_1) ∧ Aside0 (Below w.heap.size w w'))
  case atStart => exact ⟨(y278), (0), zd, H', ⟨Nat.le_refl _⟩, ⟨zr HO280.out⟩, ⟨z0⟩⟩
  case round =>
   clear H'
   try clear c2
   try clear c2b0
   try clear c2b1
   try clear p2
   try clear c6
   obtain ⟨x4_1, x13_1, rfl, HA, HK1, HO_4, HB⟩ := hrel
   cases gk with
   | zero => exact absurd HA.out (by simp [impl_ParseWord.l0])
   | succ k1 =>
    have H := HA.out
    clear HA
    simp only [impl_ParseWord.l0] at H
    by_cases c7 : x13_1 < (a0.size : Int)
    ·
     rw [if_pos c7] at H
     have c7b0 : decide (x13_1 < (a0.size : Int)) = true := decide_eq_true c7
     clear c7
     by_cases c8 : 0 ≤ x13_1
     ·
      rw [if_pos c8] at H
      have c8b0 : decide (0 ≤ x13_1) = true := decide_eq_true c8
      clear c8
      by_cases c9 : x13_1 < (a0.size : Int)
      ·
       rw [if_pos c9] at H
       have c9b0 : decide (x13_1 < (a0.size : Int)) = true := decide_eq_true c9
       clear c9
       have HC11 := Aside0.mk H
       clear H
       have p10 : 0 ≤ (x13_1 : Int) := za
       have q10 : x13_1 < (a0.size : Int) := za
       have hx10 := bt_at a0 x13_1
       replace p10 := eq_true p10
       replace q10 := eq_true q10
       go_upto_region 9 with (fail)
       go_cut [19] (fun v19 wc => ∃ (kq : Nat) (x19_10 : Bool), v19 = .bool x19_10 ∧ Aside0 (impl_ParseWord.j1 kq a0 x4_1 (bt a0 x13_1) (a0.size : Int) x13_1 x19_10 = some (r1, r2)) ∧ Aside0 (kq ≤ k1) ∧ Aside0 (Kd.R (Kd.int .i64) 3 wc w.heap.size (fun _ => True) u4 x4_1) ∧ Aside0 (Below w.heap.size w wc))
       case first =>
        have H := HC11.out
        clear HC11
        by_cases c12 : (bt a0 x13_1) ≥ 97
        ·
         rw [if_pos c12] at H
         have c12b0 : decide (97 ≤ (bt a0 x13_1)) = true := decide_eq_true c12
         clear c12
         (first | rw [c12b0] | (simp only [i64_w, i32_w]; rw [c12b0]) | skip)
         have H' := Aside0.mk H
         clear H
         go_wp2
         go_meet
         case rel => exact ⟨_, (decide ((bt a0 x13_1) < 105)), zd, H', ⟨by have := HK1.out; first | omega | exact Nat.le_refl _⟩, ⟨zr HO_4.out⟩, ⟨z0⟩⟩
        ·
         rw [if_neg c12] at H
         have c12b0 : decide (97 ≤ (bt a0 x13_1)) = false := decide_eq_false c12
         clear c12
         (first | rw [c12b0] | (simp only [i64_w, i32_w]; rw [c12b0]) | skip)
         have H' := Aside0.mk H
         clear H
         go_wp2
         go_meet
         case rel => exact ⟨_, (false), zd, H', ⟨by have := HK1.out; first | omega | exact Nat.le_refl _⟩, ⟨zr HO_4.out⟩, ⟨z0⟩⟩
       case rest =>
        clear HC11
        try clear c1
        try clear p1
        try clear q1
        try clear hx1
        try clear c2
        try clear c2b0
        try clear c2b1
        try clear p2
        try clear c6
        try clear c7
        try clear c7b0
        try clear c8
        try clear c8b0
        try clear c9
        try clear c9b0
        try clear p10
        try clear q10
        try clear hx10
        try clear c12
        try clear c12b0
        try clear p10
        try clear p2
        try clear q10
        obtain ⟨kq, x19_10, rfl, HA, HJ10, HO_4, HB⟩ := hcut
        cases kq with
        | zero => exact absurd HA.out (by simp [impl_ParseWord.j1])
        | succ kj10 =>
         have H := HA.out
         clear HA
         simp only [impl_ParseWord.j1] at H
         by_cases c13 : x19_10 = true
         ·
          subst c13
          rw [if_pos rfl] at H
          by_cases c14 : x4_1.length < 17592186044416
          ·
           rw [if_pos c14] at H
           have LMc14 := Aside0.mk c14
           clear c14
           obtain ⟨y281, hy281⟩ : ∃ y_ : List Int, y_ = (x4_1 ++ [(((bt a0 x13_1) - 97) % 256) + 1]) := ⟨_, rfl⟩
           replace H : (impl_ParseWord.l0 kj10 a0 y281 (a0.size : Int) (wrap64 (x13_1 + 1))) = some (r1, r2) := zy hy281 H
           have Ny281 := Aside0.mk hy281
           clear hy281
           have H' := Aside0.mk H
           clear H
           go_wp2_with (first | ((with_reducible refine gate_builtin (b := .append) (xs := #[.tmp 26, .tmp 31]) rfl ?_); (try (refine gate_guard (by rfl) ?_; dsimp only)); at_builtin; refine Kd.R_append (Kd.int .i64) (w0 := w) w.heap.size rfl (.tmp 26) (.tmp 31) 27 3 (.int .i64 0) 8 rfl Try.underlying27 info3 rfl (by decide) (by omega) u4 x4_1 ((((bt a0 x13_1) - 97) % 256) + 1) [.int .i64 ((((bt a0 x13_1) - 97) % 256) + 1)] (fun _ => True) (fun _ => False) rfl rfl ?aP (fun _ hk => hk.elim) ?aF ?aO ?aB ?aS ?aL ?_; (case aP => exact rfl); (case aB => exact z0); (case aF => exact (fun _ _ => trivial)); (case aO => exact (zr HO_4.out)); (case aS => exact (below_size z0)); (case aL => have := LMc14.out; omega); intro v282 w15 ho hb hg hat; rw [← Ny281.out] at ho; have n0_ := Aside0.mk (hb); have n1_ := Aside0.mk (ho); clear HB; clear HO_4; have HB := n0_; have HO283 := n1_; clear n0_ n1_; clear ho hb hg hat))
           go_roundg kj10
           case measure => have := HK1.out; have := HJ10.out; omega
           case rel => exact ⟨(y281), (wrap64 (x13_1 + 1)), zd, H', ⟨by have := HK1.out; have := HJ10.out; omega⟩, ⟨zr HO283.out⟩, ⟨z0⟩⟩
          ·
           rw [if_neg c14] at H
           exact absurd H (by simp)
         ·
          replace c13 := Bool.eq_false_iff.mpr c13
          subst c13
          rw [if_neg (show ¬ (false = true) by decide)] at H
          by_cases c16 : (bt a0 x13_1) ≥ 65
          ·
           rw [if_pos c16] at H
           have c16b0 : decide (65 ≤ (bt a0 x13_1)) = true := decide_eq_true c16
           clear c16
           by_cases c17 : (bt a0 x13_1) < 73
           ·
            rw [if_pos c17] at H
            have c17b0 : decide ((bt a0 x13_1) < 73) = true := decide_eq_true c17
            clear c17
            by_cases c18 : x4_1.length < 17592186044416
            ·
             rw [if_pos c18] at H
             have LMc18 := Aside0.mk c18
             clear c18
             obtain ⟨y284, hy284⟩ : ∃ y_ : List Int, y_ = (x4_1 ++ [(-(((bt a0 x13_1) - 65) % 256)) - 1]) := ⟨_, rfl⟩
             replace H : (impl_ParseWord.l0 kj10 a0 y284 (a0.size : Int) (wrap64 (x13_1 + 1))) = some (r1, r2) := zy hy284 H
             have Ny284 := Aside0.mk hy284
             clear hy284
             have H' := Aside0.mk H
             clear H
             go_wp2_with (first | ((with_reducible refine gate_builtin (b := .append) (xs := #[.tmp 40, .tmp 46]) rfl ?_); (try (refine gate_guard (by rfl) ?_; dsimp only)); at_builtin; refine Kd.R_append (Kd.int .i64) (w0 := w) w.heap.size rfl (.tmp 40) (.tmp 46) 27 3 (.int .i64 0) 8 rfl Try.underlying27 info3 rfl (by decide) (by omega) u4 x4_1 ((-(((bt a0 x13_1) - 65) % 256)) - 1) [.int .i64 ((-(((bt a0 x13_1) - 65) % 256)) - 1)] (fun _ => True) (fun _ => False) rfl rfl ?aP (fun _ hk => hk.elim) ?aF ?aO ?aB ?aS ?aL ?_; (case aP => exact rfl); (case aB => exact z0); (case aF => exact (fun _ _ => trivial)); (case aO => exact (zr HO_4.out)); (case aS => exact (below_size z0)); (case aL => have := LMc18.out; omega); intro v285 w19 ho hb hg hat; rw [← Ny284.out] at ho; have n0_ := Aside0.mk (hb); have n1_ := Aside0.mk (ho); clear HB; clear HO_4; have HB := n0_; have HO286 := n1_; clear n0_ n1_; clear ho hb hg hat))
             go_roundg kj10
             case measure => have := HK1.out; have := HJ10.out; omega
             case rel => exact ⟨(y284), (wrap64 (x13_1 + 1)), zd, H', ⟨by have := HK1.out; have := HJ10.out; omega⟩, ⟨zr HO286.out⟩, ⟨z0⟩⟩
            ·
             rw [if_neg c18] at H
             exact absurd H (by simp)
           ·
            rw [if_neg c17] at H
            have c17b0 : decide ((bt a0 x13_1) < 73) = false := decide_eq_false c17
            clear c17
            simp only [Option.some.injEq, Prod.mk.injEq] at H
            obtain ⟨rfl, rfl⟩ := H
            go_wp2
            go_ret2
            exact ⟨_, ze, by first | exact Kd.R_nil _ _ _ _ _ | exact Kd.N_nil _ _ _ _ _ | exact Kd.V_nil _ _ _ _ _ | exact Kd.Q_nil _ _ _ _ _ | exact Kd.S_nil _ _ _ _ _, z0⟩
          ·
           rw [if_neg c16] at H
           have c16b0 : decide (65 ≤ (bt a0 x13_1)) = false := decide_eq_false c16
           clear c16
           simp only [Option.some.injEq, Prod.mk.injEq] at H
           obtain ⟨rfl, rfl⟩ := H
           go_wp2
           go_ret2
           exact ⟨_, ze, by first | exact Kd.R_nil _ _ _ _ _ | exact Kd.N_nil _ _ _ _ _ | exact Kd.V_nil _ _ _ _ _ | exact Kd.Q_nil _ _ _ _ _ | exact Kd.S_nil _ _ _ _ _, z0⟩
      ·
       rw [if_neg c9] at H
       exact absurd H (by simp)
     ·
      rw [if_neg c8] at H
      exact absurd H (by simp)
    ·
     rw [if_neg c7] at H
     have c7b0 : decide (x13_1 < (a0.size : Int)) = false := decide_eq_false c7
     clear c7
     by_cases c20 : a0.toList = ([] : List UInt8)
     ·
      rw [if_pos c20] at H
      have c20b0 : (a0.toList == ([] : List UInt8)) = true := beq_iff_eq.mpr c20
      have c20b1 : (a0.toList != ([] : List UInt8)) = false := bne_eq_false_iff_eq.mpr c20
      clear c20
      simp only [Option.some.injEq, Prod.mk.injEq] at H
      obtain ⟨rfl, rfl⟩ := H
      go_wp2
      go_ret2
      exact ⟨_, ze, by first | exact Kd.R_nil _ _ _ _ _ | exact Kd.N_nil _ _ _ _ _ | exact Kd.V_nil _ _ _ _ _ | exact Kd.Q_nil _ _ _ _ _ | exact Kd.S_nil _ _ _ _ _, z0⟩
     ·
      rw [if_neg c20] at H
      have c20b0 : (a0.toList == ([] : List UInt8)) = false := beq_eq_false_iff_ne.mpr c20
      have c20b1 : (a0.toList != ([] : List UInt8)) = true := bne_iff_ne.mpr c20
      by_cases c21 : (x4_1.length : Int) > 24
      ·
       rw [if_pos c21] at H
       have c21b0 : decide (24 < (x4_1.length : Int)) = true := decide_eq_true c21
       have c21b1 : decide (24 < x4_1.length) = true := decide_eq_true (by omega)
       clear c21
       simp only [Option.some.injEq, Prod.mk.injEq] at H
       obtain ⟨rfl, rfl⟩ := H
       obtain ⟨Ao22, co22, eo22⟩ := Kd.R_slice HO_4.out
       subst eo22
       go_wp2
       go_ret2
       exact ⟨_, ze, by first | exact Kd.R_nil _ _ _ _ _ | exact Kd.N_nil _ _ _ _ _ | exact Kd.V_nil _ _ _ _ _ | exact Kd.Q_nil _ _ _ _ _ | exact Kd.S_nil _ _ _ _ _, z0⟩
      ·
       rw [if_neg c21] at H
       have c21b0 : decide (24 < (x4_1.length : Int)) = false := decide_eq_false c21
       have c21b1 : decide (24 < x4_1.length) = false := decide_eq_false (by omega)
       clear c21
       simp only [Option.some.injEq, Prod.mk.injEq] at H
       obtain ⟨rfl, rfl⟩ := H
       obtain ⟨Ao23, co23, eo23⟩ := Kd.R_slice HO_4.out
       subst eo23
       go_wp2
       go_ret2
       exact ⟨_, ze, zr HO_4.out, z0⟩
def impl_ParseGluing.l0 : Nat → List (List Int) → List ByteArray → Int → Int → Option ((List (List Int)) × Bool)
 | 0, _, _, _, _ => none
 | k + 1, x4, x14, x15, x16 => if x16 < x15 then (if 0 ≤ x16 then (if x16 < (x14.length : Int) then ((impl_ParseWord.f k (rdOf ByteArray.empty x14 x16)).bind fun bt294 => (if bt294.2 = true then (if x4.length < 5864062014805 then (impl_ParseGluing.l0 k (x4 ++ [bt294.1]) x14 x15 (wrap64 (x16 + 1))) else (none)) else (some (([] : List (List Int)), false)))) else (none)) else (none)) else ((impl_IsGluing.f k x4).bind fun t301 => (if t301 = true then (some (x4, true)) else (some (([] : List (List Int)), false))))
def impl_ParseGluing.f (k : Nat) (a0 : ByteArray) : Option ((List (List Int)) × Bool) := if (a0.size : Int) > 24 then (some (([] : List (List Int)), false)) else ((impl_SplitByte.f k a0 32).bind fun t290 => (impl_ParseGluing.l0 k (([] : List (List Int))) t290 (t290.length : Int) 0))
set_option maxHeartbeats 8000000 in
set_option maxRecDepth 100000 in
theorem impl_ParseGluing.calls (k : Nat) (a0 : ByteArray) (r1 : List (List Int)) (r2 : Bool) (w : World) (h : impl_ParseGluing.f k a0 = some (r1, r2)) :
  Calls Try.prog 31 #[.string a0] w fun e w' => ∃ v0_ : Value, e = .returned (.tuple #[v0_, .bool r2]) ∧ Kd.S (Kd.slice 3 (Kd.int .i64)) 27 w' w.heap.size (fun _ => True) v0_ r1 ∧ Below w.heap.size w w' := by
 have HB := Aside0.mk (Below.refl w.heap.size w)
 have H := h
 clear h
 unfold impl_ParseGluing.f at H
 by_cases c2 : (a0.size : Int) > 24
 ·
  rw [if_pos c2] at H
  have c2b0 : decide (24 < (a0.size : Int)) = true := decide_eq_true c2
  have c2b1 : decide (24 < a0.size) = true := decide_eq_true (by omega)
  clear c2
  simp only [Option.some.injEq, Prod.mk.injEq] at H
  obtain ⟨rfl, rfl⟩ := H
  go_enter Try.func31, Try.ntmps31
  go_wp2
  go_ret2
  exact ⟨_, ze, by first | exact Kd.S_nil _ _ _ _ _ | exact Kd.N_nil _ _ _ _ _ | exact Kd.V_nil _ _ _ _ _ | exact Kd.Q_nil _ _ _ _ _ | exact Kd.R_nil _ _ _ _ _, z0⟩
 ·
  rw [if_neg c2] at H
  have c2b0 : decide (24 < (a0.size : Int)) = false := decide_eq_false c2
  have c2b1 : decide (24 < a0.size) = false := decide_eq_false (by omega)
  clear c2
  obtain ⟨y287, hy287⟩ : ∃ y_ : List (List Int), y_ = (([] : List (List Int))) := ⟨_, rfl⟩
  replace H : ((impl_SplitByte.f k a0 32).bind fun t290 => (impl_ParseGluing.l0 k y287 t290 (t290.length : Int) 0)) = some (r1, r2) := zy hy287 H
  have Ny287 := Aside0.mk hy287
  clear hy287
  replace H := Option.bind_eq_some_iff.mp H
  obtain ⟨t290, A30, H⟩ := H
  have A3 := Aside0.mk A30
  clear A30
  have H' := Aside0.mk H
  clear H
  go_enter Try.func31, Try.ntmps31
  go_wp2_with (first | ((with_reducible refine gate_dst (N := 12) rfl ?_); refine Kd.S_lit (Kd.slice 3 (Kd.int .i64)) _ 27 ?hg (N := 12) ?hd (xs := ([] : List (List Int))) (inner := []) (ok := fun _ => True) (okp := fun _ => True) ?hr ?hp (fun _ hk => hk) trivial (Below.refl _ _) (Nat.le_refl _) (by simp) ?_; (case hd => rfl); (case hg => rfl); (case hr => first | (go_simp; done) | (go_simp; rfl)); (case hp => exact (Reps.none _ _)); intro v288 w4 ho5 hb hg_ hnew_; clear hg_ hnew_; (first | rw [← Ny287.out] at ho5 | (simp only [Int.reduceToNat] at ho5; rw [← Ny287.out] at ho5)); have HO289 := Aside0.mk (Kd.S_lower ho5 (below_size z0)); replace HB := Aside0.mk (below_step z0 hb); clear hb ho5) | ((with_reducible refine zg 64 rfl ?_); refine zl (some 14) Try.func64 #[.string a0, .int .u8 32] ?_; (with_reducible refine (impl_SplitByte.calls k a0 32 t290 _ A3.out).mono ?_); rintro e w6 ⟨v291, rfl, ho0, hb⟩; refine ⟨_, rfl, ?_⟩; replace HO289 := Aside0.mk (Kd.S_below (zs HO289.out) hb); have HO292 := Aside0.mk (Kd.R_lower ho0 (below_size z0)); replace HB := Aside0.mk (below_step z0 hb); (try clear hb); (try clear hb2); (try clear hk); (try clear hi); (try clear ho0); obtain ⟨Ao7, co7, eo7⟩ := Kd.R_slice HO292.out; subst eo7))
  go_loopg [4, 16] k (fun kq v4 v16 w' => ∃ (x4_1 : List (List Int)) (x16_1 : Int), v16 = .int .i64 x16_1 ∧ Aside0 (impl_ParseGluing.l0 kq x4_1 t290 (t290.length : Int) x16_1 = some (r1, r2)) ∧ Aside0 (kq ≤ k) ∧ Aside0 (Kd.S (Kd.slice 3 (Kd.int .i64)) 27 w' w.heap.size (fun _ => True) v4 x4_1) ∧ Aside0 (Kd.R Kd.string 9 w' w.heap.size (fun _ => True) (.slice Ao7 t290.length co7) t290) ∧ Aside0 (Below w.heap.size w w'))
  case atStart => exact ⟨(y287), (0), zd, H', ⟨Nat.le_refl _⟩, ⟨zs HO289.out⟩, ⟨zr HO292.out⟩, ⟨z0⟩⟩
  case round =>
   clear H'
   try clear c2
   try clear c2b0
   try clear c2b1
   try clear p2
   try clear c3
   try clear c6
   obtain ⟨x4_1, x16_1, rfl, HA, HK1, HO_4, HO_14, HB⟩ := hrel
   cases gk with
   | zero => exact absurd HA.out (by simp [impl_ParseGluing.l0])
   | succ k1 =>
    have H := HA.out
    clear HA
    simp only [impl_ParseGluing.l0] at H
    by_cases c8 : x16_1 < (t290.length : Int)
    ·
     rw [if_pos c8] at H
     have c8b0 : decide (x16_1 < (t290.length : Int)) = true := decide_eq_true c8
     clear c8
     by_cases c9 : 0 ≤ x16_1
     ·
      rw [if_pos c9] at H
      have c9b0 : decide (0 ≤ x16_1) = true := decide_eq_true c9
      clear c9
      by_cases c10 : x16_1 < (t290.length : Int)
      ·
       rw [if_pos c10] at H
       have c10b0 : decide (x16_1 < (t290.length : Int)) = true := decide_eq_true c10
       clear c10
       replace H := Option.bind_eq_some_iff.mp H
       obtain ⟨⟨t294, t295⟩, A110, H⟩ := H
       dsimp only at H
       have A11 := Aside0.mk A110
       clear A110
       by_cases c12 : t295 = true
       ·
        subst c12
        rw [if_pos rfl] at H
        by_cases c13 : x4_1.length < 5864062014805
        ·
         rw [if_pos c13] at H
         have LMc13 := Aside0.mk c13
         clear c13
         obtain ⟨y298, hy298⟩ : ∃ y_ : List (List Int), y_ = (x4_1 ++ [t294]) := ⟨_, rfl⟩
         replace H : (impl_ParseGluing.l0 k1 y298 t290 (t290.length : Int) (wrap64 (x16_1 + 1))) = some (r1, r2) := zy hy298 H
         have Ny298 := Aside0.mk hy298
         clear hy298
         have H' := Aside0.mk H
         clear H
         have p293 : 0 ≤ (x16_1 : Int) := za
         have q293 : x16_1 < (t290.length : Int) := za
         obtain ⟨ad293, e293, hx293_0⟩ := Kd.at_string (Kd.R_reads' HO_14.out).2.2 x16_1 p293 q293
         cases e293
         replace p293 := eq_true p293
         replace q293 := eq_true q293
         go_wp2_with (first | ((with_reducible refine zg 65 rfl ?_); refine zl (some 22) Try.func65 #[.string (rdOf ByteArray.empty t290 x16_1)] ?_; (with_reducible refine (impl_ParseWord.calls k1 (rdOf ByteArray.empty t290 x16_1) t294 true _ A11.out).mono ?_); rintro e w14 ⟨v296, rfl, ho0, hb⟩; refine ⟨_, rfl, ?_⟩; replace HO_4 := Aside0.mk (Kd.S_elder' (zs HO_4.out) (Kd.R_base ho0) hb); replace HO_14 := Aside0.mk (Kd.R_below (zr HO_14.out) hb); have HO297 := Aside0.mk (Kd.R_lower ho0 (below_size z0)); replace HB := Aside0.mk (below_step z0 hb); (try clear hb); (try clear hb2); (try clear hk); (try clear hi); (try clear ho0); obtain ⟨Ao16, co16, eo16⟩ := Kd.R_slice HO297.out; subst eo16) | ((with_reducible refine gate_builtin (b := .append) (xs := #[.tmp 27, .tmp 29]) rfl ?_); at_builtin; refine Kd.S_append (Kd.slice 3 (Kd.int .i64)) (w0 := w) w.heap.size rfl (.tmp 27) (.tmp 29) 22 27 (.slice none 0 0) 24 rfl Try.underlying22 info27 rfl (by decide) (by omega) u4 x4_1 t294 [.slice Ao16 t294.length co16] (fun _ => True) (fun k_ => some k_ = (.slice Ao16 t294.length co16 : Value).ownBlock) rfl rfl ?aP (fun k_ hk_ => ((Kd.R_mono (ok' := fun k_ => ((fun _ => True)) k_ ∧ some k_ ≠ (u4 : Value).ownBlock) (Kd.R_apart' (HO297.out) (Kd.S_typed HO_4.out) (by decide)) (fun k_ hk => ⟨trivial, hk.2⟩))).1 k_ hk_.symm) ?aF ?aO ?aB ?aS ?aL ?_; (case aP => exact Kd.M_row (Kd.R_mono (Kd.R_tight rfl (Kd.R_mono (ok' := fun k_ => ((fun _ => True)) k_ ∧ some k_ ≠ (u4 : Value).ownBlock) (Kd.R_apart' (HO297.out) (Kd.S_typed HO_4.out) (by decide)) (fun k_ hk => ⟨trivial, hk.2⟩))) (fun _ h_ => h_))); (case aB => exact z0); (case aF => exact (fun _ _ => trivial)); (case aO => exact (by (with_reducible repeat (first | apply Kd.S_alloc | apply Kd.S_drewN | apply Kd.S_drew)); exact Kd.S_mono HO_4.out (fun k_ hk => ⟨trivial, fun e_ => hk.2 e_⟩))); (case aS => exact (below_size z0)); (case aL => have := LMc13.out; omega); intro v299 w15 ho hb hg hat; rw [← Ny298.out] at ho; have n0_ := Aside0.mk (Kd.R_over' (zr HO_14.out) (Kd.S_typed (zs HO_4.out)) (by decide) hg); have n1_ := Aside0.mk (hb); have n2_ := Aside0.mk (ho); clear HO_14; clear HB; clear HO_4; clear HO297; have HO_14 := n0_; have HB := n1_; have HO300 := n2_; clear n0_ n1_ n2_; clear ho hb hg hat))
         go_roundg k1
         case measure => have := HK1.out; omega
         case rel => exact ⟨(y298), (wrap64 (x16_1 + 1)), zd, H', ⟨by have := HK1.out; omega⟩, ⟨zs HO300.out⟩, ⟨zr HO_14.out⟩, ⟨z0⟩⟩
        ·
         rw [if_neg c13] at H
         exact absurd H (by simp)
       ·
        replace c12 := Bool.eq_false_iff.mpr c12
        subst c12
        rw [if_neg (show ¬ (false = true) by decide)] at H
        simp only [Option.some.injEq, Prod.mk.injEq] at H
        obtain ⟨rfl, rfl⟩ := H
        have p293 : 0 ≤ (x16_1 : Int) := za
        have q293 : x16_1 < (t290.length : Int) := za
        obtain ⟨ad293, e293, hx293_0⟩ := Kd.at_string (Kd.R_reads' HO_14.out).2.2 x16_1 p293 q293
        cases e293
        replace p293 := eq_true p293
        replace q293 := eq_true q293
        go_wp2_with (first | ((with_reducible refine zg 65 rfl ?_); refine zl (some 22) Try.func65 #[.string (rdOf ByteArray.empty t290 x16_1)] ?_; (with_reducible refine (impl_ParseWord.calls k1 (rdOf ByteArray.empty t290 x16_1) t294 false _ A11.out).mono ?_); rintro e w17 ⟨v296, rfl, ho0, hb⟩; refine ⟨_, rfl, ?_⟩; replace HO_4 := Aside0.mk (Kd.S_elder' (zs HO_4.out) (Kd.R_base ho0) hb); replace HO_14 := Aside0.mk (Kd.R_below (zr HO_14.out) hb); have HO297 := Aside0.mk (Kd.R_lower ho0 (below_size z0)); replace HB := Aside0.mk (below_step z0 hb)))
        go_ret2
        exact ⟨_, ze, by first | exact Kd.S_nil _ _ _ _ _ | exact Kd.N_nil _ _ _ _ _ | exact Kd.V_nil _ _ _ _ _ | exact Kd.Q_nil _ _ _ _ _ | exact Kd.R_nil _ _ _ _ _, z0⟩
      ·
       rw [if_neg c10] at H
       exact absurd H (by simp)
     ·
      rw [if_neg c9] at H
      exact absurd H (by simp)
    ·
     rw [if_neg c8] at H
     have c8b0 : decide (x16_1 < (t290.length : Int)) = false := decide_eq_false c8
     clear c8
     replace H := Option.bind_eq_some_iff.mp H
     obtain ⟨t301, A180, H⟩ := H
     have A18 := Aside0.mk A180
     clear A180
     by_cases c19 : t301 = true
     ·
      subst c19
      rw [if_pos rfl] at H
      simp only [Option.some.injEq, Prod.mk.injEq] at H
      obtain ⟨rfl, rfl⟩ := H
      obtain ⟨Ao20, co20, eo20⟩ := Kd.S_slice HO_4.out
      subst eo20
      go_wp2_with (first | ((with_reducible refine zg 18 rfl ?_); refine zl (some 33) Try.func18 #[.slice Ao20 x4_1.length co20] ?_; (with_reducible refine (impl_IsGluing.calls k1 _ _ x4_1 true _ ?side1 ?side2 A18.out).mono ?_); (case side1 => exact zc (Kd.S_reads' HO_4.out).2.2); (case side2 => exact (Kd.S_reads' HO_4.out).2.1); rintro e w21 ⟨rfl, hb⟩; refine ⟨_, rfl, ?_⟩; replace HO_4 := Aside0.mk (Kd.S_below (zs HO_4.out) hb); replace HO_14 := Aside0.mk (Kd.R_below (zr HO_14.out) hb); replace HB := Aside0.mk (below_step z0 hb)))
      go_ret2
      exact ⟨_, ze, zs HO_4.out, z0⟩
     ·
      replace c19 := Bool.eq_false_iff.mpr c19
      subst c19
      rw [if_neg (show ¬ (false = true) by decide)] at H
      simp only [Option.some.injEq, Prod.mk.injEq] at H
      obtain ⟨rfl, rfl⟩ := H
      obtain ⟨Ao22, co22, eo22⟩ := Kd.S_slice HO_4.out
      subst eo22
      go_wp2_with (first | ((with_reducible refine zg 18 rfl ?_); refine zl (some 33) Try.func18 #[.slice Ao22 x4_1.length co22] ?_; (with_reducible refine (impl_IsGluing.calls k1 _ _ x4_1 false _ ?side1 ?side2 A18.out).mono ?_); (case side1 => exact zc (Kd.S_reads' HO_4.out).2.2); (case side2 => exact (Kd.S_reads' HO_4.out).2.1); rintro e w23 ⟨rfl, hb⟩; refine ⟨_, rfl, ?_⟩; replace HO_4 := Aside0.mk (Kd.S_below (zs HO_4.out) hb); replace HO_14 := Aside0.mk (Kd.R_below (zr HO_14.out) hb); replace HB := Aside0.mk (below_step z0 hb)))
      go_ret2
      exact ⟨_, ze, by first | exact Kd.S_nil _ _ _ _ _ | exact Kd.N_nil _ _ _ _ _ | exact Kd.V_nil _ _ _ _ _ | exact Kd.Q_nil _ _ _ _ _ | exact Kd.R_nil _ _ _ _ _, z0⟩
def spec_l3Has.l0 : Nat → List Int → Int → Int → Option (Bool)
 | 0, _, _, _ => none
 | k + 1, x0, x1, x5 => if x5 < (x0.length : Int) then (if 0 ≤ x5 then ((spec_l3Abs.f (rd x0 x5)).bind fun t303 => (if t303 = x1 then (some true) else (spec_l3Has.l0 k x0 x1 (wrap64 (x5 + 1))))) else (none)) else (some false)
def spec_l3Has.f (k : Nat) (l0 : List Int) (a1 : Int) : Option (Bool) := spec_l3Has.l0 k l0 a1 0
set_option maxHeartbeats 8000000 in
set_option maxRecDepth 100000 in
theorem spec_l3Has.calls (k : Nat) (A0 : Option Addr) (c0 : Nat) (l0 : List Int) (a1 : Int) (r : Bool) (w : World) (hr0 : Kd.C (Kd.int .i64) w A0 l0.length l0) (hc0 : l0.length ≤ c0) (h : spec_l3Has.f k l0 a1 = some r) :
  Calls Try.prog 66 #[.slice A0 l0.length c0, .int .i64 a1] w fun e w' => e = .returned (.bool r) ∧ Drawn0 w w' := by
 have HR0 := Aside0.mk hr0
 have HC0 := Aside0.mk hc0
 clear hr0 hc0
 have H := h
 clear h
 unfold spec_l3Has.f at H
 have H' := Aside0.mk H
 clear H
 go_enter Try.func66, Try.ntmps66
 go_wp2
 go_loopg [5] k (fun kq v5 w' => ∃ (x5_1 : Int), v5 = .int .i64 x5_1 ∧ Aside0 (spec_l3Has.l0 kq l0 a1 x5_1 = some r) ∧ Aside0 (kq ≤ k) ∧ Drawn0 w w')
 case atStart => exact ⟨(0), zd, H', ⟨Nat.le_refl _⟩, z3⟩
 case round =>
  clear H'
  try clear p2
  obtain ⟨x5_1, rfl, HA, HK1, ⟨m1, rfl⟩⟩ := hrel
  cases gk with
  | zero => exact absurd HA.out (by simp [spec_l3Has.l0])
  | succ k1 =>
   have H := HA.out
   clear HA
   simp only [spec_l3Has.l0] at H
   by_cases c3 : x5_1 < (l0.length : Int)
   ·
    rw [if_pos c3] at H
    have c3b0 : decide (x5_1 < (l0.length : Int)) = true := decide_eq_true c3
    clear c3
    by_cases c4 : 0 ≤ x5_1
    ·
     rw [if_pos c4] at H
     have c4b0 : decide (0 ≤ x5_1) = true := decide_eq_true c4
     clear c4
     replace H := Option.bind_eq_some_iff.mp H
     obtain ⟨t303, A50, H⟩ := H
     have A5 := Aside0.mk A50
     clear A50
     by_cases c6 : t303 = a1
     ·
      rw [if_pos c6] at H
      have c6b0 : (t303 == a1) = true := beq_iff_eq.mpr c6
      have c6b1 : (t303 != a1) = false := bne_eq_false_iff_eq.mpr c6
      clear c6
      obtain rfl := Option.some.inj H
      have p302 : 0 ≤ (x5_1 : Int) := za
      have q302 : x5_1 < (l0.length : Int) := za
      obtain ⟨ad302, e302, hx302_0⟩ := Kd.at_int HR0.out x5_1 p302 q302
      cases e302
      replace p302 := eq_true p302
      replace q302 := eq_true q302
      go_wp2_with (first | ((with_reducible refine zg 86 rfl ?_); refine zl (some 16) Try.func86 #[.int .i64 (rd l0 x5_1)] ?_; (with_reducible refine (spec_l3Abs.calls (rd l0 x5_1) t303 _ A5.out).mono ?_); rintro e w' ⟨rfl, ⟨nd, rfl⟩⟩; refine ⟨_, rfl, ?_⟩))
      go_ret
      exact ⟨by first | rfl | (simp; done) | (simp [*]; done), z3⟩
     ·
      rw [if_neg c6] at H
      have c6b0 : (t303 == a1) = false := beq_eq_false_iff_ne.mpr c6
      have c6b1 : (t303 != a1) = true := bne_iff_ne.mpr c6
      have H' := Aside0.mk H
      clear H
      have p302 : 0 ≤ (x5_1 : Int) := za
      have q302 : x5_1 < (l0.length : Int) := za
      obtain ⟨ad302, e302, hx302_0⟩ := Kd.at_int HR0.out x5_1 p302 q302
      cases e302
      replace p302 := eq_true p302
      replace q302 := eq_true q302
      go_wp2_with (first | ((with_reducible refine zg 86 rfl ?_); refine zl (some 16) Try.func86 #[.int .i64 (rd l0 x5_1)] ?_; (with_reducible refine (spec_l3Abs.calls (rd l0 x5_1) t303 _ A5.out).mono ?_); rintro e w' ⟨rfl, ⟨nd, rfl⟩⟩; refine ⟨_, rfl, ?_⟩))
      go_roundg k1
      case measure => have := HK1.out; omega
      case rel => exact ⟨(wrap64 (x5_1 + 1)), zd, H', ⟨by have := HK1.out; omega⟩, z3⟩
    ·
     rw [if_neg c4] at H
     exact absurd H (by simp)
   ·
    rw [if_neg c3] at H
    have c3b0 : decide (x5_1 < (l0.length : Int)) = false := decide_eq_false c3
    clear c3
    obtain rfl := Option.some.inj H
    go_wp2
    go_ret
    exact ⟨by first | rfl | (simp; done) | (simp [*]; done), z3⟩
def spec_l3Find.l0 : Nat → List Int → Int → Option (Int)
 | 0, _, _ => none
 | k + 1, x0, x1 => if 0 ≤ x1 then (if x1 < (x0.length : Int) then (if (rd x0 x1) = x1 then (some x1) else (spec_l3Find.l0 k x0 (rd x0 x1))) else (none)) else (none)
def spec_l3Find.f (k : Nat) (l0 : List Int) (a1 : Int) : Option (Int) := spec_l3Find.l0 k l0 a1
set_option maxHeartbeats 8000000 in
set_option maxRecDepth 100000 in
theorem spec_l3Find.calls (k : Nat) (A0 : Option Addr) (c0 : Nat) (l0 : List Int) (a1 : Int) (r : Int) (w : World) (hr0 : Kd.C (Kd.int .i64) w A0 l0.length l0) (hc0 : l0.length ≤ c0) (h : spec_l3Find.f k l0 a1 = some r) :
  Calls Try.prog 67 #[.slice A0 l0.length c0, .int .i64 a1] w fun e w' => e = .returned (.int .i64 r) ∧ Drawn0 w w' := by
 have HR0 := Aside0.mk hr0
 have HC0 := Aside0.mk hc0
 clear hr0 hc0
 have H := h
 clear h
 unfold spec_l3Find.f at H
 have H' := Aside0.mk H
 clear H
 go_enter Try.func67, Try.ntmps67
 go_wp2
 go_loopg [1] k (fun kq v1 w' => ∃ (x1_1 : Int), v1 = .int .i64 x1_1 ∧ Aside0 (spec_l3Find.l0 kq l0 x1_1 = some r) ∧ Aside0 (kq ≤ k) ∧ Drawn0 w w')
 case atStart => exact ⟨(a1), zd, H', ⟨Nat.le_refl _⟩, z3⟩
 case round =>
  clear H'
  try clear p2
  obtain ⟨x1_1, rfl, HA, HK1, ⟨m1, rfl⟩⟩ := hrel
  cases gk with
  | zero => exact absurd HA.out (by simp [spec_l3Find.l0])
  | succ k1 =>
   have H := HA.out
   clear HA
   simp only [spec_l3Find.l0] at H
   by_cases c3 : 0 ≤ x1_1
   ·
    rw [if_pos c3] at H
    have c3b0 : decide (0 ≤ x1_1) = true := decide_eq_true c3
    clear c3
    by_cases c4 : x1_1 < (l0.length : Int)
    ·
     rw [if_pos c4] at H
     have c4b0 : decide (x1_1 < (l0.length : Int)) = true := decide_eq_true c4
     clear c4
     by_cases c5 : (rd l0 x1_1) = x1_1
     ·
      rw [if_pos c5] at H
      have c5b0 : ((rd l0 x1_1) == x1_1) = true := beq_iff_eq.mpr c5
      have c5b1 : ((rd l0 x1_1) != x1_1) = false := bne_eq_false_iff_eq.mpr c5
      clear c5
      obtain rfl := Option.some.inj H
      have p304 : 0 ≤ (x1_1 : Int) := za
      have q304 : x1_1 < (l0.length : Int) := za
      obtain ⟨ad304, e304, hx304_0⟩ := Kd.at_int HR0.out x1_1 p304 q304
      cases e304
      replace p304 := eq_true p304
      replace q304 := eq_true q304
      go_wp2
      go_ret
      exact ⟨by first | rfl | (simp; done) | (simp [*]; done), z3⟩
     ·
      rw [if_neg c5] at H
      have c5b0 : ((rd l0 x1_1) == x1_1) = false := beq_eq_false_iff_ne.mpr c5
      have c5b1 : ((rd l0 x1_1) != x1_1) = true := bne_iff_ne.mpr c5
      have H' := Aside0.mk H
      clear H
      have p304 : 0 ≤ (x1_1 : Int) := za
      have q304 : x1_1 < (l0.length : Int) := za
      obtain ⟨ad304, e304, hx304_0⟩ := Kd.at_int HR0.out x1_1 p304 q304
      cases e304
      replace p304 := eq_true p304
      replace q304 := eq_true q304
      have p305 : 0 ≤ (x1_1 : Int) := za
      have q305 : x1_1 < (l0.length : Int) := za
      obtain ⟨ad305, e305, hx305_0⟩ := Kd.at_int HR0.out x1_1 p305 q305
      obtain rfl : ad304 = ad305 := (by injection e305)
      replace p305 := eq_true p305
      replace q305 := eq_true q305
      go_wp2
      go_roundg k1
      case measure => have := HK1.out; omega
      case rel => exact ⟨(rd l0 x1_1), zd, H', ⟨by have := HK1.out; omega⟩, z3⟩
    ·
     rw [if_neg c4] at H
     exact absurd H (by simp)
   ·
    rw [if_neg c3] at H
    exact absurd H (by simp)
def spec_l1Bit.f (a0 : Bool) : Option (Int) := if a0 = true then (some 1) else (some 0)
set_option maxHeartbeats 8000000 in
set_option maxRecDepth 100000 in
theorem spec_l1Bit.calls (a0 : Bool) (r : Int) (w : World) (h : spec_l1Bit.f a0 = some r) :
  Calls Try.prog 68 #[.bool a0] w fun e w' => e = .returned (.int .i64 r) ∧ Drawn0 w w' := by
 have H := h
 clear h
 unfold spec_l1Bit.f at H
 by_cases c2 : a0 = true
 ·
  subst c2
  rw [if_pos rfl] at H
  obtain rfl := Option.some.inj H
  go_enter Try.func68, Try.ntmps68
  go_wp2
  go_ret
  exact ⟨by first | rfl | (simp; done) | (simp [*]; done), z3⟩
 ·
  replace c2 := Bool.eq_false_iff.mpr c2
  subst c2
  rw [if_neg (show ¬ (false = true) by decide)] at H
  obtain rfl := Option.some.inj H
  go_enter Try.func68, Try.ntmps68
  go_wp2
  go_ret
  exact ⟨by first | rfl | (simp; done) | (simp [*]; done), z3⟩
end Go.Proofs.Ytfknffpfjoalkaa.QFnGluings
