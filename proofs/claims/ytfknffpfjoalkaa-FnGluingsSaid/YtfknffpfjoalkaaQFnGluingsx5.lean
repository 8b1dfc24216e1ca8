-- Written by a program of this session (the kit's print, turned in places): the functions that the law FnGluings comes to, and what their calls do.
import Derived.Test.YtfknffpfjoalkaaQFnGluingsx0
import Derived.Test.YtfknffpfjoalkaaQFnGluingsx2
import Derived.Test.YtfknffpfjoalkaaQFnGluingsx3
import Derived.Test.YtfknffpfjoalkaaZip
namespace Go.Proofs.Ytfknffpfjoalkaa.QFnGluings
open Go.Proofs.Ytfknffpfjoalkaa.Zip Go.RowKit Go.Proofs.YtfknffpfjoalkaaW.PrintWords Go.Proofs.YtfknffpfjoalkaaW.PrintLast Go.Proofs.YtfknffpfjoalkaaW.PrintMore
attribute [local go_sem] max2_int min2_int max_two min_two max_three min_three max_four min_four   -- for this text's walks alone
set_option linter.unusedVariables false
set_option linter.unusedSimpArgs false
mutual
def impl_IsTwoSided.l0 : Nat → List (List Int) → Int → Int → Option (Bool)
 | 0, _, _, _ => none
 | k + 1, x0, x16, x17 => if x17 < x16 then (if 9 ≤ 35184372088832 then (impl_IsTwoSided.l1 k x0 x17 (List.replicate 9 0) true x16 x17 x0 (x0.length : Int) 0) else (none)) else (some false)
def impl_IsTwoSided.l1 : Nat → List (List Int) → Int → List Int → Bool → Int → Int → List (List Int) → Int → Int → Option (Bool)
 | 0, _, _, _, _, _, _, _, _, _ => none
 | k + 1, x0, x3, x4, x5, x16, x17, x21, x22, x23 => if x23 < x22 then (if 0 ≤ x23 then (if x23 < (x21.length : Int) then (impl_IsTwoSided.l2 k x0 x3 x4 x5 x23 x16 x17 x21 x22 x23 (rd_L1 x21 x23) ((rd_L1 x21 x23).length : Int) 0) else (none)) else (none)) else (if x5 = true then (some true) else (impl_IsTwoSided.l0 k x0 x16 (wrap64 (x17 + 1))))
def impl_IsTwoSided.l2 : Nat → List (List Int) → Int → List Int → Bool → Int → Int → Int → List (List Int) → Int → Int → List Int → Int → Int → Option (Bool)
 | 0, _, _, _, _, _, _, _, _, _, _, _, _, _ => none
 | k + 1, x0, x3, x4, x5, x6, x16, x17, x21, x22, x23, x28, x29, x30 => if x30 < x29 then (if 0 ≤ x30 then (if x30 < (x28.length : Int) then (if 0 ≤ x6 then (if ((decide ((rd x28 x30) < 0)) != ((Go.bits .and .i64 (shr .i64 x3 x6) 1) == 1)) = true then (impl_IsTwoSided.j3 k x0 x3 x4 x5 x6 (rd x28 x30) (-1) x16 x17 x21 x22 x23 x28 x29 x30) else (impl_IsTwoSided.j3 k x0 x3 x4 x5 x6 (rd x28 x30) 1 x16 x17 x21 x22 x23 x28 x29 x30)) else (none)) else (none)) else (none)) else (impl_IsTwoSided.l1 k x0 x3 x4 x5 x16 x17 x21 x22 (wrap64 (x23 + 1)))
def impl_IsTwoSided.j3 : Nat → List (List Int) → Int → List Int → Bool → Int → Int → Int → Int → Int → List (List Int) → Int → Int → List Int → Int → Int → Option (Bool)
 | 0, _, _, _, _, _, _, _, _, _, _, _, _, _, _, _ => none
 | k + 1, x0, x3, x4, x5, x6, x9, x10, x16, x17, x21, x22, x23, x28, x29, x30 => (impl_size.f x9).bind fun t206 => (if 0 ≤ t206 then (if t206 < (x4.length : Int) then (if (rd x4 t206) = x10 then ((impl_size.f x9).bind fun t208 => (if 0 ≤ t208 then (if t208 < (x4.length : Int) then (impl_IsTwoSided.l2 k x0 x3 (x4.set (t208 : Int).toNat x10) false x6 x16 x17 x21 x22 x23 x28 x29 (wrap64 (x30 + 1))) else (none)) else (none))) else ((impl_size.f x9).bind fun t210 => (if 0 ≤ t210 then (if t210 < (x4.length : Int) then (impl_IsTwoSided.l2 k x0 x3 (x4.set (t210 : Int).toNat x10) x5 x6 x16 x17 x21 x22 x23 x28 x29 (wrap64 (x30 + 1))) else (none)) else (none)))) else (none)) else (none))
end
def impl_IsTwoSided.f (k : Nat) (l0 : List (List Int)) : Option (Bool) := (impl_IsGluing.f k l0).bind fun t200 => (if t200 = true then (impl_IsTwoSided.l0 k l0 (shl .i64 1 (l0.length : Int)) 0) else (some false))
set_option maxHeartbeats 8000000 in
set_option maxRecDepth 100000 in
theorem impl_IsTwoSided.calls (k : Nat) (A0 : Option Addr) (c0 : Nat) (l0 : List (List Int)) (r : Bool) (w : World) (hr0 : Kd.C (Kd.slice 3 (Kd.int .i64)) w A0 l0.length l0) (hc0 : l0.length ≤ c0) (h : impl_IsTwoSided.f k l0 = some r) :
  Calls Try.prog 29 #[.slice A0 l0.length c0] w fun e w' => e = .returned (.bool r) ∧ Below w.heap.size w w' := by
 have HR0 := Aside0.mk hr0
 have HC0 := Aside0.mk hc0
 clear hr0 hc0
 have HB := Aside0.mk (Below.refl w.heap.size w)
 have H := h
 clear h
 unfold impl_IsTwoSided.f at H
 replace H := Option.bind_eq_some_iff.mp H
 obtain ⟨t200, A20, H⟩ := H
 have A2 := Aside0.mk A20
 clear A20
 by_cases c3 : t200 = true
 ·
  subst c3
  rw [if_pos rfl] at H
  obtain ⟨ji4, hji4⟩ : ∃ j_ : Int, (shl .i64 1 (l0.length : Int)) = j_ := ⟨_, rfl⟩
  replace H : (impl_IsTwoSided.l0 k l0 ji4 0) = some r := by first | (rw [hji4] at H; exact H) | (simp only [hji4] at H ⊢; exact H)
  (try rw [hji4] at A2)
  have hji4_ : (IntKind.i64.wrap (1 * 2 ^ min (l0.length : Int).toNat 64)) = ji4 := hji4
  have hji4z : (l0.length : Int) ≤ 64 → (IntKind.i64.wrap (1 * 2 ^ (l0.length : Int).toNat)) = ji4 := shl_small hji4
  have hji4p : (IntKind.i64.wrap (1 * 2 ^ min l0.length 64)) = ji4 := hji4_
  have hji4q : (l0.length : Int) ≤ 64 → (IntKind.i64.wrap (1 * 2 ^ l0.length)) = ji4 := hji4z
  have hji4r : (IntKind.i64.wrap (2 ^ min l0.length 64)) = ji4 := by have h_ := hji4p; rw [Int.one_mul] at h_; exact h_
  have hji4s : (l0.length : Int) ≤ 64 → (IntKind.i64.wrap (2 ^ l0.length)) = ji4 := fun hle_ => by have h_ := hji4q hle_; rw [Int.one_mul] at h_; exact h_
  have hji4u : (IntKind.i64.wrap (2 ^ min (l0.length : Int).toNat 64)) = ji4 := by have h_ := hji4_; rw [Int.one_mul] at h_; exact h_
  have hji4v : (l0.length : Int) ≤ 64 → (IntKind.i64.wrap (2 ^ (l0.length : Int).toNat)) = ji4 := fun hle_ => by have h_ := hji4z hle_; rw [Int.one_mul] at h_; exact h_
  have hji4y : (wrap64 (1 * 2 ^ min (l0.length : Int).toNat 64)) = ji4 := (i64_w _).symm.trans hji4_
  have hji4x : (l0.length : Int) ≤ 64 → (wrap64 (1 * 2 ^ (l0.length : Int).toNat)) = ji4 := fun h_ => (i64_w _).symm.trans (hji4z h_)
  have H' := Aside0.mk H
  clear H
  go_enter Try.func29, Try.ntmps29
  go_wp2_with (first | ((with_reducible refine zg 18 rfl ?_); refine zl (some 12) Try.func18 #[.slice A0 l0.length c0] ?_; (with_reducible refine (impl_IsGluing.calls k _ _ l0 true _ ?side1 ?side2 A2.out).mono ?_); (case side1 => exact zc HR0.out); (case side2 => exact HC0.out); rintro e w5 ⟨rfl, hb⟩; refine ⟨_, rfl, ?_⟩; replace HB := Aside0.mk (below_step z0 hb)))
  go_loopg [17] k (fun kq v17 w' => ∃ (x17_1 : Int), v17 = .int .i64 x17_1 ∧ Aside0 (impl_IsTwoSided.l0 kq l0 ji4 x17_1 = some r) ∧ Aside0 (kq ≤ k) ∧ Aside0 (Below w.heap.size w w'))
  case atStart => exact ⟨(0), zd, H', ⟨Nat.le_refl _⟩, ⟨z0⟩⟩
  case round =>
   clear H'
   try clear c1
   try clear c2
   try clear p2
   try clear c3
   obtain ⟨x17_1, rfl, HA, HK1, HB⟩ := hrel
   cases gk with
   | zero => exact absurd HA.out (by simp [impl_IsTwoSided.l0])
   | succ k1 =>
    have H := HA.out
    clear HA
    simp only [impl_IsTwoSided.l0] at H
    by_cases c6 : x17_1 < ji4
    ·
     rw [if_pos c6] at H
     have c6b0 : decide (x17_1 < ji4) = true := decide_eq_true c6
     clear c6
     by_cases c7 : 9 ≤ 35184372088832
     ·
      rw [if_pos c7] at H
      have c7b0 := eq_true c7
      have c7b1 : decide (9 ≤ 35184372088832) = true := decide_eq_true c7
      clear c7
      obtain ⟨y201, hy201⟩ : ∃ y_ : List Int, y_ = (List.replicate 9 0) := ⟨_, rfl⟩
      replace H : (impl_IsTwoSided.l1 k1 l0 x17_1 y201 true ji4 x17_1 l0 (l0.length : Int) 0) = some r := zy hy201 H
      have Ny201 := Aside0.mk hy201
      clear hy201
      have H' := Aside0.mk H
      clear H
      go_wp2_with (first | ((with_reducible refine gate_dst (N := 20) rfl ?_); refine Kd.R_make (Kd.int .i64) _ 3 rfl (N := 20) rfl 27 _ _ rfl 9 rfl rfl Try.underlying27 (.int .i64 0) 8 info3 rfl (by decide) (by omega) 0 (ok := fun _ => True) (okp := fun _ => True) rfl (fun _ hk => hk) trivial (by omega) (by omega) (Below.refl _ _) (Nat.le_refl _) ?_; intro v202 w8 ho9 hb hg_ hnew_; clear hg_ hnew_; (first | rw [← Ny201.out] at ho9 | (simp only [Int.reduceToNat] at ho9; rw [← Ny201.out] at ho9)); have HO203 := Aside0.mk (Kd.R_lower ho9 (below_size z0)); replace HB := Aside0.mk (below_step z0 hb); clear hb ho9))
      go_loopg [5, 23] k1 (fun kq v5 v23 w' => ∃ (x4_2 : List Int) (x5_2 : Bool) (x23_2 : Int), v5 = .bool x5_2 ∧ v23 = .int .i64 x23_2 ∧ Aside0 (impl_IsTwoSided.l1 kq l0 x17_1 x4_2 x5_2 ji4 x17_1 l0 (l0.length : Int) x23_2 = some r) ∧ Aside0 (kq ≤ k1) ∧ Aside0 (Kd.R (Kd.int .i64) 3 w' w.heap.size (fun _ => True) v202 x4_2) ∧ Aside0 (Below w.heap.size w w'))
      case atStart => exact ⟨(y201), (true), (0), zd, zd, H', ⟨Nat.le_refl _⟩, ⟨zr HO203.out⟩, ⟨z0⟩⟩
      case round =>
       clear H'
       try clear c1
       try clear c2
       try clear p2
       try clear c3
       try clear c6
       try clear c6b0
       try clear p6
       try clear c7
       try clear c7b0
       try clear c7b1
       try clear p2
       obtain ⟨x4_2, x5_2, x23_2, rfl, rfl, HA, HK2, HO_4, HB⟩ := hrel
       cases gk with
       | zero => exact absurd HA.out (by simp [impl_IsTwoSided.l1])
       | succ k2 =>
        have H := HA.out
        clear HA
        simp only [impl_IsTwoSided.l1] at H
        by_cases c10 : x23_2 < (l0.length : Int)
        ·
         rw [if_pos c10] at H
         have c10b0 : decide (x23_2 < (l0.length : Int)) = true := decide_eq_true c10
         clear c10
         by_cases c11 : 0 ≤ x23_2
         ·
          rw [if_pos c11] at H
          have c11b0 : decide (0 ≤ x23_2) = true := decide_eq_true c11
          clear c11
          by_cases c12 : x23_2 < (l0.length : Int)
          ·
           rw [if_pos c12] at H
           have c12b0 : decide (x23_2 < (l0.length : Int)) = true := decide_eq_true c12
           clear c12
           have H' := Aside0.mk H
           clear H
           have p204 : 0 ≤ (x23_2 : Int) := za
           have q204 : x23_2 < (l0.length : Int) := za
           obtain ⟨ad204, A204_0, c204_0, e204, hx204_0, hl204_0, hi204_0⟩ := at_L1 HR0.out x23_2 p204 q204
           cases e204
           replace hx204_0 := (HB.out.cell (World.block_lt_of_cell? w _ hx204_0)).trans hx204_0
           have HR204_0 := Aside0.mk hi204_0
           have HC204_0 := Aside0.mk hl204_0
           clear hi204_0 hl204_0
           replace p204 := eq_true p204
           replace q204 := eq_true q204
           go_wp2
           go_loopg [5, 30] k2 (fun kq v5 v30 w' => ∃ (x4_3 : List Int) (x5_3 : Bool) (x30_3 : Int), v5 = .bool x5_3 ∧ v30 = .int .i64 x30_3 ∧ Aside0 (impl_IsTwoSided.l2 kq l0 x17_1 x4_3 x5_3 x23_2 ji4 x17_1 l0 (l0.length : Int) x23_2 (rd_L1 l0 x23_2) ((rd_L1 l0 x23_2).length : Int) x30_3 = some r) ∧ Aside0 (kq ≤ k2) ∧ Aside0 (Kd.R (Kd.int .i64) 3 w' w.heap.size (fun _ => True) v202 x4_3) ∧ Aside0 (Below w.heap.size w w'))
           case atStart => exact ⟨(x4_2), (x5_2), (0), zd, zd, H', ⟨Nat.le_refl _⟩, ⟨zr HO_4.out⟩, ⟨z0⟩⟩
           case round =>
            clear H'
            try clear c1
            try clear c2
            try clear p2
            try clear q2
            try clear hx2
            try clear c3
            try clear c6
            try clear c6b0
            try clear p6
            try clear c7
            try clear c7b0
            try clear c7b1
            try clear c10
            try clear c10b0
            try clear c11
            try clear c11b0
            try clear c12
            try clear c12b0
            try clear hx204_0
            try clear p2
            try clear p204
            try clear p6
            try clear q204
            obtain ⟨x4_3, x5_3, x30_3, rfl, rfl, HA, HK3, HO_4, HB⟩ := hrel
            cases gk with
            | zero => exact absurd HA.out (by simp [impl_IsTwoSided.l2])
            | succ k3 =>
             have H := HA.out
             clear HA
             simp only [impl_IsTwoSided.l2] at H
             by_cases c13 : x30_3 < ((rd_L1 l0 x23_2).length : Int)
             ·
              rw [if_pos c13] at H
              have c13b0 : decide (x30_3 < ((rd_L1 l0 x23_2).length : Int)) = true := decide_eq_true c13
              clear c13
              by_cases c14 : 0 ≤ x30_3
              ·
               rw [if_pos c14] at H
               have c14b0 : decide (0 ≤ x30_3) = true := decide_eq_true c14
               clear c14
               by_cases c15 : x30_3 < ((rd_L1 l0 x23_2).length : Int)
               ·
                rw [if_pos c15] at H
                have c15b0 : decide (x30_3 < ((rd_L1 l0 x23_2).length : Int)) = true := decide_eq_true c15
                clear c15
                by_cases c16 : 0 ≤ x23_2
                ·
                 rw [if_pos c16] at H
                 have c16b0 := eq_true c16
                 have c16b1 : decide (0 ≤ x23_2) = true := decide_eq_true c16
                 clear c16
                 obtain ⟨ji17, hji17⟩ : ∃ j_ : Int, (shr .i64 x17_1 x23_2) = j_ := ⟨_, rfl⟩
                 replace H : (if ((decide ((rd (rd_L1 l0 x23_2) x30_3) < 0)) != ((Go.bits .and .i64 (ji17) 1) == 1)) = true then (impl_IsTwoSided.j3 k3 l0 x17_1 x4_3 x5_3 x23_2 (rd (rd_L1 l0 x23_2) x30_3) (-1) ji4 x17_1 l0 (l0.length : Int) x23_2 (rd_L1 l0 x23_2) ((rd_L1 l0 x23_2).length : Int) x30_3) else (impl_IsTwoSided.j3 k3 l0 x17_1 x4_3 x5_3 x23_2 (rd (rd_L1 l0 x23_2) x30_3) 1 ji4 x17_1 l0 (l0.length : Int) x23_2 (rd_L1 l0 x23_2) ((rd_L1 l0 x23_2).length : Int) x30_3)) = some r := by first | (rw [hji17] at H; exact H) | (simp only [hji17] at H ⊢; exact H)
                 have hji17_ : (x17_1 / 2 ^ min x23_2.toNat 64) = ji17 := hji17
                 have hji17z : x23_2 ≤ 64 → (x17_1 / 2 ^ x23_2.toNat) = ji17 := shr_small hji17
                 have HC18 := Aside0.mk H
                 clear H
                 have p205 : 0 ≤ (x30_3 : Int) := za
                 have q205 : x30_3 < ((rd_L1 l0 x23_2).length : Int) := za
                 obtain ⟨ad205, e205, hx205_0⟩ := Kd.at_int HR204_0.out x30_3 p205 q205
                 cases e205
                 replace hx205_0 := (HB.out.cell (World.block_lt_of_cell? w _ hx205_0)).trans hx205_0
                 replace p205 := eq_true p205
                 replace q205 := eq_true q205
                 go_upto_if 41 with (fail)
                 go_cut [10] (fun v10 wc => ∃ (kq : Nat) (x10_17 : Int), v10 = .int .i64 x10_17 ∧ Aside0 (impl_IsTwoSided.j3 kq l0 x17_1 x4_3 x5_3 x23_2 (rd (rd_L1 l0 x23_2) x30_3) x10_17 ji4 x17_1 l0 (l0.length : Int) x23_2 (rd_L1 l0 x23_2) ((rd_L1 l0 x23_2).length : Int) x30_3 = some r) ∧ Aside0 (kq ≤ k3) ∧ Aside0 (Kd.R (Kd.int .i64) 3 wc w.heap.size (fun _ => True) v202 x4_3) ∧ Aside0 (Below w.heap.size w wc))
                 case first =>
                  have H := HC18.out
                  clear HC18
                  by_cases c19 : ((decide ((rd (rd_L1 l0 x23_2) x30_3) < 0)) != ((Go.bits .and .i64 (ji17) 1) == 1)) = true
                  ·
                   rw [if_pos c19] at H
                   have c19b0 : ((decide ((rd (rd_L1 l0 x23_2) x30_3) < 0)) != ((Go.bits .and .i64 (ji17) 1) == 1)) = true := c19
                   (try (have c19b1 : decide ((decide ((rd (rd_L1 l0 x23_2) x30_3) < 0)) = ((Go.bits .and .i64 (ji17) 1) == 1)) = false := by simpa using c19))
                   (try (have c19b2 : ((decide ((rd (rd_L1 l0 x23_2) x30_3) < 0)) == ((Go.bits .and .i64 (ji17) 1) == 1)) = false := by simpa using c19))
                   (try (have c19b3 : ¬ ((decide ((rd (rd_L1 l0 x23_2) x30_3) < 0)) = ((Go.bits .and .i64 (ji17) 1) == 1)) := by simpa using c19))
                   (try (have c19b4 : (!((decide ((rd (rd_L1 l0 x23_2) x30_3) < 0)) == ((Go.bits .and .i64 (ji17) 1) == 1))) = true := (by have h_ := c19; revert h_; generalize (decide ((rd (rd_L1 l0 x23_2) x30_3) < 0)) = x_; generalize ((Go.bits .and .i64 (ji17) 1) == 1) = y_; cases x_ <;> cases y_ <;> simp)))
                   clear c19
                   (first | rw [c19b0] | (simp only [i64_w, i32_w]; rw [c19b0]) | rw [c19b4] | rw [c19b3] | (simp only [i64_w, i32_w]; first | rw [c19b4] | rw [c19b3]) | skip)
                   have H' := Aside0.mk H
                   clear H
                   go_wp2
                   go_meet
                   case rel => exact ⟨_, ((-1)), zd, H', ⟨by have := HK1.out; have := HK2.out; have := HK3.out; first | omega | exact Nat.le_refl _⟩, ⟨zr HO_4.out⟩, ⟨z0⟩⟩
                  ·
                   rw [if_neg c19] at H
                   have c19b0 : ((decide ((rd (rd_L1 l0 x23_2) x30_3) < 0)) != ((Go.bits .and .i64 (ji17) 1) == 1)) = false := by simpa using c19
                   (try (have c19b1 : decide ((decide ((rd (rd_L1 l0 x23_2) x30_3) < 0)) = ((Go.bits .and .i64 (ji17) 1) == 1)) = true := by simpa using c19))
                   (try (have c19b2 : ((decide ((rd (rd_L1 l0 x23_2) x30_3) < 0)) == ((Go.bits .and .i64 (ji17) 1) == 1)) = true := by simpa using c19))
                   (try (have c19b3 : (!((decide ((rd (rd_L1 l0 x23_2) x30_3) < 0)) == ((Go.bits .and .i64 (ji17) 1) == 1))) = false := (by have h_ := c19; revert h_; generalize (decide ((rd (rd_L1 l0 x23_2) x30_3) < 0)) = x_; generalize ((Go.bits .and .i64 (ji17) 1) == 1) = y_; cases x_ <;> cases y_ <;> simp)))
                   clear c19
                   (first | rw [c19b0] | (simp only [i64_w, i32_w]; rw [c19b0]) | rw [c19b4] | rw [c19b3] | (simp only [i64_w, i32_w]; first | rw [c19b4] | rw [c19b3]) | skip)
                   have H' := Aside0.mk H
                   clear H
                   go_wp2
                   go_meet
                   case rel => exact ⟨_, (1), zd, H', ⟨by have := HK1.out; have := HK2.out; have := HK3.out; first | omega | exact Nat.le_refl _⟩, ⟨zr HO_4.out⟩, ⟨z0⟩⟩
                 case rest =>
                  clear HC18
                  try clear c1
                  try clear c2
                  try clear p2
                  try clear q2
                  try clear hx2
                  try clear c3
                  try clear c6
                  try clear c6b0
                  try clear p6
                  try clear c7
                  try clear c7b0
                  try clear c7b1
                  try clear c10
                  try clear c10b0
                  try clear c11
                  try clear c11b0
                  try clear c12
                  try clear c12b0
                  try clear c13
                  try clear c13b0
                  try clear c14
                  try clear c14b0
                  try clear c15
                  try clear c15b0
                  try clear c16
                  try clear c16b0
                  try clear c16b1
                  try clear c18
                  try clear c19
                  try clear c19b0
                  try clear c19b1
                  try clear c19b2
                  try clear hx204_0
                  try clear hx205_0
                  try clear p2
                  try clear p204
                  try clear p205
                  try clear p6
                  try clear q2
                  try clear q204
                  try clear q205
                  obtain ⟨kq, x10_17, rfl, HA, HJ17, HO_4, HB⟩ := hcut
                  cases kq with
                  | zero => exact absurd HA.out (by simp [impl_IsTwoSided.j3])
                  | succ kj17 =>
                   have H := HA.out
                   clear HA
                   simp only [impl_IsTwoSided.j3] at H
                   replace H := Option.bind_eq_some_iff.mp H
                   obtain ⟨t206, A200, H⟩ := H
                   have A20 := Aside0.mk A200
                   clear A200
                   by_cases c21 : 0 ≤ t206
                   ·
                    rw [if_pos c21] at H
                    have c21b0 : decide (0 ≤ t206) = true := decide_eq_true c21
                    clear c21
                    by_cases c22 : t206 < (x4_3.length : Int)
                    ·
                     rw [if_pos c22] at H
                     have c22b0 : decide (t206 < (x4_3.length : Int)) = true := decide_eq_true c22
                     clear c22
                     by_cases c23 : (rd x4_3 t206) = x10_17
                     ·
                      rw [if_pos c23] at H
                      have c23b0 : ((rd x4_3 t206) == x10_17) = true := beq_iff_eq.mpr c23
                      have c23b1 : ((rd x4_3 t206) != x10_17) = false := bne_eq_false_iff_eq.mpr c23
                      clear c23
                      replace H := Option.bind_eq_some_iff.mp H
                      obtain ⟨t208, A240, H⟩ := H
                      have A24 := Aside0.mk A240
                      clear A240
                      by_cases c25 : 0 ≤ t208
                      ·
                       rw [if_pos c25] at H
                       have c25b0 : decide (0 ≤ t208) = true := decide_eq_true c25
                       clear c25
                       by_cases c26 : t208 < (x4_3.length : Int)
                       ·
                        rw [if_pos c26] at H
                        have c26b0 : decide (t208 < (x4_3.length : Int)) = true := decide_eq_true c26
                        clear c26
                        obtain ⟨y209, hy209⟩ : ∃ y_ : List Int, y_ = (x4_3.set (t208 : Int).toNat x10_17) := ⟨_, rfl⟩
                        replace H : (impl_IsTwoSided.l2 kj17 l0 x17_1 y209 false x23_2 ji4 x17_1 l0 (l0.length : Int) x23_2 (rd_L1 l0 x23_2) ((rd_L1 l0 x23_2).length : Int) (wrap64 (x30_3 + 1))) = some r := zy hy209 H
                        have Ny209 := Aside0.mk hy209
                        clear hy209
                        have H' := Aside0.mk H
                        clear H
                        go_wp2_with (first | ((with_reducible refine zg 61 rfl ?_); refine zl (some 44) Try.func61 #[.int .i64 (rd (rd_L1 l0 x23_2) x30_3)] ?_; (with_reducible refine (impl_size.calls (rd (rd_L1 l0 x23_2) x30_3) t206 _ A20.out).mono ?_); rintro e w28 ⟨rfl, hb⟩; refine ⟨_, rfl, ?_⟩; replace HO_4 := Aside0.mk (Kd.R_below (zr HO_4.out) hb); replace HB := Aside0.mk (below_step z0 hb); (try clear hb); (try clear hb2); (try clear hk); (try clear hi); obtain ⟨Ao29, co29, eo29⟩ := Kd.R_slice HO_4.out; subst eo29; have p207 : 0 ≤ (t206 : Int) := za; have q207 : t206 < (x4_3.length : Int) := za; obtain ⟨ad207, e207, hx207_0⟩ := Kd.at_int (Kd.R_reads' HO_4.out).2.2 t206 p207 q207; cases e207; replace p207 := eq_true p207; replace q207 := eq_true q207) | ((with_reducible refine zg 61 rfl ?_); refine zl (some 51) Try.func61 #[.int .i64 (rd (rd_L1 l0 x23_2) x30_3)] ?_; (with_reducible refine (impl_size.calls (rd (rd_L1 l0 x23_2) x30_3) t208 _ A24.out).mono ?_); rintro e w30 ⟨rfl, hb⟩; refine ⟨_, rfl, ?_⟩; replace HO_4 := Aside0.mk (Kd.R_below (zr HO_4.out) hb); replace HB := Aside0.mk (below_step z0 hb); (try clear hb); (try clear hb2); (try clear hk); (try clear hi); have p27 : 0 ≤ (t208 : Int) := za; have q27 : (t208 : Int) < ((x4_3.length : Int) : Int) := za; obtain ⟨go27, co27, eo27, gb27, gl27, cl27, HG27⟩ := Kd.R_form HO_4.out (by omega); (first | cases eo27 | (injection eo27 with ea_ en_ ec_; (first | subst ea_ | (injection ea_ with ea_; subst ea_)); subst ec_; clear en_)); have GB27 := Aside0.mk gb27; have GG27 := Aside0.mk HG27; clear gb27 gl27 HG27; (first | simp only [add_plain] at hx207_0 | skip); obtain ⟨hx27_0, hf27_0⟩ := Kd.R_celln 0 HO_4.out (t208 : Int) p27 q27; replace p27 := eq_true p27; replace q27 := eq_true q27; obtain ⟨hy31_, hz31_⟩ := Kd.R_celln 0 HO_4.out (t208 : Int) (za) (za); have HP31 := Kd.R_putg HO_4.out (t208 : Int) x10_17) | ((with_reducible refine gate_store (t := 3) (p := 53) rfl ?_); refine store_event (t := 3) (p := 53) (v := ?vo_w32) (w1 := (w30.setCell ⟨go27, (t208 : Int).toNat, none⟩ (.int .i64 x10_17))) ?hg ?ho ?hn ?hr ?_; (case ho => rfl); (case hg => rfl); (case hn => rfl); (case hr => first | (go_simp; done) | (go_simp; rfl)); intro w32 hw; have hg : w30.grownBy w32 (some go27) := (by rw [hw]; exact HP31.2); have hp_ : Kd.R (Kd.int .i64) 3 w32 w.heap.size (fun _ => True) (.slice (some ⟨go27, 0, none⟩) x4_3.length co29) y209 := (by rw [hw, Ny209.out]; exact HP31.1); clear HP31; replace HO_4 := Aside0.mk (hp_); replace HB := Aside0.mk ((by rw [hw]; exact below_set (HB.out) GB27.out : Below w.heap.size w w32)); clear hg hw hp_))
                        go_roundg kj17
                        case measure => have := HK1.out; have := HK2.out; have := HK3.out; have := HJ17.out; omega
                        case rel => exact ⟨(y209), (false), (wrap64 (x30_3 + 1)), zd, zd, H', ⟨by have := HK1.out; have := HK2.out; have := HK3.out; have := HJ17.out; omega⟩, ⟨zr HO_4.out⟩, ⟨z0⟩⟩
                       ·
                        rw [if_neg c26] at H
                        exact absurd H (by simp)
                      ·
                       rw [if_neg c25] at H
                       exact absurd H (by simp)
                     ·
                      rw [if_neg c23] at H
                      have c23b0 : ((rd x4_3 t206) == x10_17) = false := beq_eq_false_iff_ne.mpr c23
                      have c23b1 : ((rd x4_3 t206) != x10_17) = true := bne_iff_ne.mpr c23
                      replace H := Option.bind_eq_some_iff.mp H
                      obtain ⟨t210, A330, H⟩ := H
                      have A33 := Aside0.mk A330
                      clear A330
                      by_cases c34 : 0 ≤ t210
                      ·
                       rw [if_pos c34] at H
                       have c34b0 : decide (0 ≤ t210) = true := decide_eq_true c34
                       clear c34
                       by_cases c35 : t210 < (x4_3.length : Int)
                       ·
                        rw [if_pos c35] at H
                        have c35b0 : decide (t210 < (x4_3.length : Int)) = true := decide_eq_true c35
                        clear c35
                        obtain ⟨y211, hy211⟩ : ∃ y_ : List Int, y_ = (x4_3.set (t210 : Int).toNat x10_17) := ⟨_, rfl⟩
                        replace H : (impl_IsTwoSided.l2 kj17 l0 x17_1 y211 x5_3 x23_2 ji4 x17_1 l0 (l0.length : Int) x23_2 (rd_L1 l0 x23_2) ((rd_L1 l0 x23_2).length : Int) (wrap64 (x30_3 + 1))) = some r := zy hy211 H
                        have Ny211 := Aside0.mk hy211
                        clear hy211
                        have H' := Aside0.mk H
                        clear H
                        go_wp2_with (first | ((with_reducible refine zg 61 rfl ?_); refine zl (some 44) Try.func61 #[.int .i64 (rd (rd_L1 l0 x23_2) x30_3)] ?_; (with_reducible refine (impl_size.calls (rd (rd_L1 l0 x23_2) x30_3) t206 _ A20.out).mono ?_); rintro e w37 ⟨rfl, hb⟩; refine ⟨_, rfl, ?_⟩; replace HO_4 := Aside0.mk (Kd.R_below (zr HO_4.out) hb); replace HB := Aside0.mk (below_step z0 hb); (try clear hb); (try clear hb2); (try clear hk); (try clear hi); obtain ⟨Ao38, co38, eo38⟩ := Kd.R_slice HO_4.out; subst eo38; have p207 : 0 ≤ (t206 : Int) := za; have q207 : t206 < (x4_3.length : Int) := za; obtain ⟨ad207, e207, hx207_0⟩ := Kd.at_int (Kd.R_reads' HO_4.out).2.2 t206 p207 q207; cases e207; replace p207 := eq_true p207; replace q207 := eq_true q207) | ((with_reducible refine zg 61 rfl ?_); refine zl (some 51) Try.func61 #[.int .i64 (rd (rd_L1 l0 x23_2) x30_3)] ?_; (with_reducible refine (impl_size.calls (rd (rd_L1 l0 x23_2) x30_3) t210 _ A33.out).mono ?_); rintro e w39 ⟨rfl, hb⟩; refine ⟨_, rfl, ?_⟩; replace HO_4 := Aside0.mk (Kd.R_below (zr HO_4.out) hb); replace HB := Aside0.mk (below_step z0 hb); (try clear hb); (try clear hb2); (try clear hk); (try clear hi); have p36 : 0 ≤ (t210 : Int) := za; have q36 : (t210 : Int) < ((x4_3.length : Int) : Int) := za; obtain ⟨go36, co36, eo36, gb36, gl36, cl36, HG36⟩ := Kd.R_form HO_4.out (by omega); (first | cases eo36 | (injection eo36 with ea_ en_ ec_; (first | subst ea_ | (injection ea_ with ea_; subst ea_)); subst ec_; clear en_)); have GB36 := Aside0.mk gb36; have GG36 := Aside0.mk HG36; clear gb36 gl36 HG36; (first | simp only [add_plain] at hx207_0 | skip); obtain ⟨hx36_0, hf36_0⟩ := Kd.R_celln 0 HO_4.out (t210 : Int) p36 q36; replace p36 := eq_true p36; replace q36 := eq_true q36; obtain ⟨hy40_, hz40_⟩ := Kd.R_celln 0 HO_4.out (t210 : Int) (za) (za); have HP40 := Kd.R_putg HO_4.out (t210 : Int) x10_17) | ((with_reducible refine gate_store (t := 3) (p := 53) rfl ?_); refine store_event (t := 3) (p := 53) (v := ?vo_w41) (w1 := (w39.setCell ⟨go36, (t210 : Int).toNat, none⟩ (.int .i64 x10_17))) ?hg ?ho ?hn ?hr ?_; (case ho => rfl); (case hg => rfl); (case hn => rfl); (case hr => first | (go_simp; done) | (go_simp; rfl)); intro w41 hw; have hg : w39.grownBy w41 (some go36) := (by rw [hw]; exact HP40.2); have hp_ : Kd.R (Kd.int .i64) 3 w41 w.heap.size (fun _ => True) (.slice (some ⟨go36, 0, none⟩) x4_3.length co38) y211 := (by rw [hw, Ny211.out]; exact HP40.1); clear HP40; replace HO_4 := Aside0.mk (hp_); replace HB := Aside0.mk ((by rw [hw]; exact below_set (HB.out) GB36.out : Below w.heap.size w w41)); clear hg hw hp_))
                        go_roundg kj17
                        case measure => have := HK1.out; have := HK2.out; have := HK3.out; have := HJ17.out; omega
                        case rel => exact ⟨(y211), (x5_3), (wrap64 (x30_3 + 1)), zd, zd, H', ⟨by have := HK1.out; have := HK2.out; have := HK3.out; have := HJ17.out; omega⟩, ⟨zr HO_4.out⟩, ⟨z0⟩⟩
                       ·
                        rw [if_neg c35] at H
                        exact absurd H (by simp)
                      ·
                       rw [if_neg c34] at H
                       exact absurd H (by simp)
                    ·
                     rw [if_neg c22] at H
                     exact absurd H (by simp)
                   ·
                    rw [if_neg c21] at H
                    exact absurd H (by simp)
                ·
                 rw [if_neg c16] at H
                 exact absurd H (by simp)
               ·
                rw [if_neg c15] at H
                exact absurd H (by simp)
              ·
               rw [if_neg c14] at H
               exact absurd H (by simp)
             ·
              rw [if_neg c13] at H
              have c13b0 : decide (x30_3 < ((rd_L1 l0 x23_2).length : Int)) = false := decide_eq_false c13
              clear c13
              have H' := Aside0.mk H
              clear H
              go_wp2
              go_roundg k3
              case measure => have := HK1.out; have := HK2.out; have := HK3.out; omega
              case rel => exact ⟨(x4_3), (x5_3), (wrap64 (x23_2 + 1)), zd, zd, H', ⟨by have := HK1.out; have := HK2.out; have := HK3.out; omega⟩, ⟨zr HO_4.out⟩, ⟨z0⟩⟩
          ·
           rw [if_neg c12] at H
           exact absurd H (by simp)
         ·
          rw [if_neg c11] at H
          exact absurd H (by simp)
        ·
         rw [if_neg c10] at H
         have c10b0 : decide (x23_2 < (l0.length : Int)) = false := decide_eq_false c10
         clear c10
         by_cases c42 : x5_2 = true
         ·
          subst c42
          rw [if_pos rfl] at H
          obtain rfl := Option.some.inj H
          go_wp2
          go_ret
          exact ⟨by first | rfl | (simp [errW_none, errW_some] <;> rfl) | (simp only [← hji4]; first | rfl | (simp [errW_none, errW_some] <;> rfl)) | (simp [*, errW_none, errW_some] <;> rfl), z0⟩
         ·
          replace c42 := Bool.eq_false_iff.mpr c42
          subst c42
          rw [if_neg (show ¬ (false = true) by decide)] at H
          have H' := Aside0.mk H
          clear H
          go_wp2
          go_roundg k2
          case measure => have := HK1.out; have := HK2.out; omega
          case rel => exact ⟨(wrap64 (x17_1 + 1)), zd, H', ⟨by have := HK1.out; have := HK2.out; omega⟩, ⟨z0⟩⟩
     ·
      rw [if_neg c7] at H
      exact absurd H (by simp)
    ·
     rw [if_neg c6] at H
     have c6b0 : decide (x17_1 < ji4) = false := decide_eq_false c6
     clear c6
     obtain rfl := Option.some.inj H
     go_wp2
     go_ret
     exact ⟨by first | rfl | (simp [errW_none, errW_some] <;> rfl) | (simp only [← hji4]; first | rfl | (simp [errW_none, errW_some] <;> rfl)) | (simp [*, errW_none, errW_some] <;> rfl), z0⟩
 ·
  replace c3 := Bool.eq_false_iff.mpr c3
  subst c3
  rw [if_neg (show ¬ (false = true) by decide)] at H
  obtain rfl := Option.some.inj H
  go_enter Try.func29, Try.ntmps29
  go_wp2_with (first | ((with_reducible refine zg 18 rfl ?_); refine zl (some 12) Try.func18 #[.slice A0 l0.length c0] ?_; (with_reducible refine (impl_IsGluing.calls k _ _ l0 false _ ?side1 ?side2 A2.out).mono ?_); (case side1 => exact zc HR0.out); (case side2 => exact HC0.out); rintro e w43 ⟨rfl, hb⟩; refine ⟨_, rfl, ?_⟩; replace HB := Aside0.mk (below_step z0 hb)))
  go_ret
  exact ⟨ze, z0⟩
def spec_SplitByte.l0 : Nat → ByteArray → Int → List ByteArray → Int → Int → Option (List ByteArray)
 | 0, _, _, _, _, _ => none
 | k + 1, x0, x1, x5, x6, x7 => if x7 ≤ (x0.size : Int) then (if x7 = (x0.size : Int) then (if 0 ≤ x6 then (if x6 ≤ x7 then (if x5.length < 8796093022208 then (spec_SplitByte.l0 k x0 x1 (x5 ++ [x0.extract (x6 : Int).toNat (x7 : Int).toNat]) (wrap64 (x7 + 1)) (wrap64 (x7 + 1))) else (none)) else (none)) else (none)) else (if 0 ≤ x7 then (if x7 < (x0.size : Int) then (if (bt x0 x7) = x1 then (if 0 ≤ x6 then (if x6 ≤ x7 then (if x5.length < 8796093022208 then (spec_SplitByte.l0 k x0 x1 (x5 ++ [x0.extract (x6 : Int).toNat (x7 : Int).toNat]) (wrap64 (x7 + 1)) (wrap64 (x7 + 1))) else (none)) else (none)) else (none)) else (spec_SplitByte.l0 k x0 x1 x5 x6 (wrap64 (x7 + 1)))) else (none)) else (none))) else (some x5)
def spec_SplitByte.f (k : Nat) (a0 : ByteArray) (a1 : Int) : Option (List ByteArray) := spec_SplitByte.l0 k a0 a1 (([] : List ByteArray)) 0 0
set_option maxHeartbeats 8000000 in
set_option maxRecDepth 100000 in
theorem spec_SplitByte.calls (k : Nat) (a0 : ByteArray) (a1 : Int) (r : List ByteArray) (w : World) (h : spec_SplitByte.f k a0 a1 = some r) :
  Calls Try.prog 62 #[.string a0, .int .u8 a1] w fun e w' => ∃ v0_ : Value, e = .returned (v0_) ∧ Kd.R Kd.string 9 w' w.heap.size (fun _ => True) v0_ r ∧ Below w.heap.size w w' := by
 have HB := Aside0.mk (Below.refl w.heap.size w)
 have H := h
 clear h
 unfold spec_SplitByte.f at H
 obtain ⟨y212, hy212⟩ : ∃ y_ : List ByteArray, y_ = (([] : List ByteArray)) := ⟨_, rfl⟩
 replace H : (spec_SplitByte.l0 k a0 a1 y212 0 0) = some r := zy hy212 H
 have Ny212 := Aside0.mk hy212
 clear hy212
 have H' := Aside0.mk H
 clear H
 go_enter Try.func62, Try.ntmps62
 go_wp2_with (first | ((with_reducible refine gate_dst (N := 8) rfl ?_); refine Kd.R_lit Kd.string _ 9 ?hg (N := 8) ?hd (xs := ([] : List ByteArray)) (inner := []) (ok := fun _ => True) (okp := fun _ => True) ?hr ?hp (fun _ hk => hk) trivial (Below.refl _ _) (Nat.le_refl _) (by simp) ?_; (case hd => rfl); (case hg => rfl); (case hr => first | (go_simp; done) | (go_simp; rfl)); (case hp => exact (Reps.none _ _)); intro v213 w3 ho4 hb hg_ hnew_; clear hg_ hnew_; (first | rw [← Ny212.out] at ho4 | (simp only [Int.reduceToNat] at ho4; rw [← Ny212.out] at ho4)); have HO214 := Aside0.mk (Kd.R_lower ho4 (below_size z0)); replace HB := Aside0.mk (below_step z0 hb); clear hb ho4))
 go_loopg [5, 6, 7] k (fun kq v5 v6 v7 w' => ∃ (x5_1 : List ByteArray) (x6_1 : Int) (x7_1 : Int), v6 = .int .i64 x6_1 ∧ v7 = .int .i64 x7_1 ∧ Aside0 (spec_SplitByte.l0 kq a0 a1 x5_1 x6_1 x7_1 = some r) ∧ Aside0 (kq ≤ k) ∧ Aside0 (Kd.R Kd.string 9 w' w.heap.size (fun _ => True) v5 x5_1) ∧ Aside0 (Below w.heap.size w w'))
 case atStart => exact ⟨(y212), (0), (0), zd, zd, H', ⟨Nat.le_refl _⟩, ⟨zr HO214.out⟩, ⟨z0⟩⟩
 case round =>
  clear H'
  try clear p2
  obtain ⟨x5_1, x6_1, x7_1, rfl, rfl, HA, HK1, HO_5, HB⟩ := hrel
  cases gk with
  | zero => exact absurd HA.out (by simp [spec_SplitByte.l0])
  | succ k1 =>
   have H := HA.out
   clear HA
   simp only [spec_SplitByte.l0] at H
   by_cases c5 : x7_1 ≤ (a0.size : Int)
   ·
    rw [if_pos c5] at H
    have c5b0 : decide (x7_1 ≤ (a0.size : Int)) = true := decide_eq_true c5
    clear c5
    by_cases c6 : x7_1 = (a0.size : Int)
    ·
     rw [if_pos c6] at H
     have c6b0 : (x7_1 == (a0.size : Int)) = true := beq_iff_eq.mpr c6
     have c6b1 : (x7_1 != (a0.size : Int)) = false := bne_eq_false_iff_eq.mpr c6
     clear c6
     by_cases c7 : 0 ≤ x6_1
     ·
      rw [if_pos c7] at H
      have c7b0 := eq_true c7
      have c7b1 : decide (0 ≤ x6_1) = true := decide_eq_true c7
      clear c7
      by_cases c8 : x6_1 ≤ x7_1
      ·
       rw [if_pos c8] at H
       have c8b0 := eq_true c8
       have c8b1 : decide (x6_1 ≤ x7_1) = true := decide_eq_true c8
       clear c8
       have c9b0 := eq_true (za : x7_1 ≤ (a0.size : Int))
       by_cases c10 : x5_1.length < 8796093022208
       ·
        rw [if_pos c10] at H
        have LMc10 := Aside0.mk c10
        clear c10
        obtain ⟨y215, hy215⟩ : ∃ y_ : List ByteArray, y_ = (x5_1 ++ [a0.extract (x6_1 : Int).toNat (x7_1 : Int).toNat]) := ⟨_, rfl⟩
        replace H : (spec_SplitByte.l0 k1 a0 a1 y215 (wrap64 (x7_1 + 1)) (wrap64 (x7_1 + 1))) = some r := zy hy215 H
        have Ny215 := Aside0.mk hy215
        clear hy215
        have H' := Aside0.mk H
        clear H
        go_wp2_with (first | ((with_reducible refine gate_builtin (b := .append) (xs := #[.tmp 26, .tmp 31]) rfl ?_); at_builtin; refine Kd.R_append Kd.string (w0 := w) w.heap.size rfl (.tmp 26) (.tmp 31) 52 9 (.string ⟨#[]⟩) 16 rfl Try.underlying52 info9 rfl (by decide) (by omega) u5 x5_1 (a0.extract (x6_1 : Int).toNat (x7_1 : Int).toNat) [.string (a0.extract (x6_1 : Int).toNat (x7_1 : Int).toNat)] (fun _ => True) (fun _ => False) rfl rfl ?aP (fun _ hk => hk.elim) ?aF ?aO ?aB ?aS ?aL ?_; (case aP => exact rfl); (case aB => exact z0); (case aF => exact (fun _ _ => trivial)); (case aO => exact (zr HO_5.out)); (case aS => exact (below_size z0)); (case aL => have := LMc10.out; omega); intro v216 w11 ho hb hg hat; rw [← Ny215.out] at ho; have n0_ := Aside0.mk (hb); have n1_ := Aside0.mk (ho); clear HB; clear HO_5; have HB := n0_; have HO217 := n1_; clear n0_ n1_; clear ho hb hg hat))
        go_roundg k1
        case measure => have := HK1.out; omega
        case rel => exact ⟨(y215), (wrap64 (x7_1 + 1)), (wrap64 (x7_1 + 1)), zd, zd, H', ⟨by have := HK1.out; omega⟩, ⟨zr HO217.out⟩, ⟨z0⟩⟩
       ·
        rw [if_neg c10] at H
        exact absurd H (by simp)
      ·
       rw [if_neg c8] at H
       exact absurd H (by simp)
     ·
      rw [if_neg c7] at H
      exact absurd H (by simp)
    ·
     rw [if_neg c6] at H
     have c6b0 : (x7_1 == (a0.size : Int)) = false := beq_eq_false_iff_ne.mpr c6
     have c6b1 : (x7_1 != (a0.size : Int)) = true := bne_iff_ne.mpr c6
     by_cases c12 : 0 ≤ x7_1
     ·
      rw [if_pos c12] at H
      have c12b0 : decide (0 ≤ x7_1) = true := decide_eq_true c12
      clear c12
      by_cases c13 : x7_1 < (a0.size : Int)
      ·
       rw [if_pos c13] at H
       have c13b0 : decide (x7_1 < (a0.size : Int)) = true := decide_eq_true c13
       clear c13
       by_cases c15 : (bt a0 x7_1) = a1
       ·
        rw [if_pos c15] at H
        have c15b0 : ((bt a0 x7_1) == a1) = true := beq_iff_eq.mpr c15
        have c15b1 : ((bt a0 x7_1) != a1) = false := bne_eq_false_iff_eq.mpr c15
        clear c15
        by_cases c16 : 0 ≤ x6_1
        ·
         rw [if_pos c16] at H
         have c16b0 := eq_true c16
         have c16b1 : decide (0 ≤ x6_1) = true := decide_eq_true c16
         clear c16
         by_cases c17 : x6_1 ≤ x7_1
         ·
          rw [if_pos c17] at H
          have c17b0 := eq_true c17
          have c17b1 : decide (x6_1 ≤ x7_1) = true := decide_eq_true c17
          clear c17
          have c18b0 := eq_true (za : x7_1 ≤ (a0.size : Int))
          by_cases c19 : x5_1.length < 8796093022208
          ·
           rw [if_pos c19] at H
           have LMc19 := Aside0.mk c19
           clear c19
           obtain ⟨y218, hy218⟩ : ∃ y_ : List ByteArray, y_ = (x5_1 ++ [a0.extract (x6_1 : Int).toNat (x7_1 : Int).toNat]) := ⟨_, rfl⟩
           replace H : (spec_SplitByte.l0 k1 a0 a1 y218 (wrap64 (x7_1 + 1)) (wrap64 (x7_1 + 1))) = some r := zy hy218 H
           have Ny218 := Aside0.mk hy218
           clear hy218
           have H' := Aside0.mk H
           clear H
           have p14 : 0 ≤ (x7_1 : Int) := za
           have q14 : x7_1 < (a0.size : Int) := za
           have hx14 := bt_at a0 x7_1
           replace p14 := eq_true p14
           replace q14 := eq_true q14
           go_wp2_with (first | ((with_reducible refine gate_builtin (b := .append) (xs := #[.tmp 26, .tmp 31]) rfl ?_); at_builtin; refine Kd.R_append Kd.string (w0 := w) w.heap.size rfl (.tmp 26) (.tmp 31) 52 9 (.string ⟨#[]⟩) 16 rfl Try.underlying52 info9 rfl (by decide) (by omega) u5 x5_1 (a0.extract (x6_1 : Int).toNat (x7_1 : Int).toNat) [.string (a0.extract (x6_1 : Int).toNat (x7_1 : Int).toNat)] (fun _ => True) (fun _ => False) rfl rfl ?aP (fun _ hk => hk.elim) ?aF ?aO ?aB ?aS ?aL ?_; (case aP => exact rfl); (case aB => exact z0); (case aF => exact (fun _ _ => trivial)); (case aO => exact (zr HO_5.out)); (case aS => exact (below_size z0)); (case aL => have := LMc19.out; omega); intro v219 w20 ho hb hg hat; rw [← Ny218.out] at ho; have n0_ := Aside0.mk (hb); have n1_ := Aside0.mk (ho); clear HB; clear HO_5; have HB := n0_; have HO220 := n1_; clear n0_ n1_; clear ho hb hg hat))
           go_roundg k1
           case measure => have := HK1.out; omega
           case rel => exact ⟨(y218), (wrap64 (x7_1 + 1)), (wrap64 (x7_1 + 1)), zd, zd, H', ⟨by have := HK1.out; omega⟩, ⟨zr HO220.out⟩, ⟨z0⟩⟩
          ·
           rw [if_neg c19] at H
           exact absurd H (by simp)
         ·
          rw [if_neg c17] at H
          exact absurd H (by simp)
        ·
         rw [if_neg c16] at H
         exact absurd H (by simp)
       ·
        rw [if_neg c15] at H
        have c15b0 : ((bt a0 x7_1) == a1) = false := beq_eq_false_iff_ne.mpr c15
        have c15b1 : ((bt a0 x7_1) != a1) = true := bne_iff_ne.mpr c15
        have H' := Aside0.mk H
        clear H
        have p14 : 0 ≤ (x7_1 : Int) := za
        have q14 : x7_1 < (a0.size : Int) := za
        have hx14 := bt_at a0 x7_1
        replace p14 := eq_true p14
        replace q14 := eq_true q14
        go_wp2
        go_roundg k1
        case measure => have := HK1.out; omega
        case rel => exact ⟨(x5_1), (x6_1), (wrap64 (x7_1 + 1)), zd, zd, H', ⟨by have := HK1.out; omega⟩, ⟨zr HO_5.out⟩, ⟨z0⟩⟩
      ·
       rw [if_neg c13] at H
       exact absurd H (by simp)
     ·
      rw [if_neg c12] at H
      exact absurd H (by simp)
   ·
    rw [if_neg c5] at H
    have c5b0 : decide (x7_1 ≤ (a0.size : Int)) = false := decide_eq_false c5
    clear c5
    obtain rfl := Option.some.inj H
    go_wp2
    go_ret
    exact ⟨_, ze, zr HO_5.out, z0⟩
end Go.Proofs.Ytfknffpfjoalkaa.QFnGluings
