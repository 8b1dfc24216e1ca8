-- Written by a program of this session (the kit's print, turned in places): the functions that the law FnGluings comes to, and what their calls do.
import Derived.Test.YtfknffpfjoalkaaQFnGluingsx0
import Derived.Test.YtfknffpfjoalkaaQFnGluingsx2
import Derived.Test.YtfknffpfjoalkaaQFnGluingsx7
import Derived.Test.YtfknffpfjoalkaaZip
namespace Go.Proofs.Ytfknffpfjoalkaa.QFnGluings
open Go.Proofs.Ytfknffpfjoalkaa.Zip Go.RowKit Go.Proofs.YtfknffpfjoalkaaW.PrintWords Go.Proofs.YtfknffpfjoalkaaW.PrintLast Go.Proofs.YtfknffpfjoalkaaW.PrintMore
attribute [local go_sem] max2_int min2_int max_two min_two max_three min_three max_four min_four   -- for this text's walks alone
set_option linter.unusedVariables false
set_option linter.unusedSimpArgs false
mutual
def spec_PartsOf.l0 : Nat → List (List Int) → List Int → Int → Option (Int)
 | 0, _, _, _ => none
 | k + 1, x0, x3, x4 => if x4 < (x0.length : Int) then (if x3.length < 17592186044416 then (spec_PartsOf.l0 k x0 (x3 ++ [x4]) (wrap64 (x4 + 1))) else (none)) else (spec_PartsOf.l1 k x0 x3 0)
def spec_PartsOf.l1 : Nat → List (List Int) → List Int → Int → Option (Int)
 | 0, _, _, _ => none
 | k + 1, x0, x3, x5 => if x5 < (x0.length : Int) then (spec_PartsOf.l2 k x0 x3 x5 0) else (spec_PartsOf.l4 k x0 x3 0 0)
def spec_PartsOf.l2 : Nat → List (List Int) → List Int → Int → Int → Option (Int)
 | 0, _, _, _, _ => none
 | k + 1, x0, x3, x5, x6 => if x6 < x5 then (spec_PartsOf.l3 k x0 x3 x5 x6 1) else (spec_PartsOf.l1 k x0 x3 (wrap64 (x5 + 1)))
def spec_PartsOf.l3 : Nat → List (List Int) → List Int → Int → Int → Int → Option (Int)
 | 0, _, _, _, _, _ => none
 | k + 1, x0, x3, x5, x6, x7 => if x7 ≤ 8 then (if 0 ≤ x5 then (if x5 < (x0.length : Int) then ((spec_l3Has.f k (rd_L1 x0 x5) x7).bind fun t314 => (if t314 = true then (if 0 ≤ x6 then (if x6 < (x0.length : Int) then ((spec_l3Has.f k (rd_L1 x0 x6) x7).bind fun t316 => (spec_PartsOf.j4 k x0 x3 x5 x6 x7 t316)) else (none)) else (none)) else (spec_PartsOf.j4 k x0 x3 x5 x6 x7 false))) else (none)) else (none)) else (spec_PartsOf.l2 k x0 x3 x5 (wrap64 (x6 + 1)))
def spec_PartsOf.j4 : Nat → List (List Int) → List Int → Int → Int → Int → Bool → Option (Int)
 | 0, _, _, _, _, _, _ => none
 | k + 1, x0, x3, x5, x6, x7, x52 => if x52 = true then ((spec_l3Find.f k x3 x5).bind fun t317 => ((spec_l3Find.f k x3 x6).bind fun t318 => (if 0 ≤ t317 then (if t317 < (x3.length : Int) then (spec_PartsOf.l3 k x0 (x3.set (t317 : Int).toNat t318) x5 x6 (wrap64 (x7 + 1))) else (none)) else (none)))) else (spec_PartsOf.l3 k x0 x3 x5 x6 (wrap64 (x7 + 1)))
def spec_PartsOf.l4 : Nat → List (List Int) → List Int → Int → Int → Option (Int)
 | 0, _, _, _, _ => none
 | k + 1, x0, x3, x8, x9 => if x9 < (x0.length : Int) then (if 0 ≤ x9 then (if x9 < (x3.length : Int) then ((spec_l1Bit.f ((rd x3 x9) == x9)).bind fun t321 => (spec_PartsOf.l4 k x0 x3 (wrap64 (x8 + t321)) (wrap64 (x9 + 1)))) else (none)) else (none)) else (some x8)
end
def spec_PartsOf.f (k : Nat) (l0 : List (List Int)) : Option (Int) := (spec_IsGluing.f k l0).bind fun t306 => (if t306 = true then (spec_PartsOf.l0 k l0 (([] : List Int)) 0) else (some (-1)))
set_option maxHeartbeats 8000000 in
set_option maxRecDepth 100000 in
theorem spec_PartsOf.calls (k : Nat) (A0 : Option Addr) (c0 : Nat) (l0 : List (List Int)) (r : Int) (w : World) (hr0 : Kd.C (Kd.slice 3 (Kd.int .i64)) w A0 l0.length l0) (hc0 : l0.length ≤ c0) (h : spec_PartsOf.f k l0 = some r) :
  Calls Try.prog 33 #[.slice A0 l0.length c0] w fun e w' => e = .returned (.int .i64 r) ∧ Below w.heap.size w w' := by
 have HR0 := Aside0.mk hr0
 have HC0 := Aside0.mk hc0
 clear hr0 hc0
 have HB := Aside0.mk (Below.refl w.heap.size w)
 have H := h
 clear h
 unfold spec_PartsOf.f at H
 replace H := Option.bind_eq_some_iff.mp H
 obtain ⟨t306, A20, H⟩ := H
 have A2 := Aside0.mk A20
 clear A20
 by_cases c3 : t306 = true
 ·
  subst c3
  rw [if_pos rfl] at H
  obtain ⟨y307, hy307⟩ : ∃ y_ : List Int, y_ = (([] : List Int)) := ⟨_, rfl⟩
  replace H : (spec_PartsOf.l0 k l0 y307 0) = some r := zy hy307 H
  have Ny307 := Aside0.mk hy307
  clear hy307
  have H' := Aside0.mk H
  clear H
  go_enter Try.func33, Try.ntmps33
  go_wp2_with (first | ((with_reducible refine zg 16 rfl ?_); refine zl (some 11) Try.func16 #[.slice A0 l0.length c0] ?_; (with_reducible refine (spec_IsGluing.calls k _ _ l0 true _ ?side1 ?side2 A2.out).mono ?_); (case side1 => exact zc HR0.out); (case side2 => exact HC0.out); rintro e w4 ⟨rfl, hb⟩; refine ⟨_, rfl, ?_⟩; replace HB := Aside0.mk (below_step z0 hb)) | ((with_reducible refine gate_dst (N := 13) rfl ?_); refine Kd.R_lit (Kd.int .i64) _ 3 ?hg (N := 13) ?hd (xs := ([] : List Int)) (inner := []) (ok := fun _ => True) (okp := fun _ => True) ?hr ?hp (fun _ hk => hk) trivial (Below.refl _ _) (Nat.le_refl _) (by simp) ?_; (case hd => rfl); (case hg => rfl); (case hr => first | (go_simp; done) | (go_simp; rfl)); (case hp => exact (Reps.none _ _)); intro v308 w5 ho6 hb hg_ hnew_; clear hg_ hnew_; (first | rw [← Ny307.out] at ho6 | (simp only [Int.reduceToNat] at ho6; rw [← Ny307.out] at ho6)); have HO309 := Aside0.mk (Kd.R_lower ho6 (below_size z0)); replace HB := Aside0.mk (below_step z0 hb); clear hb ho6))
  go_loopg [3, 4] k (fun kq v3 v4 w' => ∃ (x3_1 : List Int) (x4_1 : Int), v4 = .int .i64 x4_1 ∧ Aside0 (spec_PartsOf.l0 kq l0 x3_1 x4_1 = some r) ∧ Aside0 (kq ≤ k) ∧ Aside0 (Kd.R (Kd.int .i64) 3 w' w.heap.size (fun _ => True) v3 x3_1) ∧ Aside0 (Below w.heap.size w w'))
  case atStart => exact ⟨(y307), (0), zd, H', ⟨Nat.le_refl _⟩, ⟨zr HO309.out⟩, ⟨z0⟩⟩
  case round =>
   clear H'
   try clear c1
   try clear p2
   try clear c3
   obtain ⟨x3_1, x4_1, rfl, HA, HK1, HO_3, HB⟩ := hrel
   cases gk with
   | zero => exact absurd HA.out (by simp [spec_PartsOf.l0])
   | succ k1 =>
    have H := HA.out
    clear HA
    simp only [spec_PartsOf.l0] at H
    by_cases c7 : x4_1 < (l0.length : Int)
    ·
     rw [if_pos c7] at H
     have c7b0 : decide (x4_1 < (l0.length : Int)) = true := decide_eq_true c7
     clear c7
     by_cases c8 : x3_1.length < 17592186044416
     ·
      rw [if_pos c8] at H
      have LMc8 := Aside0.mk c8
      clear c8
      obtain ⟨y310, hy310⟩ : ∃ y_ : List Int, y_ = (x3_1 ++ [x4_1]) := ⟨_, rfl⟩
      replace H : (spec_PartsOf.l0 k1 l0 y310 (wrap64 (x4_1 + 1))) = some r := zy hy310 H
      have Ny310 := Aside0.mk hy310
      clear hy310
      have H' := Aside0.mk H
      clear H
      go_wp2_with (first | ((with_reducible refine gate_builtin (b := .append) (xs := #[.tmp 20, .tmp 22]) rfl ?_); at_builtin; refine Kd.R_append (Kd.int .i64) (w0 := w) w.heap.size rfl (.tmp 20) (.tmp 22) 27 3 (.int .i64 0) 8 rfl Try.underlying27 info3 rfl (by decide) (by omega) u3 x3_1 x4_1 [.int .i64 x4_1] (fun _ => True) (fun _ => False) rfl rfl ?aP (fun _ hk => hk.elim) ?aF ?aO ?aB ?aS ?aL ?_; (case aP => exact rfl); (case aB => exact z0); (case aF => exact (fun _ _ => trivial)); (case aO => exact (zr HO_3.out)); (case aS => exact (below_size z0)); (case aL => have := LMc8.out; omega); intro v311 w9 ho hb hg hat; rw [← Ny310.out] at ho; have n0_ := Aside0.mk (hb); have n1_ := Aside0.mk (ho); clear HB; clear HO_3; have HB := n0_; have HO312 := n1_; clear n0_ n1_; clear ho hb hg hat))
      go_roundg k1
      case measure => have := HK1.out; omega
      case rel => exact ⟨(y310), (wrap64 (x4_1 + 1)), zd, H', ⟨by have := HK1.out; omega⟩, ⟨zr HO312.out⟩, ⟨z0⟩⟩
     ·
      rw [if_neg c8] at H
      exact absurd H (by simp)
    ·
     rw [if_neg c7] at H
     have c7b0 : decide (x4_1 < (l0.length : Int)) = false := decide_eq_false c7
     clear c7
     have H' := Aside0.mk H
     clear H
     go_wp2
     go_loopg [5] k1 (fun kq v5 w' => ∃ (x3_2 : List Int) (x5_2 : Int), v5 = .int .i64 x5_2 ∧ Aside0 (spec_PartsOf.l1 kq l0 x3_2 x5_2 = some r) ∧ Aside0 (kq ≤ k1) ∧ Aside0 (Kd.R (Kd.int .i64) 3 w' w.heap.size (fun _ => True) u3 x3_2) ∧ Aside0 (Below w.heap.size w w'))
     case atStart => exact ⟨(x3_1), (0), zd, H', ⟨Nat.le_refl _⟩, ⟨zr HO_3.out⟩, ⟨z0⟩⟩
     case round =>
      clear H'
      try clear c1
      try clear p2
      try clear c3
      try clear p6
      try clear c7
      try clear c7b0
      try clear c8
      try clear p2
      obtain ⟨x3_2, x5_2, rfl, HA, HK2, HO_3, HB⟩ := hrel
      cases gk with
      | zero => exact absurd HA.out (by simp [spec_PartsOf.l1])
      | succ k2 =>
       have H := HA.out
       clear HA
       simp only [spec_PartsOf.l1] at H
       by_cases c10 : x5_2 < (l0.length : Int)
       ·
        rw [if_pos c10] at H
        have c10b0 : decide (x5_2 < (l0.length : Int)) = true := decide_eq_true c10
        clear c10
        have H' := Aside0.mk H
        clear H
        go_wp2
        go_loopg [6] k2 (fun kq v6 w' => ∃ (x3_3 : List Int) (x6_3 : Int), v6 = .int .i64 x6_3 ∧ Aside0 (spec_PartsOf.l2 kq l0 x3_3 x5_2 x6_3 = some r) ∧ Aside0 (kq ≤ k2) ∧ Aside0 (Kd.R (Kd.int .i64) 3 w' w.heap.size (fun _ => True) u3 x3_3) ∧ Aside0 (Below w.heap.size w w'))
        case atStart => exact ⟨(x3_2), (0), zd, H', ⟨Nat.le_refl _⟩, ⟨zr HO_3.out⟩, ⟨z0⟩⟩
        case round =>
         clear H'
         try clear c1
         try clear p2
         try clear c3
         try clear p6
         try clear c7
         try clear c7b0
         try clear c8
         try clear c10
         try clear c10b0
         try clear p2
         try clear p6
         obtain ⟨x3_3, x6_3, rfl, HA, HK3, HO_3, HB⟩ := hrel
         cases gk with
         | zero => exact absurd HA.out (by simp [spec_PartsOf.l2])
         | succ k3 =>
          have H := HA.out
          clear HA
          simp only [spec_PartsOf.l2] at H
          by_cases c11 : x6_3 < x5_2
          ·
           rw [if_pos c11] at H
           have c11b0 : decide (x6_3 < x5_2) = true := decide_eq_true c11
           clear c11
           have H' := Aside0.mk H
           clear H
           go_wp2
           go_loopg [7] k3 (fun kq v7 w' => ∃ (x3_4 : List Int) (x7_4 : Int), v7 = .int .i64 x7_4 ∧ Aside0 (spec_PartsOf.l3 kq l0 x3_4 x5_2 x6_3 x7_4 = some r) ∧ Aside0 (kq ≤ k3) ∧ Aside0 (Kd.R (Kd.int .i64) 3 w' w.heap.size (fun _ => True) u3 x3_4) ∧ Aside0 (Below w.heap.size w w'))
           case atStart => exact ⟨(x3_3), (1), zd, H', ⟨Nat.le_refl _⟩, ⟨zr HO_3.out⟩, ⟨z0⟩⟩
           case round =>
            clear H'
            try clear c1
            try clear p2
            try clear c3
            try clear p6
            try clear c7
            try clear c7b0
            try clear c8
            try clear c10
            try clear c10b0
            try clear c11
            try clear c11b0
            try clear p2
            try clear p6
            obtain ⟨x3_4, x7_4, rfl, HA, HK4, HO_3, HB⟩ := hrel
            cases gk with
            | zero => exact absurd HA.out (by simp [spec_PartsOf.l3])
            | succ k4 =>
             have H := HA.out
             clear HA
             simp only [spec_PartsOf.l3] at H
             by_cases c12 : x7_4 ≤ 8
             ·
              rw [if_pos c12] at H
              have c12b0 : decide (x7_4 ≤ 8) = true := decide_eq_true c12
              clear c12
              have HC13 := Aside0.mk H
              clear H
              go_upto_region 17 with (fail)
              go_cut [52] (fun v52 wc => ∃ (kq : Nat) (x52_12 : Bool), v52 = .bool x52_12 ∧ Aside0 (spec_PartsOf.j4 kq l0 x3_4 x5_2 x6_3 x7_4 x52_12 = some r) ∧ Aside0 (kq ≤ k4) ∧ Aside0 (Kd.R (Kd.int .i64) 3 wc w.heap.size (fun _ => True) u3 x3_4) ∧ Aside0 (Below w.heap.size w wc))
              case first =>
               have H := HC13.out
               clear HC13
               by_cases c14 : 0 ≤ x5_2
               ·
                rw [if_pos c14] at H
                have c14b0 : decide (0 ≤ x5_2) = true := decide_eq_true c14
                clear c14
                (first | rw [c14b0] | (simp only [i64_w, i32_w]; rw [c14b0]) | skip)
                by_cases c15 : x5_2 < (l0.length : Int)
                ·
                 rw [if_pos c15] at H
                 have c15b0 : decide (x5_2 < (l0.length : Int)) = true := decide_eq_true c15
                 clear c15
                 replace H := Option.bind_eq_some_iff.mp H
                 obtain ⟨t314, A160, H⟩ := H
                 have A16 := Aside0.mk A160
                 clear A160
                 by_cases c17 : t314 = true
                 ·
                  subst c17
                  rw [if_pos rfl] at H
                  by_cases c18 : 0 ≤ x6_3
                  ·
                   rw [if_pos c18] at H
                   have c18b0 : decide (0 ≤ x6_3) = true := decide_eq_true c18
                   clear c18
                   by_cases c19 : x6_3 < (l0.length : Int)
                   ·
                    rw [if_pos c19] at H
                    have c19b0 : decide (x6_3 < (l0.length : Int)) = true := decide_eq_true c19
                    clear c19
                    replace H := Option.bind_eq_some_iff.mp H
                    obtain ⟨t316, A200, H⟩ := H
                    have A20 := Aside0.mk A200
                    clear A200
                    have H' := Aside0.mk H
                    clear H
                    have p313 : 0 ≤ (x5_2 : Int) := za
                    have q313 : x5_2 < (l0.length : Int) := za
                    obtain ⟨ad313, A313_0, c313_0, e313, hx313_0, hl313_0, hi313_0⟩ := at_L1 HR0.out x5_2 p313 q313
                    cases e313
                    replace hx313_0 := (HB.out.cell (World.block_lt_of_cell? w _ hx313_0)).trans hx313_0
                    have HR313_0 := Aside0.mk hi313_0
                    have HC313_0 := Aside0.mk hl313_0
                    clear hi313_0 hl313_0
                    replace p313 := eq_true p313
                    replace q313 := eq_true q313
                    go_wp2_with (first | ((with_reducible refine zg 66 rfl ?_); refine zl (some 44) Try.func66 #[.slice A313_0 (rd_L1 l0 x5_2).length c313_0, .int .i64 x7_4] ?_; (with_reducible refine (spec_l3Has.calls k4 _ _ (rd_L1 l0 x5_2) x7_4 true _ ?side1 ?side2 A16.out).mono ?_); (case side1 => exact zc (Kd.C_below HR313_0.out HB.out)); (case side2 => exact HC313_0.out); rintro e w' ⟨rfl, ⟨nd, rfl⟩⟩; refine ⟨_, rfl, ?_⟩; have p315 : 0 ≤ (x6_3 : Int) := za; have q315 : x6_3 < (l0.length : Int) := za; obtain ⟨ad315, A315_0, c315_0, e315, hx315_0, hl315_0, hi315_0⟩ := at_L1 HR0.out x6_3 p315 q315; obtain rfl : ad313 = ad315 := (by injection e315); replace hx315_0 := (HB.out.cell (World.block_lt_of_cell? w _ hx315_0)).trans hx315_0; have HR315_0 := Aside0.mk hi315_0; have HC315_0 := Aside0.mk hl315_0; clear hi315_0 hl315_0; replace p315 := eq_true p315; replace q315 := eq_true q315) | (go_at_call 66; (with_reducible refine (spec_l3Has.calls k4 _ _ (rd_L1 l0 x6_3) x7_4 t316 _ ?side1 ?side2 A20.out).mono ?_); (case side1 => repeat (first | exact (Kd.C_below HR315_0.out z0) | (with_reducible refine Kd.C_alloc ?_ _) | (with_reducible refine Kd.C_drewN ?_ _) | (with_reducible refine Kd.C_drew ?_))); (case side2 => exact HC315_0.out); rintro e w' ⟨rfl, ⟨nd, rfl⟩⟩))
                    go_meet
                    case rel => exact ⟨_, (t316), zd, H', ⟨by have := HK1.out; have := HK2.out; have := HK3.out; have := HK4.out; first | omega | exact Nat.le_refl _⟩, ⟨zr HO_3.out⟩, ⟨z0⟩⟩
                   ·
                    rw [if_neg c19] at H
                    exact absurd H (by simp)
                  ·
                   rw [if_neg c18] at H
                   exact absurd H (by simp)
                 ·
                  replace c17 := Bool.eq_false_iff.mpr c17
                  subst c17
                  rw [if_neg (show ¬ (false = true) by decide)] at H
                  have H' := Aside0.mk H
                  clear H
                  have p313 : 0 ≤ (x5_2 : Int) := za
                  have q313 : x5_2 < (l0.length : Int) := za
                  obtain ⟨ad313, A313_0, c313_0, e313, hx313_0, hl313_0, hi313_0⟩ := at_L1 HR0.out x5_2 p313 q313
                  cases e313
                  replace hx313_0 := (HB.out.cell (World.block_lt_of_cell? w _ hx313_0)).trans hx313_0
                  have HR313_0 := Aside0.mk hi313_0
                  have HC313_0 := Aside0.mk hl313_0
                  clear hi313_0 hl313_0
                  replace p313 := eq_true p313
                  replace q313 := eq_true q313
                  go_wp2_with (first | ((with_reducible refine zg 66 rfl ?_); refine zl (some 44) Try.func66 #[.slice A313_0 (rd_L1 l0 x5_2).length c313_0, .int .i64 x7_4] ?_; (with_reducible refine (spec_l3Has.calls k4 _ _ (rd_L1 l0 x5_2) x7_4 false _ ?side1 ?side2 A16.out).mono ?_); (case side1 => exact zc (Kd.C_below HR313_0.out HB.out)); (case side2 => exact HC313_0.out); rintro e w' ⟨rfl, ⟨nd, rfl⟩⟩; refine ⟨_, rfl, ?_⟩))
                  go_meet
                  case rel => exact ⟨_, (false), zd, H', ⟨by have := HK1.out; have := HK2.out; have := HK3.out; have := HK4.out; first | omega | exact Nat.le_refl _⟩, ⟨zr HO_3.out⟩, ⟨z0⟩⟩
                ·
                 rw [if_neg c15] at H
                 exact absurd H (by simp)
               ·
                rw [if_neg c14] at H
                exact absurd H (by simp)
              case rest =>
               clear HC13
               try clear c1
               try clear p2
               try clear c3
               try clear p3
               try clear q3
               try clear hx3
               try clear c6
               try clear p6
               try clear c7
               try clear c7b0
               try clear c8
               try clear c10
               try clear c10b0
               try clear c11
               try clear c11b0
               try clear c12
               try clear c12b0
               try clear c14
               try clear c14b0
               try clear c15
               try clear c15b0
               try clear c16
               try clear c17
               try clear c18
               try clear c18b0
               try clear c19
               try clear c19b0
               try clear hx313_0
               try clear hx315_0
               try clear p2
               try clear p313
               try clear p315
               try clear p6
               try clear q313
               try clear q315
               obtain ⟨kq, x52_12, rfl, HA, HJ12, HO_3, HB⟩ := hcut
               cases kq with
               | zero => exact absurd HA.out (by simp [spec_PartsOf.j4])
               | succ kj12 =>
                have H := HA.out
                clear HA
                simp only [spec_PartsOf.j4] at H
                by_cases c21 : x52_12 = true
                ·
                 subst c21
                 rw [if_pos rfl] at H
                 replace H := Option.bind_eq_some_iff.mp H
                 obtain ⟨t317, A220, H⟩ := H
                 have A22 := Aside0.mk A220
                 clear A220
                 replace H := Option.bind_eq_some_iff.mp H
                 obtain ⟨t318, A230, H⟩ := H
                 have A23 := Aside0.mk A230
                 clear A230
                 by_cases c24 : 0 ≤ t317
                 ·
                  rw [if_pos c24] at H
                  have c24b0 : decide (0 ≤ t317) = true := decide_eq_true c24
                  clear c24
                  by_cases c25 : t317 < (x3_4.length : Int)
                  ·
                   rw [if_pos c25] at H
                   have c25b0 : decide (t317 < (x3_4.length : Int)) = true := decide_eq_true c25
                   clear c25
                   obtain ⟨y319, hy319⟩ : ∃ y_ : List Int, y_ = (x3_4.set (t317 : Int).toNat t318) := ⟨_, rfl⟩
                   replace H : (spec_PartsOf.l3 kj12 l0 y319 x5_2 x6_3 (wrap64 (x7_4 + 1))) = some r := zy hy319 H
                   have Ny319 := Aside0.mk hy319
                   clear hy319
                   have H' := Aside0.mk H
                   clear H
                   obtain ⟨Ao27, co27, eo27⟩ := Kd.R_slice HO_3.out
                   subst eo27
                   go_wp2_with (first | ((with_reducible refine zg 67 rfl ?_); refine zl (some 56) Try.func67 #[.slice Ao27 x3_4.length co27, .int .i64 x5_2] ?_; (with_reducible refine (spec_l3Find.calls kj12 _ _ x3_4 x5_2 t317 _ ?side1 ?side2 A22.out).mono ?_); (case side1 => exact zc (Kd.R_reads' HO_3.out).2.2); (case side2 => exact (Kd.R_reads' HO_3.out).2.1); rintro e w' ⟨rfl, ⟨nd, rfl⟩⟩; refine ⟨_, rfl, ?_⟩; (try (rw [drewN_self wc]; generalize hq_ : World.drewN wc _ = wc; have n0_ : Aside0 (Kd.R (Kd.int .i64) 3 wc w.heap.size (fun _ => True) (.slice Ao27 x3_4.length co27) x3_4) := ⟨by rw [← hq_]; exact (zr HO_3.out)⟩; have n1_ : Aside0 (Below w.heap.size w wc) := ⟨by rw [← hq_]; exact z0⟩; clear HO_3 HB hq_; have HO_3 := n0_; have HB := n1_; clear n0_ n1_))) | ((with_reducible refine zg 67 rfl ?_); refine zl (some 59) Try.func67 #[.slice Ao27 x3_4.length co27, .int .i64 x6_3] ?_; (with_reducible refine (spec_l3Find.calls kj12 _ _ x3_4 x6_3 t318 _ ?side1 ?side2 A23.out).mono ?_); (case side1 => exact zc (Kd.R_reads' HO_3.out).2.2); (case side2 => exact (Kd.R_reads' HO_3.out).2.1); rintro e w' ⟨rfl, ⟨nd, rfl⟩⟩; refine ⟨_, rfl, ?_⟩; (try (rw [drewN_self wc]; generalize hq_ : World.drewN wc _ = wc; have n0_ : Aside0 (Kd.R (Kd.int .i64) 3 wc w.heap.size (fun _ => True) (.slice Ao27 x3_4.length co27) x3_4) := ⟨by rw [← hq_]; exact (zr HO_3.out)⟩; have n1_ : Aside0 (Below w.heap.size w wc) := ⟨by rw [← hq_]; exact z0⟩; clear HO_3 HB hq_; have HO_3 := n0_; have HB := n1_; clear n0_ n1_)); have p26 : 0 ≤ (t317 : Int) := za; have q26 : (t317 : Int) < ((x3_4.length : Int) : Int) := za; obtain ⟨go26, co26, eo26, gb26, gl26, cl26, HG26⟩ := Kd.R_form HO_3.out (by omega); (first | cases eo26 | (injection eo26 with ea_ en_ ec_; (first | subst ea_ | (injection ea_ with ea_; subst ea_)); subst ec_; clear en_)); have GB26 := Aside0.mk gb26; have GG26 := Aside0.mk HG26; clear gb26 gl26 HG26; obtain ⟨hx26_0, hf26_0⟩ := Kd.R_celln 0 HO_3.out (t317 : Int) p26 q26; replace p26 := eq_true p26; replace q26 := eq_true q26; obtain ⟨hy28_, hz28_⟩ := Kd.R_celln 0 HO_3.out (t317 : Int) (za) (za); have HP28 := Kd.R_putg HO_3.out (t317 : Int) t318) | ((with_reducible refine gate_store (t := 3) (p := 60) rfl ?_); refine store_event (t := 3) (p := 60) (v := ?vo_w29) (w1 := (wc.setCell ⟨go26, (t317 : Int).toNat, none⟩ (.int .i64 t318))) ?hg ?ho ?hn ?hr ?_; (case ho => rfl); (case hg => rfl); (case hn => rfl); (case hr => first | (go_simp; done) | (go_simp; rfl)); intro w29 hw; have hg : wc.grownBy w29 (some go26) := (by rw [hw]; exact HP28.2); have hp_ : Kd.R (Kd.int .i64) 3 w29 w.heap.size (fun _ => True) (.slice (some ⟨go26, 0, none⟩) x3_4.length co27) y319 := (by rw [hw, Ny319.out]; exact HP28.1); clear HP28; replace HO_3 := Aside0.mk (hp_); replace HB := Aside0.mk ((by rw [hw]; exact below_set (HB.out) GB26.out : Below w.heap.size w w29)); clear hg hw hp_))
                   go_roundg kj12
                   case measure => have := HK1.out; have := HK2.out; have := HK3.out; have := HK4.out; have := HJ12.out; omega
                   case rel => exact ⟨(y319), (wrap64 (x7_4 + 1)), zd, H', ⟨by have := HK1.out; have := HK2.out; have := HK3.out; have := HK4.out; have := HJ12.out; omega⟩, ⟨zr HO_3.out⟩, ⟨z0⟩⟩
                  ·
                   rw [if_neg c25] at H
                   exact absurd H (by simp)
                 ·
                  rw [if_neg c24] at H
                  exact absurd H (by simp)
                ·
                 replace c21 := Bool.eq_false_iff.mpr c21
                 subst c21
                 rw [if_neg (show ¬ (false = true) by decide)] at H
                 have H' := Aside0.mk H
                 clear H
                 go_wp2
                 go_roundg kj12
                 case measure => have := HK1.out; have := HK2.out; have := HK3.out; have := HK4.out; have := HJ12.out; omega
                 case rel => exact ⟨(x3_4), (wrap64 (x7_4 + 1)), zd, H', ⟨by have := HK1.out; have := HK2.out; have := HK3.out; have := HK4.out; have := HJ12.out; omega⟩, ⟨zr HO_3.out⟩, ⟨z0⟩⟩
             ·
              rw [if_neg c12] at H
              have c12b0 : decide (x7_4 ≤ 8) = false := decide_eq_false c12
              clear c12
              have H' := Aside0.mk H
              clear H
              go_wp2
              go_roundg k4
              case measure => have := HK1.out; have := HK2.out; have := HK3.out; have := HK4.out; omega
              case rel => exact ⟨(x3_4), (wrap64 (x6_3 + 1)), zd, H', ⟨by have := HK1.out; have := HK2.out; have := HK3.out; have := HK4.out; omega⟩, ⟨zr HO_3.out⟩, ⟨z0⟩⟩
          ·
           rw [if_neg c11] at H
           have c11b0 : decide (x6_3 < x5_2) = false := decide_eq_false c11
           clear c11
           have H' := Aside0.mk H
           clear H
           go_wp2
           go_roundg k3
           case measure => have := HK1.out; have := HK2.out; have := HK3.out; omega
           case rel => exact ⟨(x3_3), (wrap64 (x5_2 + 1)), zd, H', ⟨by have := HK1.out; have := HK2.out; have := HK3.out; omega⟩, ⟨zr HO_3.out⟩, ⟨z0⟩⟩
       ·
        rw [if_neg c10] at H
        have c10b0 : decide (x5_2 < (l0.length : Int)) = false := decide_eq_false c10
        clear c10
        have H' := Aside0.mk H
        clear H
        go_wp2
        go_loopg [8, 9] k2 (fun kq v8 v9 w' => ∃ (x8_3 : Int) (x9_3 : Int), v8 = .int .i64 x8_3 ∧ v9 = .int .i64 x9_3 ∧ Aside0 (spec_PartsOf.l4 kq l0 x3_2 x8_3 x9_3 = some r) ∧ Aside0 (kq ≤ k2) ∧ Aside0 (Kd.R (Kd.int .i64) 3 w' w.heap.size (fun _ => True) u3 x3_2) ∧ Aside0 (Below w.heap.size w w'))
        case atStart => exact ⟨(0), (0), zd, zd, H', ⟨Nat.le_refl _⟩, ⟨zr HO_3.out⟩, ⟨z0⟩⟩
        case round =>
         clear H'
         try clear c1
         try clear c2
         try clear p2
         try clear q2
         try clear hx2
         try clear hf2
         try clear c3
         try clear p3
         try clear q3
         try clear hx3
         try clear c6
         try clear p6
         try clear c7
         try clear c7b0
         try clear c8
         try clear c10
         try clear c10b0
         try clear c11
         try clear c11b0
         try clear c12
         try clear c12b0
         try clear c14
         try clear c14b0
         try clear c15
         try clear c15b0
         try clear c16
         try clear c17
         try clear c18
         try clear c18b0
         try clear c19
         try clear c19b0
         try clear c21
         try clear c24
         try clear c24b0
         try clear c25
         try clear c25b0
         try clear p26
         try clear q26
         try clear hx26
         try clear hf26
         try clear hx26_0
         try clear hx313_0
         try clear hx315_0
         try clear p2
         try clear p26
         try clear p3
         try clear p313
         try clear p315
         try clear p6
         try clear q26
         try clear q3
         try clear q313
         try clear q315
         obtain ⟨x8_3, x9_3, rfl, rfl, HA, HK3, HO_3, HB⟩ := hrel
         cases gk with
         | zero => exact absurd HA.out (by simp [spec_PartsOf.l4])
         | succ k3 =>
          have H := HA.out
          clear HA
          simp only [spec_PartsOf.l4] at H
          by_cases c30 : x9_3 < (l0.length : Int)
          ·
           rw [if_pos c30] at H
           have c30b0 : decide (x9_3 < (l0.length : Int)) = true := decide_eq_true c30
           clear c30
           by_cases c31 : 0 ≤ x9_3
           ·
            rw [if_pos c31] at H
            have c31b0 : decide (0 ≤ x9_3) = true := decide_eq_true c31
            clear c31
            by_cases c32 : x9_3 < (x3_2.length : Int)
            ·
             rw [if_pos c32] at H
             have c32b0 : decide (x9_3 < (x3_2.length : Int)) = true := decide_eq_true c32
             clear c32
             replace H := Option.bind_eq_some_iff.mp H
             obtain ⟨t321, A330, H⟩ := H
             have A33 := Aside0.mk A330
             clear A330
             have H' := Aside0.mk H
             clear H
             obtain ⟨Ao34, co34, eo34⟩ := Kd.R_slice HO_3.out
             subst eo34
             have p320 : 0 ≤ (x9_3 : Int) := za
             have q320 : x9_3 < (x3_2.length : Int) := za
             obtain ⟨ad320, e320, hx320_0⟩ := Kd.at_int (Kd.R_reads' HO_3.out).2.2 x9_3 p320 q320
             cases e320
             replace p320 := eq_true p320
             replace q320 := eq_true q320
             go_wp2_with (first | ((with_reducible refine zg 68 rfl ?_); refine zl (some 74) Try.func68 #[.bool ((rd x3_2 x9_3) == x9_3)] ?_; (with_reducible refine (spec_l1Bit.calls ((rd x3_2 x9_3) == x9_3) t321 _ A33.out).mono ?_); rintro e w' ⟨rfl, ⟨nd, rfl⟩⟩; refine ⟨_, rfl, ?_⟩))
             go_roundg k3
             case measure => have := HK1.out; have := HK2.out; have := HK3.out; omega
             case rel => exact ⟨(wrap64 (x8_3 + t321)), (wrap64 (x9_3 + 1)), zd, zd, H', ⟨by have := HK1.out; have := HK2.out; have := HK3.out; omega⟩, ⟨zr HO_3.out⟩, ⟨z0⟩⟩
            ·
             rw [if_neg c32] at H
             exact absurd H (by simp)
           ·
            rw [if_neg c31] at H
            exact absurd H (by simp)
          ·
           rw [if_neg c30] at H
           have c30b0 : decide (x9_3 < (l0.length : Int)) = false := decide_eq_false c30
           clear c30
           obtain rfl := Option.some.inj H
           go_wp2
           go_ret
           exact ⟨ze, z0⟩
 ·
  replace c3 := Bool.eq_false_iff.mpr c3
  subst c3
  rw [if_neg (show ¬ (false = true) by decide)] at H
  obtain rfl := Option.some.inj H
  go_enter Try.func33, Try.ntmps33
  go_wp2_with (first | ((with_reducible refine zg 16 rfl ?_); refine zl (some 11) Try.func16 #[.slice A0 l0.length c0] ?_; (with_reducible refine (spec_IsGluing.calls k _ _ l0 false _ ?side1 ?side2 A2.out).mono ?_); (case side1 => exact zc HR0.out); (case side2 => exact HC0.out); rintro e w35 ⟨rfl, hb⟩; refine ⟨_, rfl, ?_⟩; replace HB := Aside0.mk (below_step z0 hb)))
  go_ret
  exact ⟨ze, z0⟩
def impl_indexOf.l0 : Nat → Int → List Int → Int → Int → Option (Int)
 | 0, _, _, _, _ => none
 | k + 1, x1, x7, x8, x9 => if x9 < x8 then (if 0 ≤ x9 then (if x9 < (x7.length : Int) then (if (rd x7 x9) = x1 then (some x9) else (impl_indexOf.l0 k x1 x7 x8 (wrap64 (x9 + 1)))) else (none)) else (none)) else (some (-1))
def impl_indexOf.f (k : Nat) (l0 : List Int) (a1 : Int) : Option (Int) := impl_indexOf.l0 k a1 l0 (l0.length : Int) 0
set_option maxHeartbeats 8000000 in
set_option maxRecDepth 100000 in
theorem impl_indexOf.calls (k : Nat) (A0 : Option Addr) (c0 : Nat) (l0 : List Int) (a1 : Int) (r : Int) (w : World) (hr0 : Kd.C (Kd.int .i64) w A0 l0.length l0) (hc0 : l0.length ≤ c0) (h : impl_indexOf.f k l0 a1 = some r) :
  Calls Try.prog 70 #[.slice A0 l0.length c0, .int .i64 a1] w fun e w' => e = .returned (.int .i64 r) ∧ Drawn0 w w' := by
 have HR0 := Aside0.mk hr0
 have HC0 := Aside0.mk hc0
 clear hr0 hc0
 have H := h
 clear h
 unfold impl_indexOf.f at H
 have H' := Aside0.mk H
 clear H
 go_enter Try.func70, Try.ntmps70
 go_wp2
 go_loopg [9] k (fun kq v9 w' => ∃ (x9_1 : Int), v9 = .int .i64 x9_1 ∧ Aside0 (impl_indexOf.l0 kq a1 l0 (l0.length : Int) x9_1 = some r) ∧ Aside0 (kq ≤ k) ∧ Drawn0 w w')
 case atStart => exact ⟨(0), zd, H', ⟨Nat.le_refl _⟩, z3⟩
 case round =>
  clear H'
  try clear p2
  obtain ⟨x9_1, rfl, HA, HK1, ⟨m1, rfl⟩⟩ := hrel
  cases gk with
  | zero => exact absurd HA.out (by simp [impl_indexOf.l0])
  | succ k1 =>
   have H := HA.out
   clear HA
   simp only [impl_indexOf.l0] at H
   by_cases c3 : x9_1 < (l0.length : Int)
   ·
    rw [if_pos c3] at H
    have c3b0 : decide (x9_1 < (l0.length : Int)) = true := decide_eq_true c3
    clear c3
    by_cases c4 : 0 ≤ x9_1
    ·
     rw [if_pos c4] at H
     have c4b0 : decide (0 ≤ x9_1) = true := decide_eq_true c4
     clear c4
     by_cases c5 : x9_1 < (l0.length : Int)
     ·
      rw [if_pos c5] at H
      have c5b0 : decide (x9_1 < (l0.length : Int)) = true := decide_eq_true c5
      clear c5
      by_cases c6 : (rd l0 x9_1) = a1
      ·
       rw [if_pos c6] at H
       have c6b0 : ((rd l0 x9_1) == a1) = true := beq_iff_eq.mpr c6
       have c6b1 : ((rd l0 x9_1) != a1) = false := bne_eq_false_iff_eq.mpr c6
       clear c6
       obtain rfl := Option.some.inj H
       have p326 : 0 ≤ (x9_1 : Int) := za
       have q326 : x9_1 < (l0.length : Int) := za
       obtain ⟨ad326, e326, hx326_0⟩ := Kd.at_int HR0.out x9_1 p326 q326
       cases e326
       replace p326 := eq_true p326
       replace q326 := eq_true q326
       go_wp2
       go_ret
       exact ⟨by first | rfl | (simp; done) | (simp [*]; done), z3⟩
      ·
       rw [if_neg c6] at H
       have c6b0 : ((rd l0 x9_1) == a1) = false := beq_eq_false_iff_ne.mpr c6
       have c6b1 : ((rd l0 x9_1) != a1) = true := bne_iff_ne.mpr c6
       have H' := Aside0.mk H
       clear H
       have p326 : 0 ≤ (x9_1 : Int) := za
       have q326 : x9_1 < (l0.length : Int) := za
       obtain ⟨ad326, e326, hx326_0⟩ := Kd.at_int HR0.out x9_1 p326 q326
       cases e326
       replace p326 := eq_true p326
       replace q326 := eq_true q326
       go_wp2
       go_roundg k1
       case measure => have := HK1.out; omega
       case rel => exact ⟨(wrap64 (x9_1 + 1)), zd, H', ⟨by have := HK1.out; omega⟩, z3⟩
     ·
      rw [if_neg c5] at H
      exact absurd H (by simp)
    ·
     rw [if_neg c4] at H
     exact absurd H (by simp)
   ·
    rw [if_neg c3] at H
    have c3b0 : decide (x9_1 < (l0.length : Int)) = false := decide_eq_false c3
    clear c3
    obtain rfl := Option.some.inj H
    go_wp2
    go_ret
    exact ⟨by first | rfl | (simp; done) | (simp [*]; done), z3⟩
end Go.Proofs.Ytfknffpfjoalkaa.QFnGluings
