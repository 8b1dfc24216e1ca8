-- Written by a program of this session (the kit's print, turned in places): the functions that the law FnGluings comes to, and what their calls do.
import Derived.Test.YtfknffpfjoalkaaQFnGluingsx0
import Derived.Test.YtfknffpfjoalkaaQFnGluingsx1
import Derived.Test.YtfknffpfjoalkaaQFnGluingsx2
import Derived.Test.YtfknffpfjoalkaaQFnGluingsx3
import Derived.Test.YtfknffpfjoalkaaZip
namespace Go.Proofs.Ytfknffpfjoalkaa.QFnGluings
open Go.Proofs.Ytfknffpfjoalkaa.Zip Go.RowKit Go.Proofs.YtfknffpfjoalkaaW.PrintWords Go.Proofs.YtfknffpfjoalkaaW.PrintLast Go.Proofs.YtfknffpfjoalkaaW.PrintMore
attribute [local go_sem] max2_int min2_int max_two min_two max_three min_three max_four min_four   -- for this text's walks alone
set_option linter.unusedVariables false
set_option linter.unusedSimpArgs false
def impl_FreeLetters.l0 : Nat → List Int → List Int → Int → Int → Option (List Int)
 | 0, _, _, _, _ => none
 | k + 1, x3, x11, x12, x13 => if x13 < x12 then (if 0 ≤ x13 then (if x13 < (x11.length : Int) then (if (rd x11 x13) = 1 then (if x3.length < 17592186044416 then (impl_FreeLetters.l0 k (x3 ++ [x13]) x11 x12 (wrap64 (x13 + 1))) else (none)) else (impl_FreeLetters.l0 k x3 x11 x12 (wrap64 (x13 + 1)))) else (none)) else (none)) else (some x3)
def impl_FreeLetters.f (k : Nat) (l0 : List (List Int)) : Option (List Int) := (impl_IsGluing.f k l0).bind fun t181 => (if t181 = true then ((impl_letterCounts.f k l0).bind fun t185 => (impl_FreeLetters.l0 k (([] : List Int)) t185 (t185.length : Int) 0)) else (some ([] : List Int)))
set_option maxHeartbeats 8000000 in
set_option maxRecDepth 100000 in
theorem impl_FreeLetters.calls (k : Nat) (A0 : Option Addr) (c0 : Nat) (l0 : List (List Int)) (r : List Int) (w : World) (hr0 : Kd.C (Kd.slice 3 (Kd.int .i64)) w A0 l0.length l0) (hc0 : l0.length ≤ c0) (h : impl_FreeLetters.f k l0 = some r) :
  Calls Try.prog 27 #[.slice A0 l0.length c0] w fun e w' => ∃ v0_ : Value, e = .returned (v0_) ∧ Kd.R (Kd.int .i64) 3 w' w.heap.size (fun _ => True) v0_ r ∧ Below w.heap.size w w' := by
 have HR0 := Aside0.mk hr0
 have HC0 := Aside0.mk hc0
 clear hr0 hc0
 have HB := Aside0.mk (Below.refl w.heap.size w)
 have H := h
 clear h
 unfold impl_FreeLetters.f at H
 replace H := Option.bind_eq_some_iff.mp H
 obtain ⟨t181, A20, H⟩ := H
 have A2 := Aside0.mk A20
 clear A20
 by_cases c3 : t181 = true
 ·
  subst c3
  rw [if_pos rfl] at H
  obtain ⟨y182, hy182⟩ : ∃ y_ : List Int, y_ = (([] : List Int)) := ⟨_, rfl⟩
  replace H : ((impl_letterCounts.f k l0).bind fun t185 => (impl_FreeLetters.l0 k y182 t185 (t185.length : Int) 0)) = some r := zy hy182 H
  have Ny182 := Aside0.mk hy182
  clear hy182
  replace H := Option.bind_eq_some_iff.mp H
  obtain ⟨t185, A40, H⟩ := H
  have A4 := Aside0.mk A40
  clear A40
  have H' := Aside0.mk H
  clear H
  go_enter Try.func27, Try.ntmps27
  go_wp2_with (first | ((with_reducible refine zg 18 rfl ?_); refine zl (some 7) Try.func18 #[.slice A0 l0.length c0] ?_; (with_reducible refine (impl_IsGluing.calls k _ _ l0 true _ ?side1 ?side2 A2.out).mono ?_); (case side1 => exact zc HR0.out); (case side2 => exact HC0.out); rintro e w5 ⟨rfl, hb⟩; refine ⟨_, rfl, ?_⟩; replace HB := Aside0.mk (below_step z0 hb)) | ((with_reducible refine gate_dst (N := 9) rfl ?_); refine Kd.R_lit (Kd.int .i64) _ 3 ?hg (N := 9) ?hd (xs := ([] : List Int)) (inner := []) (ok := fun _ => True) (okp := fun _ => True) ?hr ?hp (fun _ hk => hk) trivial (Below.refl _ _) (Nat.le_refl _) (by simp) ?_; (case hd => rfl); (case hg => rfl); (case hr => first | (go_simp; done) | (go_simp; rfl)); (case hp => exact (Reps.none _ _)); intro v183 w6 ho7 hb hg_ hnew_; clear hg_ hnew_; (first | rw [← Ny182.out] at ho7 | (simp only [Int.reduceToNat] at ho7; rw [← Ny182.out] at ho7)); have HO184 := Aside0.mk (Kd.R_lower ho7 (below_size z0)); replace HB := Aside0.mk (below_step z0 hb); clear hb ho7) | ((with_reducible refine zg 58 rfl ?_); refine zl (some 11) Try.func58 #[.slice A0 l0.length c0] ?_; (with_reducible refine (impl_letterCounts.calls k _ _ l0 t185 _ ?side1 ?side2 A4.out).mono ?_); (case side1 => exact zc (Kd.C_below HR0.out HB.out)); (case side2 => exact HC0.out); rintro e w8 ⟨v186, rfl, ho0, hb⟩; refine ⟨_, rfl, ?_⟩; have HO187 := Aside0.mk (Kd.R_lower (Kd.R_new' ho0 (Kd.R_lt (zr HO184.out))) (below_size z0)); replace HO184 := Aside0.mk (Kd.R_elder' (zr HO184.out) (Kd.R_base ho0) hb); replace HB := Aside0.mk (below_step z0 hb); (try clear hb); (try clear hb2); (try clear hk); (try clear hi); (try clear ho0); obtain ⟨Ao9, co9, eo9⟩ := Kd.R_slice HO187.out; subst eo9))
  go_loopg [3, 13] k (fun kq v3 v13 w' => ∃ (x3_1 : List Int) (x13_1 : Int), v13 = .int .i64 x13_1 ∧ Aside0 (impl_FreeLetters.l0 kq x3_1 t185 (t185.length : Int) x13_1 = some r) ∧ Aside0 (kq ≤ k) ∧ Aside0 (Kd.R (Kd.int .i64) 3 w' w.heap.size (fun k_ => some k_ ≠ ((.slice Ao9 t185.length co9) : Value).ownBlock) v3 x3_1) ∧ Aside0 (Kd.R (Kd.int .i64) 3 w' w.heap.size (fun k_ => some k_ ≠ (v3 : Value).ownBlock) (.slice Ao9 t185.length co9) t185) ∧ Aside0 (Below w.heap.size w w'))
  case atStart => exact ⟨(y182), (0), zd, H', ⟨Nat.le_refl _⟩, ⟨by (with_reducible repeat (first | apply Kd.R_alloc | apply Kd.R_drewN | apply Kd.R_drew)); exact Kd.R_mono HO184.out (fun _ hk => hk.2)⟩, ⟨by (with_reducible repeat (first | apply Kd.R_alloc | apply Kd.R_drewN | apply Kd.R_drew)); exact Kd.R_mono HO187.out (fun _ hk => hk.2)⟩, ⟨z0⟩⟩
  case round =>
   clear H'
   try clear c1
   try clear c2
   try clear p2
   try clear c3
   try clear c5
   obtain ⟨x3_1, x13_1, rfl, HA, HK1, HO_3, HO_11, HB⟩ := hrel
   cases gk with
   | zero => exact absurd HA.out (by simp [impl_FreeLetters.l0])
   | succ k1 =>
    have H := HA.out
    clear HA
    simp only [impl_FreeLetters.l0] at H
    by_cases c10 : x13_1 < (t185.length : Int)
    ·
     rw [if_pos c10] at H
     have c10b0 : decide (x13_1 < (t185.length : Int)) = true := decide_eq_true c10
     clear c10
     by_cases c11 : 0 ≤ x13_1
     ·
      rw [if_pos c11] at H
      have c11b0 : decide (0 ≤ x13_1) = true := decide_eq_true c11
      clear c11
      by_cases c12 : x13_1 < (t185.length : Int)
      ·
       rw [if_pos c12] at H
       have c12b0 : decide (x13_1 < (t185.length : Int)) = true := decide_eq_true c12
       clear c12
       by_cases c13 : (rd t185 x13_1) = 1
       ·
        rw [if_pos c13] at H
        have c13b0 : ((rd t185 x13_1) == 1) = true := beq_iff_eq.mpr c13
        have c13b1 : ((rd t185 x13_1) != 1) = false := bne_eq_false_iff_eq.mpr c13
        clear c13
        by_cases c14 : x3_1.length < 17592186044416
        ·
         rw [if_pos c14] at H
         have LMc14 := Aside0.mk c14
         clear c14
         obtain ⟨y189, hy189⟩ : ∃ y_ : List Int, y_ = (x3_1 ++ [x13_1]) := ⟨_, rfl⟩
         replace H : (impl_FreeLetters.l0 k1 y189 t185 (t185.length : Int) (wrap64 (x13_1 + 1))) = some r := zy hy189 H
         have Ny189 := Aside0.mk hy189
         clear hy189
         have H' := Aside0.mk H
         clear H
         have p188 : 0 ≤ (x13_1 : Int) := za
         have q188 : x13_1 < (t185.length : Int) := za
         obtain ⟨ad188, e188, hx188_0⟩ := Kd.at_int (Kd.R_reads' HO_11.out).2.2 x13_1 p188 q188
         cases e188
         replace p188 := eq_true p188
         replace q188 := eq_true q188
         go_wp2_with (first | ((with_reducible refine gate_builtin (b := .append) (xs := #[.tmp 20, .tmp 22]) rfl ?_); at_builtin; refine Kd.R_append (Kd.int .i64) (w0 := w) w.heap.size rfl (.tmp 20) (.tmp 22) 27 3 (.int .i64 0) 8 rfl Try.underlying27 info3 rfl (by decide) (by omega) u3 x3_1 x13_1 [.int .i64 x13_1] (fun k_ => some k_ ≠ (.slice (some ad188) t185.length co9 : Value).ownBlock) (fun _ => False) rfl rfl ?aP (fun _ hk => hk.elim) ?aF ?aO ?aB ?aS ?aL ?_; (case aP => exact rfl); (case aB => exact z0); (case aF => exact (fun k_ hk => Kd.fresh' (Kd.R_lt (zr HO_11.out)) k_ hk)); (case aO => exact (zr HO_3.out)); (case aS => exact (below_size z0)); (case aL => have := LMc14.out; omega); intro v190 w15 ho hb hg hat; rw [← Ny189.out] at ho; have n0_ := Aside0.mk (Kd.R_after (ok := (fun _ => True)) (by (with_reducible repeat (first | apply Kd.R_alloc | apply Kd.R_drewN | apply Kd.R_drew)); exact Kd.R_mono HO_11.out (fun _ hk => ⟨trivial, hk⟩)) hg hat); have n1_ := Aside0.mk (hb); have n2_ := Aside0.mk (ho); clear HO_11; clear HB; clear HO_3; have HO_11 := n0_; have HB := n1_; have HO191 := n2_; clear n0_ n1_ n2_; clear ho hb hg hat))
         go_roundg k1
         case measure => have := HK1.out; omega
         case rel => exact ⟨(y189), (wrap64 (x13_1 + 1)), zd, H', ⟨by have := HK1.out; omega⟩, ⟨zr HO191.out⟩, ⟨by (with_reducible repeat (first | apply Kd.R_alloc | apply Kd.R_drewN | apply Kd.R_drew)); exact Kd.R_mono HO_11.out (fun _ hk => hk.2)⟩, ⟨z0⟩⟩
        ·
         rw [if_neg c14] at H
         exact absurd H (by simp)
       ·
        rw [if_neg c13] at H
        have c13b0 : ((rd t185 x13_1) == 1) = false := beq_eq_false_iff_ne.mpr c13
        have c13b1 : ((rd t185 x13_1) != 1) = true := bne_iff_ne.mpr c13
        have H' := Aside0.mk H
        clear H
        have p188 : 0 ≤ (x13_1 : Int) := za
        have q188 : x13_1 < (t185.length : Int) := za
        obtain ⟨ad188, e188, hx188_0⟩ := Kd.at_int (Kd.R_reads' HO_11.out).2.2 x13_1 p188 q188
        cases e188
        replace p188 := eq_true p188
        replace q188 := eq_true q188
        go_wp2
        go_roundg k1
        case measure => have := HK1.out; omega
        case rel => exact ⟨(x3_1), (wrap64 (x13_1 + 1)), zd, H', ⟨by have := HK1.out; omega⟩, ⟨zr HO_3.out⟩, ⟨zr HO_11.out⟩, ⟨z0⟩⟩
      ·
       rw [if_neg c12] at H
       exact absurd H (by simp)
     ·
      rw [if_neg c11] at H
      exact absurd H (by simp)
    ·
     rw [if_neg c10] at H
     have c10b0 : decide (x13_1 < (t185.length : Int)) = false := decide_eq_false c10
     clear c10
     obtain rfl := Option.some.inj H
     go_wp2
     go_ret
     exact ⟨_, ze, by (with_reducible repeat (first | apply Kd.R_alloc | apply Kd.R_drewN | apply Kd.R_drew)); exact Kd.R_mono HO_3.out (fun _ hk => trivial), z0⟩
 ·
  replace c3 := Bool.eq_false_iff.mpr c3
  subst c3
  rw [if_neg (show ¬ (false = true) by decide)] at H
  obtain rfl := Option.some.inj H
  go_enter Try.func27, Try.ntmps27
  go_wp2_with (first | ((with_reducible refine zg 18 rfl ?_); refine zl (some 7) Try.func18 #[.slice A0 l0.length c0] ?_; (with_reducible refine (impl_IsGluing.calls k _ _ l0 false _ ?side1 ?side2 A2.out).mono ?_); (case side1 => exact zc HR0.out); (case side2 => exact HC0.out); rintro e w16 ⟨rfl, hb⟩; refine ⟨_, rfl, ?_⟩; replace HB := Aside0.mk (below_step z0 hb)))
  go_ret
  exact ⟨_, ze, by first | exact Kd.R_nil _ _ _ _ _ | exact Kd.N_nil _ _ _ _ _ | exact Kd.V_nil _ _ _ _ _ | exact Kd.Q_nil _ _ _ _ _ | exact Kd.S_nil _ _ _ _ _, z0⟩
mutual
def spec_l3Signs.l0 : Nat → List (List Int) → Int → Int → Int → Int → Int → Option (Int)
 | 0, _, _, _, _, _, _ => none
 | k + 1, x0, x1, x2, x7, x8, x9 => if x9 < (x0.length : Int) then (spec_l3Signs.l1 k x0 x1 x2 x7 x8 x9 0) else (if x8 < 2 then (some 0) else (some x7))
def spec_l3Signs.l1 : Nat → List (List Int) → Int → Int → Int → Int → Int → Int → Option (Int)
 | 0, _, _, _, _, _, _, _ => none
 | k + 1, x0, x1, x2, x7, x8, x9, x10 => if 0 ≤ x9 then (if x9 < (x0.length : Int) then (if x10 < ((rd_L1 x0 x9).length : Int) then (if 0 ≤ x10 then ((spec_l3Abs.f (rd (rd_L1 x0 x9) x10)).bind fun t195 => (if t195 = x2 then (if 0 ≤ (IntKind.u64.wrap (x9)) then (if ((decide ((rd (rd_L1 x0 x9) x10) > 0)) != ((Go.bits .and .i64 (shr .i64 x1 (IntKind.u64.wrap (x9))) 1) == 1)) = true then (spec_l3Signs.l1 k x0 x1 x2 (wrap64 (x7 + 1)) (wrap64 (x8 + 1)) x9 (wrap64 (x10 + 1))) else (spec_l3Signs.l1 k x0 x1 x2 (wrap64 (x7 - 1)) (wrap64 (x8 + 1)) x9 (wrap64 (x10 + 1)))) else (none)) else (spec_l3Signs.l1 k x0 x1 x2 x7 x8 x9 (wrap64 (x10 + 1))))) else (none)) else (spec_l3Signs.l0 k x0 x1 x2 x7 x8 (wrap64 (x9 + 1)))) else (none)) else (none)
end
def spec_l3Signs.f (k : Nat) (l0 : List (List Int)) (a1 : Int) (a2 : Int) : Option (Int) := spec_l3Signs.l0 k l0 a1 a2 0 0 0
set_option maxHeartbeats 8000000 in
set_option maxRecDepth 100000 in
theorem spec_l3Signs.calls (k : Nat) (A0 : Option Addr) (c0 : Nat) (l0 : List (List Int)) (a1 : Int) (a2 : Int) (r : Int) (w : World) (hr0 : Kd.C (Kd.slice 3 (Kd.int .i64)) w A0 l0.length l0) (hc0 : l0.length ≤ c0) (h : spec_l3Signs.f k l0 a1 a2 = some r) :
  Calls Try.prog 60 #[.slice A0 l0.length c0, .int .i64 a1, .int .i64 a2] w fun e w' => e = .returned (.int .i64 r) ∧ Drawn0 w w' := by
 have HR0 := Aside0.mk hr0
 have HC0 := Aside0.mk hc0
 clear hr0 hc0
 have H := h
 clear h
 unfold spec_l3Signs.f at H
 have H' := Aside0.mk H
 clear H
 go_enter Try.func60, Try.ntmps60
 go_wp2
 go_loopg [7, 8, 9] k (fun kq v7 v8 v9 w' => ∃ (x7_1 : Int) (x8_1 : Int) (x9_1 : Int), v7 = .int .i64 x7_1 ∧ v8 = .int .i64 x8_1 ∧ v9 = .int .i64 x9_1 ∧ Aside0 (spec_l3Signs.l0 kq l0 a1 a2 x7_1 x8_1 x9_1 = some r) ∧ Aside0 (kq ≤ k) ∧ Drawn0 w w')
 case atStart => exact ⟨(0), (0), (0), zd, zd, zd, H', ⟨Nat.le_refl _⟩, z3⟩
 case round =>
  clear H'
  try clear p2
  obtain ⟨x7_1, x8_1, x9_1, rfl, rfl, rfl, HA, HK1, ⟨m1, rfl⟩⟩ := hrel
  cases gk with
  | zero => exact absurd HA.out (by simp [spec_l3Signs.l0])
  | succ k1 =>
   have H := HA.out
   clear HA
   simp only [spec_l3Signs.l0] at H
   by_cases c4 : x9_1 < (l0.length : Int)
   ·
    rw [if_pos c4] at H
    have c4b0 : decide (x9_1 < (l0.length : Int)) = true := decide_eq_true c4
    clear c4
    have H' := Aside0.mk H
    clear H
    go_wp2
    go_loopg [7, 8, 10] k1 (fun kq v7 v8 v10 w' => ∃ (x7_2 : Int) (x8_2 : Int) (x10_2 : Int), v7 = .int .i64 x7_2 ∧ v8 = .int .i64 x8_2 ∧ v10 = .int .i64 x10_2 ∧ Aside0 (spec_l3Signs.l1 kq l0 a1 a2 x7_2 x8_2 x9_1 x10_2 = some r) ∧ Aside0 (kq ≤ k1) ∧ Drawn0 w w')
    case atStart => exact ⟨(x7_1), (x8_1), (0), zd, zd, zd, H', ⟨Nat.le_refl _⟩, z3⟩
    case round =>
     clear H'
     try clear p2
     try clear c4
     try clear c4b0
     try clear p2
     obtain ⟨x7_2, x8_2, x10_2, rfl, rfl, rfl, HA, HK2, ⟨m2, rfl⟩⟩ := hrel
     cases gk with
     | zero => exact absurd HA.out (by simp [spec_l3Signs.l1])
     | succ k2 =>
      have H := HA.out
      clear HA
      simp only [spec_l3Signs.l1] at H
      by_cases c5 : 0 ≤ x9_1
      ·
       rw [if_pos c5] at H
       have c5b0 : decide (0 ≤ x9_1) = true := decide_eq_true c5
       clear c5
       by_cases c6 : x9_1 < (l0.length : Int)
       ·
        rw [if_pos c6] at H
        have c6b0 : decide (x9_1 < (l0.length : Int)) = true := decide_eq_true c6
        clear c6
        by_cases c7 : x10_2 < ((rd_L1 l0 x9_1).length : Int)
        ·
         rw [if_pos c7] at H
         have c7b0 : decide (x10_2 < ((rd_L1 l0 x9_1).length : Int)) = true := decide_eq_true c7
         clear c7
         by_cases c8 : 0 ≤ x10_2
         ·
          rw [if_pos c8] at H
          have c8b0 : decide (0 ≤ x10_2) = true := decide_eq_true c8
          clear c8
          replace H := Option.bind_eq_some_iff.mp H
          obtain ⟨t195, A90, H⟩ := H
          have A9 := Aside0.mk A90
          clear A90
          by_cases c10 : t195 = a2
          ·
           rw [if_pos c10] at H
           have c10b0 : (t195 == a2) = true := beq_iff_eq.mpr c10
           have c10b1 : (t195 != a2) = false := bne_eq_false_iff_eq.mpr c10
           clear c10
           obtain ⟨ji11, hji11⟩ : ∃ j_ : Int, (IntKind.u64.wrap (x9_1)) = j_ := ⟨_, rfl⟩
           replace H : (if 0 ≤ (ji11) then (if ((decide ((rd (rd_L1 l0 x9_1) x10_2) > 0)) != ((Go.bits .and .i64 (shr .i64 a1 (ji11)) 1) == 1)) = true then (spec_l3Signs.l1 k2 l0 a1 a2 (wrap64 (x7_2 + 1)) (wrap64 (x8_2 + 1)) x9_1 (wrap64 (x10_2 + 1))) else (spec_l3Signs.l1 k2 l0 a1 a2 (wrap64 (x7_2 - 1)) (wrap64 (x8_2 + 1)) x9_1 (wrap64 (x10_2 + 1)))) else (none)) = some r := by first | (rw [hji11] at H; exact H) | (simp only [hji11] at H ⊢; exact H)
           (try rw [hji11] at A9)
           by_cases c12 : 0 ≤ (ji11)
           ·
            rw [if_pos c12] at H
            have c12b0 := eq_true c12
            have c12b1 : decide (0 ≤ (ji11)) = true := decide_eq_true c12
            clear c12
            obtain ⟨ji13, hji13⟩ : ∃ j_ : Int, (shr .i64 a1 (ji11)) = j_ := ⟨_, rfl⟩
            replace H : (if ((decide ((rd (rd_L1 l0 x9_1) x10_2) > 0)) != ((Go.bits .and .i64 (ji13) 1) == 1)) = true then (spec_l3Signs.l1 k2 l0 a1 a2 (wrap64 (x7_2 + 1)) (wrap64 (x8_2 + 1)) x9_1 (wrap64 (x10_2 + 1))) else (spec_l3Signs.l1 k2 l0 a1 a2 (wrap64 (x7_2 - 1)) (wrap64 (x8_2 + 1)) x9_1 (wrap64 (x10_2 + 1)))) = some r := by first | (rw [hji13] at H; exact H) | (simp only [hji13] at H ⊢; exact H)
            (try rw [hji13] at A9)
            have hji13_ : (a1 / 2 ^ min (ji11).toNat 64) = ji13 := hji13
            have hji13z : (ji11) ≤ 64 → (a1 / 2 ^ (ji11).toNat) = ji13 := shr_small hji13
            by_cases c14 : ((decide ((rd (rd_L1 l0 x9_1) x10_2) > 0)) != ((Go.bits .and .i64 (ji13) 1) == 1)) = true
            ·
             rw [if_pos c14] at H
             have c14b0 : ((decide ((rd (rd_L1 l0 x9_1) x10_2) > 0)) != ((Go.bits .and .i64 (ji13) 1) == 1)) = true := c14
             (try (have c14b1 : decide ((decide ((rd (rd_L1 l0 x9_1) x10_2) > 0)) = ((Go.bits .and .i64 (ji13) 1) == 1)) = false := by simpa using c14))
             (try (have c14b2 : ((decide ((rd (rd_L1 l0 x9_1) x10_2) > 0)) == ((Go.bits .and .i64 (ji13) 1) == 1)) = false := by simpa using c14))
             (try (have c14b3 : ¬ ((decide ((rd (rd_L1 l0 x9_1) x10_2) > 0)) = ((Go.bits .and .i64 (ji13) 1) == 1)) := by simpa using c14))
             (try (have c14b4 : (!((decide ((rd (rd_L1 l0 x9_1) x10_2) > 0)) == ((Go.bits .and .i64 (ji13) 1) == 1))) = true := (by have h_ := c14; revert h_; generalize (decide ((rd (rd_L1 l0 x9_1) x10_2) > 0)) = x_; generalize ((Go.bits .and .i64 (ji13) 1) == 1) = y_; cases x_ <;> cases y_ <;> simp)))
             clear c14
             have H' := Aside0.mk H
             clear H
             have p192 : 0 ≤ (x9_1 : Int) := za
             have q192 : x9_1 < (l0.length : Int) := za
             obtain ⟨ad192, A192_0, c192_0, e192, hx192_0, hl192_0, hi192_0⟩ := at_L1 HR0.out x9_1 p192 q192
             cases e192
             have HR192_0 := Aside0.mk hi192_0
             have HC192_0 := Aside0.mk hl192_0
             clear hi192_0 hl192_0
             replace p192 := eq_true p192
             replace q192 := eq_true q192
             have p193 : 0 ≤ (x9_1 : Int) := za
             have q193 : x9_1 < (l0.length : Int) := za
             obtain ⟨ad193, A193_0, c193_0, e193, hx193_0, hl193_0, hi193_0⟩ := at_L1 HR0.out x9_1 p193 q193
             obtain rfl : ad192 = ad193 := (by injection e193)
             have HR193_0 := Aside0.mk hi193_0
             have HC193_0 := Aside0.mk hl193_0
             clear hi193_0 hl193_0
             replace p193 := eq_true p193
             replace q193 := eq_true q193
             have ea_ := Option.some.inj (hx192_0.symm.trans hx193_0)
             injection ea_ with ea_ en_ ec_
             subst ea_
             subst ec_
             clear en_
             have p194 : 0 ≤ (x10_2 : Int) := za
             have q194 : x10_2 < ((rd_L1 l0 x9_1).length : Int) := za
             obtain ⟨ad194, e194, hx194_0⟩ := Kd.at_int HR193_0.out x10_2 p194 q194
             cases e194
             replace p194 := eq_true p194
             replace q194 := eq_true q194
             go_wp2_with (first | ((with_reducible refine zg 86 rfl ?_); refine zl (some 33) Try.func86 #[.int .i64 (rd (rd_L1 l0 x9_1) x10_2)] ?_; (with_reducible refine (spec_l3Abs.calls (rd (rd_L1 l0 x9_1) x10_2) t195 _ A9.out).mono ?_); rintro e w' ⟨rfl, ⟨nd, rfl⟩⟩; refine ⟨_, rfl, ?_⟩; have p196 : 0 ≤ (x9_1 : Int) := za; have q196 : x9_1 < (l0.length : Int) := za; obtain ⟨ad196, A196_0, c196_0, e196, hx196_0, hl196_0, hi196_0⟩ := at_L1 HR0.out x9_1 p196 q196; obtain rfl : ad192 = ad196 := (by injection e196); have HR196_0 := Aside0.mk hi196_0; have HC196_0 := Aside0.mk hl196_0; clear hi196_0 hl196_0; replace p196 := eq_true p196; replace q196 := eq_true q196; have ea_ := Option.some.inj (hx192_0.symm.trans hx196_0); injection ea_ with ea_ en_ ec_; subst ea_; subst ec_; clear en_; have p197 : 0 ≤ (x10_2 : Int) := za; have q197 : x10_2 < ((rd_L1 l0 x9_1).length : Int) := za; obtain ⟨ad197, e197, hx197_0⟩ := Kd.at_int HR196_0.out x10_2 p197 q197; obtain rfl : ad194 = ad197 := (by injection e197); replace p197 := eq_true p197; replace q197 := eq_true q197))
             go_roundg k2
             case measure => have := HK1.out; have := HK2.out; omega
             case rel => exact ⟨(wrap64 (x7_2 + 1)), (wrap64 (x8_2 + 1)), (wrap64 (x10_2 + 1)), zd, zd, zd, H', ⟨by have := HK1.out; have := HK2.out; omega⟩, z3⟩
            ·
             rw [if_neg c14] at H
             have c14b0 : ((decide ((rd (rd_L1 l0 x9_1) x10_2) > 0)) != ((Go.bits .and .i64 (ji13) 1) == 1)) = false := by simpa using c14
             (try (have c14b1 : decide ((decide ((rd (rd_L1 l0 x9_1) x10_2) > 0)) = ((Go.bits .and .i64 (ji13) 1) == 1)) = true := by simpa using c14))
             (try (have c14b2 : ((decide ((rd (rd_L1 l0 x9_1) x10_2) > 0)) == ((Go.bits .and .i64 (ji13) 1) == 1)) = true := by simpa using c14))
             (try (have c14b3 : (!((decide ((rd (rd_L1 l0 x9_1) x10_2) > 0)) == ((Go.bits .and .i64 (ji13) 1) == 1))) = false := (by have h_ := c14; revert h_; generalize (decide ((rd (rd_L1 l0 x9_1) x10_2) > 0)) = x_; generalize ((Go.bits .and .i64 (ji13) 1) == 1) = y_; cases x_ <;> cases y_ <;> simp)))
             clear c14
             have H' := Aside0.mk H
             clear H
             have p192 : 0 ≤ (x9_1 : Int) := za
             have q192 : x9_1 < (l0.length : Int) := za
             obtain ⟨ad192, A192_0, c192_0, e192, hx192_0, hl192_0, hi192_0⟩ := at_L1 HR0.out x9_1 p192 q192
             cases e192
             have HR192_0 := Aside0.mk hi192_0
             have HC192_0 := Aside0.mk hl192_0
             clear hi192_0 hl192_0
             replace p192 := eq_true p192
             replace q192 := eq_true q192
             have p193 : 0 ≤ (x9_1 : Int) := za
             have q193 : x9_1 < (l0.length : Int) := za
             obtain ⟨ad193, A193_0, c193_0, e193, hx193_0, hl193_0, hi193_0⟩ := at_L1 HR0.out x9_1 p193 q193
             obtain rfl : ad192 = ad193 := (by injection e193)
             have HR193_0 := Aside0.mk hi193_0
             have HC193_0 := Aside0.mk hl193_0
             clear hi193_0 hl193_0
             replace p193 := eq_true p193
             replace q193 := eq_true q193
             have ea_ := Option.some.inj (hx192_0.symm.trans hx193_0)
             injection ea_ with ea_ en_ ec_
             subst ea_
             subst ec_
             clear en_
             have p194 : 0 ≤ (x10_2 : Int) := za
             have q194 : x10_2 < ((rd_L1 l0 x9_1).length : Int) := za
             obtain ⟨ad194, e194, hx194_0⟩ := Kd.at_int HR193_0.out x10_2 p194 q194
             cases e194
             replace p194 := eq_true p194
             replace q194 := eq_true q194
             go_wp2_with (first | ((with_reducible refine zg 86 rfl ?_); refine zl (some 33) Try.func86 #[.int .i64 (rd (rd_L1 l0 x9_1) x10_2)] ?_; (with_reducible refine (spec_l3Abs.calls (rd (rd_L1 l0 x9_1) x10_2) t195 _ A9.out).mono ?_); rintro e w' ⟨rfl, ⟨nd, rfl⟩⟩; refine ⟨_, rfl, ?_⟩; have p196 : 0 ≤ (x9_1 : Int) := za; have q196 : x9_1 < (l0.length : Int) := za; obtain ⟨ad196, A196_0, c196_0, e196, hx196_0, hl196_0, hi196_0⟩ := at_L1 HR0.out x9_1 p196 q196; obtain rfl : ad192 = ad196 := (by injection e196); have HR196_0 := Aside0.mk hi196_0; have HC196_0 := Aside0.mk hl196_0; clear hi196_0 hl196_0; replace p196 := eq_true p196; replace q196 := eq_true q196; have ea_ := Option.some.inj (hx192_0.symm.trans hx196_0); injection ea_ with ea_ en_ ec_; subst ea_; subst ec_; clear en_; have p197 : 0 ≤ (x10_2 : Int) := za; have q197 : x10_2 < ((rd_L1 l0 x9_1).length : Int) := za; obtain ⟨ad197, e197, hx197_0⟩ := Kd.at_int HR196_0.out x10_2 p197 q197; obtain rfl : ad194 = ad197 := (by injection e197); replace p197 := eq_true p197; replace q197 := eq_true q197))
             go_roundg k2
             case measure => have := HK1.out; have := HK2.out; omega
             case rel => exact ⟨(wrap64 (x7_2 - 1)), (wrap64 (x8_2 + 1)), (wrap64 (x10_2 + 1)), zd, zd, zd, H', ⟨by have := HK1.out; have := HK2.out; omega⟩, z3⟩
           ·
            rw [if_neg c12] at H
            exact absurd H (by simp)
          ·
           rw [if_neg c10] at H
           have c10b0 : (t195 == a2) = false := beq_eq_false_iff_ne.mpr c10
           have c10b1 : (t195 != a2) = true := bne_iff_ne.mpr c10
           have H' := Aside0.mk H
           clear H
           have p192 : 0 ≤ (x9_1 : Int) := za
           have q192 : x9_1 < (l0.length : Int) := za
           obtain ⟨ad192, A192_0, c192_0, e192, hx192_0, hl192_0, hi192_0⟩ := at_L1 HR0.out x9_1 p192 q192
           cases e192
           have HR192_0 := Aside0.mk hi192_0
           have HC192_0 := Aside0.mk hl192_0
           clear hi192_0 hl192_0
           replace p192 := eq_true p192
           replace q192 := eq_true q192
           have p193 : 0 ≤ (x9_1 : Int) := za
           have q193 : x9_1 < (l0.length : Int) := za
           obtain ⟨ad193, A193_0, c193_0, e193, hx193_0, hl193_0, hi193_0⟩ := at_L1 HR0.out x9_1 p193 q193
           obtain rfl : ad192 = ad193 := (by injection e193)
           have HR193_0 := Aside0.mk hi193_0
           have HC193_0 := Aside0.mk hl193_0
           clear hi193_0 hl193_0
           replace p193 := eq_true p193
           replace q193 := eq_true q193
           have ea_ := Option.some.inj (hx192_0.symm.trans hx193_0)
           injection ea_ with ea_ en_ ec_
           subst ea_
           subst ec_
           clear en_
           have p194 : 0 ≤ (x10_2 : Int) := za
           have q194 : x10_2 < ((rd_L1 l0 x9_1).length : Int) := za
           obtain ⟨ad194, e194, hx194_0⟩ := Kd.at_int HR193_0.out x10_2 p194 q194
           cases e194
           replace p194 := eq_true p194
           replace q194 := eq_true q194
           go_wp2_with (first | ((with_reducible refine zg 86 rfl ?_); refine zl (some 33) Try.func86 #[.int .i64 (rd (rd_L1 l0 x9_1) x10_2)] ?_; (with_reducible refine (spec_l3Abs.calls (rd (rd_L1 l0 x9_1) x10_2) t195 _ A9.out).mono ?_); rintro e w' ⟨rfl, ⟨nd, rfl⟩⟩; refine ⟨_, rfl, ?_⟩))
           go_roundg k2
           case measure => have := HK1.out; have := HK2.out; omega
           case rel => exact ⟨(x7_2), (x8_2), (wrap64 (x10_2 + 1)), zd, zd, zd, H', ⟨by have := HK1.out; have := HK2.out; omega⟩, z3⟩
         ·
          rw [if_neg c8] at H
          exact absurd H (by simp)
        ·
         rw [if_neg c7] at H
         have c7b0 : decide (x10_2 < ((rd_L1 l0 x9_1).length : Int)) = false := decide_eq_false c7
         clear c7
         have H' := Aside0.mk H
         clear H
         have p192 : 0 ≤ (x9_1 : Int) := za
         have q192 : x9_1 < (l0.length : Int) := za
         obtain ⟨ad192, A192_0, c192_0, e192, hx192_0, hl192_0, hi192_0⟩ := at_L1 HR0.out x9_1 p192 q192
         cases e192
         have HR192_0 := Aside0.mk hi192_0
         have HC192_0 := Aside0.mk hl192_0
         clear hi192_0 hl192_0
         replace p192 := eq_true p192
         replace q192 := eq_true q192
         go_wp2
         go_roundg k2
         case measure => have := HK1.out; have := HK2.out; omega
         case rel => exact ⟨(x7_2), (x8_2), (wrap64 (x9_1 + 1)), zd, zd, zd, H', ⟨by have := HK1.out; have := HK2.out; omega⟩, z3⟩
       ·
        rw [if_neg c6] at H
        exact absurd H (by simp)
      ·
       rw [if_neg c5] at H
       exact absurd H (by simp)
   ·
    rw [if_neg c4] at H
    have c4b0 : decide (x9_1 < (l0.length : Int)) = false := decide_eq_false c4
    clear c4
    by_cases c15 : x8_1 < 2
    ·
     rw [if_pos c15] at H
     have c15b0 : decide (x8_1 < 2) = true := decide_eq_true c15
     clear c15
     obtain rfl := Option.some.inj H
     go_wp2
     go_ret
     exact ⟨by first | rfl | (simp; done) | (simp [*]; done), z3⟩
    ·
     rw [if_neg c15] at H
     have c15b0 : decide (x8_1 < 2) = false := decide_eq_false c15
     clear c15
     obtain rfl := Option.some.inj H
     go_wp2
     go_ret
     exact ⟨by first | rfl | (simp; done) | (simp [*]; done), z3⟩
mutual
def spec_IsTwoSided.l0 : Nat → List (List Int) → Int → Option (Bool)
 | 0, _, _ => none
 | k + 1, x0, x3 => if 0 ≤ (IntKind.u64.wrap ((x0.length : Int))) then (if x3 < (shl .i64 1 (IntKind.u64.wrap ((x0.length : Int)))) then (spec_IsTwoSided.l1 k x0 x3 true 1) else (some false)) else (none)
def spec_IsTwoSided.l1 : Nat → List (List Int) → Int → Bool → Int → Option (Bool)
 | 0, _, _, _, _ => none
 | k + 1, x0, x3, x4, x5 => if x5 ≤ 8 then (if x4 = true then ((spec_l3Signs.f k x0 x3 x5).bind fun t199 => (spec_IsTwoSided.l1 k x0 x3 (t199 == 0) (wrap64 (x5 + 1)))) else (spec_IsTwoSided.l1 k x0 x3 false (wrap64 (x5 + 1)))) else (if x4 = true then (some true) else (spec_IsTwoSided.l0 k x0 (wrap64 (x3 + 1))))
end
def spec_IsTwoSided.f (k : Nat) (l0 : List (List Int)) : Option (Bool) := (spec_IsGluing.f k l0).bind fun t198 => (if t198 = true then (spec_IsTwoSided.l0 k l0 0) else (some false))
set_option maxHeartbeats 8000000 in
set_option maxRecDepth 100000 in
theorem spec_IsTwoSided.calls (k : Nat) (A0 : Option Addr) (c0 : Nat) (l0 : List (List Int)) (r : Bool) (w : World) (hr0 : Kd.C (Kd.slice 3 (Kd.int .i64)) w A0 l0.length l0) (hc0 : l0.length ≤ c0) (h : spec_IsTwoSided.f k l0 = some r) :
  Calls Try.prog 28 #[.slice A0 l0.length c0] w fun e w' => e = .returned (.bool r) ∧ Below w.heap.size w w' := by
 have HR0 := Aside0.mk hr0
 have HC0 := Aside0.mk hc0
 clear hr0 hc0
 have HB := Aside0.mk (Below.refl w.heap.size w)
 have H := h
 clear h
 unfold spec_IsTwoSided.f at H
 replace H := Option.bind_eq_some_iff.mp H
 obtain ⟨t198, A20, H⟩ := H
 have A2 := Aside0.mk A20
 clear A20
 by_cases c3 : t198 = true
 ·
  subst c3
  rw [if_pos rfl] at H
  have H' := Aside0.mk H
  clear H
  go_enter Try.func28, Try.ntmps28
  go_wp2_with (first | ((with_reducible refine zg 16 rfl ?_); refine zl (some 7) Try.func16 #[.slice A0 l0.length c0] ?_; (with_reducible refine (spec_IsGluing.calls k _ _ l0 true _ ?side1 ?side2 A2.out).mono ?_); (case side1 => exact zc HR0.out); (case side2 => exact HC0.out); rintro e w4 ⟨rfl, hb⟩; refine ⟨_, rfl, ?_⟩; replace HB := Aside0.mk (below_step z0 hb)))
  go_loopg [3] k (fun kq v3 w' => ∃ (x3_1 : Int), v3 = .int .i64 x3_1 ∧ Aside0 (spec_IsTwoSided.l0 kq l0 x3_1 = some r) ∧ Aside0 (kq ≤ k) ∧ Aside0 (Below w.heap.size w w'))
  case atStart => exact ⟨(0), zd, H', ⟨Nat.le_refl _⟩, ⟨z0⟩⟩
  case round =>
   clear H'
   try clear c1
   try clear c2
   try clear p2
   try clear c3
   obtain ⟨x3_1, rfl, HA, HK1, HB⟩ := hrel
   cases gk with
   | zero => exact absurd HA.out (by simp [spec_IsTwoSided.l0])
   | succ k1 =>
    have H := HA.out
    clear HA
    simp only [spec_IsTwoSided.l0] at H
    obtain ⟨ji5, hji5⟩ : ∃ j_ : Int, (IntKind.u64.wrap ((l0.length : Int))) = j_ := ⟨_, rfl⟩
    replace H : (if 0 ≤ (ji5) then (if x3_1 < (shl .i64 1 (ji5)) then (spec_IsTwoSided.l1 k1 l0 x3_1 true 1) else (some false)) else (none)) = some r := by first | (rw [hji5] at H; exact H) | (simp only [hji5] at H ⊢; exact H)
    by_cases c6 : 0 ≤ (ji5)
    ·
     rw [if_pos c6] at H
     have c6b0 := eq_true c6
     have c6b1 : decide (0 ≤ (ji5)) = true := decide_eq_true c6
     clear c6
     obtain ⟨ji7, hji7⟩ : ∃ j_ : Int, (shl .i64 1 (ji5)) = j_ := ⟨_, rfl⟩
     replace H : (if x3_1 < (ji7) then (spec_IsTwoSided.l1 k1 l0 x3_1 true 1) else (some false)) = some r := by first | (rw [hji7] at H; exact H) | (simp only [hji7] at H ⊢; exact H)
     have hji7_ : (IntKind.i64.wrap (1 * 2 ^ min (ji5).toNat 64)) = ji7 := hji7
     have hji7z : (ji5) ≤ 64 → (IntKind.i64.wrap (1 * 2 ^ (ji5).toNat)) = ji7 := shl_small hji7
     have hji7u : (IntKind.i64.wrap (2 ^ min (ji5).toNat 64)) = ji7 := by have h_ := hji7_; rw [Int.one_mul] at h_; exact h_
     have hji7v : (ji5) ≤ 64 → (IntKind.i64.wrap (2 ^ (ji5).toNat)) = ji7 := fun hle_ => by have h_ := hji7z hle_; rw [Int.one_mul] at h_; exact h_
     have hji7y : (wrap64 (1 * 2 ^ min (ji5).toNat 64)) = ji7 := (i64_w _).symm.trans hji7_
     have hji7x : (ji5) ≤ 64 → (wrap64 (1 * 2 ^ (ji5).toNat)) = ji7 := fun h_ => (i64_w _).symm.trans (hji7z h_)
     by_cases c8 : x3_1 < (ji7)
     ·
      rw [if_pos c8] at H
      have c8b0 : decide (x3_1 < (ji7)) = true := decide_eq_true c8
      clear c8
      have H' := Aside0.mk H
      clear H
      go_wp2
      go_loopg [4, 5] k1 (fun kq v4 v5 w' => ∃ (x4_2 : Bool) (x5_2 : Int), v4 = .bool x4_2 ∧ v5 = .int .i64 x5_2 ∧ Aside0 (spec_IsTwoSided.l1 kq l0 x3_1 x4_2 x5_2 = some r) ∧ Aside0 (kq ≤ k1) ∧ Aside0 (Below w.heap.size w w'))
      case atStart => exact ⟨(true), (1), zd, zd, H', ⟨Nat.le_refl _⟩, ⟨z0⟩⟩
      case round =>
       clear H'
       try clear c1
       try clear c2
       try clear p2
       try clear c3
       try clear c6
       try clear c6b0
       try clear c6b1
       try clear p6
       try clear c8
       try clear c8b0
       try clear p2
       obtain ⟨x4_2, x5_2, rfl, rfl, HA, HK2, HB⟩ := hrel
       cases gk with
       | zero => exact absurd HA.out (by simp [spec_IsTwoSided.l1])
       | succ k2 =>
        have H := HA.out
        clear HA
        simp only [spec_IsTwoSided.l1] at H
        by_cases c9 : x5_2 ≤ 8
        ·
         rw [if_pos c9] at H
         have c9b0 : decide (x5_2 ≤ 8) = true := decide_eq_true c9
         clear c9
         by_cases c10 : x4_2 = true
         ·
          subst c10
          rw [if_pos rfl] at H
          replace H := Option.bind_eq_some_iff.mp H
          obtain ⟨t199, A110, H⟩ := H
          have A11 := Aside0.mk A110
          clear A110
          have H' := Aside0.mk H
          clear H
          go_wp2_with (first | (go_at_call 60; (with_reducible refine (spec_l3Signs.calls k2 _ _ l0 x3_1 x5_2 t199 _ ?side1 ?side2 A11.out).mono ?_); (case side1 => exact zc (Kd.C_below HR0.out HB.out)); (case side2 => exact HC0.out); rintro e w' ⟨rfl, ⟨nd, rfl⟩⟩))
          go_roundg k2
          case measure => have := HK1.out; have := HK2.out; omega
          case rel => exact ⟨((t199 == 0)), (wrap64 (x5_2 + 1)), zd, zd, H', ⟨by have := HK1.out; have := HK2.out; omega⟩, ⟨z0⟩⟩
         ·
          replace c10 := Bool.eq_false_iff.mpr c10
          subst c10
          rw [if_neg (show ¬ (false = true) by decide)] at H
          have H' := Aside0.mk H
          clear H
          go_wp2
          go_roundg k2
          case measure => have := HK1.out; have := HK2.out; omega
          case rel => exact ⟨(false), (wrap64 (x5_2 + 1)), zd, zd, H', ⟨by have := HK1.out; have := HK2.out; omega⟩, ⟨z0⟩⟩
        ·
         rw [if_neg c9] at H
         have c9b0 : decide (x5_2 ≤ 8) = false := decide_eq_false c9
         clear c9
         by_cases c12 : x4_2 = true
         ·
          subst c12
          rw [if_pos rfl] at H
          obtain rfl := Option.some.inj H
          go_wp2
          go_ret
          exact ⟨by first | rfl | (simp [errW_none, errW_some] <;> rfl) | (simp only [← hji5, ← hji7]; first | rfl | (simp [errW_none, errW_some] <;> rfl)) | (simp [*, errW_none, errW_some] <;> rfl), z0⟩
         ·
          replace c12 := Bool.eq_false_iff.mpr c12
          subst c12
          rw [if_neg (show ¬ (false = true) by decide)] at H
          have H' := Aside0.mk H
          clear H
          go_wp2
          go_roundg k2
          case measure => have := HK1.out; have := HK2.out; omega
          case rel => exact ⟨(wrap64 (x3_1 + 1)), zd, H', ⟨by have := HK1.out; have := HK2.out; omega⟩, ⟨z0⟩⟩
     ·
      rw [if_neg c8] at H
      have c8b0 : decide (x3_1 < (ji7)) = false := decide_eq_false c8
      clear c8
      obtain rfl := Option.some.inj H
      go_wp2
      go_ret
      exact ⟨by first | rfl | (simp [errW_none, errW_some] <;> rfl) | (simp only [← hji5, ← hji7]; first | rfl | (simp [errW_none, errW_some] <;> rfl)) | (simp [*, errW_none, errW_some] <;> rfl), z0⟩
    ·
     rw [if_neg c6] at H
     exact absurd H (by simp)
 ·
  replace c3 := Bool.eq_false_iff.mpr c3
  subst c3
  rw [if_neg (show ¬ (false = true) by decide)] at H
  obtain rfl := Option.some.inj H
  go_enter Try.func28, Try.ntmps28
  go_wp2_with (first | ((with_reducible refine zg 16 rfl ?_); refine zl (some 7) Try.func16 #[.slice A0 l0.length c0] ?_; (with_reducible refine (spec_IsGluing.calls k _ _ l0 false _ ?side1 ?side2 A2.out).mono ?_); (case side1 => exact zc HR0.out); (case side2 => exact HC0.out); rintro e w13 ⟨rfl, hb⟩; refine ⟨_, rfl, ?_⟩; replace HB := Aside0.mk (below_step z0 hb)))
  go_ret
  exact ⟨ze, z0⟩
end Go.Proofs.Ytfknffpfjoalkaa.QFnGluings
