-- Written by a program of this session (the kit's print, turned in places): the functions that the law FnGluings comes to, and what their calls do.
import Derived.Test.YtfknffpfjoalkaaQFnGluingsx0
import Derived.Test.YtfknffpfjoalkaaQFnGluingsx11
import Derived.Test.YtfknffpfjoalkaaQFnGluingsx12
import Derived.Test.YtfknffpfjoalkaaZip
namespace Go.Proofs.Ytfknffpfjoalkaa.QFnGluings
open Go.Proofs.Ytfknffpfjoalkaa.Zip Go.RowKit Go.Proofs.YtfknffpfjoalkaaW.PrintWords Go.Proofs.YtfknffpfjoalkaaW.PrintLast Go.Proofs.YtfknffpfjoalkaaW.PrintMore
attribute [local go_sem] max2_int min2_int max_two min_two max_three min_three max_four min_four   -- for this text's walks alone
set_option linter.unusedVariables false
set_option linter.unusedSimpArgs false
def spec_l3Bent.f (k : Nat) (s0_0 : List Int) (s0_1 : Int) (s0_2 : Int) : Option ((List (List Int)) × Int × Int) := (spec_l3Draw.f k s0_0 s0_1 s0_2).bind fun bt546 => ((spec_l1Below.f s0_0 bt546.2.1 bt546.2.2 20).bind fun bt551 => (if bt551.1 = 0 then (if bt546.1.length < 5864062014805 then (some ((bt546.1 ++ [(([] : List Int))]), bt551.2.1, bt551.2.2)) else (none)) else (if bt551.1 = 1 then (if 0 < (bt546.1.length : Int) then (if 0 < ((rd_L1 bt546.1 0).length : Int) then ((spec_l1PickInt.f s0_0 bt551.2.1 bt551.2.2 (([rd (rd_L1 bt546.1 0) 0, 8, 9] : List Int))).bind fun bt568 => ((some (([rd (rd_L1 bt546.1 0) 0, bt568.1] : List Int) : List Int)).bind fun y571 => (if (rd_L1 bt546.1 0).length + y571.length < 17592186044416 then (some ((bt546.1.set (0 : Int).toNat ((rd_L1 bt546.1 0) ++ y571)), bt568.2.1, bt568.2.2)) else (none)))) else (none)) else (none)) else (if bt551.1 = 2 then (some ((([] : List (List Int))), bt551.2.1, bt551.2.2)) else (some (bt546.1, bt551.2.1, bt551.2.2))))))
def spec_l3Bent.T6 : Bool × List (List Nat × List Nat) := (true, [([], []), ([], []), ([1], [1]), ([2], [2]), ([], []), ([4], [4]), ([5], [5]), ([6], [6]), ([7], [7]), ([], []), ([], []), ([10], [10]), ([11], [11]), ([12], [12]), ([13], [13]), ([14], [14]), ([9, 15], [9, 15]), ([8, 16], [8, 16]), ([3, 17, 16], [3, 17]), ([0, 0, 1, 2, 3, 4, 5, 6, 7, 8, 9, 10, 11, 12, 13, 14, 15, 16, 17, 18], [0]), ([19, 18, 18, 0, 1, 2, 3, 4, 5, 6, 7, 8, 9, 10, 11, 12, 13, 14, 15, 16, 17, 18], [18, 19])])
def spec_l3Bent.B6 : List Nat := [0, 0, 2, 6, 0, 16, 48, 112, 240, 0, 0, 1024, 3072, 7168, 15360, 31744, 65024, 131056, 262142, 524287, 1048575]
theorem spec_l3Bent.tab6 : rtab .any (opsOf Try.f81 6) = spec_l3Bent.T6 := by kernel_rfl
theorem spec_l3Bent.bits6 : waitsOk spec_l3Bent.T6.2 spec_l3Bent.B6 = true := by kernel_rfl
set_option maxHeartbeats 8000000 in
set_option maxRecDepth 100000 in
theorem spec_l3Bent.calls (k : Nat) (g : Nat) (s0_0 : List Int) (s0_1 : Int) (s0_2 : Int) (r1 : List (List Int)) (r2 : Int) (r3 : Int) (w0 w : World) (hI : IsS84 w0 w g s0_0 s0_1 s0_2) (hB : Below w0.heap.size w0 w) (h : spec_l3Bent.f k s0_0 s0_1 s0_2 = some (r1, r2, r3)) :
  Calls Try.prog 81 #[.pointer (some ⟨g, 0, none⟩)] w fun e w' => ∃ v0_ : Value, e = .returned (v0_) ∧ Kd.S (Kd.slice 3 (Kd.int .i64)) 27 w' w.heap.size (fun _ => True) v0_ r1 ∧ IsS84 w0 w' g s0_0 r2 r3 ∧ Below w0.heap.size w0 w' ∧ KeepBut w w' g none := by
 have HI0 := Aside0.mk hI
 have HK := Aside0.mk (KeepBut.refl w g none)
 have HL := Aside0.mk hB.size
 clear hI
 have HW0 := Aside0.mk hB.size
 have HB := Aside0.mk hB
 clear hB
 have H := h
 clear h
 unfold spec_l3Bent.f at H
 replace H := Option.bind_eq_some_iff.mp H
 obtain ⟨⟨t546, t549, t550⟩, A20, H⟩ := H
 dsimp only at H
 have A2 := Aside0.mk A20
 clear A20
 replace H := Option.bind_eq_some_iff.mp H
 obtain ⟨⟨t551, t552, t553⟩, A30, H⟩ := H
 dsimp only at H
 have A3 := Aside0.mk A30
 clear A30
 by_cases c4 : t551 = 0
 ·
  rw [if_pos c4] at H
  have c4b0 : (t551 == 0) = true := beq_iff_eq.mpr c4
  have c4b1 : (t551 != 0) = false := bne_eq_false_iff_eq.mpr c4
  clear c4
  obtain ⟨y554, hy554⟩ : ∃ y_ : List Int, y_ = (([] : List Int)) := ⟨_, rfl⟩
  replace H : (if t546.length < 5864062014805 then (some ((t546 ++ [y554]), t552, t553)) else (none)) = some (r1, r2, r3) := zy hy554 H
  have Ny554 := Aside0.mk hy554
  clear hy554
  by_cases c5 : t546.length < 5864062014805
  ·
   rw [if_pos c5] at H
   have LMc5 := Aside0.mk c5
   clear c5
   obtain ⟨y557, hy557⟩ : ∃ y_ : List (List Int), y_ = (t546 ++ [y554]) := ⟨_, rfl⟩
   replace H : (some (y557, t552, t553)) = some (r1, r2, r3) := zy hy557 H
   have Ny557 := Aside0.mk hy557
   clear hy557
   simp only [Option.some.injEq, Prod.mk.injEq] at H
   obtain ⟨rfl, rfl, rfl⟩ := H
   go_enter Try.func81, Try.ntmps81
   go_wp2_with (first | ((with_reducible refine zg 84 rfl ?_); refine zl (some 5) Try.func84 #[.pointer (some ⟨g, 0, none⟩)] ?_; (with_reducible refine (spec_l3Draw.calls k g s0_0 s0_1 s0_2 t546 t549 t550 w0 _ ?side1 ?side2 A2.out).mono ?_); (case side1 => repeat (first | (with_reducible first | exact HI0.out | apply IsS84.alloc | apply IsS84.drewN | apply IsS84.drew | apply IsS84.set_1 | apply IsS84.set_2) | exact HI0.out)); (case side2 => repeat (first | (with_reducible first | exact HB.out | apply below_alloc | apply pw_below_drewN | apply below_drew1 | refine below_set ?_ (IsS84.ge HI0.out)) | exact HB.out)); rintro e w6 ⟨v547, rfl, ho0, hi, hb, hk⟩; refine ⟨_, rfl, ?_⟩; have HO548 := Aside0.mk (Kd.S_lower ho0 (keep_size (w := w) (g := g) (row := none) z1)); replace HK := Aside0.mk (KeepBut.trans z1 hk (.inl rfl)); replace HB := Aside0.mk (hb); replace HI0 := Aside0.mk (hi)) | ((with_reducible refine zg 93 rfl ?_); refine zl (some 7) Try.func93 #[.pointer (some ⟨g, 0, none⟩), .int .i64 20] ?_; (with_reducible refine (spec_l1Below.calls g s0_0 t549 t550 20 t551 t552 t553 w0 _ ?side1 ?side2 A3.out).mono ?_); (case side1 => repeat (first | (with_reducible first | exact HI0.out | apply IsS84.alloc | apply IsS84.drewN | apply IsS84.drew | apply IsS84.set_1 | apply IsS84.set_2) | exact HI0.out)); (case side2 => repeat (first | (with_reducible first | exact HB.out | apply below_alloc | apply pw_below_drewN | apply below_drew1 | refine below_set ?_ (IsS84.ge HI0.out)) | exact HB.out)); rintro e w7 ⟨rfl, hi, hb, hk⟩; refine ⟨_, rfl, ?_⟩; replace HO548 := Aside0.mk (Kd.S_mono (Kd.S_keep (IsS84.apartS (show IsS84 w0 _ g s0_0 t549 t550 from z2) (zs HO548.out) (by decide)) hk (fun _ h => h.2)) (fun _ h => h.1)); replace HK := Aside0.mk (KeepBut.trans z1 hk (.inl rfl)); replace HB := Aside0.mk (hb); replace HI0 := Aside0.mk (hi)) | ((with_reducible refine gate_dst (N := 11) rfl ?_); refine Kd.R_lit (Kd.int .i64) _ 3 ?hg (N := 11) ?hd (xs := ([] : List Int)) (inner := []) (ok := fun _ => True) (okp := fun _ => True) ?hr ?hp (fun _ hk => hk) trivial (Below.refl _ _) (Nat.le_refl _) (by simp) ?_; (case hd => rfl); (case hg => rfl); (case hr => first | (go_simp; done) | (go_simp; rfl)); (case hp => exact (Reps.none _ _)); intro v555 w8 ho9 hb hg_ hnew_; clear hg_ hnew_; (first | rw [← Ny554.out] at ho9 | (simp only [Int.reduceToNat] at ho9; rw [← Ny554.out] at ho9)); replace HO548 := Aside0.mk (Kd.S_elder' (zs HO548.out) (Kd.R_base ho9) hb); have HO556 := Aside0.mk (Kd.R_lower ho9 (keep_size (w := w) (g := g) (row := none) z1)); replace HK := Aside0.mk (KeepBut.trans z1 (KeepBut.of_below hb g none) (.inl rfl)); replace HB := Aside0.mk (below_step z4 hb); replace HI0 := Aside0.mk (IsS84.below z2 hb); clear hb ho9; obtain ⟨Ao11, co11, eo11⟩ := Kd.R_slice HO556.out; subst eo11) | ((with_reducible refine gate_builtin (b := .append) (xs := #[.tmp 10, .tmp 12]) rfl ?_); at_builtin; refine Kd.S_append (Kd.slice 3 (Kd.int .i64)) w.heap.size rfl (.tmp 10) (.tmp 12) 22 27 (.slice none 0 0) 24 rfl Try.underlying22 info27 rfl (by decide) (by omega) v547 t546 y554 [.slice Ao11 y554.length co11] (fun _ => True) (fun k_ => some k_ = (.slice Ao11 y554.length co11 : Value).ownBlock) rfl rfl ?aP (fun k_ hk_ => ((Kd.R_mono (ok' := fun k_ => ((fun _ => True)) k_ ∧ some k_ ≠ (v547 : Value).ownBlock) (Kd.R_apart' (HO556.out) (Kd.S_typed HO548.out) (by decide)) (fun k_ hk => ⟨trivial, hk.2⟩))).1 k_ hk_.symm) ?aF ?aO (Below.refl _ _) ?aS ?aL ?_; (case aP => exact Kd.M_row (Kd.R_mono (Kd.R_tight rfl (Kd.R_mono (ok' := fun k_ => ((fun _ => True)) k_ ∧ some k_ ≠ (v547 : Value).ownBlock) (Kd.R_apart' (HO556.out) (Kd.S_typed HO548.out) (by decide)) (fun k_ hk => ⟨trivial, hk.2⟩))) (fun _ h_ => h_))); (case aF => exact (fun _ _ => trivial)); (case aO => exact (by (with_reducible repeat (first | apply Kd.S_alloc | apply Kd.S_drewN | apply Kd.S_drew)); exact Kd.S_mono HO548.out (fun k_ hk => ⟨trivial, fun e_ => hk.2 e_⟩))); (case aS => exact (keep_size (w := w) (g := g) (row := none) z1)); (case aL => have := LMc5.out; omega); intro v558 w10 ho hb hg hat; rw [← Ny557.out] at ho; have n0_ := Aside0.mk (IsS84.grown z2 hg (IsS84.own_neS HI0.out HO548.out (by decide))); have n1_ := Aside0.mk (below_weaken z4 HL.out hb); have n2_ := Aside0.mk (KeepBut.trans z1 (KeepBut.of_grown hg g) (Kd.S_base2 HO548.out)); have n3_ := Aside0.mk (ho); clear HI0; clear HB; clear HK; clear HO548; clear HO556; have HI0 := n0_; have HB := n1_; have HK := n2_; have HO559 := n3_; clear n0_ n1_ n2_ n3_; clear ho hb hg hat))
   go_ret
   exact ⟨_, ze, zs HO559.out, z2, z4, z1⟩
  ·
   rw [if_neg c5] at H
   exact absurd H (by simp)
 ·
  rw [if_neg c4] at H
  have c4b0 : (t551 == 0) = false := beq_eq_false_iff_ne.mpr c4
  have c4b1 : (t551 != 0) = true := bne_iff_ne.mpr c4
  by_cases c12 : t551 = 1
  ·
   rw [if_pos c12] at H
   have c12b0 : (t551 == 1) = true := beq_iff_eq.mpr c12
   have c12b1 : (t551 != 1) = false := bne_eq_false_iff_eq.mpr c12
   clear c12
   by_cases c13 : 0 < (t546.length : Int)
   ·
    rw [if_pos c13] at H
    have c13b0 : decide (0 < (t546.length : Int)) = true := decide_eq_true c13
    have c13b1 : decide (0 < t546.length) = true := decide_eq_true (by omega)
    clear c13
    by_cases c14 : 0 < ((rd_L1 t546 0).length : Int)
    ·
     rw [if_pos c14] at H
     have c14b0 : decide (0 < ((rd_L1 t546 0).length : Int)) = true := decide_eq_true c14
     have c14b1 : decide (0 < (rd_L1 t546 0).length) = true := decide_eq_true (by omega)
     clear c14
     obtain ⟨y565, hy565⟩ : ∃ y_ : List Int, y_ = (([rd (rd_L1 t546 0) 0, 8, 9] : List Int)) := ⟨_, rfl⟩
     replace H : ((spec_l1PickInt.f s0_0 t552 t553 y565).bind fun bt568 => ((some (([rd (rd_L1 t546 0) 0, bt568.1] : List Int) : List Int)).bind fun y571 => (if (rd_L1 t546 0).length + y571.length < 17592186044416 then (some ((t546.set (0 : Int).toNat ((rd_L1 t546 0) ++ y571)), bt568.2.1, bt568.2.2)) else (none)))) = some (r1, r2, r3) := zy hy565 H
     have Ny565 := Aside0.mk hy565
     clear hy565
     replace H := Option.bind_eq_some_iff.mp H
     obtain ⟨⟨t568, t569, t570⟩, A150, H⟩ := H
     dsimp only at H
     have A15 := Aside0.mk A150
     clear A150
     obtain ⟨y571, hy571⟩ : ∃ y_ : List Int, y_ = (([rd (rd_L1 t546 0) 0, t568] : List Int)) := ⟨_, rfl⟩
     replace H : (if (rd_L1 t546 0).length + y571.length < 17592186044416 then (some ((t546.set (0 : Int).toNat ((rd_L1 t546 0) ++ y571)), t569, t570)) else (none)) = some (r1, r2, r3) := zy hy571 H
     have Ny571 := Aside0.mk hy571
     clear hy571
     by_cases c16 : (rd_L1 t546 0).length + y571.length < 17592186044416
     ·
      rw [if_pos c16] at H
      have LMc16 := Aside0.mk c16
      clear c16
      obtain ⟨y574, hy574⟩ : ∃ y_ : List Int, y_ = ((rd_L1 t546 0) ++ y571) := ⟨_, rfl⟩
      replace H : (some ((t546.set (0 : Int).toNat y574), t569, t570)) = some (r1, r2, r3) := zy hy574 H
      have Ny574 := Aside0.mk hy574
      clear hy574
      obtain ⟨y577, hy577⟩ : ∃ y_ : List (List Int), y_ = (t546.set (0 : Int).toNat y574) := ⟨_, rfl⟩
      replace H : (some (y577, t569, t570)) = some (r1, r2, r3) := zy hy577 H
      have Ny577 := Aside0.mk hy577
      clear hy577
      simp only [Option.some.injEq, Prod.mk.injEq] at H
      obtain ⟨rfl, rfl, rfl⟩ := H
      go_enter Try.func81, Try.ntmps81
      try go_wp2_with (first | ((with_reducible refine zg 84 rfl ?_); refine zl (some 5) Try.func84 #[.pointer (some ⟨g, 0, none⟩)] ?_; (with_reducible refine (spec_l3Draw.calls k g s0_0 s0_1 s0_2 t546 t549 t550 w0 _ ?side1 ?side2 A2.out).mono ?_); (case side1 => repeat (first | (with_reducible first | exact HI0.out | apply IsS84.alloc | apply IsS84.drewN | apply IsS84.drew | apply IsS84.set_1 | apply IsS84.set_2) | exact HI0.out)); (case side2 => repeat (first | (with_reducible first | exact HB.out | apply below_alloc | apply pw_below_drewN | apply below_drew1 | refine below_set ?_ (IsS84.ge HI0.out)) | exact HB.out)); rintro e w18 ⟨v547, rfl, ho0, hi, hb, hk⟩; refine ⟨_, rfl, ?_⟩; have HO548 := Aside0.mk (Kd.S_lower ho0 (keep_size (w := w) (g := g) (row := none) z1)); replace HK := Aside0.mk (KeepBut.trans z1 hk (.inl rfl)); replace HB := Aside0.mk (hb); replace HI0 := Aside0.mk (hi)) | ((with_reducible refine zg 93 rfl ?_); refine zl (some 7) Try.func93 #[.pointer (some ⟨g, 0, none⟩), .int .i64 20] ?_; (with_reducible refine (spec_l1Below.calls g s0_0 t549 t550 20 t551 t552 t553 w0 _ ?side1 ?side2 A3.out).mono ?_); (case side1 => repeat (first | (with_reducible first | exact HI0.out | apply IsS84.alloc | apply IsS84.drewN | apply IsS84.drew | apply IsS84.set_1 | apply IsS84.set_2) | exact HI0.out)); (case side2 => repeat (first | (with_reducible first | exact HB.out | apply below_alloc | apply pw_below_drewN | apply below_drew1 | refine below_set ?_ (IsS84.ge HI0.out)) | exact HB.out)); rintro e w19 ⟨rfl, hi, hb, hk⟩; refine ⟨_, rfl, ?_⟩; replace HO548 := Aside0.mk (Kd.S_mono (Kd.S_keep (IsS84.apartS (show IsS84 w0 _ g s0_0 t549 t550 from z2) (zs HO548.out) (by decide)) hk (fun _ h => h.2)) (fun _ h => h.1)); replace HK := Aside0.mk (KeepBut.trans z1 hk (.inl rfl)); replace HB := Aside0.mk (hb); replace HI0 := Aside0.mk (hi)))
      have n0_ := Aside0.mk (Kd.S_drew HO548.out)
      have n1_ := Aside0.mk (IsS84.drew HI0.out)
      have n2_ := Aside0.mk (keep_drew HK.out)
      have n3_ := Aside0.mk (below_drew1 HB.out)
      clear HO548
      clear HI0
      clear HK
      clear HB
      have HO548 := n0_
      have HI0 := n1_
      have HK := n2_
      have HB := n3_
      clear n0_ n1_ n2_ n3_
      obtain ⟨Ao21, co21, eo21⟩ := Kd.S_slice HO548.out
      (first | subst eo21 | (injection eo21 with f1_ f2_ f3_; have f4_ := f1_.symm; have f5_ := f3_.symm; clear f1_ f2_ f3_; subst f4_; subst f5_))
      have p560 : 0 ≤ (0 : Int) := (by omega)
      have q560 : 0 < (t546.length : Int) := za
      obtain ⟨ad560, A560_0, c560_0, e560, hx560_0, hl560_0, hi560_0⟩ := at_L1 (Kd.S_reads' HO548.out).2.2 0 p560 q560
      cases e560
      obtain ⟨ce560, hce560, hMe560, hcc560⟩ := Kd.S_get HO548.out [] 0 p560 (by first | exact q560 | exact za | (have e_ := (Kd.S_reads' HO548.out).1; omega))
      obtain ⟨ve560_0, rfl, ge560_0⟩ := hMe560
      have hv560_0 := hcc560 0 _ rfl
      rw [Nat.add_zero, show ((Kd.slice 3 (Kd.int .i64))).sz = 1 from rfl, Nat.mul_one] at hv560_0
      replace hv560_0 := Option.some.inj (hv560_0.symm.trans hx560_0)
      rw [hv560_0] at ge560_0
      have HL560_0 := Aside0.mk (show Kd.R (Kd.int .i64) 3 _ _ _ _ (rd_L1 t546 0) from ge560_0)
      clear hv560_0 ge560_0
      have HX560_0 := Aside0.mk hx560_0
      clear hcc560 hce560
      have qi560 : (0 < t546.length) = True := eq_true (by omega)
      (try rw [show ((0 : Int)).toNat = 0 from rfl] at hx560_0)
      (try rw [Addr.add_zero'] at hx560_0)
      have HR560_0 := Aside0.mk hi560_0
      have HC560_0 := Aside0.mk hl560_0
      clear hi560_0 hl560_0
      replace p560 := eq_true p560
      replace q560 := eq_true q560
      have p561 : 0 ≤ (0 : Int) := (by omega)
      have q561 : 0 < (t546.length : Int) := za
      obtain ⟨ad561, A561_0, c561_0, e561, hx561_0, hl561_0, hi561_0⟩ := at_L1 (Kd.S_reads' HO548.out).2.2 0 p561 q561
      obtain rfl : ad560 = ad561 := (by injection e561)
      obtain ⟨ce561, hce561, hMe561, hcc561⟩ := Kd.S_get HO548.out [] 0 p561 (by first | exact q561 | exact za | (have e_ := (Kd.S_reads' HO548.out).1; omega))
      obtain ⟨ve561_0, rfl, ge561_0⟩ := hMe561
      have hv561_0 := hcc561 0 _ rfl
      rw [Nat.add_zero, show ((Kd.slice 3 (Kd.int .i64))).sz = 1 from rfl, Nat.mul_one] at hv561_0
      replace hv561_0 := Option.some.inj (hv561_0.symm.trans hx561_0)
      rw [hv561_0] at ge561_0
      have HL561_0 := Aside0.mk (show Kd.R (Kd.int .i64) 3 _ _ _ _ (rd_L1 t546 0) from ge561_0)
      clear hv561_0 ge561_0
      have HX561_0 := Aside0.mk hx561_0
      clear hcc561 hce561
      have qi561 : (0 < t546.length) = True := eq_true (by omega)
      (try rw [show ((0 : Int)).toNat = 0 from rfl] at hx561_0)
      (try rw [Addr.add_zero'] at hx561_0)
      have HR561_0 := Aside0.mk hi561_0
      have HC561_0 := Aside0.mk hl561_0
      clear hi561_0 hl561_0
      replace p561 := eq_true p561
      replace q561 := eq_true q561
      have ea_ := Option.some.inj (hx560_0.symm.trans hx561_0)
      injection ea_ with ea_ en_ ec_
      subst ea_
      subst ec_
      clear en_
      have p562 : 0 ≤ (0 : Int) := (by omega)
      have q562 : 0 < ((rd_L1 t546 0).length : Int) := za
      obtain ⟨ad562, e562, hx562_0⟩ := Kd.at_int (by repeat (first | (with_reducible exact HR561_0.out) | (with_reducible refine Kd.C_alloc ?_ _) | (with_reducible refine Kd.C_drewN ?_ _) | (with_reducible refine Kd.C_drew ?_) | exact HR561_0.out)) 0 p562 q562
      cases e562
      have qi562 : (0 < (rd_L1 t546 0).length) = True := eq_true (by omega)
      (try rw [show ((0 : Int)).toNat = 0 from rfl] at hx562_0)
      (try rw [Addr.add_zero'] at hx562_0)
      replace p562 := eq_true p562
      replace q562 := eq_true q562
      have p563 : 0 ≤ (0 : Int) := (by omega)
      have q563 : 0 < (t546.length : Int) := za
      obtain ⟨ad563, A563_0, c563_0, e563, hx563_0, hl563_0, hi563_0⟩ := at_L1 (Kd.S_reads' HO548.out).2.2 0 p563 q563
      obtain rfl : ad560 = ad563 := (by injection e563)
      obtain ⟨ce563, hce563, hMe563, hcc563⟩ := Kd.S_get HO548.out [] 0 p563 (by first | exact q563 | exact za | (have e_ := (Kd.S_reads' HO548.out).1; omega))
      obtain ⟨ve563_0, rfl, ge563_0⟩ := hMe563
      have hv563_0 := hcc563 0 _ rfl
      rw [Nat.add_zero, show ((Kd.slice 3 (Kd.int .i64))).sz = 1 from rfl, Nat.mul_one] at hv563_0
      replace hv563_0 := Option.some.inj (hv563_0.symm.trans hx563_0)
      rw [hv563_0] at ge563_0
      have HL563_0 := Aside0.mk (show Kd.R (Kd.int .i64) 3 _ _ _ _ (rd_L1 t546 0) from ge563_0)
      clear hv563_0 ge563_0
      have HX563_0 := Aside0.mk hx563_0
      clear hcc563 hce563
      have qi563 : (0 < t546.length) = True := eq_true (by omega)
      (try rw [show ((0 : Int)).toNat = 0 from rfl] at hx563_0)
      (try rw [Addr.add_zero'] at hx563_0)
      have HR563_0 := Aside0.mk hi563_0
      have HC563_0 := Aside0.mk hl563_0
      clear hi563_0 hl563_0
      replace p563 := eq_true p563
      replace q563 := eq_true q563
      have ea_ := Option.some.inj (hx560_0.symm.trans hx563_0)
      injection ea_ with ea_ en_ ec_
      subst ea_
      subst ec_
      clear en_
      have p564 : 0 ≤ (0 : Int) := (by omega)
      have q564 : 0 < ((rd_L1 t546 0).length : Int) := za
      obtain ⟨ad564, e564, hx564_0⟩ := Kd.at_int (by repeat (first | (with_reducible exact HR563_0.out) | (with_reducible refine Kd.C_alloc ?_ _) | (with_reducible refine Kd.C_drewN ?_ _) | (with_reducible refine Kd.C_drew ?_) | exact HR563_0.out)) 0 p564 q564
      obtain rfl : ad562 = ad564 := (by injection e564)
      have qi564 : (0 < (rd_L1 t546 0).length) = True := eq_true (by omega)
      (try rw [show ((0 : Int)).toNat = 0 from rfl] at hx564_0)
      (try rw [Addr.add_zero'] at hx564_0)
      replace p564 := eq_true p564
      replace q564 := eq_true q564
      refine start_ (n := 21) (S := fun w' => w'.cell? ad560 = some (.slice (some ad562) (rd_L1 t546 0).length c560_0) ∧ w'.cell? ad560 = some (.slice (some ad562) (rd_L1 t546 0).length c560_0) ∧ w'.cell? ad562 = some (.int .i64 (rd (rd_L1 t546 0) 0)) ∧ w'.cell? ad560 = some (.slice (some ad562) (rd_L1 t546 0).length c560_0) ∧ w'.cell? ad562 = some (.int .i64 (rd (rd_L1 t546 0) 0))) (ds := [18, 20]) #[false, false, false, false, false, false, false, false, false, false, false, false, false, false, false, false, false, false, false, false, false] (by kernel_rfl) rfl rfl ⟨hx560_0, hx561_0, hx562_0, hx563_0, hx564_0⟩ (fun hHeld => ?_); refine with_tabW spec_l3Bent.tab6 spec_l3Bent.bits6 (fun HT_ HW_ => ?_)
      generalize w19.drew = w20 at HO548 HI0 HK HB HL560_0 HL561_0 HL563_0 HR560_0 HR561_0 HR563_0 HX560_0 HX561_0 HX563_0 hx560_0 hx561_0 hx562_0 hx563_0 hx564_0 hHeld ⊢
      refine pure_ (i := 0) (N := some 16) (v := ?_) (a' := ?_) #[true, false, false, false, false, false, false, false, false, false, false, false, false, false, false, false, false, false, false, false, false] rfl rfl (any_of HT_.out (by kernel_rfl)) (fun _ _ _ h => h) (Or.inl ⟨by rfl, ?_⟩) ?_ ?_
      rotate_left
      ·
       intro w'
       go_simp
       with_reducible rfl
      rotate_left
      ·
       simp only [Act.put, List.setIfInBounds_toArray, List.set_cons_zero, List.set_cons_succ, i64_w, i32_w]
       rfl
      refine pure_ (i := 1) (N := some 17) (v := ?_) (a' := ?_) #[true, true, false, false, false, false, false, false, false, false, false, false, false, false, false, false, false, false, false, false, false] rfl rfl (any_of HT_.out (by kernel_rfl)) (fun _ _ _ h => h) (Or.inl ⟨by rfl, ?_⟩) ?_ ?_
      rotate_left
      ·
       intro w'
       go_simp
       with_reducible rfl
      rotate_left
      ·
       simp only [Act.put, List.setIfInBounds_toArray, List.set_cons_zero, List.set_cons_succ, i64_w, i32_w]
       rfl
      refine pure_ (i := 2) (N := some 18) (v := ?_) (a' := ?_) #[true, true, true, false, false, false, false, false, false, false, false, false, false, false, false, false, false, false, false, false, false] rfl rfl (any_of HT_.out (by kernel_rfl)) (fun _ _ _ h => h) (Or.inl ⟨by rfl, ?_⟩) ?_ ?_
      rotate_left
      ·
       intro w'
       go_simp
       with_reducible rfl
      rotate_left
      ·
       simp only [Act.put, List.setIfInBounds_toArray, List.set_cons_zero, List.set_cons_succ, i64_w, i32_w]
       rfl
      refine pure_ (i := 4) (N := some 20) (v := ?_) (a' := ?_) #[true, true, true, false, true, false, false, false, false, false, false, false, false, false, false, false, false, false, false, false, false] rfl rfl (any_of HT_.out (by kernel_rfl)) (fun _ _ _ h => h) (Or.inl ⟨by rfl, ?_⟩) ?_ ?_
      rotate_left
      ·
       intro w'
       go_simp
       with_reducible rfl
      rotate_left
      ·
       simp only [Act.put, List.setIfInBounds_toArray, List.set_cons_zero, List.set_cons_succ, i64_w, i32_w]
       rfl
      refine pure_ (i := 5) (N := some 21) (v := ?_) (a' := ?_) #[true, true, true, false, true, true, false, false, false, false, false, false, false, false, false, false, false, false, false, false, false] rfl rfl (any_of HT_.out (by kernel_rfl)) (fun _ _ _ h => h) (Or.inl ⟨by rfl, ?_⟩) ?_ ?_
      rotate_left
      ·
       intro w'
       go_simp
       with_reducible rfl
      rotate_left
      ·
       simp only [Act.put, List.setIfInBounds_toArray, List.set_cons_zero, List.set_cons_succ, i64_w, i32_w]
       rfl
      refine pure_ (i := 9) (N := some 25) (v := ?_) (a' := ?_) #[true, true, true, false, true, true, false, false, false, true, false, false, false, false, false, false, false, false, false, false, false] rfl rfl (any_of HT_.out (by kernel_rfl)) (fun _ _ _ h => h) (Or.inl ⟨by rfl, ?_⟩) ?_ ?_
      rotate_left
      ·
       intro w'
       go_simp
       with_reducible rfl
      rotate_left
      ·
       simp only [Act.put, List.setIfInBounds_toArray, List.set_cons_zero, List.set_cons_succ, i64_w, i32_w]
       rfl
      refine pure_ (i := 10) (N := some 26) (v := ?_) (a' := ?_) #[true, true, true, false, true, true, false, false, false, true, true, false, false, false, false, false, false, false, false, false, false] rfl rfl (any_of HT_.out (by kernel_rfl)) (fun _ _ _ h => h) (Or.inl ⟨by rfl, ?_⟩) ?_ ?_
      rotate_left
      ·
       intro w'
       go_simp
       with_reducible rfl
      rotate_left
      ·
       simp only [Act.put, List.setIfInBounds_toArray, List.set_cons_zero, List.set_cons_succ, i64_w, i32_w]
       rfl
      refine pure_ (i := 11) (N := some 27) (v := ?_) (a' := ?_) #[true, true, true, false, true, true, false, false, false, true, true, true, false, false, false, false, false, false, false, false, false] rfl rfl (any_of HT_.out (by kernel_rfl)) (fun _ _ _ h => h) (Or.inl ⟨by rfl, ?_⟩) ?_ ?_
      rotate_left
      ·
       intro w'
       go_simp
       with_reducible rfl
      rotate_left
      ·
       simp only [Act.put, List.setIfInBounds_toArray, List.set_cons_zero, List.set_cons_succ, i64_w, i32_w]
       rfl
      refine take_ (i := 3) (N := some 19) (v := ?_) (a' := ?_) #[true, true, true, true, true, true, false, false, false, true, true, true, false, false, false, false, false, false, false, false, false] rfl rfl (take_ofW HT_.out HW_.out (by kernel_rfl)) (fun _ _ _ h => h) (Or.inl ⟨by rfl, ?_⟩) hHeld ?_ ?_
      rotate_left
      ·
       rintro w' ⟨s0, s1, s2, s3, s4⟩
       go_simp
       with_reducible rfl
      rotate_left
      ·
       simp only [Act.put, List.setIfInBounds_toArray, List.set_cons_zero, List.set_cons_succ, i64_w, i32_w]
       rfl
      refine take_ (i := 6) (N := some 22) (v := ?_) (a' := ?_) #[true, true, true, true, true, true, true, false, false, true, true, true, false, false, false, false, false, false, false, false, false] rfl rfl (take_ofW HT_.out HW_.out (by kernel_rfl)) (fun _ _ _ h => h) (Or.inl ⟨by rfl, ?_⟩) hHeld ?_ ?_
      rotate_left
      ·
       rintro w' ⟨s0, s1, s2, s3, s4⟩
       go_simp
       with_reducible rfl
      rotate_left
      ·
       simp only [Act.put, List.setIfInBounds_toArray, List.set_cons_zero, List.set_cons_succ, i64_w, i32_w]
       rfl
      refine pure_ (i := 7) (N := some 23) (v := ?_) (a' := ?_) #[true, true, true, true, true, true, true, true, false, true, true, true, false, false, false, false, false, false, false, false, false] rfl rfl (any_of HT_.out (by kernel_rfl)) (fun _ _ _ h => h) (Or.inl ⟨by rfl, ?_⟩) ?_ ?_
      rotate_left
      ·
       intro w'
       go_simp
       with_reducible rfl
      rotate_left
      ·
       simp only [Act.put, List.setIfInBounds_toArray, List.set_cons_zero, List.set_cons_succ, i64_w, i32_w]
       rfl
      refine take_ (i := 8) (N := some 24) (v := ?_) (a' := ?_) #[true, true, true, true, true, true, true, true, true, true, true, true, false, false, false, false, false, false, false, false, false] rfl rfl (take_ofW HT_.out HW_.out (by kernel_rfl)) (fun _ _ _ h => h) (Or.inl ⟨by rfl, ?_⟩) hHeld ?_ ?_
      rotate_left
      ·
       rintro w' ⟨s0, s1, s2, s3, s4⟩
       go_simp
       with_reducible rfl
      rotate_left
      ·
       simp only [Act.put, List.setIfInBounds_toArray, List.set_cons_zero, List.set_cons_succ, i64_w, i32_w]
       rfl
      refine take_ (i := 12) (N := some 28) (v := ?_) (a' := ?_) #[true, true, true, true, true, true, true, true, true, true, true, true, true, false, false, false, false, false, false, false, false] rfl rfl (take_ofW HT_.out HW_.out (by kernel_rfl)) (fun _ _ _ h => h) (Or.inl ⟨by rfl, ?_⟩) hHeld ?_ ?_
      rotate_left
      ·
       rintro w' ⟨s0, s1, s2, s3, s4⟩
       go_simp
       with_reducible rfl
      rotate_left
      ·
       simp only [Act.put, List.setIfInBounds_toArray, List.set_cons_zero, List.set_cons_succ, i64_w, i32_w]
       rfl
      refine pure_ (i := 13) (N := some 29) (v := ?_) (a' := ?_) #[true, true, true, true, true, true, true, true, true, true, true, true, true, true, false, false, false, false, false, false, false] rfl rfl (any_of HT_.out (by kernel_rfl)) (fun _ _ _ h => h) (Or.inl ⟨by rfl, ?_⟩) ?_ ?_
      rotate_left
      ·
       intro w'
       go_simp
       with_reducible rfl
      rotate_left
      ·
       simp only [Act.put, List.setIfInBounds_toArray, List.set_cons_zero, List.set_cons_succ, i64_w, i32_w]
       rfl
      refine take_ (i := 14) (N := some 30) (v := ?_) (a' := ?_) #[true, true, true, true, true, true, true, true, true, true, true, true, true, true, true, false, false, false, false, false, false] rfl rfl (take_ofW HT_.out HW_.out (by kernel_rfl)) (fun _ _ _ h => h) (Or.inl ⟨by rfl, ?_⟩) hHeld ?_ ?_
      rotate_left
      ·
       rintro w' ⟨s0, s1, s2, s3, s4⟩
       go_simp
       with_reducible rfl
      rotate_left
      ·
       simp only [Act.put, List.setIfInBounds_toArray, List.set_cons_zero, List.set_cons_succ, i64_w, i32_w]
       rfl
      refine one_ (i := 15) (N := some 31) #[true, true, true, true, true, true, true, true, true, true, true, true, true, true, true, true, false, false, false, false, false] rfl rfl (one_of HT_.out (by kernel_rfl)) (by decide) (fun K hK => ?_)
      refine Kd.R_lit_step (Kd.int .i64) _ 3 ?hg (N := 31) ?hd (xs := ([rd (rd_L1 t546 0) 0, 8, 9] : List Int)) (inner := [.int .i64 (rd (rd_L1 t546 0) 0), .int .i64 8, .int .i64 9]) (ok := fun _ => True) (okp := fun _ => True) ?hr ?hp (fun _ hk => hk) trivial (Below.refl _ _) (Nat.le_refl _) (by simp) ?_; (case hd => rfl); (case hg => rfl); (case hr => first | (go_simp; done) | (go_simp; rfl)); (case hp => exact (Reps.one (show Kd.M (Kd.int .i64) _ _ _ (rd (rd_L1 t546 0) 0) [.int .i64 (rd (rd_L1 t546 0) 0)] from rfl) (Reps.one (show Kd.M (Kd.int .i64) _ _ _ 8 [.int .i64 8] from rfl) (Reps.one (show Kd.M (Kd.int .i64) _ _ _ 9 [.int .i64 9] from rfl) (Reps.none _ _)))))
      intro v566 w22 ho23 hb hg_ hnew_
      have HS0_ := (hb.cell (World.block_lt_of_cell? _ _ (hHeld.1))).trans (hHeld.1)
      have HS1_ := (hb.cell (World.block_lt_of_cell? _ _ (hHeld.2.1))).trans (hHeld.2.1)
      have HS2_ := (hb.cell (World.block_lt_of_cell? _ _ (hHeld.2.2.1))).trans (hHeld.2.2.1)
      have HS3_ := (hb.cell (World.block_lt_of_cell? _ _ (hHeld.2.2.2.1))).trans (hHeld.2.2.2.1)
      have HS4_ := (hb.cell (World.block_lt_of_cell? _ _ (hHeld.2.2.2.2))).trans (hHeld.2.2.2.2)
      clear hg_ hnew_
      (first | rw [← Ny565.out] at ho23 | (simp only [Int.reduceToNat] at ho23; rw [← Ny565.out] at ho23))
      have n0_ := Aside0.mk (Kd.S_elder' (zs HO548.out) (Kd.R_base ho23) hb)
      have n1_ := Aside0.mk (Kd.R_elder' (zr HL560_0.out) (Kd.R_base ho23) hb)
      have n2_ := Aside0.mk (Kd.R_elder' (zr HL561_0.out) (Kd.R_base ho23) hb)
      have n3_ := Aside0.mk (Kd.R_elder' (zr HL563_0.out) (Kd.R_base ho23) hb)
      have n4_ := Aside0.mk (Kd.R_lower (Kd.R_new' (Kd.R_new' (Kd.R_new' ho23 (Kd.R_lt (zr HL560_0.out))) (Kd.R_lt (zr HL561_0.out))) (Kd.R_lt (zr HL563_0.out))) (keep_size (w := w) (g := g) (row := none) z1))
      have n5_ := Aside0.mk (IsS84.below z2 hb)
      have n6_ := Aside0.mk (Kd.C_below (by repeat (first | (with_reducible exact HR560_0.out) | (with_reducible refine Kd.C_alloc ?_ _) | (with_reducible refine Kd.C_drewN ?_ _) | (with_reducible refine Kd.C_drew ?_) | exact HR560_0.out)) hb)
      have n7_ := Aside0.mk (pw_cell_below hb HX560_0.out)
      have n8_ := Aside0.mk (Kd.C_below (by repeat (first | (with_reducible exact HR561_0.out) | (with_reducible refine Kd.C_alloc ?_ _) | (with_reducible refine Kd.C_drewN ?_ _) | (with_reducible refine Kd.C_drew ?_) | exact HR561_0.out)) hb)
      have n9_ := Aside0.mk (pw_cell_below hb HX561_0.out)
      have n10_ := Aside0.mk (Kd.C_below (by repeat (first | (with_reducible exact HR563_0.out) | (with_reducible refine Kd.C_alloc ?_ _) | (with_reducible refine Kd.C_drewN ?_ _) | (with_reducible refine Kd.C_drew ?_) | exact HR563_0.out)) hb)
      have n11_ := Aside0.mk (pw_cell_below hb HX563_0.out)
      have n12_ := Aside0.mk (KeepBut.trans z1 (KeepBut.of_below hb g none) (.inl rfl))
      have n13_ := Aside0.mk (below_step z4 hb)
      clear HO548
      clear HL560_0
      clear HL561_0
      clear HL563_0
      clear HI0
      clear HR560_0
      clear HX560_0
      clear HR561_0
      clear HX561_0
      clear HR563_0
      clear HX563_0
      clear HK
      clear HB
      have HO548 := n0_
      have HL560_0 := n1_
      have HL561_0 := n2_
      have HL563_0 := n3_
      have HO567 := n4_
      have HI0 := n5_
      have HR560_0 := n6_
      have HX560_0 := n7_
      have HR561_0 := n8_
      have HX561_0 := n9_
      have HR563_0 := n10_
      have HX563_0 := n11_
      have HK := n12_
      have HB := n13_
      clear n0_ n1_ n2_ n3_ n4_ n5_ n6_ n7_ n8_ n9_ n10_ n11_ n12_ n13_
      clear hb ho23
      obtain ⟨Ao24, co24, eo24⟩ := Kd.R_slice HO567.out
      (first | subst eo24 | (injection eo24 with f1_ f2_ f3_; have f4_ := f1_.symm; have f5_ := f3_.symm; clear f1_ f2_ f3_; subst f4_; subst f5_))
      refine hK.out _ _ ⟨HS0_, HS1_, HS2_, HS3_, HS4_⟩ (fun hHeld => ?_)
      clear hK K
      refine norm_ (a' := ?_) ?_ ?_
      rotate_left
      ·
       show Act.put _ (some 31) _ = _
       simp only [Act.put, List.setIfInBounds_toArray, List.set_cons_zero, List.set_cons_succ, i64_w, i32_w]
       rfl
      refine one_ (i := 16) (N := some 32) #[true, true, true, true, true, true, true, true, true, true, true, true, true, true, true, true, true, false, false, false, false] rfl rfl (one_of HT_.out (by kernel_rfl)) (by decide) (fun K hK => ?_)
      refine goes_ Try.func94 (by kernel_rfl) rfl #[.pointer (some ⟨g, 0, none⟩), .slice Ao24 y565.length co24] (by rfl) rfl rfl (by (try simp only [List.map_toArray, List.map_cons, List.map_nil]); first | done | rfl | (simp only [List.length_drop, List.length_take]; rfl)) ?_
      with_reducible refine (spec_l1PickInt.calls g s0_0 t552 t553 _ _ y565 t568 t569 t570 w0 _ ?side1 ?side2 ?side3 ?side4 ?side5 A15.out).mono ?_
      (case side1 => repeat (first | (with_reducible first | exact HI0.out | apply IsS84.alloc | apply IsS84.drewN | apply IsS84.drew | apply IsS84.set_1 | apply IsS84.set_2) | exact HI0.out))
      (case side2 => repeat (first | (with_reducible first | exact HB.out | apply below_alloc | apply pw_below_drewN | apply below_drew1 | refine below_set ?_ (IsS84.ge HI0.out)) | exact HB.out))
      (case side3 => exact zc (Kd.R_reads' HO567.out).2.2)
      (case side4 => exact (Kd.R_reads' HO567.out).2.1)
      (case side5 => exact far_slice (IsS84.own_ne HI0.out HO567.out (by decide)))
      rintro e w25 ⟨rfl, hi, hb, hk⟩
      have HS0_ := keep_cell hk (hHeld.1) (by first | (rw [add_block]; exact Kd.own_blk (IsS84.own_neS HI0.out HO548.out (by decide))) | (show (Addr.add _ _).block ≠ _; rw [add_block]; exact Kd.own_blk (IsS84.own_neS HI0.out HO548.out (by decide))) | exact Kd.own_blk (IsS84.own_neS HI0.out HO548.out (by decide)))
      have HS1_ := keep_cell hk (hHeld.2.1) (by first | (rw [add_block]; exact Kd.own_blk (IsS84.own_neS HI0.out HO548.out (by decide))) | (show (Addr.add _ _).block ≠ _; rw [add_block]; exact Kd.own_blk (IsS84.own_neS HI0.out HO548.out (by decide))) | exact Kd.own_blk (IsS84.own_neS HI0.out HO548.out (by decide)))
      have HS2_ := keep_cell hk (hHeld.2.2.1) (by first | (rw [add_block]; exact Kd.own_blk (IsS84.own_ne HI0.out HL561_0.out (by decide))) | (show (Addr.add _ _).block ≠ _; rw [add_block]; exact Kd.own_blk (IsS84.own_ne HI0.out HL561_0.out (by decide))) | exact Kd.own_blk (IsS84.own_ne HI0.out HL561_0.out (by decide)))
      have HS3_ := keep_cell hk (hHeld.2.2.2.1) (by first | (rw [add_block]; exact Kd.own_blk (IsS84.own_neS HI0.out HO548.out (by decide))) | (show (Addr.add _ _).block ≠ _; rw [add_block]; exact Kd.own_blk (IsS84.own_neS HI0.out HO548.out (by decide))) | exact Kd.own_blk (IsS84.own_neS HI0.out HO548.out (by decide)))
      have HS4_ := keep_cell hk (hHeld.2.2.2.2) (by first | (rw [add_block]; exact Kd.own_blk (IsS84.own_ne HI0.out HL563_0.out (by decide))) | (show (Addr.add _ _).block ≠ _; rw [add_block]; exact Kd.own_blk (IsS84.own_ne HI0.out HL563_0.out (by decide))) | exact Kd.own_blk (IsS84.own_ne HI0.out HL563_0.out (by decide)))
      refine ⟨_, rfl, ?_⟩
      have n0_ := Aside0.mk (Kd.S_mono (Kd.S_keep (IsS84.apartS (show IsS84 w0 _ g s0_0 t552 t553 from z2) (zs HO548.out) (by decide)) hk (fun _ h => h.2)) (fun _ h => h.1))
      have n1_ := Aside0.mk (Kd.R_mono (Kd.R_keep (IsS84.apart (show IsS84 w0 _ g s0_0 t552 t553 from z2) (zr HL560_0.out) (by decide)) hk (fun _ h => h.2)) (fun _ h => h.1))
      have n2_ := Aside0.mk (keep_cell hk HX560_0.out (by first | (rw [add_block]; exact Kd.own_blk (IsS84.own_neS HI0.out HO548.out (by decide))) | (show (Addr.add _ _).block ≠ _; rw [add_block]; exact Kd.own_blk (IsS84.own_neS HI0.out HO548.out (by decide))) | exact Kd.own_blk (IsS84.own_neS HI0.out HO548.out (by decide)) | (dsimp only; exact Kd.own_blk (IsS84.own_neS HI0.out HO548.out (by decide)))))
      have n3_ := Aside0.mk (Kd.R_mono (Kd.R_keep (IsS84.apart (show IsS84 w0 _ g s0_0 t552 t553 from z2) (zr HL561_0.out) (by decide)) hk (fun _ h => h.2)) (fun _ h => h.1))
      have n4_ := Aside0.mk (keep_cell hk HX561_0.out (by first | (rw [add_block]; exact Kd.own_blk (IsS84.own_neS HI0.out HO548.out (by decide))) | (show (Addr.add _ _).block ≠ _; rw [add_block]; exact Kd.own_blk (IsS84.own_neS HI0.out HO548.out (by decide))) | exact Kd.own_blk (IsS84.own_neS HI0.out HO548.out (by decide)) | (dsimp only; exact Kd.own_blk (IsS84.own_neS HI0.out HO548.out (by decide)))))
      have n5_ := Aside0.mk (Kd.R_mono (Kd.R_keep (IsS84.apart (show IsS84 w0 _ g s0_0 t552 t553 from z2) (zr HL563_0.out) (by decide)) hk (fun _ h => h.2)) (fun _ h => h.1))
      have n6_ := Aside0.mk (keep_cell hk HX563_0.out (by first | (rw [add_block]; exact Kd.own_blk (IsS84.own_neS HI0.out HO548.out (by decide))) | (show (Addr.add _ _).block ≠ _; rw [add_block]; exact Kd.own_blk (IsS84.own_neS HI0.out HO548.out (by decide))) | exact Kd.own_blk (IsS84.own_neS HI0.out HO548.out (by decide)) | (dsimp only; exact Kd.own_blk (IsS84.own_neS HI0.out HO548.out (by decide)))))
      have n7_ := Aside0.mk (Kd.R_mono (Kd.R_keep (IsS84.apart (show IsS84 w0 _ g s0_0 t552 t553 from z2) (zr HO567.out) (by decide)) hk (fun _ h => h.2)) (fun _ h => h.1))
      have n8_ := Aside0.mk (KeepBut.trans z1 hk (.inl rfl))
      have n9_ := Aside0.mk (hb)
      have n10_ := Aside0.mk (hi)
      clear HO548
      clear HL560_0
      clear HX560_0
      clear HL561_0
      clear HX561_0
      clear HL563_0
      clear HX563_0
      clear HO567
      clear HK
      clear HB
      clear HI0
      have HO548 := n0_
      have HL560_0 := n1_
      have HX560_0 := n2_
      have HL561_0 := n3_
      have HX561_0 := n4_
      have HL563_0 := n5_
      have HX563_0 := n6_
      have HO567 := n7_
      have HK := n8_
      have HB := n9_
      have HI0 := n10_
      clear n0_ n1_ n2_ n3_ n4_ n5_ n6_ n7_ n8_ n9_ n10_
      (try clear hb)
      (try clear hb2)
      (try clear hk)
      (try clear hi)
      refine hK.out _ _ ⟨HS0_, HS1_, HS2_, HS3_, HS4_⟩ (fun hHeld => ?_)
      clear hK K
      refine norm_ (a' := ?_) ?_ ?_
      rotate_left
      ·
       show Act.put _ (some 32) _ = _
       simp only [Act.put, List.setIfInBounds_toArray, List.set_cons_zero, List.set_cons_succ, i64_w, i32_w]
       rfl
      refine one_ (i := 17) (N := some 33) #[true, true, true, true, true, true, true, true, true, true, true, true, true, true, true, true, true, true, false, false, false] rfl rfl (one_of HT_.out (by kernel_rfl)) (by decide) (fun K hK => ?_)
      refine Kd.R_lit_step (Kd.int .i64) _ 3 ?hg (N := 33) ?hd (xs := ([rd (rd_L1 t546 0) 0, t568] : List Int)) (inner := [.int .i64 (rd (rd_L1 t546 0) 0), .int .i64 t568]) (ok := fun _ => True) (okp := fun _ => True) ?hr ?hp (fun _ hk => hk) trivial (Below.refl _ _) (Nat.le_refl _) (by simp) ?_; (case hd => rfl); (case hg => rfl); (case hr => first | (go_simp; done) | (go_simp; rfl)); (case hp => exact (Reps.one (show Kd.M (Kd.int .i64) _ _ _ (rd (rd_L1 t546 0) 0) [.int .i64 (rd (rd_L1 t546 0) 0)] from rfl) (Reps.one (show Kd.M (Kd.int .i64) _ _ _ t568 [.int .i64 t568] from rfl) (Reps.none _ _))))
      intro v572 w26 ho27 hb hg_ hnew_
      have HS0_ := (hb.cell (World.block_lt_of_cell? _ _ (hHeld.1))).trans (hHeld.1)
      have HS1_ := (hb.cell (World.block_lt_of_cell? _ _ (hHeld.2.1))).trans (hHeld.2.1)
      have HS2_ := (hb.cell (World.block_lt_of_cell? _ _ (hHeld.2.2.1))).trans (hHeld.2.2.1)
      have HS3_ := (hb.cell (World.block_lt_of_cell? _ _ (hHeld.2.2.2.1))).trans (hHeld.2.2.2.1)
      have HS4_ := (hb.cell (World.block_lt_of_cell? _ _ (hHeld.2.2.2.2))).trans (hHeld.2.2.2.2)
      clear hg_ hnew_
      (first | rw [← Ny571.out] at ho27 | (simp only [Int.reduceToNat] at ho27; rw [← Ny571.out] at ho27))
      have n0_ := Aside0.mk (Kd.S_elder' (zs HO548.out) (Kd.R_base ho27) hb)
      have n1_ := Aside0.mk (Kd.R_elder' (zr HL560_0.out) (Kd.R_base ho27) hb)
      have n2_ := Aside0.mk (Kd.R_elder' (zr HL561_0.out) (Kd.R_base ho27) hb)
      have n3_ := Aside0.mk (Kd.R_elder' (zr HL563_0.out) (Kd.R_base ho27) hb)
      have n4_ := Aside0.mk (Kd.R_elder' (zr HO567.out) (Kd.R_base ho27) hb)
      have n5_ := Aside0.mk (Kd.R_lower (Kd.R_new' (Kd.R_new' (Kd.R_new' (Kd.R_new' ho27 (Kd.R_lt (zr HL560_0.out))) (Kd.R_lt (zr HL561_0.out))) (Kd.R_lt (zr HL563_0.out))) (Kd.R_lt (zr HO567.out))) (keep_size (w := w) (g := g) (row := none) z1))
      have n6_ := Aside0.mk (IsS84.below z2 hb)
      have n7_ := Aside0.mk (pw_cell_below hb HX560_0.out)
      have n8_ := Aside0.mk (pw_cell_below hb HX561_0.out)
      have n9_ := Aside0.mk (pw_cell_below hb HX563_0.out)
      have n10_ := Aside0.mk (KeepBut.trans z1 (KeepBut.of_below hb g none) (.inl rfl))
      have n11_ := Aside0.mk (below_step z4 hb)
      clear HO548
      clear HL560_0
      clear HL561_0
      clear HL563_0
      clear HO567
      clear HI0
      clear HX560_0
      clear HX561_0
      clear HX563_0
      clear HK
      clear HB
      have HO548 := n0_
      have HL560_0 := n1_
      have HL561_0 := n2_
      have HL563_0 := n3_
      have HO567 := n4_
      have HO573 := n5_
      have HI0 := n6_
      have HX560_0 := n7_
      have HX561_0 := n8_
      have HX563_0 := n9_
      have HK := n10_
      have HB := n11_
      clear n0_ n1_ n2_ n3_ n4_ n5_ n6_ n7_ n8_ n9_ n10_ n11_
      clear hb ho27
      have n_ := Aside0.mk (Kd.S_mono (ok' := (fun k_ => some k_ ≠ (.slice Ao24 y565.length co24 : Value).ownBlock ∧ some k_ ≠ (v572 : Value).ownBlock)) HO548.out (fun k_ hk => ⟨hk.1.2, hk.2⟩))
      clear HO548
      have HO548 := n_
      clear n_
      obtain ⟨Ao30, co30, eo30⟩ := Kd.R_slice HO573.out
      (first | subst eo30 | (injection eo30 with f1_ f2_ f3_; have f4_ := f1_.symm; have f5_ := f3_.symm; clear f1_ f2_ f3_; subst f4_; subst f5_))
      obtain ⟨go28, co28, eo28, gb28, gl28, cl28, HG28⟩ := Kd.S_form HO548.out (by have h_ : (0 : Int) < ((t546.length : Int) : Int) := za; have h2_ : 0 ≤ (0 : Int) := (by omega); omega)
      (first | cases eo28 | (injection eo28 with ea_ en_ ec_; (first | subst ea_ | (injection ea_ with ea_; subst ea_)); subst ec_; clear en_))
      have GB28 := Aside0.mk gb28
      have GG28 := Aside0.mk HG28
      clear gb28 gl28 HG28
      (first | simp only [add_plain] at hx560_0 | skip)
      (first | simp only [add_plain] at hx561_0 | skip)
      (first | simp only [add_plain] at hx563_0 | skip)
      obtain ⟨oki28, ce28, hcl28, hM28, hcc28, _, hoki28, hH28⟩ := Kd.S_elem HO548.out [] (0 : Int) (by omega) (by have h_ : (0 : Int) < ((t546.length : Int) : Int) := za; first | exact h_ | (have e_ := (Kd.S_reads' HO548.out).1; omega) | simpa using h_)
      obtain ⟨ve28_0, rfl, ge28_0⟩ := hM28
      have hv28 := hcc28 0 _ rfl
      have hX28 := HX560_0.out
      (try simp only [add_plain] at hX28)
      (try simp only [Nat.add_zero] at hv28)
      (try rw [show ((Kd.slice 3 (Kd.int .i64))).sz = 1 from rfl, Nat.mul_one] at hv28)
      replace hv28 := Option.some.inj (hv28.symm.trans hX28)
      subst hv28
      clear hX28 hcc28 hcl28
      have UU28 := Aside0.mk (show Kd.R (Kd.int .i64) 3 _ w.heap.size oki28 (.slice (some ad562) (rd_L1 t546 0).length c560_0) (rd_L1 t546 0) from ge28_0)
      have HH28 := Aside0.mk hH28
      have HN28 := Aside0.mk (Kd.S_reads' HO548.out).1
      clear hH28 ge28_0
      have HK28_ := Aside0.mk (show ∀ k_, oki28 k_ → ((fun k_ => some k_ ≠ (.slice Ao24 y565.length co24 : Value).ownBlock ∧ some k_ ≠ (.slice Ao30 y571.length co30 : Value).ownBlock)) k_ from fun k_ h2_ => (hoki28 k_ h2_).1)
      clear hoki28
      refine hK.out _ _ ⟨HS0_, HS1_, HS2_, HS3_, HS4_⟩ (fun hHeld => ?_)
      clear hK K
      refine norm_ (a' := ?_) ?_ ?_
      rotate_left
      ·
       show Act.put _ (some 33) _ = _
       simp only [Act.put, List.setIfInBounds_toArray, List.set_cons_zero, List.set_cons_succ, i64_w, i32_w]
       rfl
      refine last_ (i := 18) (N := some 34) #[true, true, true, true, true, true, true, true, true, true, true, true, true, true, true, true, true, true, true, false, false] rfl rfl (one_of HT_.out (by kernel_rfl)) (by decide) (fun K hK => ?_)
      refine Kd.R_append_rows_step (Kd.int .i64) w.heap.size (by rfl) (.tmp 19) (.tmp 33) 27 3 (.int .i64 0) 8 rfl Try.underlying27 info3 rfl (by decide) (by omega) (.slice (some ad562) (rd_L1 t546 0).length c560_0) (rd_L1 t546 0) y571 _ _ _ (fun k_ => oki28 k_ ∨ ((fun k_ => some k_ ≠ (.slice Ao24 y565.length co24 : Value).ownBlock ∧ some k_ ≠ (.slice Ao30 y571.length co30 : Value).ownBlock)) k_ ∧ w26.heap.size ≤ k_) (fun _ => False) rfl rfl ?aO ?aR (fun _ _ h => h) (fun _ h => h.elim) ?aF (Below.refl _ _) ?aS ?aL ?_
      (case aR => exact zc (Kd.R_reads' HO573.out).2.2)
      (case aF => exact (fun k_ hk => .inr ⟨⟨Kd.fresh' (Kd.R_lt (zr HO567.out)) k_ hk, Kd.fresh' (Kd.R_lt (zr HO573.out)) k_ hk⟩, hk⟩))
      (case aO => exact (by (with_reducible repeat (first | apply Kd.R_alloc | apply Kd.R_drewN | apply Kd.R_drew)); exact Kd.R_mono UU28.out (fun _ hk => .inl hk)))
      (case aS => exact (keep_size (w := w) (g := g) (row := none) z1))
      (case aL => have := LMc16.out; omega)
      intro v575 w29 ho hb hg hat
      rw [← Ny574.out] at ho
      have n0_ := Aside0.mk (IsS84.grown z2 hg (IsS84.own_ne HI0.out HL560_0.out (by decide)))
      have n1_ := Aside0.mk (Kd.R_grown2 (zr HO567.out) rfl hg (fun k_ e_ => (HL560_0.out.1 k_ e_).1.2))
      have n2_ := Aside0.mk (Kd.R_grown2 (zr HO573.out) rfl hg (fun k_ e_ => (HL560_0.out.1 k_ e_).2))
      have n3_ := Aside0.mk (below_weaken z4 HL.out hb)
      have n4_ := Aside0.mk (KeepBut.trans z1 (KeepBut.of_grown hg g) (Kd.R_base2 HL560_0.out))
      have n5_ := Aside0.mk (Kd.H_grown (Kd.H_widen (by repeat (first | exact HH28.out | refine Kd.H_alloc ?_ _ | refine Kd.H_drewN ?_ _ | refine Kd.H_drew ?_))) hg (fun k_ e_ => .inl (UU28.out.1 k_ e_)))
      have n6_ := Aside0.mk (ho)
      have n7_ := Aside0.mk (hg.size)
      clear HI0
      clear HO567
      clear HO573
      clear HB
      clear HK
      clear HH28
      clear HO548
      clear UU28
      clear HL560_0
      clear HL561_0
      clear HL563_0
      have HI0 := n0_
      have HO567 := n1_
      have HO573 := n2_
      have HB := n3_
      have HK := n4_
      have HH28 := n5_
      have HO576 := n6_
      have HZ28 := n7_
      clear n0_ n1_ n2_ n3_ n4_ n5_ n6_ n7_
      clear ho hb hg hat
      have p17 : 0 ≤ (0 : Int) := (by omega)
      have q17 : (0 : Int) < ((t546.length : Int) : Int) := za
      replace p17 := eq_true p17
      replace q17 := eq_true q17
      obtain ⟨Ao33, co33, eo33⟩ := Kd.R_slice HO576.out
      (first | subst eo33 | (injection eo33 with f1_ f2_ f3_; have f4_ := f1_.symm; have f5_ := f3_.symm; clear f1_ f2_ f3_; subst f4_; subst f5_))
      obtain ⟨_, _, hraw31, _, _, hcc31, _⟩ := Kd.H_raw HH28.out (by omega) (by have h_ : (0 : Int) < ((t546.length : Int) : Int) := za; first | exact h_ | (have e_ := (HN28.out); omega) | simpa using h_)
      obtain ⟨_, hfr31⟩ := Kd.H_at HH28.out (by omega) (by have h_ : (0 : Int) < ((t546.length : Int) : Int) := za; first | exact h_ | (have e_ := (HN28.out); omega) | simpa using h_)
      have hx31_0 := hcc31 0 _ rfl
      have hf31_0 := hfr31 0
      (try simp only [Nat.add_zero] at hx31_0 hf31_0)
      (try rw [show ((Kd.slice 3 (Kd.int .i64))).sz = 1 from rfl, Nat.mul_one] at hx31_0)
      (try rw [show ((Kd.slice 3 (Kd.int .i64))).sz = 1 from rfl, Nat.mul_one] at hf31_0)
      (try rw [show ((0 : Int)).toNat = 0 from rfl] at hx31_0)
      (try simp only [Nat.reduceMul, Nat.zero_mul, Nat.zero_add, Nat.reduceAdd] at hx31_0)
      (try rw [show ((0 : Int)).toNat = 0 from rfl] at hf31_0)
      (try simp only [Nat.reduceMul, Nat.zero_mul, Nat.zero_add, Nat.reduceAdd] at hf31_0)
      have HP31 := Kd.S_seg0 HH28.out (by omega) (by have h_ : (0 : Int) < ((t546.length : Int) : Int) := za; first | exact h_ | (have e_ := (HN28.out); omega) | simpa using h_) (seg := [.slice Ao33 y574.length co33]) (j := 0) (show 1 ≤ 1 from by decide) (x' := y574) (Kd.M_row HO576.out) (fun _ hk => hk)
      (try simp only [show ((Kd.slice 3 (Kd.int .i64))).sz = 1 from rfl, Nat.mul_one, Nat.add_zero] at HP31)
      clear hcc31 hfr31
      have HN0_go28 := Aside0.mk (show g ≠ go28 from by have h_ := IsS84.own_ne HI0.out hraw31 (by decide); intro e_; exact h_ (by rw [e_]; rfl))
      have HS31 := HP31.1
      rw [← Ny577.out] at HS31
      have HQ31 := Aside0.mk HS31
      obtain ⟨_, hgg31⟩ := Kd.R_typed hraw31 go28 rfl
      have GG31_ := Aside0.mk hgg31
      clear HP31 HS31 hgg31
      refine hK.out _ _ ?_
      clear hK K
      refine norm_ (a' := ?_) ?_ ?_
      rotate_left
      ·
       show Act.put _ (some 34) _ = _
       simp only [Act.put, List.setIfInBounds_toArray, List.set_cons_zero, List.set_cons_succ, i64_w, i32_w]
       rfl
      refine pure_ (i := 19) (N := some 35) (v := ?_) (a' := ?_) #[true, true, true, true, true, true, true, true, true, true, true, true, true, true, true, true, true, true, true, true, false] rfl rfl (any_of HT_.out (by kernel_rfl)) (fun _ _ _ h => h) (Or.inl ⟨by rfl, ?_⟩) ?_ ?_
      rotate_left
      ·
       intro w'
       go_simp
       with_reducible rfl
      rotate_left
      ·
       simp only [Act.put, List.setIfInBounds_toArray, List.set_cons_zero, List.set_cons_succ, i64_w, i32_w]
       rfl
      refine last_ (i := 20) (N := none) #[true, true, true, true, true, true, true, true, true, true, true, true, true, true, true, true, true, true, true, true, true] rfl rfl (one_of HT_.out (by kernel_rfl)) (by decide) (fun K hK => ?_)
      refine skip_ (w1 := ?_) (by rfl) rfl ?_ ?_
      rotate_left
      ·
       go_simp
       rfl
      refine hK.out _ _ ?_
      clear hK K
      refine done_ (done_of HT_.out (by kernel_rfl)) ?_
      try go_wp2
      go_ret
      exact ⟨_, ze, by (with_reducible repeat (first | apply Kd.S_alloc | apply Kd.S_drewN | apply Kd.S_drew)); exact Kd.S_mono HQ31.out (fun _ hk => trivial), by repeat (first | (with_reducible first | exact HI0.out | apply IsS84.alloc | apply IsS84.drewN | apply IsS84.drew | apply IsS84.set_1 | apply IsS84.set_2 | refine IsS84.far ?_ HN0_go28.out _) | exact HI0.out), by repeat (first | (with_reducible first | exact HB.out | apply below_alloc | apply pw_below_drewN | apply below_drew1 | refine below_set ?_ (Nat.le_trans HL.out GB28.out) | refine below_set ?_ (IsS84.ge HI0.out)) | exact HB.out), by repeat (first | (with_reducible first | exact HK.out | apply KeepBut.set_ | apply keep_drewN | apply keep_drew | apply keep_alloc | refine keep_far ?_ GB28.out _) | exact HK.out)⟩
     ·
      rw [if_neg c16] at H
      exact absurd H (by simp)
    ·
     rw [if_neg c14] at H
     exact absurd H (by simp)
   ·
    rw [if_neg c13] at H
    exact absurd H (by simp)
  ·
   rw [if_neg c12] at H
   have c12b0 : (t551 == 1) = false := beq_eq_false_iff_ne.mpr c12
   have c12b1 : (t551 != 1) = true := bne_iff_ne.mpr c12
   by_cases c34 : t551 = 2
   ·
    rw [if_pos c34] at H
    have c34b0 : (t551 == 2) = true := beq_iff_eq.mpr c34
    have c34b1 : (t551 != 2) = false := bne_eq_false_iff_eq.mpr c34
    clear c34
    obtain ⟨y578, hy578⟩ : ∃ y_ : List (List Int), y_ = (([] : List (List Int))) := ⟨_, rfl⟩
    replace H : (some (y578, t552, t553)) = some (r1, r2, r3) := zy hy578 H
    have Ny578 := Aside0.mk hy578
    clear hy578
    simp only [Option.some.injEq, Prod.mk.injEq] at H
    obtain ⟨rfl, rfl, rfl⟩ := H
    go_enter Try.func81, Try.ntmps81
    go_wp2_with (first | ((with_reducible refine zg 84 rfl ?_); refine zl (some 5) Try.func84 #[.pointer (some ⟨g, 0, none⟩)] ?_; (with_reducible refine (spec_l3Draw.calls k g s0_0 s0_1 s0_2 t546 t549 t550 w0 _ ?side1 ?side2 A2.out).mono ?_); (case side1 => repeat (first | (with_reducible first | exact HI0.out | apply IsS84.alloc | apply IsS84.drewN | apply IsS84.drew | apply IsS84.set_1 | apply IsS84.set_2) | exact HI0.out)); (case side2 => repeat (first | (with_reducible first | exact HB.out | apply below_alloc | apply pw_below_drewN | apply below_drew1 | refine below_set ?_ (IsS84.ge HI0.out)) | exact HB.out)); rintro e w35 ⟨v547, rfl, ho0, hi, hb, hk⟩; refine ⟨_, rfl, ?_⟩; have HO548 := Aside0.mk (Kd.S_lower ho0 (keep_size (w := w) (g := g) (row := none) z1)); replace HK := Aside0.mk (KeepBut.trans z1 hk (.inl rfl)); replace HB := Aside0.mk (hb); replace HI0 := Aside0.mk (hi)) | ((with_reducible refine zg 93 rfl ?_); refine zl (some 7) Try.func93 #[.pointer (some ⟨g, 0, none⟩), .int .i64 20] ?_; (with_reducible refine (spec_l1Below.calls g s0_0 t549 t550 20 t551 t552 t553 w0 _ ?side1 ?side2 A3.out).mono ?_); (case side1 => repeat (first | (with_reducible first | exact HI0.out | apply IsS84.alloc | apply IsS84.drewN | apply IsS84.drew | apply IsS84.set_1 | apply IsS84.set_2) | exact HI0.out)); (case side2 => repeat (first | (with_reducible first | exact HB.out | apply below_alloc | apply pw_below_drewN | apply below_drew1 | refine below_set ?_ (IsS84.ge HI0.out)) | exact HB.out)); rintro e w36 ⟨rfl, hi, hb, hk⟩; refine ⟨_, rfl, ?_⟩; replace HO548 := Aside0.mk (Kd.S_mono (Kd.S_keep (IsS84.apartS (show IsS84 w0 _ g s0_0 t549 t550 from z2) (zs HO548.out) (by decide)) hk (fun _ h => h.2)) (fun _ h => h.1)); replace HK := Aside0.mk (KeepBut.trans z1 hk (.inl rfl)); replace HB := Aside0.mk (hb); replace HI0 := Aside0.mk (hi)) | ((with_reducible refine gate_dst (N := 38) rfl ?_); refine Kd.S_lit (Kd.slice 3 (Kd.int .i64)) _ 27 ?hg (N := 38) ?hd (xs := ([] : List (List Int))) (inner := []) (ok := fun _ => True) (okp := fun _ => True) ?hr ?hp (fun _ hk => hk) trivial (Below.refl _ _) (Nat.le_refl _) (by simp) ?_; (case hd => rfl); (case hg => rfl); (case hr => first | (go_simp; done) | (go_simp; rfl)); (case hp => exact (Reps.none _ _)); intro v579 w37 ho38 hb hg_ hnew_; clear hg_ hnew_; (first | rw [← Ny578.out] at ho38 | (simp only [Int.reduceToNat] at ho38; rw [← Ny578.out] at ho38)); have HO580 := Aside0.mk (Kd.S_lower (Kd.S_new' ho38 (Kd.S_lt (zs HO548.out))) (keep_size (w := w) (g := g) (row := none) z1)); replace HO548 := Aside0.mk (Kd.S_elder' (zs HO548.out) (Kd.S_base ho38) hb); replace HK := Aside0.mk (KeepBut.trans z1 (KeepBut.of_below hb g none) (.inl rfl)); replace HB := Aside0.mk (below_step z4 hb); replace HI0 := Aside0.mk (IsS84.below z2 hb); clear hb ho38))
    go_ret
    exact ⟨_, ze, by (with_reducible repeat (first | apply Kd.S_alloc | apply Kd.S_drewN | apply Kd.S_drew)); exact Kd.S_mono HO580.out (fun _ hk => trivial), z2, z4, z1⟩
   ·
    rw [if_neg c34] at H
    have c34b0 : (t551 == 2) = false := beq_eq_false_iff_ne.mpr c34
    have c34b1 : (t551 != 2) = true := bne_iff_ne.mpr c34
    simp only [Option.some.injEq, Prod.mk.injEq] at H
    obtain ⟨rfl, rfl, rfl⟩ := H
    go_enter Try.func81, Try.ntmps81
    go_wp2_with (first | ((with_reducible refine zg 84 rfl ?_); refine zl (some 5) Try.func84 #[.pointer (some ⟨g, 0, none⟩)] ?_; (with_reducible refine (spec_l3Draw.calls k g s0_0 s0_1 s0_2 t546 t549 t550 w0 _ ?side1 ?side2 A2.out).mono ?_); (case side1 => repeat (first | (with_reducible first | exact HI0.out | apply IsS84.alloc | apply IsS84.drewN | apply IsS84.drew | apply IsS84.set_1 | apply IsS84.set_2) | exact HI0.out)); (case side2 => repeat (first | (with_reducible first | exact HB.out | apply below_alloc | apply pw_below_drewN | apply below_drew1 | refine below_set ?_ (IsS84.ge HI0.out)) | exact HB.out)); rintro e w39 ⟨v547, rfl, ho0, hi, hb, hk⟩; refine ⟨_, rfl, ?_⟩; have HO548 := Aside0.mk (Kd.S_lower ho0 (keep_size (w := w) (g := g) (row := none) z1)); replace HK := Aside0.mk (KeepBut.trans z1 hk (.inl rfl)); replace HB := Aside0.mk (hb); replace HI0 := Aside0.mk (hi)) | ((with_reducible refine zg 93 rfl ?_); refine zl (some 7) Try.func93 #[.pointer (some ⟨g, 0, none⟩), .int .i64 20] ?_; (with_reducible refine (spec_l1Below.calls g s0_0 t549 t550 20 t551 t552 t553 w0 _ ?side1 ?side2 A3.out).mono ?_); (case side1 => repeat (first | (with_reducible first | exact HI0.out | apply IsS84.alloc | apply IsS84.drewN | apply IsS84.drew | apply IsS84.set_1 | apply IsS84.set_2) | exact HI0.out)); (case side2 => repeat (first | (with_reducible first | exact HB.out | apply below_alloc | apply pw_below_drewN | apply below_drew1 | refine below_set ?_ (IsS84.ge HI0.out)) | exact HB.out)); rintro e w40 ⟨rfl, hi, hb, hk⟩; refine ⟨_, rfl, ?_⟩; replace HO548 := Aside0.mk (Kd.S_mono (Kd.S_keep (IsS84.apartS (show IsS84 w0 _ g s0_0 t549 t550 from z2) (zs HO548.out) (by decide)) hk (fun _ h => h.2)) (fun _ h => h.1)); replace HK := Aside0.mk (KeepBut.trans z1 hk (.inl rfl)); replace HB := Aside0.mk (hb); replace HI0 := Aside0.mk (hi)))
    go_ret
    exact ⟨_, ze, zs HO548.out, z2, z4, z1⟩
def spec_l1New.l0 : Nat → List Int → Int → Int → Option (List Int × Int × Int)
 | 0, _, _, _ => none
 | k + 1, x0, x3, x4 => if x4 < (x0.length : Int) then (if x4 < 4000 then (if 0 ≤ x4 then (spec_l1New.l0 k x0 (Go.bits .and .i64 (wrap64 ((wrap64 ((wrap64 (x3 * 131)) + (wrap64 (rd x0 x4)))) + 7)) 1073741823) (wrap64 (x4 + 1))) else (none)) else (some (x0, 0, x3))) else (some (x0, 0, x3))
def spec_l1New.f (k : Nat) (l0 : List Int) : Option (List Int × Int × Int) := spec_l1New.l0 k l0 (wrap64 (26583 + (l0.length : Int))) 0
set_option maxHeartbeats 8000000 in
set_option maxRecDepth 100000 in
theorem spec_l1New.calls (k : Nat) (A0 : Option Addr) (c0 : Nat) (l0 : List Int) (r1 : List Int) (r2 : Int) (r3 : Int) (w0 w : World) (hB : Below w0.heap.size w0 w) (hr0 : Kd.C (Kd.int .u8) w0 A0 l0.length l0) (hc0 : l0.length ≤ c0) (h : spec_l1New.f k l0 = some (r1, r2, r3)) :
  Calls Try.prog 82 #[.slice A0 l0.length c0] w fun e w' => ∃ g_ : Nat, e = .returned (.pointer (some ⟨g_, 0, none⟩)) ∧ IsS84 w0 w' g_ r1 r2 r3 ∧ Below w0.heap.size w0 w' ∧ Below w.heap.size w w' := by
 have hu84 := Try.underlying84
 have HR0 := Aside0.mk hr0
 have HC0 := Aside0.mk hc0
 clear hr0 hc0
 have HBW := Aside0.mk (Below.refl w.heap.size w)
 have HW0 := Aside0.mk hB.size
 have HB := Aside0.mk hB
 clear hB
 have H := h
 clear h
 unfold spec_l1New.f at H
 have H' := Aside0.mk H
 clear H
 go_enter Try.func82, Try.ntmps82
 go_wp2
 go_loopg [3, 4] k (fun kq v3 v4 w' => ∃ (x3_1 : Int) (x4_1 : Int), v3 = .int .i64 x3_1 ∧ v4 = .int .i64 x4_1 ∧ Aside0 (spec_l1New.l0 kq l0 x3_1 x4_1 = some (r1, r2, r3)) ∧ Aside0 (kq ≤ k) ∧ Aside0 (Below w.heap.size w w') ∧ Aside0 (Below w0.heap.size w0 w'))
 case atStart => exact ⟨(wrap64 (26583 + (l0.length : Int))), (0), zd, zd, H', ⟨Nat.le_refl _⟩, ⟨z5⟩, ⟨z0⟩⟩
 case round =>
  clear H'
  obtain ⟨x3_1, x4_1, rfl, rfl, HA, HK1, HBW, HB⟩ := hrel
  cases gk with
  | zero => exact absurd HA.out (by simp [spec_l1New.l0])
  | succ k1 =>
   have H := HA.out
   clear HA
   simp only [spec_l1New.l0] at H
   by_cases c2 : x4_1 < (l0.length : Int)
   ·
    rw [if_pos c2] at H
    have c2b0 : decide (x4_1 < (l0.length : Int)) = true := decide_eq_true c2
    clear c2
    by_cases c3 : x4_1 < 4000
    ·
     rw [if_pos c3] at H
     have c3b0 : decide (x4_1 < 4000) = true := decide_eq_true c3
     clear c3
     by_cases c4 : 0 ≤ x4_1
     ·
      rw [if_pos c4] at H
      have c4b0 : decide (0 ≤ x4_1) = true := decide_eq_true c4
      clear c4
      have H' := Aside0.mk H
      clear H
      have p581 : 0 ≤ (x4_1 : Int) := za
      have q581 : x4_1 < (l0.length : Int) := za
      obtain ⟨ad581, e581, hx581_0⟩ := Kd.at_int HR0.out x4_1 p581 q581
      cases e581
      replace hx581_0 := pw_cell_below HB.out hx581_0
      replace p581 := eq_true p581
      replace q581 := eq_true q581
      go_wp2
      go_roundg k1
      case measure => have := HK1.out; omega
      case rel => exact ⟨(Go.bits .and .i64 (wrap64 ((wrap64 ((wrap64 (x3_1 * 131)) + (wrap64 (rd l0 x4_1)))) + 7)) 1073741823), (wrap64 (x4_1 + 1)), zd, zd, H', ⟨by have := HK1.out; omega⟩, ⟨z5⟩, ⟨z0⟩⟩
     ·
      rw [if_neg c4] at H
      exact absurd H (by simp)
    ·
     rw [if_neg c3] at H
     have c3b0 : decide (x4_1 < 4000) = false := decide_eq_false c3
     clear c3
     simp only [Option.some.injEq, Prod.mk.injEq] at H
     obtain ⟨rfl, rfl, rfl⟩ := H
     go_wp2_with (first | ((with_reducible refine gate_dst (N := 31) rfl ?_); refine box_event ?hg (N := 31) ?hd (cs := #[.slice A0 l0.length c0, .int .i64 0, .int .i64 x3_1]) (t := 84) ?hr ?_; (case hd => rfl); (case hg => rfl); (case hr => first | (go_simp; done) | (go_simp; rfl)); intro gb582 hg w5 hbox hb; replace HB := Aside0.mk (below_step z0 hb); have BK582 := Aside0.mk (hbox); have GW582 := Aside0.mk ((by rw [hg]; exact (below_size z5) : w.heap.size ≤ gb582)); have GE582 := Aside0.mk ((Nat.le_trans HW0.out (by rw [hg]; exact (below_size z5) : w.heap.size ≤ gb582) : w0.heap.size ≤ gb582)); replace HBW := Aside0.mk (below_step HBW.out hb); clear hb hbox hg))
     go_ret
     exact ⟨_, rfl, (show IsS84 w0 _ gb582 l0 0 x3_1 from ⟨_, _, by (with_reducible repeat (first | refine blk_drewN ?_ _ | refine blk_drew ?_ | refine blk_alloc ?_ _)); exact BK582.out, GE582.out, HR0.out⟩), by repeat (first | (with_reducible first | exact HB.out | apply below_alloc | apply pw_below_drewN | apply below_drew1 | refine below_set ?_ GE582.out) | exact HB.out), by repeat (first | (with_reducible first | exact HBW.out | apply below_alloc | apply pw_below_drewN | apply below_drew1 | refine below_set ?_ GW582.out) | exact HBW.out)⟩
   ·
    rw [if_neg c2] at H
    have c2b0 : decide (x4_1 < (l0.length : Int)) = false := decide_eq_false c2
    clear c2
    simp only [Option.some.injEq, Prod.mk.injEq] at H
    obtain ⟨rfl, rfl, rfl⟩ := H
    go_wp2_with (first | ((with_reducible refine gate_dst (N := 31) rfl ?_); refine box_event ?hg (N := 31) ?hd (cs := #[.slice A0 l0.length c0, .int .i64 0, .int .i64 x3_1]) (t := 84) ?hr ?_; (case hd => rfl); (case hg => rfl); (case hr => first | (go_simp; done) | (go_simp; rfl)); intro gb583 hg w6 hbox hb; replace HB := Aside0.mk (below_step z0 hb); have BK583 := Aside0.mk (hbox); have GW583 := Aside0.mk ((by rw [hg]; exact (below_size z5) : w.heap.size ≤ gb583)); have GE583 := Aside0.mk ((Nat.le_trans HW0.out (by rw [hg]; exact (below_size z5) : w.heap.size ≤ gb583) : w0.heap.size ≤ gb583)); replace HBW := Aside0.mk (below_step HBW.out hb); clear hb hbox hg))
    go_ret
    exact ⟨_, rfl, (show IsS84 w0 _ gb583 l0 0 x3_1 from ⟨_, _, by (with_reducible repeat (first | refine blk_drewN ?_ _ | refine blk_drew ?_ | refine blk_alloc ?_ _)); exact BK583.out, GE583.out, HR0.out⟩), by repeat (first | (with_reducible first | exact HB.out | apply below_alloc | apply pw_below_drewN | apply below_drew1 | refine below_set ?_ GE583.out) | exact HB.out), by repeat (first | (with_reducible first | exact HBW.out | apply below_alloc | apply pw_below_drewN | apply below_drew1 | refine below_set ?_ GW583.out) | exact HBW.out)⟩
def spec_DrawIsGluing.f (k : Nat) (l0 : List Int) : Option ((List (List Int))) := (spec_l1New.f k l0).bind fun bt584 => ((spec_l3Bent.f k bt584.1 bt584.2.1 bt584.2.2).bind fun bt588 => (some bt588.1))
set_option maxHeartbeats 8000000 in
set_option maxRecDepth 100000 in
theorem spec_DrawIsGluing.calls (k : Nat) (A0 : Option Addr) (c0 : Nat) (l0 : List Int) (r : List (List Int)) (w : World) (hr0 : Kd.C (Kd.int .u8) w A0 l0.length l0) (hc0 : l0.length ≤ c0) (h : spec_DrawIsGluing.f k l0 = some r) :
  Calls Try.prog 47 #[.slice A0 l0.length c0] w fun e w' => ∃ v0_ : Value, e = .returned (v0_) ∧ Kd.S (Kd.slice 3 (Kd.int .i64)) 27 w' w.heap.size (fun _ => True) v0_ r ∧ Below w.heap.size w w' := by
 have HR0 := Aside0.mk hr0
 have HC0 := Aside0.mk hc0
 clear hr0 hc0
 have HB := Aside0.mk (Below.refl w.heap.size w)
 have H := h
 clear h
 unfold spec_DrawIsGluing.f at H
 replace H := Option.bind_eq_some_iff.mp H
 obtain ⟨⟨t584, t585, t586⟩, A20, H⟩ := H
 dsimp only at H
 have A2 := Aside0.mk A20
 clear A20
 replace H := Option.bind_eq_some_iff.mp H
 obtain ⟨⟨t588, t591, t592⟩, A30, H⟩ := H
 dsimp only at H
 have A3 := Aside0.mk A30
 clear A30
 obtain rfl := Option.some.inj H
 go_enter Try.func47, Try.ntmps47
 go_wp2_with (first | ((with_reducible refine zg 82 rfl ?_); refine zl (some 4) Try.func82 #[.slice A0 l0.length c0] ?_; (with_reducible refine (spec_l1New.calls k _ _ l0 t584 t585 t586 w _ ?side1 ?side2 ?side3 A2.out).mono ?_); (case side1 => repeat (first | (with_reducible first | exact HB.out | apply below_alloc | apply pw_below_drewN | apply below_drew1) | exact HB.out)); (case side2 => exact HR0.out); (case side3 => exact HC0.out); rintro e w4 ⟨g587, rfl, hi, hb, hb2⟩; refine ⟨_, rfl, ?_⟩; replace HB := Aside0.mk (hb); have HI587 := Aside0.mk (hi)) | ((with_reducible refine zg 81 rfl ?_); refine zl (some 5) Try.func81 #[.pointer (some ⟨g587, 0, none⟩)] ?_; (with_reducible refine (spec_l3Bent.calls k g587 t584 t585 t586 t588 t591 t592 w _ ?side1 ?side2 A3.out).mono ?_); (case side1 => repeat (first | (with_reducible first | exact HI587.out | apply IsS84.alloc | apply IsS84.drewN | apply IsS84.drew | apply IsS84.set_1 | apply IsS84.set_2) | exact HI587.out)); (case side2 => repeat (first | (with_reducible first | exact HB.out | apply below_alloc | apply pw_below_drewN | apply below_drew1 | refine below_set ?_ (IsS84.ge HI587.out)) | exact HB.out)); rintro e w5 ⟨v589, rfl, ho0, hi, hb, hk⟩; refine ⟨_, rfl, ?_⟩; have HO590 := Aside0.mk (Kd.S_lower ho0 (below_size (by repeat (first | (with_reducible first | exact HB.out | apply below_alloc | apply pw_below_drewN | apply below_drew1 | refine below_set ?_ (IsS84.ge HI587.out)) | exact HB.out)))); replace HB := Aside0.mk (hb); replace HI587 := Aside0.mk (hi)))
 go_ret
 exact ⟨_, ze, zs HO590.out, by repeat (first | (with_reducible first | exact HB.out | apply below_alloc | apply pw_below_drewN | apply below_drew1 | refine below_set ?_ (IsS84.ge HI587.out)) | exact HB.out)⟩
def spec_l1Pick.f (s0_0 : List Int) (s0_1 : Int) (s0_2 : Int) (l1 : List ByteArray) : Option (ByteArray × Int × Int) := (spec_l1Below.f s0_0 s0_1 s0_2 (l1.length : Int)).bind fun bt593 => (if 0 ≤ bt593.1 then (if bt593.1 < (l1.length : Int) then (some (rdOf ByteArray.empty l1 bt593.1, bt593.2.1, bt593.2.2)) else (none)) else (none))
set_option maxHeartbeats 8000000 in
set_option maxRecDepth 100000 in
theorem spec_l1Pick.calls (g : Nat) (s0_0 : List Int) (s0_1 : Int) (s0_2 : Int) (A1 : Option Addr) (c1 : Nat) (l1 : List ByteArray) (r1 : ByteArray) (r2 : Int) (r3 : Int) (w0 w : World) (hI : IsS84 w0 w g s0_0 s0_1 s0_2) (hB : Below w0.heap.size w0 w) (hr1 : Kd.C Kd.string w A1 l1.length l1) (hc1 : l1.length ≤ c1) (hf1 : ∀ ad, A1 = some ad → 0 < l1.length → ad.block ≠ g) (h : spec_l1Pick.f s0_0 s0_1 s0_2 l1 = some (r1, r2, r3)) :
  Calls Try.prog 95 #[.pointer (some ⟨g, 0, none⟩), .slice A1 l1.length c1] w fun e w' => e = .returned (.string r1) ∧ IsS84 w0 w' g s0_0 r2 r3 ∧ Below w0.heap.size w0 w' ∧ KeepBut w w' g none := by
 have HR1 := Aside0.mk hr1
 have HC1 := Aside0.mk hc1
 clear hr1 hc1
 have HI0 := Aside0.mk hI
 have HK := Aside0.mk (KeepBut.refl w g none)
 have HL := Aside0.mk hB.size
 clear hI
 have HW0 := Aside0.mk hB.size
 have HB := Aside0.mk hB
 clear hB
 have H := h
 clear h
 unfold spec_l1Pick.f at H
 replace H := Option.bind_eq_some_iff.mp H
 obtain ⟨⟨t593, t594, t595⟩, A30, H⟩ := H
 dsimp only at H
 have A3 := Aside0.mk A30
 clear A30
 by_cases c4 : 0 ≤ t593
 ·
  rw [if_pos c4] at H
  have c4b0 : decide (0 ≤ t593) = true := decide_eq_true c4
  clear c4
  by_cases c5 : t593 < (l1.length : Int)
  ·
   rw [if_pos c5] at H
   have c5b0 : decide (t593 < (l1.length : Int)) = true := decide_eq_true c5
   clear c5
   simp only [Option.some.injEq, Prod.mk.injEq] at H
   obtain ⟨rfl, rfl, rfl⟩ := H
   go_enter Try.func95, Try.ntmps95
   go_wp2_with (first | ((with_reducible refine zg 93 rfl ?_); refine zl (some 9) Try.func93 #[.pointer (some ⟨g, 0, none⟩), .int .i64 (l1.length : Int)] ?_; (with_reducible refine (spec_l1Below.calls g s0_0 s0_1 s0_2 (l1.length : Int) t593 t594 t595 w0 _ ?side1 ?side2 A3.out).mono ?_); (case side1 => repeat (first | (with_reducible first | exact HI0.out | apply IsS84.alloc | apply IsS84.drewN | apply IsS84.drew | apply IsS84.set_1 | apply IsS84.set_2) | exact HI0.out)); (case side2 => repeat (first | (with_reducible first | exact HB.out | apply below_alloc | apply pw_below_drewN | apply below_drew1 | refine below_set ?_ (IsS84.ge HI0.out)) | exact HB.out)); rintro e w6 ⟨rfl, hi, hb, hk⟩; refine ⟨_, rfl, ?_⟩; replace HK := Aside0.mk (KeepBut.trans z1 hk (.inl rfl)); replace HB := Aside0.mk (hb); replace HI0 := Aside0.mk (hi); (try clear hb); (try clear hb2); (try clear hk); (try clear hi); have p596 : 0 ≤ (t593 : Int) := za; have q596 : t593 < (l1.length : Int) := za; obtain ⟨ad596, e596, hx596_0⟩ := Kd.at_string HR1.out t593 p596 q596; cases e596; replace hx596_0 := keep_cell HK.out hx596_0 (by first | (rw [add_block]; exact hf1 _ rfl (by omega)) | exact hf1 _ rfl (by omega) | exact hf1 ad596 rfl (by omega)); replace p596 := eq_true p596; replace q596 := eq_true q596))
   go_ret
   exact ⟨ze, z2, z4, z1⟩
  ·
   rw [if_neg c5] at H
   exact absurd H (by simp)
 ·
  rw [if_neg c4] at H
  exact absurd H (by simp)
end Go.Proofs.Ytfknffpfjoalkaa.QFnGluings
