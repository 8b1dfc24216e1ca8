-- Written by a program of this session (the kit's print, turned in places): the functions that the law FnGluings comes to, and what their calls do.
import Derived.Test.YtfknffpfjoalkaaQFnGluingsx0
import Derived.Test.YtfknffpfjoalkaaQFnGluingsx11
import Derived.Test.YtfknffpfjoalkaaZip
namespace Go.Proofs.Ytfknffpfjoalkaa.QFnGluings
open Go.Proofs.Ytfknffpfjoalkaa.Zip Go.RowKit Go.Proofs.YtfknffpfjoalkaaW.PrintWords Go.Proofs.YtfknffpfjoalkaaW.PrintLast Go.Proofs.YtfknffpfjoalkaaW.PrintMore
attribute [local go_sem] max2_int min2_int max_two min_two max_three min_three max_four min_four   -- for this text's walks alone
set_option linter.unusedVariables false
set_option linter.unusedSimpArgs false
mutual
def spec_l3Draw.l0 : Nat → Int → List Int → Int → List Int → Int → Int → Option ((List (List Int)) × Int × Int)
 | 0, _, _, _, _, _, _ => none
 | k + 1, x3, x4, x5, x1000, x1001, x1002 => (spec_l1Below.f x1000 x1001 x1002 5).bind fun bt460 => (if x5 ≤ (wrap64 (2 + bt460.1)) then (if x4.length < 17592186044416 then ((some (x4 ++ [x5] : List Int)).bind fun y463 => ((spec_l1Once.f x1000 bt460.2.1 bt460.2.2 4).bind fun bt466 => (if bt466.1 = true then (spec_l3Draw.l0 k x3 y463 (wrap64 (x5 + 1)) x1000 bt466.2.1 bt466.2.2) else ((spec_l1Below.f x1000 bt466.2.1 bt466.2.2 2).bind fun bt469 => (if y463.length < 17592186044416 then (spec_l3Draw.l0 k x3 (y463 ++ [wrap64 (x5 * (wrap64 (1 - (wrap64 (2 * bt469.1)))))]) (wrap64 (x5 + 1)) x1000 bt469.2.1 bt469.2.2) else (none)))))) else (none)) else (spec_l3Draw.l1 k x3 x4 x1000 bt460.2.1 bt460.2.2))
def spec_l3Draw.l1 : Nat → Int → List Int → List Int → Int → Int → Option ((List (List Int)) × Int × Int)
 | 0, _, _, _, _, _ => none
 | k + 1, x3, x4, x1000, x1001, x1002 => if (x4.length : Int) < x3 then (if x4.length < 17592186044416 then ((some (x4 ++ [8] : List Int)).bind fun y475 => (spec_l3Draw.l1 k (y475.length : Int) y475 x1000 x1001 x1002)) else (none)) else (spec_l3Draw.l2 k x3 x4 (([] : List (List Int))) 0 x1000 x1001 x1002)
def spec_l3Draw.l2 : Nat → Int → List Int → List (List Int) → Int → List Int → Int → Int → Option ((List (List Int)) × Int × Int)
 | 0, _, _, _, _, _, _, _ => none
 | k + 1, x3, x4, x6, x7, x1000, x1001, x1002 => if x7 < x3 then (if x6.length < 5864062014805 then (spec_l3Draw.l2 k x3 x4 (x6 ++ [(([] : List Int))]) (wrap64 (x7 + 1)) x1000 x1001 x1002) else (none)) else (spec_l3Draw.l3 k x3 x4 x6 0 x1000 x1001 x1002)
def spec_l3Draw.l3 : Nat → Int → List Int → List (List Int) → Int → List Int → Int → Int → Option ((List (List Int)) × Int × Int)
 | 0, _, _, _, _, _, _, _ => none
 | k + 1, x3, x4, x6, x8, x1000, x1001, x1002 => if x8 < (x4.length : Int) then ((spec_l1Below.f x1000 x1001 x1002 x3).bind fun bt487 => (if x8 < x3 then (if 0 ≤ x8 then (if x8 < (x6.length : Int) then ((spec_l1Below.f x1000 bt487.2.1 bt487.2.2 (wrap64 (((rd_L1 x6 x8).length : Int) + 1))).bind fun bt491 => ((some (([] : List Int) : List Int)).bind fun y494 => (if 0 ≤ bt491.1 then (if bt491.1 ≤ ((rd_L1 x6 x8).length : Int) then ((some ((rd_L1 x6 x8).drop (bt491.1 : Int).toNat : List Int)).bind fun y498 => (if y494.length + y498.length < 17592186044416 then ((some (y494 ++ y498 : List Int)).bind fun y502 => ((some ((rd_L1 x6 x8).take (bt491.1 : Int).toNat : List Int)).bind fun y506 => (if y506.length < 17592186044416 then ((some (y506 ++ [rd x4 x8] : List Int)).bind fun y511 => (if y511.length + y502.length < 17592186044416 then (spec_l3Draw.l3 k x3 x4 (x6.set (x8 : Int).toNat (y511 ++ y502)) (wrap64 (x8 + 1)) x1000 bt491.2.1 bt491.2.2) else (none))) else (none)))) else (none))) else (none)) else (none)))) else (none)) else (none)) else (if 0 ≤ bt487.1 then (if bt487.1 < (x6.length : Int) then ((spec_l1Below.f x1000 bt487.2.1 bt487.2.2 (wrap64 (((rd_L1 x6 bt487.1).length : Int) + 1))).bind fun bt519 => ((some (([] : List Int) : List Int)).bind fun y522 => (if 0 ≤ bt519.1 then (if bt519.1 ≤ ((rd_L1 x6 bt487.1).length : Int) then ((some ((rd_L1 x6 bt487.1).drop (bt519.1 : Int).toNat : List Int)).bind fun y526 => (if y522.length + y526.length < 17592186044416 then ((some (y522 ++ y526 : List Int)).bind fun y530 => ((some ((rd_L1 x6 bt487.1).take (bt519.1 : Int).toNat : List Int)).bind fun y534 => (if 0 ≤ x8 then (if y534.length < 17592186044416 then ((some (y534 ++ [rd x4 x8] : List Int)).bind fun y539 => (if y539.length + y530.length < 17592186044416 then (spec_l3Draw.l3 k x3 x4 (x6.set (bt487.1 : Int).toNat (y539 ++ y530)) (wrap64 (x8 + 1)) x1000 bt519.2.1 bt519.2.2) else (none))) else (none)) else (none)))) else (none))) else (none)) else (none)))) else (none)) else (none)))) else (some (x6, x1001, x1002))
end
def spec_l3Draw.f (k : Nat) (s0_0 : List Int) (s0_1 : Int) (s0_2 : Int) : Option ((List (List Int)) × Int × Int) := (spec_l1PickInt.f s0_0 s0_1 s0_2 (([0, 0, 1, 2] : List Int))).bind fun bt454 => (spec_l3Draw.l0 k (wrap64 (1 + bt454.1)) (([] : List Int)) 1 s0_0 bt454.2.1 bt454.2.2)
def spec_l3Draw.T25 : Bool × List (List Nat × List Nat) := (true, [([], []), ([], []), ([], []), ([], []), ([2, 3], [2, 3]), ([4], [4]), ([], []), ([5, 6], [5, 6]), ([], []), ([], []), ([8, 9], [8, 9]), ([10], [10]), ([11], [11]), ([7, 12], [7, 12]), ([], []), ([13, 14, 13], [13, 14]), ([0, 1, 0, 1, 2, 3, 4, 5, 6, 7, 8, 9, 10, 11, 12, 13, 14, 15], [0, 1]), ([16, 15, 15, 0, 1, 2, 3, 4, 5, 6, 7, 8, 9, 10, 11, 12, 13, 14, 15], [15, 16])])
def spec_l3Draw.B25 : List Nat := [0, 0, 0, 0, 12, 28, 0, 124, 0, 0, 768, 1792, 3840, 8188, 0, 32764, 65535, 131071]
theorem spec_l3Draw.tab25 : rtab .any (opsOf Try.f84 25) = spec_l3Draw.T25 := by kernel_rfl
theorem spec_l3Draw.bits25 : waitsOk spec_l3Draw.T25.2 spec_l3Draw.B25 = true := by kernel_rfl
set_option maxHeartbeats 8000000 in
set_option maxRecDepth 100000 in
theorem spec_l3Draw.calls (k : Nat) (g : Nat) (s0_0 : List Int) (s0_1 : Int) (s0_2 : Int) (r1 : List (List Int)) (r2 : Int) (r3 : Int) (w0 w : World) (hI : IsS84 w0 w g s0_0 s0_1 s0_2) (hB : Below w0.heap.size w0 w) (h : spec_l3Draw.f k s0_0 s0_1 s0_2 = some (r1, r2, r3)) :
  Calls Try.prog 84 #[.pointer (some ⟨g, 0, none⟩)] w fun e w' => ∃ v0_ : Value, e = .returned (v0_) ∧ Kd.S (Kd.slice 3 (Kd.int .i64)) 27 w' w.heap.size (fun _ => True) v0_ r1 ∧ IsS84 w0 w' g s0_0 r2 r3 ∧ Below w0.heap.size w0 w' ∧ KeepBut w w' g none := by
 have HI0 := Aside0.mk hI
 have HK := Aside0.mk (KeepBut.refl w g none)
 have HL := Aside0.mk hB.size
 clear hI
 have HW0 := Aside0.mk hB.size
 have HB := Aside0.mk hB
 clear hB
 have H := h
 clear h
 unfold spec_l3Draw.f at H
 obtain ⟨y451, hy451⟩ : ∃ y_ : List Int, y_ = (([0, 0, 1, 2] : List Int)) := ⟨_, rfl⟩
 replace H : ((spec_l1PickInt.f s0_0 s0_1 s0_2 y451).bind fun bt454 => (spec_l3Draw.l0 k (wrap64 (1 + bt454.1)) (([] : List Int)) 1 s0_0 bt454.2.1 bt454.2.2)) = some (r1, r2, r3) := zy hy451 H
 have Ny451 := Aside0.mk hy451
 clear hy451
 replace H := Option.bind_eq_some_iff.mp H
 obtain ⟨⟨t454, t455, t456⟩, A20, H⟩ := H
 dsimp only at H
 have A2 := Aside0.mk A20
 clear A20
 obtain ⟨y457, hy457⟩ : ∃ y_ : List Int, y_ = (([] : List Int)) := ⟨_, rfl⟩
 replace H : (spec_l3Draw.l0 k (wrap64 (1 + t454)) y457 1 s0_0 t455 t456) = some (r1, r2, r3) := zy hy457 H
 have Ny457 := Aside0.mk hy457
 clear hy457
 have H' := Aside0.mk H
 clear H
 go_enter Try.func84, Try.ntmps84
 go_wp2_with (first | ((with_reducible refine gate_dst (N := 13) rfl ?_); refine Kd.R_lit (Kd.int .i64) _ 3 ?hg (N := 13) ?hd (xs := ([0, 0, 1, 2] : List Int)) (inner := [.int .i64 0, .int .i64 0, .int .i64 1, .int .i64 2]) (ok := fun _ => True) (okp := fun _ => True) ?hr ?hp (fun _ hk => hk) trivial (Below.refl _ _) (Nat.le_refl _) (by simp) ?_; (case hd => rfl); (case hg => rfl); (case hr => first | (go_simp; done) | (go_simp; rfl)); (case hp => exact (Reps.one (show Kd.M (Kd.int .i64) _ _ _ 0 [.int .i64 0] from rfl) (Reps.one (show Kd.M (Kd.int .i64) _ _ _ 0 [.int .i64 0] from rfl) (Reps.one (show Kd.M (Kd.int .i64) _ _ _ 1 [.int .i64 1] from rfl) (Reps.one (show Kd.M (Kd.int .i64) _ _ _ 2 [.int .i64 2] from rfl) (Reps.none _ _)))))); intro v452 w3 ho4 hb hg_ hnew_; clear hg_ hnew_; (first | rw [← Ny451.out] at ho4 | (simp only [Int.reduceToNat] at ho4; rw [← Ny451.out] at ho4)); have HO453 := Aside0.mk (Kd.R_lower ho4 (keep_size (w := w) (g := g) (row := none) z1)); replace HK := Aside0.mk (KeepBut.trans z1 (KeepBut.of_below hb g none) (.inl rfl)); replace HB := Aside0.mk (below_step z4 hb); replace HI0 := Aside0.mk (IsS84.below z2 hb); clear hb ho4; obtain ⟨Ao5, co5, eo5⟩ := Kd.R_slice HO453.out; subst eo5) | ((with_reducible refine zg 94 rfl ?_); refine zl (some 14) Try.func94 #[.pointer (some ⟨g, 0, none⟩), .slice Ao5 y451.length co5] ?_; (with_reducible refine (spec_l1PickInt.calls g s0_0 s0_1 s0_2 _ _ y451 t454 t455 t456 w0 _ ?side1 ?side2 ?side3 ?side4 ?side5 A2.out).mono ?_); (case side1 => repeat (first | (with_reducible first | exact HI0.out | apply IsS84.alloc | apply IsS84.drewN | apply IsS84.drew | apply IsS84.set_1 | apply IsS84.set_2) | exact HI0.out)); (case side2 => repeat (first | (with_reducible first | exact HB.out | apply below_alloc | apply pw_below_drewN | apply below_drew1 | refine below_set ?_ (IsS84.ge HI0.out)) | exact HB.out)); (case side3 => exact zc (Kd.R_reads' HO453.out).2.2); (case side4 => exact (Kd.R_reads' HO453.out).2.1); (case side5 => exact far_slice (IsS84.own_ne HI0.out HO453.out (by decide))); rintro e w6 ⟨rfl, hi, hb, hk⟩; refine ⟨_, rfl, ?_⟩; replace HO453 := Aside0.mk (Kd.R_mono (Kd.R_keep (IsS84.apart (show IsS84 w0 _ g s0_0 s0_1 s0_2 from z2) (zr HO453.out) (by decide)) hk (fun _ h => h.2)) (fun _ h => h.1)); replace HK := Aside0.mk (KeepBut.trans z1 hk (.inl rfl)); replace HB := Aside0.mk (hb); replace HI0 := Aside0.mk (hi)) | ((with_reducible refine gate_dst (N := 16) rfl ?_); refine Kd.R_lit (Kd.int .i64) _ 3 ?hg (N := 16) ?hd (xs := ([] : List Int)) (inner := []) (ok := fun _ => True) (okp := fun _ => True) ?hr ?hp (fun _ hk => hk) trivial (Below.refl _ _) (Nat.le_refl _) (by simp) ?_; (case hd => rfl); (case hg => rfl); (case hr => first | (go_simp; done) | (go_simp; rfl)); (case hp => exact (Reps.none _ _)); intro v458 w7 ho8 hb hg_ hnew_; clear hg_ hnew_; (first | rw [← Ny457.out] at ho8 | (simp only [Int.reduceToNat] at ho8; rw [← Ny457.out] at ho8)); have HO459 := Aside0.mk (Kd.R_lower (Kd.R_new' ho8 (Kd.R_lt (zr HO453.out))) (keep_size (w := w) (g := g) (row := none) z1)); replace HO453 := Aside0.mk (Kd.R_elder' (zr HO453.out) (Kd.R_base ho8) hb); replace HK := Aside0.mk (KeepBut.trans z1 (KeepBut.of_below hb g none) (.inl rfl)); replace HB := Aside0.mk (below_step z4 hb); replace HI0 := Aside0.mk (IsS84.below z2 hb); clear hb ho8))
 go_loopg [4, 5] k (fun kq v4 v5 w' => ∃ (x4_1 : List Int) (x5_1 : Int) (x1001_1 : Int) (x1002_1 : Int), v5 = .int .i64 x5_1 ∧ Aside0 (spec_l3Draw.l0 kq (wrap64 (1 + t454)) x4_1 x5_1 s0_0 x1001_1 x1002_1 = some (r1, r2, r3)) ∧ Aside0 (kq ≤ k) ∧ Aside0 (Kd.R (Kd.int .i64) 3 w' w.heap.size (fun _ => True) v4 x4_1) ∧ Aside0 (IsS84 w0 w' g s0_0 x1001_1 x1002_1) ∧ Aside0 (KeepBut w w' g none) ∧ Aside0 (Below w0.heap.size w0 w'))
 case atStart => exact ⟨(y457), (1), (t455), (t456), zd, H', ⟨Nat.le_refl _⟩, ⟨by (with_reducible repeat (first | apply Kd.R_alloc | apply Kd.R_drewN | apply Kd.R_drew)); exact Kd.R_mono HO459.out (fun _ hk => trivial)⟩, ⟨z2⟩, ⟨z1⟩, ⟨z4⟩⟩
 case round =>
  clear H'
  try clear p2
  try clear p6
  try clear c8
  obtain ⟨x4_1, x5_1, x1001_1, x1002_1, rfl, HA, HK1, HO_4, HI0, HK, HB⟩ := hrel
  cases gk with
  | zero => exact absurd HA.out (by simp [spec_l3Draw.l0])
  | succ k1 =>
   have H := HA.out
   clear HA
   simp only [spec_l3Draw.l0] at H
   replace H := Option.bind_eq_some_iff.mp H
   obtain ⟨⟨t460, t461, t462⟩, A90, H⟩ := H
   dsimp only at H
   have A9 := Aside0.mk A90
   clear A90
   by_cases c10 : x5_1 ≤ (wrap64 (2 + t460))
   ·
    rw [if_pos c10] at H
    have c10b0 : decide (x5_1 ≤ (wrap64 (2 + t460))) = true := decide_eq_true c10
    clear c10
    by_cases c11 : x4_1.length < 17592186044416
    ·
     rw [if_pos c11] at H
     have LMc11 := Aside0.mk c11
     clear c11
     obtain ⟨y463, hy463⟩ : ∃ y_ : List Int, y_ = (x4_1 ++ [x5_1]) := ⟨_, rfl⟩
     replace H : ((spec_l1Once.f s0_0 t461 t462 4).bind fun bt466 => (if bt466.1 = true then (spec_l3Draw.l0 k1 (wrap64 (1 + t454)) y463 (wrap64 (x5_1 + 1)) s0_0 bt466.2.1 bt466.2.2) else ((spec_l1Below.f s0_0 bt466.2.1 bt466.2.2 2).bind fun bt469 => (if y463.length < 17592186044416 then (spec_l3Draw.l0 k1 (wrap64 (1 + t454)) (y463 ++ [wrap64 (x5_1 * (wrap64 (1 - (wrap64 (2 * bt469.1)))))]) (wrap64 (x5_1 + 1)) s0_0 bt469.2.1 bt469.2.2) else (none))))) = some (r1, r2, r3) := zy hy463 H
     have Ny463 := Aside0.mk hy463
     clear hy463
     replace H := Option.bind_eq_some_iff.mp H
     obtain ⟨⟨t466, t467, t468⟩, A120, H⟩ := H
     dsimp only at H
     have A12 := Aside0.mk A120
     clear A120
     by_cases c13 : t466 = true
     ·
      subst c13
      rw [if_pos rfl] at H
      have H' := Aside0.mk H
      clear H
      go_wp2_with (first | ((with_reducible refine zg 93 rfl ?_); refine zl (some 19) Try.func93 #[.pointer (some ⟨g, 0, none⟩), .int .i64 5] ?_; (with_reducible refine (spec_l1Below.calls g s0_0 x1001_1 x1002_1 5 t460 t461 t462 w0 _ ?side1 ?side2 A9.out).mono ?_); (case side1 => repeat (first | (with_reducible first | exact HI0.out | apply IsS84.alloc | apply IsS84.drewN | apply IsS84.drew | apply IsS84.set_1 | apply IsS84.set_2) | exact HI0.out)); (case side2 => repeat (first | (with_reducible first | exact HB.out | apply below_alloc | apply pw_below_drewN | apply below_drew1 | refine below_set ?_ (IsS84.ge HI0.out)) | exact HB.out)); rintro e w14 ⟨rfl, hi, hb, hk⟩; refine ⟨_, rfl, ?_⟩; replace HO_4 := Aside0.mk (Kd.R_mono (Kd.R_keep (IsS84.apart (show IsS84 w0 _ g s0_0 x1001_1 x1002_1 from z2) (zr HO_4.out) (by decide)) hk (fun _ h => h.2)) (fun _ h => h.1)); replace HK := Aside0.mk (KeepBut.trans z1 hk (.inl rfl)); replace HB := Aside0.mk (hb); replace HI0 := Aside0.mk (hi)) | ((with_reducible refine gate_builtin (b := .append) (xs := #[.tmp 24, .tmp 26]) rfl ?_); at_builtin; refine Kd.R_append (Kd.int .i64) w.heap.size rfl (.tmp 24) (.tmp 26) 27 3 (.int .i64 0) 8 rfl Try.underlying27 info3 rfl (by decide) (by omega) u4 x4_1 x5_1 [.int .i64 x5_1] (fun _ => True) (fun _ => False) rfl rfl ?aP (fun _ hk => hk.elim) ?aF ?aO (Below.refl _ _) ?aS ?aL ?_; (case aP => exact rfl); (case aF => exact (fun _ _ => trivial)); (case aO => exact (zr HO_4.out)); (case aS => exact (keep_size (w := w) (g := g) (row := none) z1)); (case aL => have := LMc11.out; omega); intro v464 w15 ho hb hg hat; rw [← Ny463.out] at ho; have n0_ := Aside0.mk (IsS84.grown z2 hg (IsS84.own_ne HI0.out HO_4.out (by decide))); have n1_ := Aside0.mk (below_weaken z4 HL.out hb); have n2_ := Aside0.mk (KeepBut.trans z1 (KeepBut.of_grown hg g) (Kd.R_base2 HO_4.out)); have n3_ := Aside0.mk (ho); clear HI0; clear HB; clear HK; clear HO_4; have HI0 := n0_; have HB := n1_; have HK := n2_; have HO465 := n3_; clear n0_ n1_ n2_ n3_; clear ho hb hg hat) | ((with_reducible refine zg 96 rfl ?_); refine zl (some 29) Try.func96 #[.pointer (some ⟨g, 0, none⟩), .int .i64 4] ?_; (with_reducible refine (spec_l1Once.calls g s0_0 t461 t462 4 true t467 t468 w0 _ ?side1 ?side2 A12.out).mono ?_); (case side1 => repeat (first | (with_reducible first | exact HI0.out | apply IsS84.alloc | apply IsS84.drewN | apply IsS84.drew | apply IsS84.set_1 | apply IsS84.set_2) | exact HI0.out)); (case side2 => repeat (first | (with_reducible first | exact HB.out | apply below_alloc | apply pw_below_drewN | apply below_drew1 | refine below_set ?_ (IsS84.ge HI0.out)) | exact HB.out)); rintro e w16 ⟨rfl, hi, hb, hk⟩; refine ⟨_, rfl, ?_⟩; replace HO465 := Aside0.mk (Kd.R_mono (Kd.R_keep (IsS84.apart (show IsS84 w0 _ g s0_0 t461 t462 from z2) (zr HO465.out) (by decide)) hk (fun _ h => h.2)) (fun _ h => h.1)); replace HK := Aside0.mk (KeepBut.trans z1 hk (.inl rfl)); replace HB := Aside0.mk (hb); replace HI0 := Aside0.mk (hi)))
      go_roundg k1
      case measure => have := HK1.out; omega
      case rel => exact ⟨(y463), (wrap64 (x5_1 + 1)), (t467), (t468), zd, H', ⟨by have := HK1.out; omega⟩, ⟨zr HO465.out⟩, ⟨z2⟩, ⟨z1⟩, ⟨z4⟩⟩
     ·
      replace c13 := Bool.eq_false_iff.mpr c13
      subst c13
      rw [if_neg (show ¬ (false = true) by decide)] at H
      replace H := Option.bind_eq_some_iff.mp H
      obtain ⟨⟨t469, t470, t471⟩, A170, H⟩ := H
      dsimp only at H
      have A17 := Aside0.mk A170
      clear A170
      by_cases c18 : y463.length < 17592186044416
      ·
       rw [if_pos c18] at H
       have LMc18 := Aside0.mk c18
       clear c18
       obtain ⟨y472, hy472⟩ : ∃ y_ : List Int, y_ = (y463 ++ [wrap64 (x5_1 * (wrap64 (1 - (wrap64 (2 * t469)))))]) := ⟨_, rfl⟩
       replace H : (spec_l3Draw.l0 k1 (wrap64 (1 + t454)) y472 (wrap64 (x5_1 + 1)) s0_0 t470 t471) = some (r1, r2, r3) := zy hy472 H
       have Ny472 := Aside0.mk hy472
       clear hy472
       have H' := Aside0.mk H
       clear H
       go_wp2_with (first | ((with_reducible refine zg 93 rfl ?_); refine zl (some 19) Try.func93 #[.pointer (some ⟨g, 0, none⟩), .int .i64 5] ?_; (with_reducible refine (spec_l1Below.calls g s0_0 x1001_1 x1002_1 5 t460 t461 t462 w0 _ ?side1 ?side2 A9.out).mono ?_); (case side1 => repeat (first | (with_reducible first | exact HI0.out | apply IsS84.alloc | apply IsS84.drewN | apply IsS84.drew | apply IsS84.set_1 | apply IsS84.set_2) | exact HI0.out)); (case side2 => repeat (first | (with_reducible first | exact HB.out | apply below_alloc | apply pw_below_drewN | apply below_drew1 | refine below_set ?_ (IsS84.ge HI0.out)) | exact HB.out)); rintro e w19 ⟨rfl, hi, hb, hk⟩; refine ⟨_, rfl, ?_⟩; replace HO_4 := Aside0.mk (Kd.R_mono (Kd.R_keep (IsS84.apart (show IsS84 w0 _ g s0_0 x1001_1 x1002_1 from z2) (zr HO_4.out) (by decide)) hk (fun _ h => h.2)) (fun _ h => h.1)); replace HK := Aside0.mk (KeepBut.trans z1 hk (.inl rfl)); replace HB := Aside0.mk (hb); replace HI0 := Aside0.mk (hi)) | ((with_reducible refine gate_builtin (b := .append) (xs := #[.tmp 24, .tmp 26]) rfl ?_); at_builtin; refine Kd.R_append (Kd.int .i64) w.heap.size rfl (.tmp 24) (.tmp 26) 27 3 (.int .i64 0) 8 rfl Try.underlying27 info3 rfl (by decide) (by omega) u4 x4_1 x5_1 [.int .i64 x5_1] (fun _ => True) (fun _ => False) rfl rfl ?aP (fun _ hk => hk.elim) ?aF ?aO (Below.refl _ _) ?aS ?aL ?_; (case aP => exact rfl); (case aF => exact (fun _ _ => trivial)); (case aO => exact (zr HO_4.out)); (case aS => exact (keep_size (w := w) (g := g) (row := none) z1)); (case aL => have := LMc11.out; omega); intro v464 w20 ho hb hg hat; rw [← Ny463.out] at ho; have n0_ := Aside0.mk (IsS84.grown z2 hg (IsS84.own_ne HI0.out HO_4.out (by decide))); have n1_ := Aside0.mk (below_weaken z4 HL.out hb); have n2_ := Aside0.mk (KeepBut.trans z1 (KeepBut.of_grown hg g) (Kd.R_base2 HO_4.out)); have n3_ := Aside0.mk (ho); clear HI0; clear HB; clear HK; clear HO_4; have HI0 := n0_; have HB := n1_; have HK := n2_; have HO465 := n3_; clear n0_ n1_ n2_ n3_; clear ho hb hg hat) | ((with_reducible refine zg 96 rfl ?_); refine zl (some 29) Try.func96 #[.pointer (some ⟨g, 0, none⟩), .int .i64 4] ?_; (with_reducible refine (spec_l1Once.calls g s0_0 t461 t462 4 false t467 t468 w0 _ ?side1 ?side2 A12.out).mono ?_); (case side1 => repeat (first | (with_reducible first | exact HI0.out | apply IsS84.alloc | apply IsS84.drewN | apply IsS84.drew | apply IsS84.set_1 | apply IsS84.set_2) | exact HI0.out)); (case side2 => repeat (first | (with_reducible first | exact HB.out | apply below_alloc | apply pw_below_drewN | apply below_drew1 | refine below_set ?_ (IsS84.ge HI0.out)) | exact HB.out)); rintro e w21 ⟨rfl, hi, hb, hk⟩; refine ⟨_, rfl, ?_⟩; replace HO465 := Aside0.mk (Kd.R_mono (Kd.R_keep (IsS84.apart (show IsS84 w0 _ g s0_0 t461 t462 from z2) (zr HO465.out) (by decide)) hk (fun _ h => h.2)) (fun _ h => h.1)); replace HK := Aside0.mk (KeepBut.trans z1 hk (.inl rfl)); replace HB := Aside0.mk (hb); replace HI0 := Aside0.mk (hi)) | ((with_reducible refine zg 93 rfl ?_); refine zl (some 34) Try.func93 #[.pointer (some ⟨g, 0, none⟩), .int .i64 2] ?_; (with_reducible refine (spec_l1Below.calls g s0_0 t467 t468 2 t469 t470 t471 w0 _ ?side1 ?side2 A17.out).mono ?_); (case side1 => repeat (first | (with_reducible first | exact HI0.out | apply IsS84.alloc | apply IsS84.drewN | apply IsS84.drew | apply IsS84.set_1 | apply IsS84.set_2) | exact HI0.out)); (case side2 => repeat (first | (with_reducible first | exact HB.out | apply below_alloc | apply pw_below_drewN | apply below_drew1 | refine below_set ?_ (IsS84.ge HI0.out)) | exact HB.out)); rintro e w22 ⟨rfl, hi, hb, hk⟩; refine ⟨_, rfl, ?_⟩; replace HO465 := Aside0.mk (Kd.R_mono (Kd.R_keep (IsS84.apart (show IsS84 w0 _ g s0_0 t467 t468 from z2) (zr HO465.out) (by decide)) hk (fun _ h => h.2)) (fun _ h => h.1)); replace HK := Aside0.mk (KeepBut.trans z1 hk (.inl rfl)); replace HB := Aside0.mk (hb); replace HI0 := Aside0.mk (hi)) | ((with_reducible refine gate_builtin (b := .append) (xs := #[.tmp 31, .tmp 38]) rfl ?_); at_builtin; refine Kd.R_append (Kd.int .i64) w.heap.size rfl (.tmp 31) (.tmp 38) 27 3 (.int .i64 0) 8 rfl Try.underlying27 info3 rfl (by decide) (by omega) v464 y463 (wrap64 (x5_1 * (wrap64 (1 - (wrap64 (2 * t469)))))) [.int .i64 (wrap64 (x5_1 * (wrap64 (1 - (wrap64 (2 * t469))))))] (fun _ => True) (fun _ => False) rfl rfl ?aP (fun _ hk => hk.elim) ?aF ?aO (Below.refl _ _) ?aS ?aL ?_; (case aP => exact rfl); (case aF => exact (fun _ _ => trivial)); (case aO => exact (zr HO465.out)); (case aS => exact (keep_size (w := w) (g := g) (row := none) z1)); (case aL => have := LMc18.out; omega); intro v473 w23 ho hb hg hat; rw [← Ny472.out] at ho; have n0_ := Aside0.mk (IsS84.grown z2 hg (IsS84.own_ne HI0.out HO465.out (by decide))); have n1_ := Aside0.mk (below_weaken z4 HL.out hb); have n2_ := Aside0.mk (KeepBut.trans z1 (KeepBut.of_grown hg g) (Kd.R_base2 HO465.out)); have n3_ := Aside0.mk (ho); clear HI0; clear HB; clear HK; clear HO465; have HI0 := n0_; have HB := n1_; have HK := n2_; have HO474 := n3_; clear n0_ n1_ n2_ n3_; clear ho hb hg hat))
       go_roundg k1
       case measure => have := HK1.out; omega
       case rel => exact ⟨(y472), (wrap64 (x5_1 + 1)), (t470), (t471), zd, H', ⟨by have := HK1.out; omega⟩, ⟨zr HO474.out⟩, ⟨z2⟩, ⟨z1⟩, ⟨z4⟩⟩
      ·
       rw [if_neg c18] at H
       exact absurd H (by simp)
    ·
     rw [if_neg c11] at H
     exact absurd H (by simp)
   ·
    rw [if_neg c10] at H
    have c10b0 : decide (x5_1 ≤ (wrap64 (2 + t460))) = false := decide_eq_false c10
    clear c10
    have H' := Aside0.mk H
    clear H
    go_wp2_with (first | ((with_reducible refine zg 93 rfl ?_); refine zl (some 19) Try.func93 #[.pointer (some ⟨g, 0, none⟩), .int .i64 5] ?_; (with_reducible refine (spec_l1Below.calls g s0_0 x1001_1 x1002_1 5 t460 t461 t462 w0 _ ?side1 ?side2 A9.out).mono ?_); (case side1 => repeat (first | (with_reducible first | exact HI0.out | apply IsS84.alloc | apply IsS84.drewN | apply IsS84.drew | apply IsS84.set_1 | apply IsS84.set_2) | exact HI0.out)); (case side2 => repeat (first | (with_reducible first | exact HB.out | apply below_alloc | apply pw_below_drewN | apply below_drew1 | refine below_set ?_ (IsS84.ge HI0.out)) | exact HB.out)); rintro e w24 ⟨rfl, hi, hb, hk⟩; refine ⟨_, rfl, ?_⟩; replace HO_4 := Aside0.mk (Kd.R_mono (Kd.R_keep (IsS84.apart (show IsS84 w0 _ g s0_0 x1001_1 x1002_1 from z2) (zr HO_4.out) (by decide)) hk (fun _ h => h.2)) (fun _ h => h.1)); replace HK := Aside0.mk (KeepBut.trans z1 hk (.inl rfl)); replace HB := Aside0.mk (hb); replace HI0 := Aside0.mk (hi)))
    go_loopg [3, 4] k1 (fun kq v3 v4 w' => ∃ (x3_2 : Int) (x4_2 : List Int), v3 = .int .i64 x3_2 ∧ Aside0 (spec_l3Draw.l1 kq x3_2 x4_2 s0_0 t461 t462 = some (r1, r2, r3)) ∧ Aside0 (kq ≤ k1) ∧ Aside0 (Kd.R (Kd.int .i64) 3 w' w.heap.size (fun _ => True) v4 x4_2) ∧ Aside0 (IsS84 w0 w' g s0_0 t461 t462) ∧ Aside0 (KeepBut w w' g none) ∧ Aside0 (Below w0.heap.size w0 w'))
    case atStart => exact ⟨((wrap64 (1 + t454))), (x4_1), zd, H', ⟨Nat.le_refl _⟩, ⟨zr HO_4.out⟩, ⟨z2⟩, ⟨z1⟩, ⟨z4⟩⟩
    case round =>
     clear H'
     try clear c1
     try clear p2
     try clear p6
     try clear c8
     try clear c9
     try clear c10
     try clear c10b0
     try clear c11
     try clear c13
     try clear c18
     try clear p2
     try clear p6
     obtain ⟨x3_2, x4_2, rfl, HA, HK2, HO_4, HI0, HK, HB⟩ := hrel
     cases gk with
     | zero => exact absurd HA.out (by simp [spec_l3Draw.l1])
     | succ k2 =>
      have H := HA.out
      clear HA
      simp only [spec_l3Draw.l1] at H
      by_cases c25 : (x4_2.length : Int) < x3_2
      ·
       rw [if_pos c25] at H
       have c25b0 : decide ((x4_2.length : Int) < x3_2) = true := decide_eq_true c25
       clear c25
       by_cases c26 : x4_2.length < 17592186044416
       ·
        rw [if_pos c26] at H
        have LMc26 := Aside0.mk c26
        clear c26
        obtain ⟨y475, hy475⟩ : ∃ y_ : List Int, y_ = (x4_2 ++ [8]) := ⟨_, rfl⟩
        replace H : (spec_l3Draw.l1 k2 (y475.length : Int) y475 s0_0 t461 t462) = some (r1, r2, r3) := zy hy475 H
        have Ny475 := Aside0.mk hy475
        clear hy475
        have H' := Aside0.mk H
        clear H
        obtain ⟨Ao27, co27, eo27⟩ := Kd.R_slice HO_4.out
        subst eo27
        go_wp2_with (first | ((with_reducible refine gate_builtin (b := .append) (xs := #[.tmp 44, .tmp 45]) rfl ?_); at_builtin; refine Kd.R_append (Kd.int .i64) w.heap.size rfl (.tmp 44) (.tmp 45) 27 3 (.int .i64 0) 8 rfl Try.underlying27 info3 rfl (by decide) (by omega) (.slice Ao27 x4_2.length co27) x4_2 8 [.int .i64 8] (fun _ => True) (fun _ => False) rfl rfl ?aP (fun _ hk => hk.elim) ?aF ?aO (Below.refl _ _) ?aS ?aL ?_; (case aP => exact rfl); (case aF => exact (fun _ _ => trivial)); (case aO => exact (zr HO_4.out)); (case aS => exact (keep_size (w := w) (g := g) (row := none) z1)); (case aL => have := LMc26.out; omega); intro v476 w28 ho hb hg hat; rw [← Ny475.out] at ho; have n0_ := Aside0.mk (IsS84.grown z2 hg (IsS84.own_ne HI0.out HO_4.out (by decide))); have n1_ := Aside0.mk (below_weaken z4 HL.out hb); have n2_ := Aside0.mk (KeepBut.trans z1 (KeepBut.of_grown hg g) (Kd.R_base2 HO_4.out)); have n3_ := Aside0.mk (ho); clear HI0; clear HB; clear HK; clear HO_4; have HI0 := n0_; have HB := n1_; have HK := n2_; have HO477 := n3_; clear n0_ n1_ n2_ n3_; clear ho hb hg hat; obtain ⟨Ao29, co29, eo29⟩ := Kd.R_slice HO477.out; subst eo29))
        go_roundg k2
        case measure => have := HK1.out; have := HK2.out; omega
        case rel => exact ⟨((y475.length : Int)), (y475), zd, H', ⟨by have := HK1.out; have := HK2.out; omega⟩, ⟨zr HO477.out⟩, ⟨z2⟩, ⟨z1⟩, ⟨z4⟩⟩
       ·
        rw [if_neg c26] at H
        exact absurd H (by simp)
      ·
       rw [if_neg c25] at H
       have c25b0 : decide ((x4_2.length : Int) < x3_2) = false := decide_eq_false c25
       clear c25
       obtain ⟨y478, hy478⟩ : ∃ y_ : List (List Int), y_ = (([] : List (List Int))) := ⟨_, rfl⟩
       replace H : (spec_l3Draw.l2 k2 x3_2 x4_2 y478 0 s0_0 t461 t462) = some (r1, r2, r3) := zy hy478 H
       have Ny478 := Aside0.mk hy478
       clear hy478
       have H' := Aside0.mk H
       clear H
       obtain ⟨Ao30, co30, eo30⟩ := Kd.R_slice HO_4.out
       subst eo30
       go_wp2_with (first | ((with_reducible refine gate_dst (N := 49) rfl ?_); refine Kd.S_lit (Kd.slice 3 (Kd.int .i64)) _ 27 ?hg (N := 49) ?hd (xs := ([] : List (List Int))) (inner := []) (ok := fun _ => True) (okp := fun _ => True) ?hr ?hp (fun _ hk => hk) trivial (Below.refl _ _) (Nat.le_refl _) (by simp) ?_; (case hd => rfl); (case hg => rfl); (case hr => first | (go_simp; done) | (go_simp; rfl)); (case hp => exact (Reps.none _ _)); intro v479 w31 ho32 hb hg_ hnew_; clear hg_ hnew_; (first | rw [← Ny478.out] at ho32 | (simp only [Int.reduceToNat] at ho32; rw [← Ny478.out] at ho32)); have HO480 := Aside0.mk (Kd.S_lower (Kd.S_new' ho32 (Kd.R_lt (zr HO_4.out))) (keep_size (w := w) (g := g) (row := none) z1)); replace HO_4 := Aside0.mk (Kd.R_below (zr HO_4.out) hb); replace HK := Aside0.mk (KeepBut.trans z1 (KeepBut.of_below hb g none) (.inl rfl)); replace HB := Aside0.mk (below_step z4 hb); replace HI0 := Aside0.mk (IsS84.below z2 hb); clear hb ho32))
       go_loopg [6, 7] k2 (fun kq v6 v7 w' => ∃ (x6_3 : List (List Int)) (x7_3 : Int), v7 = .int .i64 x7_3 ∧ Aside0 (spec_l3Draw.l2 kq x3_2 x4_2 x6_3 x7_3 s0_0 t461 t462 = some (r1, r2, r3)) ∧ Aside0 (kq ≤ k2) ∧ Aside0 (Kd.R (Kd.int .i64) 3 w' w.heap.size (fun _ => True) (.slice Ao30 x4_2.length co30) x4_2) ∧ Aside0 (Kd.S (Kd.slice 3 (Kd.int .i64)) 27 w' w.heap.size (fun k_ => some k_ ≠ ((.slice Ao30 x4_2.length co30) : Value).ownBlock) v6 x6_3) ∧ Aside0 (IsS84 w0 w' g s0_0 t461 t462) ∧ Aside0 (KeepBut w w' g none) ∧ Aside0 (Below w0.heap.size w0 w'))
       case atStart => exact ⟨(y478), (0), zd, H', ⟨Nat.le_refl _⟩, ⟨zr HO_4.out⟩, ⟨by (with_reducible repeat (first | apply Kd.S_alloc | apply Kd.S_drewN | apply Kd.S_drew)); exact Kd.S_mono HO480.out (fun _ hk => hk.2)⟩, ⟨z2⟩, ⟨z1⟩, ⟨z4⟩⟩
       case round =>
        clear H'
        try clear c1
        try clear c2
        try clear p2
        try clear p6
        try clear c8
        try clear c9
        try clear c10
        try clear c10b0
        try clear c11
        try clear c13
        try clear c18
        try clear c25
        try clear c25b0
        try clear c26
        try clear p2
        try clear p6
        obtain ⟨x6_3, x7_3, rfl, HA, HK3, HO_4, HO_6, HI0, HK, HB⟩ := hrel
        cases gk with
        | zero => exact absurd HA.out (by simp [spec_l3Draw.l2])
        | succ k3 =>
         have H := HA.out
         clear HA
         simp only [spec_l3Draw.l2] at H
         by_cases c33 : x7_3 < x3_2
         ·
          rw [if_pos c33] at H
          have c33b0 : decide (x7_3 < x3_2) = true := decide_eq_true c33
          clear c33
          obtain ⟨y481, hy481⟩ : ∃ y_ : List Int, y_ = (([] : List Int)) := ⟨_, rfl⟩
          replace H : (if x6_3.length < 5864062014805 then (spec_l3Draw.l2 k3 x3_2 x4_2 (x6_3 ++ [y481]) (wrap64 (x7_3 + 1)) s0_0 t461 t462) else (none)) = some (r1, r2, r3) := zy hy481 H
          have Ny481 := Aside0.mk hy481
          clear hy481
          by_cases c34 : x6_3.length < 5864062014805
          ·
           rw [if_pos c34] at H
           have LMc34 := Aside0.mk c34
           clear c34
           obtain ⟨y484, hy484⟩ : ∃ y_ : List (List Int), y_ = (x6_3 ++ [y481]) := ⟨_, rfl⟩
           replace H : (spec_l3Draw.l2 k3 x3_2 x4_2 y484 (wrap64 (x7_3 + 1)) s0_0 t461 t462) = some (r1, r2, r3) := zy hy484 H
           have Ny484 := Aside0.mk hy484
           clear hy484
           have H' := Aside0.mk H
           clear H
           go_wp2_with (first | ((with_reducible refine gate_dst (N := 56) rfl ?_); refine Kd.R_lit (Kd.int .i64) _ 3 ?hg (N := 56) ?hd (xs := ([] : List Int)) (inner := []) (ok := fun _ => True) (okp := fun _ => True) ?hr ?hp (fun _ hk => hk) trivial (Below.refl _ _) (Nat.le_refl _) (by simp) ?_; (case hd => rfl); (case hg => rfl); (case hr => first | (go_simp; done) | (go_simp; rfl)); (case hp => exact (Reps.none _ _)); intro v482 w35 ho36 hb hg_ hnew_; clear hg_ hnew_; (first | rw [← Ny481.out] at ho36 | (simp only [Int.reduceToNat] at ho36; rw [← Ny481.out] at ho36)); replace HO_6 := Aside0.mk (Kd.S_elder' (zs HO_6.out) (Kd.R_base ho36) hb); have HO483 := Aside0.mk (Kd.R_lower (Kd.R_new' ho36 (Kd.R_lt (zr HO_4.out))) (keep_size (w := w) (g := g) (row := none) z1)); replace HO_4 := Aside0.mk (Kd.R_elder' (zr HO_4.out) (Kd.R_base ho36) hb); replace HK := Aside0.mk (KeepBut.trans z1 (KeepBut.of_below hb g none) (.inl rfl)); replace HB := Aside0.mk (below_step z4 hb); replace HI0 := Aside0.mk (IsS84.below z2 hb); clear hb ho36; obtain ⟨Ao38, co38, eo38⟩ := Kd.R_slice HO483.out; subst eo38) | ((with_reducible refine gate_builtin (b := .append) (xs := #[.tmp 55, .tmp 57]) rfl ?_); at_builtin; refine Kd.S_append (Kd.slice 3 (Kd.int .i64)) w.heap.size rfl (.tmp 55) (.tmp 57) 22 27 (.slice none 0 0) 24 rfl Try.underlying22 info27 rfl (by decide) (by omega) u6 x6_3 y481 [.slice Ao38 y481.length co38] (fun k_ => some k_ ≠ (.slice Ao30 x4_2.length co30 : Value).ownBlock) (fun k_ => some k_ = (.slice Ao38 y481.length co38 : Value).ownBlock) rfl rfl ?aP (fun k_ hk_ => ((Kd.R_mono (ok' := fun k_ => ((fun k_ => some k_ ≠ (.slice Ao30 x4_2.length co30 : Value).ownBlock)) k_ ∧ some k_ ≠ (u6 : Value).ownBlock) (Kd.R_apart' (HO483.out) (Kd.S_typed HO_6.out) (by decide)) (fun k_ hk => ⟨hk.1.2, hk.2⟩))).1 k_ hk_.symm) ?aF ?aO (Below.refl _ _) ?aS ?aL ?_; (case aP => exact Kd.M_row (Kd.R_mono (Kd.R_tight rfl (Kd.R_mono (ok' := fun k_ => ((fun k_ => some k_ ≠ (.slice Ao30 x4_2.length co30 : Value).ownBlock)) k_ ∧ some k_ ≠ (u6 : Value).ownBlock) (Kd.R_apart' (HO483.out) (Kd.S_typed HO_6.out) (by decide)) (fun k_ hk => ⟨hk.1.2, hk.2⟩))) (fun _ h_ => h_))); (case aF => exact (fun k_ hk => Kd.fresh' (Kd.R_lt (zr HO_4.out)) k_ hk)); (case aO => exact (by (with_reducible repeat (first | apply Kd.S_alloc | apply Kd.S_drewN | apply Kd.S_drew)); exact Kd.S_mono HO_6.out (fun k_ hk => ⟨hk.1, fun e_ => hk.2 e_⟩))); (case aS => exact (keep_size (w := w) (g := g) (row := none) z1)); (case aL => have := LMc34.out; omega); intro v485 w37 ho hb hg hat; rw [← Ny484.out] at ho; have n0_ := Aside0.mk (Kd.R_over' (zr HO_4.out) (Kd.S_typed (zs HO_6.out)) (by decide) hg); have n1_ := Aside0.mk (IsS84.grown z2 hg (IsS84.own_neS HI0.out HO_6.out (by decide))); have n2_ := Aside0.mk (below_weaken z4 HL.out hb); have n3_ := Aside0.mk (KeepBut.trans z1 (KeepBut.of_grown hg g) (Kd.S_base2 HO_6.out)); have n4_ := Aside0.mk (ho); clear HO_4; clear HI0; clear HB; clear HK; clear HO_6; clear HO483; have HO_4 := n0_; have HI0 := n1_; have HB := n2_; have HK := n3_; have HO486 := n4_; clear n0_ n1_ n2_ n3_ n4_; clear ho hb hg hat))
           go_roundg k3
           case measure => have := HK1.out; have := HK2.out; have := HK3.out; omega
           case rel => exact ⟨(y484), (wrap64 (x7_3 + 1)), zd, H', ⟨by have := HK1.out; have := HK2.out; have := HK3.out; omega⟩, ⟨by (with_reducible repeat (first | apply Kd.R_alloc | apply Kd.R_drewN | apply Kd.R_drew)); exact Kd.R_mono HO_4.out (fun _ hk => trivial)⟩, ⟨zs HO486.out⟩, ⟨z2⟩, ⟨z1⟩, ⟨z4⟩⟩
          ·
           rw [if_neg c34] at H
           exact absurd H (by simp)
         ·
          rw [if_neg c33] at H
          have c33b0 : decide (x7_3 < x3_2) = false := decide_eq_false c33
          clear c33
          have H' := Aside0.mk H
          clear H
          go_wp2
          go_loopg [8] k3 (fun kq v8 w' => ∃ (x6_4 : List (List Int)) (x8_4 : Int) (x1001_4 : Int) (x1002_4 : Int), v8 = .int .i64 x8_4 ∧ Aside0 (spec_l3Draw.l3 kq x3_2 x4_2 x6_4 x8_4 s0_0 x1001_4 x1002_4 = some (r1, r2, r3)) ∧ Aside0 (kq ≤ k3) ∧ Aside0 (Kd.R (Kd.int .i64) 3 w' w.heap.size (fun _ => True) (.slice Ao30 x4_2.length co30) x4_2) ∧ Aside0 (Kd.S (Kd.slice 3 (Kd.int .i64)) 27 w' w.heap.size (fun k_ => some k_ ≠ ((.slice Ao30 x4_2.length co30) : Value).ownBlock) u6 x6_4) ∧ Aside0 (IsS84 w0 w' g s0_0 x1001_4 x1002_4) ∧ Aside0 (KeepBut w w' g none) ∧ Aside0 (Below w0.heap.size w0 w'))
          case atStart => exact ⟨(x6_3), (0), (t461), (t462), zd, H', ⟨Nat.le_refl _⟩, ⟨zr HO_4.out⟩, ⟨zs HO_6.out⟩, ⟨z2⟩, ⟨z1⟩, ⟨z4⟩⟩
          case round =>
           clear H'
           try clear c1
           try clear c2
           try clear p2
           try clear c3
           try clear p6
           try clear c8
           try clear c9
           try clear c10
           try clear c10b0
           try clear c11
           try clear c13
           try clear c18
           try clear c25
           try clear c25b0
           try clear c26
           try clear c33
           try clear c33b0
           try clear c34
           try clear p2
           try clear p6
           obtain ⟨x6_4, x8_4, x1001_4, x1002_4, rfl, HA, HK4, HO_4, HO_6, HI0, HK, HB⟩ := hrel
           cases gk with
           | zero => exact absurd HA.out (by simp [spec_l3Draw.l3])
           | succ k4 =>
            have H := HA.out
            clear HA
            simp only [spec_l3Draw.l3] at H
            by_cases c39 : x8_4 < (x4_2.length : Int)
            ·
             rw [if_pos c39] at H
             have c39b0 : decide (x8_4 < (x4_2.length : Int)) = true := decide_eq_true c39
             clear c39
             replace H := Option.bind_eq_some_iff.mp H
             obtain ⟨⟨t487, t488, t489⟩, A400, H⟩ := H
             dsimp only at H
             have A40 := Aside0.mk A400
             clear A400
             by_cases c41 : x8_4 < x3_2
             ·
              rw [if_pos c41] at H
              have c41b0 : decide (x8_4 < x3_2) = true := decide_eq_true c41
              clear c41
              by_cases c42 : 0 ≤ x8_4
              ·
               rw [if_pos c42] at H
               have c42b0 : decide (0 ≤ x8_4) = true := decide_eq_true c42
               clear c42
               by_cases c43 : x8_4 < (x6_4.length : Int)
               ·
                rw [if_pos c43] at H
                have c43b0 : decide (x8_4 < (x6_4.length : Int)) = true := decide_eq_true c43
                clear c43
                replace H := Option.bind_eq_some_iff.mp H
                obtain ⟨⟨t491, t492, t493⟩, A440, H⟩ := H
                dsimp only at H
                have A44 := Aside0.mk A440
                clear A440
                obtain ⟨y494, hy494⟩ : ∃ y_ : List Int, y_ = (([] : List Int)) := ⟨_, rfl⟩
                replace H : (if 0 ≤ t491 then (if t491 ≤ ((rd_L1 x6_4 x8_4).length : Int) then ((some ((rd_L1 x6_4 x8_4).drop (t491 : Int).toNat : List Int)).bind fun y498 => (if y494.length + y498.length < 17592186044416 then ((some (y494 ++ y498 : List Int)).bind fun y502 => ((some ((rd_L1 x6_4 x8_4).take (t491 : Int).toNat : List Int)).bind fun y506 => (if y506.length < 17592186044416 then ((some (y506 ++ [rd x4_2 x8_4] : List Int)).bind fun y511 => (if y511.length + y502.length < 17592186044416 then (spec_l3Draw.l3 k4 x3_2 x4_2 (x6_4.set (x8_4 : Int).toNat (y511 ++ y502)) (wrap64 (x8_4 + 1)) s0_0 t492 t493) else (none))) else (none)))) else (none))) else (none)) else (none)) = some (r1, r2, r3) := zy hy494 H
                have Ny494 := Aside0.mk hy494
                clear hy494
                by_cases c45 : 0 ≤ t491
                ·
                 rw [if_pos c45] at H
                 have c45b0 := eq_true c45
                 have c45b1 : decide (0 ≤ t491) = true := decide_eq_true c45
                 clear c45
                 by_cases c46 : t491 ≤ ((rd_L1 x6_4 x8_4).length : Int)
                 ·
                  rw [if_pos c46] at H
                  have c46b0 := eq_true c46
                  have c46b1 : decide (t491 ≤ ((rd_L1 x6_4 x8_4).length : Int)) = true := decide_eq_true c46
                  clear c46
                  obtain ⟨y498, hy498⟩ : ∃ y_ : List Int, y_ = ((rd_L1 x6_4 x8_4).drop (t491 : Int).toNat) := ⟨_, rfl⟩
                  replace H : (if y494.length + y498.length < 17592186044416 then ((some (y494 ++ y498 : List Int)).bind fun y502 => ((some ((rd_L1 x6_4 x8_4).take (t491 : Int).toNat : List Int)).bind fun y506 => (if y506.length < 17592186044416 then ((some (y506 ++ [rd x4_2 x8_4] : List Int)).bind fun y511 => (if y511.length + y502.length < 17592186044416 then (spec_l3Draw.l3 k4 x3_2 x4_2 (x6_4.set (x8_4 : Int).toNat (y511 ++ y502)) (wrap64 (x8_4 + 1)) s0_0 t492 t493) else (none))) else (none)))) else (none)) = some (r1, r2, r3) := zy hy498 H
                  have Ny498 := Aside0.mk hy498
                  clear hy498
                  by_cases c47 : y494.length + y498.length < 17592186044416
                  ·
                   rw [if_pos c47] at H
                   have LMc47 := Aside0.mk c47
                   clear c47
                   obtain ⟨y502, hy502⟩ : ∃ y_ : List Int, y_ = (y494 ++ y498) := ⟨_, rfl⟩
                   replace H : ((some ((rd_L1 x6_4 x8_4).take (t491 : Int).toNat : List Int)).bind fun y506 => (if y506.length < 17592186044416 then ((some (y506 ++ [rd x4_2 x8_4] : List Int)).bind fun y511 => (if y511.length + y502.length < 17592186044416 then (spec_l3Draw.l3 k4 x3_2 x4_2 (x6_4.set (x8_4 : Int).toNat (y511 ++ y502)) (wrap64 (x8_4 + 1)) s0_0 t492 t493) else (none))) else (none))) = some (r1, r2, r3) := zy hy502 H
                   have Ny502 := Aside0.mk hy502
                   clear hy502
                   have c48b0 := eq_true (za : 0 ≤ t491)
                   have c49b0 := eq_true (za : t491 ≤ ((rd_L1 x6_4 x8_4).length : Int))
                   obtain ⟨y506, hy506⟩ : ∃ y_ : List Int, y_ = ((rd_L1 x6_4 x8_4).take (t491 : Int).toNat) := ⟨_, rfl⟩
                   replace H : (if y506.length < 17592186044416 then ((some (y506 ++ [rd x4_2 x8_4] : List Int)).bind fun y511 => (if y511.length + y502.length < 17592186044416 then (spec_l3Draw.l3 k4 x3_2 x4_2 (x6_4.set (x8_4 : Int).toNat (y511 ++ y502)) (wrap64 (x8_4 + 1)) s0_0 t492 t493) else (none))) else (none)) = some (r1, r2, r3) := zy hy506 H
                   have Ny506 := Aside0.mk hy506
                   clear hy506
                   by_cases c50 : y506.length < 17592186044416
                   ·
                    rw [if_pos c50] at H
                    have LMc50 := Aside0.mk c50
                    clear c50
                    obtain ⟨y511, hy511⟩ : ∃ y_ : List Int, y_ = (y506 ++ [rd x4_2 x8_4]) := ⟨_, rfl⟩
                    replace H : (if y511.length + y502.length < 17592186044416 then (spec_l3Draw.l3 k4 x3_2 x4_2 (x6_4.set (x8_4 : Int).toNat (y511 ++ y502)) (wrap64 (x8_4 + 1)) s0_0 t492 t493) else (none)) = some (r1, r2, r3) := zy hy511 H
                    have Ny511 := Aside0.mk hy511
                    clear hy511
                    by_cases c51 : y511.length + y502.length < 17592186044416
                    ·
                     rw [if_pos c51] at H
                     have LMc51 := Aside0.mk c51
                     clear c51
                     obtain ⟨y514, hy514⟩ : ∃ y_ : List Int, y_ = (y511 ++ y502) := ⟨_, rfl⟩
                     replace H : (spec_l3Draw.l3 k4 x3_2 x4_2 (x6_4.set (x8_4 : Int).toNat y514) (wrap64 (x8_4 + 1)) s0_0 t492 t493) = some (r1, r2, r3) := zy hy514 H
                     have Ny514 := Aside0.mk hy514
                     clear hy514
                     obtain ⟨y517, hy517⟩ : ∃ y_ : List (List Int), y_ = (x6_4.set (x8_4 : Int).toNat y514) := ⟨_, rfl⟩
                     replace H : (spec_l3Draw.l3 k4 x3_2 x4_2 y517 (wrap64 (x8_4 + 1)) s0_0 t492 t493) = some (r1, r2, r3) := zy hy517 H
                     have Ny517 := Aside0.mk hy517
                     clear hy517
                     have H' := Aside0.mk H
                     clear H
                     try go_wp2_with (first | ((with_reducible refine zg 93 rfl ?_); refine zl (some 67) Try.func93 #[.pointer (some ⟨g, 0, none⟩), .int .i64 x3_2] ?_; (with_reducible refine (spec_l1Below.calls g s0_0 x1001_4 x1002_4 x3_2 t487 t488 t489 w0 _ ?side1 ?side2 A40.out).mono ?_); (case side1 => repeat (first | (with_reducible first | exact HI0.out | apply IsS84.alloc | apply IsS84.drewN | apply IsS84.drew | apply IsS84.set_1 | apply IsS84.set_2) | exact HI0.out)); (case side2 => repeat (first | (with_reducible first | exact HB.out | apply below_alloc | apply pw_below_drewN | apply below_drew1 | refine below_set ?_ (IsS84.ge HI0.out)) | exact HB.out)); rintro e w53 ⟨rfl, hi, hb, hk⟩; refine ⟨_, rfl, ?_⟩; replace HO_4 := Aside0.mk (Kd.R_mono (Kd.R_keep (IsS84.apart (show IsS84 w0 _ g s0_0 x1001_4 x1002_4 from z2) (zr HO_4.out) (by decide)) hk (fun _ h => h.2)) (fun _ h => h.1)); replace HO_6 := Aside0.mk (Kd.S_mono (Kd.S_keep (IsS84.apartS (show IsS84 w0 _ g s0_0 x1001_4 x1002_4 from z2) (zs HO_6.out) (by decide)) hk (fun _ h => h.2)) (fun _ h => h.1)); replace HK := Aside0.mk (KeepBut.trans z1 hk (.inl rfl)); replace HB := Aside0.mk (hb); replace HI0 := Aside0.mk (hi); (try clear hb); (try clear hb2); (try clear hk); (try clear hi); obtain ⟨Ao54, co54, eo54⟩ := Kd.S_slice HO_6.out; subst eo54; have p490 : 0 ≤ (x8_4 : Int) := za; have q490 : x8_4 < (x6_4.length : Int) := za; obtain ⟨ad490, A490_0, c490_0, e490, hx490_0, hl490_0, hi490_0⟩ := at_L1 (Kd.S_reads' HO_6.out).2.2 x8_4 p490 q490; cases e490; obtain ⟨ce490, hce490, hMe490, hcc490⟩ := Kd.S_get HO_6.out [] x8_4 p490 (by first | exact q490 | exact za | (have e_ := (Kd.S_reads' HO_6.out).1; omega)); obtain ⟨ve490_0, rfl, ge490_0⟩ := hMe490; have hv490_0 := hcc490 0 _ rfl; rw [Nat.add_zero, show ((Kd.slice 3 (Kd.int .i64))).sz = 1 from rfl, Nat.mul_one] at hv490_0; replace hv490_0 := Option.some.inj (hv490_0.symm.trans hx490_0); rw [hv490_0] at ge490_0; have HL490_0 := Aside0.mk (show Kd.R (Kd.int .i64) 3 _ _ _ _ (rd_L1 x6_4 x8_4) from ge490_0); clear hv490_0 ge490_0; have HX490_0 := Aside0.mk hx490_0; clear hcc490 hce490; have HR490_0 := Aside0.mk hi490_0; have HC490_0 := Aside0.mk hl490_0; clear hi490_0 hl490_0; replace p490 := eq_true p490; replace q490 := eq_true q490) | ((with_reducible refine zg 93 rfl ?_); refine zl (some 79) Try.func93 #[.pointer (some ⟨g, 0, none⟩), .int .i64 (wrap64 (((rd_L1 x6_4 x8_4).length : Int) + 1))] ?_; (with_reducible refine (spec_l1Below.calls g s0_0 t488 t489 (wrap64 (((rd_L1 x6_4 x8_4).length : Int) + 1)) t491 t492 t493 w0 _ ?side1 ?side2 A44.out).mono ?_); (case side1 => repeat (first | (with_reducible first | exact HI0.out | apply IsS84.alloc | apply IsS84.drewN | apply IsS84.drew | apply IsS84.set_1 | apply IsS84.set_2) | exact HI0.out)); (case side2 => repeat (first | (with_reducible first | exact HB.out | apply below_alloc | apply pw_below_drewN | apply below_drew1 | refine below_set ?_ (IsS84.ge HI0.out)) | exact HB.out)); rintro e w55 ⟨rfl, hi, hb, hk⟩; refine ⟨_, rfl, ?_⟩; replace HO_4 := Aside0.mk (Kd.R_mono (Kd.R_keep (IsS84.apart (show IsS84 w0 _ g s0_0 t488 t489 from z2) (zr HO_4.out) (by decide)) hk (fun _ h => h.2)) (fun _ h => h.1)); replace HL490_0 := Aside0.mk (Kd.R_mono (Kd.R_keep (IsS84.apart (show IsS84 w0 _ g s0_0 t488 t489 from z2) (zr HL490_0.out) (by decide)) hk (fun _ h => h.2)) (fun _ h => h.1)); replace HX490_0 := Aside0.mk (keep_cell hk HX490_0.out (by first | (rw [add_block]; exact Kd.own_blk (IsS84.own_neS HI0.out HO_6.out (by decide))) | (show (Addr.add _ _).block ≠ _; rw [add_block]; exact Kd.own_blk (IsS84.own_neS HI0.out HO_6.out (by decide))) | exact Kd.own_blk (IsS84.own_neS HI0.out HO_6.out (by decide)) | (dsimp only; exact Kd.own_blk (IsS84.own_neS HI0.out HO_6.out (by decide))))); replace HO_6 := Aside0.mk (Kd.S_mono (Kd.S_keep (IsS84.apartS (show IsS84 w0 _ g s0_0 t488 t489 from z2) (zs HO_6.out) (by decide)) hk (fun _ h => h.2)) (fun _ h => h.1)); replace HK := Aside0.mk (KeepBut.trans z1 hk (.inl rfl)); replace HB := Aside0.mk (hb); replace HI0 := Aside0.mk (hi)) | ((with_reducible refine gate_dst (N := 80) rfl ?_); refine Kd.R_lit (Kd.int .i64) _ 3 ?hg (N := 80) ?hd (xs := ([] : List Int)) (inner := []) (ok := fun _ => True) (okp := fun _ => True) ?hr ?hp (fun _ hk => hk) trivial (Below.refl _ _) (Nat.le_refl _) (by simp) ?_; (case hd => rfl); (case hg => rfl); (case hr => first | (go_simp; done) | (go_simp; rfl)); (case hp => exact (Reps.none _ _)); intro v495 w56 ho57 hb hg_ hnew_; clear hg_ hnew_; (first | rw [← Ny494.out] at ho57 | (simp only [Int.reduceToNat] at ho57; rw [← Ny494.out] at ho57)); replace HO_6 := Aside0.mk (Kd.S_elder' (zs HO_6.out) (Kd.R_base ho57) hb); have HO496 := Aside0.mk (Kd.R_lower (Kd.R_new' (Kd.R_new' ho57 (Kd.R_lt (zr HO_4.out))) (Kd.R_lt (zr HL490_0.out))) (keep_size (w := w) (g := g) (row := none) z1)); replace HO_4 := Aside0.mk (Kd.R_elder' (zr HO_4.out) (Kd.R_base ho57) hb); replace HL490_0 := Aside0.mk (Kd.R_elder' (zr HL490_0.out) (Kd.R_base ho57) hb); replace HX490_0 := Aside0.mk (pw_cell_below hb HX490_0.out); replace HK := Aside0.mk (KeepBut.trans z1 (KeepBut.of_below hb g none) (.inl rfl)); replace HB := Aside0.mk (below_step z4 hb); replace HI0 := Aside0.mk (IsS84.below z2 hb); clear hb ho57; have p497 : 0 ≤ (x8_4 : Int) := za; have q497 : x8_4 < (x6_4.length : Int) := za; obtain ⟨ad497, A497_0, c497_0, e497, hx497_0, hl497_0, hi497_0⟩ := at_L1 (Kd.S_reads' HO_6.out).2.2 x8_4 p497 q497; obtain rfl : ad490 = ad497 := (by injection e497); obtain ⟨ce497, hce497, hMe497, hcc497⟩ := Kd.S_get HO_6.out [] x8_4 p497 (by first | exact q497 | exact za | (have e_ := (Kd.S_reads' HO_6.out).1; omega)); obtain ⟨ve497_0, rfl, ge497_0⟩ := hMe497; have hv497_0 := hcc497 0 _ rfl; rw [Nat.add_zero, show ((Kd.slice 3 (Kd.int .i64))).sz = 1 from rfl, Nat.mul_one] at hv497_0; replace hv497_0 := Option.some.inj (hv497_0.symm.trans hx497_0); rw [hv497_0] at ge497_0; have HL497_0 := Aside0.mk (show Kd.R (Kd.int .i64) 3 _ _ _ _ (rd_L1 x6_4 x8_4) from ge497_0); clear hv497_0 ge497_0; have HX497_0 := Aside0.mk hx497_0; clear hcc497 hce497; have HR497_0 := Aside0.mk hi497_0; have HC497_0 := Aside0.mk hl497_0; clear hi497_0 hl497_0; replace p497 := eq_true p497; replace q497 := eq_true q497; have q58 : (t491 : Int) ≤ (((rd_L1 x6_4 x8_4).length : Int) : Int) := za; obtain ⟨i058, hi058, _, hsz58, _⟩ := info_parts info3; have hroom58 : (rd_L1 x6_4 x8_4).length ≤ c497_0 := HC497_0.out; have hC58 : Kd.C (Kd.int .i64) _ A497_0 (rd_L1 x6_4 x8_4).length (rd_L1 x6_4 x8_4) := (by repeat (first | (with_reducible exact HR497_0.out) | (with_reducible refine Kd.C_alloc ?_ _) | (with_reducible refine Kd.C_drewN ?_ _) | (with_reducible refine Kd.C_drew ?_) | exact HR497_0.out)); have q058 : (0 : Int) ≤ (t491 : Int) := za; have hcut58 := cut_from (P := Try.prog) 27 3 .i64 Try.underlying27 hi058 1 hsz58 A497_0 (rd_L1 x6_4 x8_4).length c497_0 t491 q058 q58; have hr58 := Kd.C_drop (m := (t491 : Int).toNat) (c := c497_0) hC58 (by omega) hroom58; obtain ⟨A58, hA58⟩ : ∃ A1, A1 = (if c497_0 = (t491 : Int).toNat then A497_0 else (A497_0 : Option Addr).map (·.add ((t491 : Int).toNat * 1))) := ⟨_, rfl⟩; obtain ⟨c58, hc58⟩ : ∃ c1, c1 = c497_0 - (t491 : Int).toNat := ⟨_, rfl⟩; have hy58 : y498.length = (rd_L1 x6_4 x8_4).length - (t491 : Int).toNat := (by rw [Ny498.out, List.length_drop] <;> omega); rw [show (rd_L1 x6_4 x8_4).drop (t491 : Int).toNat = y498 from Ny498.out.symm] at hr58; replace hr58 : Kd.C (Kd.int .i64) _ A58 y498.length y498 := (by rw [hA58]; exact hr58); rw [← hy58, ← hA58, ← hc58] at hcut58; have HR501 := Aside0.mk hr58; have HC501 := Aside0.mk (show y498.length ≤ c58 from by rw [hy58, hc58]; exact Nat.sub_le_sub_right hroom58 _); clear hr58 hC58 hroom58 hi058 hsz58 hc58; have KY58 := Aside0.mk hy58; have KA58 := Aside0.mk hA58; clear hy58 hA58; replace q58 := eq_true q58) | ((with_reducible refine gate_builtin (b := .append) (xs := #[.tmp 80, .tmp 86]) rfl ?_); at_builtin; refine Kd.R_append_rows (Kd.int .i64) w.heap.size rfl (.tmp 80) (.tmp 86) 27 3 (.int .i64 0) 8 rfl Try.underlying27 info3 rfl (by decide) (by omega) v495 y494 y498 _ _ _ (fun k_ => some k_ ≠ (.slice Ao30 x4_2.length co30 : Value).ownBlock ∧ some k_ ≠ (.slice A490_0 (rd_L1 x6_4 x8_4).length c490_0 : Value).ownBlock) (fun _ => False) rfl rfl ?aO ?aR (fun _ _ h => h) (fun _ h => h.elim) ?aF (Below.refl _ _) ?aS ?aL ?_; (case aR => repeat (first | exact (by repeat (first | (with_reducible exact HR501.out) | (with_reducible refine Kd.C_alloc ?_ _) | (with_reducible refine Kd.C_drewN ?_ _) | (with_reducible refine Kd.C_drew ?_) | exact HR501.out)) | (with_reducible refine Kd.C_alloc ?_ _) | (with_reducible refine Kd.C_drewN ?_ _) | (with_reducible refine Kd.C_drew ?_))); (case aF => exact (fun k_ hk => ⟨Kd.fresh' (Kd.R_lt (zr HO_4.out)) k_ hk, Kd.fresh' (Kd.R_lt (zr HL490_0.out)) k_ hk⟩)); (case aO => exact (by (with_reducible repeat (first | apply Kd.R_alloc | apply Kd.R_drewN | apply Kd.R_drew)); exact Kd.R_mono HO496.out (fun _ hk => ⟨hk.1.2, hk.2⟩))); (case aS => exact (keep_size (w := w) (g := g) (row := none) z1)); (case aL => have := LMc47.out; omega); intro v503 w59 ho hb hg hat; rw [← Ny502.out] at ho; have n0_ := Aside0.mk (Kd.R_after (ok := (fun _ => True)) (zr HO_4.out) hg hat); have n1_ := Aside0.mk (Kd.S_after (ok := (fun k_ => some k_ ≠ (.slice Ao30 x4_2.length co30 : Value).ownBlock)) (zs HO_6.out) hg hat); have n2_ := Aside0.mk (IsS84.grown z2 hg (IsS84.own_ne HI0.out HO496.out (by decide))); have n3_ := Aside0.mk (Kd.R_after (ok := (fun k_ => some k_ ≠ (.slice Ao30 x4_2.length co30 : Value).ownBlock ∧ some k_ ≠ (.slice (some ad490) x6_4.length co54 : Value).ownBlock)) (zr HL490_0.out) hg hat); have n4_ := Aside0.mk (Kd.R_after (ok := (fun k_ => some k_ ≠ (.slice Ao30 x4_2.length co30 : Value).ownBlock ∧ some k_ ≠ (.slice (some ad490) x6_4.length co54 : Value).ownBlock)) (by (with_reducible repeat (first | apply Kd.R_alloc | apply Kd.R_drewN | apply Kd.R_drew)); exact Kd.R_mono HL497_0.out (fun _ hk => ⟨⟨hk.1.1, hk.2⟩, hk.1.2⟩)) hg hat); have n5_ := Aside0.mk (below_weaken z4 HL.out hb); have n6_ := Aside0.mk (KeepBut.trans z1 (KeepBut.of_grown hg g) (Kd.R_base2 HO496.out)); have n7_ := Aside0.mk (ho); clear HO_4; clear HO_6; clear HI0; clear HL490_0; clear HL497_0; clear HB; clear HK; clear HO496; have HO_4 := n0_; have HO_6 := n1_; have HI0 := n2_; have HL490_0 := n3_; have HL497_0 := n4_; have HB := n5_; have HK := n6_; have HO504 := n7_; clear n0_ n1_ n2_ n3_ n4_ n5_ n6_ n7_; clear ho hb hg hat))
                     have n0_ := Aside0.mk (Kd.R_drew HO_4.out)
                     have n1_ := Aside0.mk (Kd.S_drew HO_6.out)
                     have n2_ := Aside0.mk (Kd.R_drew HL490_0.out)
                     have n3_ := Aside0.mk (Kd.R_drew HL497_0.out)
                     have n4_ := Aside0.mk (Kd.R_drew HO504.out)
                     have n5_ := Aside0.mk (IsS84.drew HI0.out)
                     have n6_ := Aside0.mk (keep_drew HK.out)
                     have n7_ := Aside0.mk (below_drew1 HB.out)
                     clear HO_4
                     clear HO_6
                     clear HL490_0
                     clear HL497_0
                     clear HO504
                     clear HI0
                     clear HK
                     clear HB
                     have HO_4 := n0_
                     have HO_6 := n1_
                     have HL490_0 := n2_
                     have HL497_0 := n3_
                     have HO504 := n4_
                     have HI0 := n5_
                     have HK := n6_
                     have HB := n7_
                     clear n0_ n1_ n2_ n3_ n4_ n5_ n6_ n7_
                     have p505 : 0 ≤ (x8_4 : Int) := za
                     have q505 : x8_4 < (x6_4.length : Int) := za
                     obtain ⟨ad505, A505_0, c505_0, e505, hx505_0, hl505_0, hi505_0⟩ := at_L1 (Kd.S_reads' HO_6.out).2.2 x8_4 p505 q505
                     obtain rfl : ad490 = ad505 := (by injection e505)
                     obtain ⟨ce505, hce505, hMe505, hcc505⟩ := Kd.S_get HO_6.out [] x8_4 p505 (by first | exact q505 | exact za | (have e_ := (Kd.S_reads' HO_6.out).1; omega))
                     obtain ⟨ve505_0, rfl, ge505_0⟩ := hMe505
                     have hv505_0 := hcc505 0 _ rfl
                     rw [Nat.add_zero, show ((Kd.slice 3 (Kd.int .i64))).sz = 1 from rfl, Nat.mul_one] at hv505_0
                     replace hv505_0 := Option.some.inj (hv505_0.symm.trans hx505_0)
                     rw [hv505_0] at ge505_0
                     have HL505_0 := Aside0.mk (show Kd.R (Kd.int .i64) 3 _ _ _ _ (rd_L1 x6_4 x8_4) from ge505_0)
                     clear hv505_0 ge505_0
                     have HX505_0 := Aside0.mk hx505_0
                     clear hcc505 hce505
                     have HR505_0 := Aside0.mk hi505_0
                     have HC505_0 := Aside0.mk hl505_0
                     clear hi505_0 hl505_0
                     replace p505 := eq_true p505
                     replace q505 := eq_true q505
                     have q61 : (t491 : Int) ≤ (((rd_L1 x6_4 x8_4).length : Int) : Int) := za
                     obtain ⟨i061, hi061, _, hsz61, _⟩ := info_parts info3
                     have hroom61 : (rd_L1 x6_4 x8_4).length ≤ c505_0 := HC505_0.out
                     have hC61 : Kd.C (Kd.int .i64) _ A505_0 (rd_L1 x6_4 x8_4).length (rd_L1 x6_4 x8_4) := (by repeat (first | (with_reducible exact HR505_0.out) | (with_reducible refine Kd.C_alloc ?_ _) | (with_reducible refine Kd.C_drewN ?_ _) | (with_reducible refine Kd.C_drew ?_) | exact HR505_0.out))
                     have hcut61 := cut_to (P := Try.prog) 27 3 .i64 Try.underlying27 hi061 A505_0 (rd_L1 x6_4 x8_4).length c505_0 t491 (za) q61 hroom61
                     have hr61 := Kd.C_take (m := (t491 : Int).toNat) hC61 (by omega)
                     have hy61 : y506.length = (t491 : Int).toNat := (by rw [Ny506.out, List.length_take]; omega)
                     rw [← Ny506.out] at hr61
                     rw [← hy61] at hcut61
                     have HR509 := Aside0.mk hr61
                     have HC509 := Aside0.mk (show y506.length ≤ c505_0 from by omega)
                     clear hr61 hC61 hroom61 hi061 hsz61
                     have KY61 := Aside0.mk hy61
                     clear hy61
                     replace q61 := eq_true q61
                     have p510 : 0 ≤ (x8_4 : Int) := za
                     have q510 : x8_4 < (x4_2.length : Int) := za
                     obtain ⟨ad510, e510, hx510_0⟩ := Kd.at_int (Kd.R_reads' HO_4.out).2.2 x8_4 p510 q510
                     cases e510
                     replace p510 := eq_true p510
                     replace q510 := eq_true q510
                     obtain ⟨go62, co62, eo62, gb62, gl62, cl62, HG62⟩ := Kd.S_form HO_6.out (by have h_ : (x8_4 : Int) < ((x6_4.length : Int) : Int) := za; have h2_ : 0 ≤ (x8_4 : Int) := (za); omega)
                     (first | cases eo62 | (injection eo62 with ea_ en_ ec_; (first | subst ea_ | (injection ea_ with ea_; subst ea_)); subst ec_; clear en_))
                     have GB62 := Aside0.mk gb62
                     have GG62 := Aside0.mk HG62
                     clear gb62 gl62 HG62
                     (first | simp only [add_plain] at hx490_0 | skip)
                     (first | simp only [add_plain] at hx497_0 | skip)
                     (first | simp only [add_plain] at hx505_0 | skip)
                     obtain ⟨oki62, ce62, hcl62, hM62, hcc62, _, hoki62, hH62⟩ := Kd.S_elem HO_6.out [] (x8_4 : Int) (za) (by have h_ : (x8_4 : Int) < ((x6_4.length : Int) : Int) := za; first | exact h_ | (have e_ := (Kd.S_reads' HO_6.out).1; omega) | simpa using h_)
                     obtain ⟨ve62_0, rfl, ge62_0⟩ := hM62
                     have hv62 := hcc62 0 _ rfl
                     have hX62 := HX505_0.out
                     (try simp only [add_plain] at hX62)
                     (try simp only [Nat.add_zero] at hv62)
                     (try rw [show ((Kd.slice 3 (Kd.int .i64))).sz = 1 from rfl, Nat.mul_one] at hv62)
                     replace hv62 := Option.some.inj (hv62.symm.trans hX62)
                     subst hv62
                     clear hX62 hcc62 hcl62
                     have UU62 := Aside0.mk (show Kd.R (Kd.int .i64) 3 _ w.heap.size oki62 (.slice A505_0 (rd_L1 x6_4 x8_4).length c505_0) (rd_L1 x6_4 x8_4) from ge62_0)
                     have HH62 := Aside0.mk hH62
                     have HN62 := Aside0.mk (Kd.S_reads' HO_6.out).1
                     clear hH62 ge62_0
                     have hle62 : (t491 : Int) ≤ ((rd_L1 x6_4 x8_4).length : Int) := za
                     have ur62 := Kd.R_take (m := (t491 : Int).toNat) UU62.out (by omega)
                     have uy62 : y506.length = (t491 : Int).toNat := (by rw [Ny506.out, List.length_take]; omega)
                     rw [← Ny506.out] at ur62
                     rw [← uy62] at ur62
                     have UC62 := Aside0.mk ur62
                     clear ur62 uy62 hle62
                     have hle62 : (t491 : Int) ≤ ((rd_L1 x6_4 x8_4).length : Int) := za
                     have ur62 := Kd.R_take (m := (t491 : Int).toNat) HL505_0.out (by omega)
                     have uy62 : y506.length = (t491 : Int).toNat := (by rw [Ny506.out, List.length_take]; omega)
                     rw [← Ny506.out] at ur62
                     rw [← uy62] at ur62
                     have UL62 := Aside0.mk ur62
                     clear ur62 uy62 hle62
                     have HK62_ := Aside0.mk (show ∀ k_, oki62 k_ → ((fun k_ => some k_ ≠ (.slice (some ad510) x4_2.length co30 : Value).ownBlock ∧ some k_ ≠ (v503 : Value).ownBlock)) k_ from fun k_ h2_ => (hoki62 k_ h2_).1)
                     clear hoki62
                     refine start_ (n := 18) (S := fun w' => w'.cell? ⟨go62, (x8_4).toNat, none⟩ = some (.slice A505_0 (rd_L1 x6_4 x8_4).length c505_0) ∧ w'.cell? (ad510.add (x8_4).toNat) = some (.int .i64 (rd x4_2 x8_4))) (ds := [13, 15, 17]) #[false, false, false, false, false, false, false, false, false, false, false, false, false, false, false, false, false, false] (by kernel_rfl) rfl rfl ⟨hx505_0, hx510_0⟩ (fun hHeld => ?_); refine with_tabW spec_l3Draw.tab25 spec_l3Draw.bits25 (fun HT_ HW_ => ?_)
                     generalize w59.drew = w60 at HO_4 HO_6 HL490_0 HL497_0 HO504 HI0 HK HB GG62 HH62 HL505_0 HR505_0 HR509 HX505_0 UC62 UL62 UU62 hx490_0 hx497_0 hx505_0 hx510_0 hHeld ⊢
                     refine pure_ (i := 0) (N := some 88) (v := ?_) (a' := ?_) #[true, false, false, false, false, false, false, false, false, false, false, false, false, false, false, false, false, false] rfl rfl (any_of HT_.out (by kernel_rfl)) (fun _ _ _ h => h) (Or.inl ⟨by rfl, ?_⟩) ?_ ?_
                     rotate_left
                     ·
                      intro w'
                      go_simp
                      with_reducible rfl
                     rotate_left
                     ·
                      simp only [Act.put, List.setIfInBounds_toArray, List.set_cons_zero, List.set_cons_succ, i64_w, i32_w]
                      rfl
                     refine pure_ (i := 1) (N := some 89) (v := ?_) (a' := ?_) #[true, true, false, false, false, false, false, false, false, false, false, false, false, false, false, false, false, false] rfl rfl (any_of HT_.out (by kernel_rfl)) (fun _ _ _ h => h) (Or.inl ⟨by rfl, ?_⟩) ?_ ?_
                     rotate_left
                     ·
                      intro w'
                      go_simp
                      with_reducible rfl
                     rotate_left
                     ·
                      simp only [Act.put, List.setIfInBounds_toArray, List.set_cons_zero, List.set_cons_succ, i64_w, i32_w]
                      rfl
                     refine pure_ (i := 2) (N := some 90) (v := ?_) (a' := ?_) #[true, true, true, false, false, false, false, false, false, false, false, false, false, false, false, false, false, false] rfl rfl (any_of HT_.out (by kernel_rfl)) (fun _ _ _ h => h) (Or.inl ⟨by rfl, ?_⟩) ?_ ?_
                     rotate_left
                     ·
                      intro w'
                      go_simp
                      with_reducible rfl
                     rotate_left
                     ·
                      simp only [Act.put, List.setIfInBounds_toArray, List.set_cons_zero, List.set_cons_succ, i64_w, i32_w]
                      rfl
                     refine pure_ (i := 3) (N := some 91) (v := ?_) (a' := ?_) #[true, true, true, true, false, false, false, false, false, false, false, false, false, false, false, false, false, false] rfl rfl (any_of HT_.out (by kernel_rfl)) (fun _ _ _ h => h) (Or.inl ⟨by rfl, ?_⟩) ?_ ?_
                     rotate_left
                     ·
                      intro w'
                      go_simp
                      with_reducible rfl
                     rotate_left
                     ·
                      simp only [Act.put, List.setIfInBounds_toArray, List.set_cons_zero, List.set_cons_succ, i64_w, i32_w]
                      rfl
                     refine pure_ (i := 4) (N := some 92) (v := ?_) (a' := ?_) #[true, true, true, true, true, false, false, false, false, false, false, false, false, false, false, false, false, false] rfl rfl (any_of HT_.out (by kernel_rfl)) (fun _ _ _ h => h) (Or.inl ⟨by rfl, ?_⟩) ?_ ?_
                     rotate_left
                     ·
                      intro w'
                      go_simp
                      with_reducible rfl
                     rotate_left
                     ·
                      simp only [Act.put, List.setIfInBounds_toArray, List.set_cons_zero, List.set_cons_succ, i64_w, i32_w]
                      rfl
                     refine pure_ (i := 6) (N := some 94) (v := ?_) (a' := ?_) #[true, true, true, true, true, false, true, false, false, false, false, false, false, false, false, false, false, false] rfl rfl (any_of HT_.out (by kernel_rfl)) (fun _ _ _ h => h) (Or.inl ⟨by rfl, ?_⟩) ?_ ?_
                     rotate_left
                     ·
                      intro w'
                      go_simp
                      with_reducible rfl
                     rotate_left
                     ·
                      simp only [Act.put, List.setIfInBounds_toArray, List.set_cons_zero, List.set_cons_succ, i64_w, i32_w]
                      rfl
                     refine pure_ (i := 8) (N := some 96) (v := ?_) (a' := ?_) #[true, true, true, true, true, false, true, false, true, false, false, false, false, false, false, false, false, false] rfl rfl (any_of HT_.out (by kernel_rfl)) (fun _ _ _ h => h) (Or.inl ⟨by rfl, ?_⟩) ?_ ?_
                     rotate_left
                     ·
                      intro w'
                      go_simp
                      with_reducible rfl
                     rotate_left
                     ·
                      simp only [Act.put, List.setIfInBounds_toArray, List.set_cons_zero, List.set_cons_succ, i64_w, i32_w]
                      rfl
                     refine pure_ (i := 9) (N := some 97) (v := ?_) (a' := ?_) #[true, true, true, true, true, false, true, false, true, true, false, false, false, false, false, false, false, false] rfl rfl (any_of HT_.out (by kernel_rfl)) (fun _ _ _ h => h) (Or.inl ⟨by rfl, ?_⟩) ?_ ?_
                     rotate_left
                     ·
                      intro w'
                      go_simp
                      with_reducible rfl
                     rotate_left
                     ·
                      simp only [Act.put, List.setIfInBounds_toArray, List.set_cons_zero, List.set_cons_succ, i64_w, i32_w]
                      rfl
                     refine pure_ (i := 10) (N := some 98) (v := ?_) (a' := ?_) #[true, true, true, true, true, false, true, false, true, true, true, false, false, false, false, false, false, false] rfl rfl (any_of HT_.out (by kernel_rfl)) (fun _ _ _ h => h) (Or.inl ⟨by rfl, ?_⟩) ?_ ?_
                     rotate_left
                     ·
                      intro w'
                      go_simp
                      with_reducible rfl
                     rotate_left
                     ·
                      simp only [Act.put, List.setIfInBounds_toArray, List.set_cons_zero, List.set_cons_succ, i64_w, i32_w]
                      rfl
                     refine pure_ (i := 14) (N := some 102) (v := ?_) (a' := ?_) #[true, true, true, true, true, false, true, false, true, true, true, false, false, false, true, false, false, false] rfl rfl (any_of HT_.out (by kernel_rfl)) (fun _ _ _ h => h) (Or.inl ⟨by rfl, ?_⟩) ?_ ?_
                     rotate_left
                     ·
                      intro w'
                      go_simp
                      with_reducible rfl
                     rotate_left
                     ·
                      simp only [Act.put, List.setIfInBounds_toArray, List.set_cons_zero, List.set_cons_succ, i64_w, i32_w]
                      rfl
                     refine take_ (i := 5) (N := some 93) (v := ?_) (a' := ?_) #[true, true, true, true, true, true, true, false, true, true, true, false, false, false, true, false, false, false] rfl rfl (take_ofW HT_.out HW_.out (by kernel_rfl)) (fun _ _ _ h => h) (Or.inl ⟨by rfl, ?_⟩) hHeld ?_ ?_
                     rotate_left
                     ·
                      rintro w' ⟨s0, s1⟩
                      go_simp
                      with_reducible rfl
                     rotate_left
                     ·
                      simp only [Act.put, List.setIfInBounds_toArray, List.set_cons_zero, List.set_cons_succ, i64_w, i32_w]
                      rfl
                     refine pure_ (i := 7) (N := some 95) (v := ?_) (a' := ?_) #[true, true, true, true, true, true, true, true, true, true, true, false, false, false, true, false, false, false] rfl rfl (any_of HT_.out (by kernel_rfl)) (fun _ _ _ h => h) (Or.inl ⟨by rfl, ?_⟩) ?_ ?_
                     rotate_left
                     ·
                      intro w'
                      go_simp
                      with_reducible rfl
                     rotate_left
                     ·
                      simp only [Act.put, List.setIfInBounds_toArray, List.set_cons_zero, List.set_cons_succ, i64_w, i32_w]
                      rfl
                     refine take_ (i := 11) (N := some 99) (v := ?_) (a' := ?_) #[true, true, true, true, true, true, true, true, true, true, true, true, false, false, true, false, false, false] rfl rfl (take_ofW HT_.out HW_.out (by kernel_rfl)) (fun _ _ _ h => h) (Or.inl ⟨by rfl, ?_⟩) hHeld ?_ ?_
                     rotate_left
                     ·
                      rintro w' ⟨s0, s1⟩
                      go_simp
                      with_reducible rfl
                     rotate_left
                     ·
                      simp only [Act.put, List.setIfInBounds_toArray, List.set_cons_zero, List.set_cons_succ, i64_w, i32_w]
                      rfl
                     refine one_ (i := 12) (N := some 100) #[true, true, true, true, true, true, true, true, true, true, true, true, true, false, true, false, false, false] rfl rfl (one_of HT_.out (by kernel_rfl)) (by decide) (fun K hK => ?_)
                     refine value_ (w1 := ?_) (v := ?_) (by rfl) rfl ?_ ?_
                     rotate_left 2
                     ·
                      go_simp
                      constructor
                      ·
                       rfl
                      ·
                       rfl
                     refine hK.out _ _ ⟨(World.cell?_alloc_lt _ _ _ (World.block_lt_of_cell? _ _ (hHeld.1))).trans (hHeld.1), (World.cell?_alloc_lt _ _ _ (World.block_lt_of_cell? _ _ (hHeld.2))).trans (hHeld.2)⟩ (fun hHeld => ?_)
                     clear hK K
                     refine norm_ (a' := ?_) ?_ ?_
                     rotate_left
                     ·
                      show Act.put _ (some 100) _ = _
                      simp only [Act.put, List.setIfInBounds_toArray, List.set_cons_zero, List.set_cons_succ, i64_w, i32_w]
                      rfl
                     refine last_ (i := 13) (N := some 101) #[true, true, true, true, true, true, true, true, true, true, true, true, true, true, true, false, false, false] rfl rfl (one_of HT_.out (by kernel_rfl)) (by decide) (fun K hK => ?_)
                     refine Kd.R_append_step (Kd.int .i64) w.heap.size (by rfl) (.tmp 95) (.tmp 100) 27 3 (.int .i64 0) 8 rfl Try.underlying27 info3 rfl (by decide) (by omega) (.slice A505_0 y506.length c505_0) y506 (rd x4_2 x8_4) [.int .i64 (rd x4_2 x8_4)] (fun k_ => oki62 k_ ∨ ((fun k_ => some k_ ≠ (.slice (some ad510) x4_2.length co30 : Value).ownBlock ∧ some k_ ≠ (v503 : Value).ownBlock)) k_ ∧ w60.heap.size ≤ k_) (fun _ => False) rfl rfl ?aP (fun _ hk => hk.elim) ?aF ?aO (Below.refl _ _) ?aS ?aL ?_
                     (case aP => exact rfl)
                     (case aF => exact (fun k_ hk => .inr ⟨⟨Kd.fresh' (Kd.R_lt (zr HO_4.out)) k_ hk, Kd.fresh' (Kd.R_lt (zr HO504.out)) k_ hk⟩, hk⟩))
                     (case aO => exact (by (with_reducible repeat (first | apply Kd.R_alloc | apply Kd.R_drewN | apply Kd.R_drew)); exact Kd.R_mono UC62.out (fun _ hk => .inl hk)))
                     (case aS => exact (keep_size (w := w) (g := g) (row := none) z1))
                     (case aL => have := LMc50.out; omega)
                     intro v512 w63 ho hb hg hat
                     rw [← Ny511.out] at ho
                     have n0_ := Aside0.mk (Kd.R_grown2 (zr HO_4.out) rfl hg (fun k_ e_ => (UL62.out.1 k_ e_).1.1))
                     have n1_ := Aside0.mk (IsS84.grown z2 hg (IsS84.own_ne HI0.out UL62.out (by decide)))
                     have n2_ := Aside0.mk (Kd.R_grown2 (zr HO504.out) rfl hg (fun k_ e_ => (UL62.out.1 k_ e_).1.2))
                     have n3_ := Aside0.mk (below_weaken z4 HL.out hb)
                     have n4_ := Aside0.mk (KeepBut.trans z1 (KeepBut.of_grown hg g) (Kd.R_base2 UL62.out))
                     have n5_ := Aside0.mk (Kd.H_grown (Kd.H_widen (by repeat (first | exact HH62.out | refine Kd.H_alloc ?_ _ | refine Kd.H_drewN ?_ _ | refine Kd.H_drew ?_))) hg (fun k_ e_ => .inl (UC62.out.1 k_ e_)))
                     have n6_ := Aside0.mk (ho)
                     have n7_ := Aside0.mk (hg.size)
                     clear HO_4
                     clear HI0
                     clear HO504
                     clear HB
                     clear HK
                     clear HH62
                     clear HO_6
                     clear UU62
                     clear UC62
                     clear UL62
                     clear HL490_0
                     clear HL497_0
                     clear HL505_0
                     have HO_4 := n0_
                     have HI0 := n1_
                     have HO504 := n2_
                     have HB := n3_
                     have HK := n4_
                     have HH62 := n5_
                     have HO513 := n6_
                     have HZ62 := n7_
                     clear n0_ n1_ n2_ n3_ n4_ n5_ n6_ n7_
                     clear ho hb hg hat
                     obtain ⟨Ao65, co65, eo65⟩ := Kd.R_slice HO504.out
                     (first | subst eo65 | (injection eo65 with f1_ f2_ f3_; have f4_ := f1_.symm; have f5_ := f3_.symm; clear f1_ f2_ f3_; subst f4_; subst f5_))
                     refine hK.out _ _ ?_
                     clear hK K
                     refine norm_ (a' := ?_) ?_ ?_
                     rotate_left
                     ·
                      show Act.put _ (some 101) _ = _
                      simp only [Act.put, List.setIfInBounds_toArray, List.set_cons_zero, List.set_cons_succ, i64_w, i32_w]
                      rfl
                     refine last_ (i := 15) (N := some 103) #[true, true, true, true, true, true, true, true, true, true, true, true, true, true, true, true, false, false] rfl rfl (one_of HT_.out (by kernel_rfl)) (by decide) (fun K hK => ?_)
                     refine Kd.R_append_rows_step (Kd.int .i64) w.heap.size (by rfl) (.tmp 101) (.tmp 102) 27 3 (.int .i64 0) 8 rfl Try.underlying27 info3 rfl (by decide) (by omega) v512 y511 y502 _ _ _ (fun k_ => oki62 k_ ∨ ((fun k_ => some k_ ≠ (.slice (some ad510) x4_2.length co30 : Value).ownBlock ∧ some k_ ≠ (.slice Ao65 y502.length co65 : Value).ownBlock)) k_ ∧ w60.heap.size ≤ k_) (fun _ => False) rfl rfl ?aO ?aR (fun _ _ h => h) (fun _ h => h.elim) ?aF (Below.refl _ _) ?aS ?aL ?_
                     (case aR => exact zc (Kd.R_reads' HO504.out).2.2)
                     (case aF => exact (fun k_ hk => .inr ⟨⟨Kd.fresh' (Kd.R_lt (zr HO_4.out)) k_ hk, Kd.fresh' (Kd.R_lt (zr HO504.out)) k_ hk⟩, (Nat.le_trans HZ62.out hk)⟩))
                     (case aO => exact ((zr HO513.out)))
                     (case aS => exact (keep_size (w := w) (g := g) (row := none) z1))
                     (case aL => have := LMc51.out; omega)
                     intro v515 w64 ho hb hg hat
                     rw [← Ny514.out] at ho
                     have n0_ := Aside0.mk (Kd.R_grown2 (zr HO_4.out) rfl hg (fun k_ e_ => ((HO513.out.1 k_ e_).elim (fun h2_ => HK62_.out k_ h2_) (fun h2_ => h2_.1)).1))
                     have n1_ := Aside0.mk (IsS84.grown z2 hg (IsS84.own_ne HI0.out HO513.out (by decide)))
                     have n2_ := Aside0.mk (Kd.R_grown2 (zr HO504.out) rfl hg (fun k_ e_ => ((HO513.out.1 k_ e_).elim (fun h2_ => HK62_.out k_ h2_) (fun h2_ => h2_.1)).2))
                     have n3_ := Aside0.mk (Kd.H_grown (by repeat (first | exact HH62.out | refine Kd.H_alloc ?_ _ | refine Kd.H_drewN ?_ _ | refine Kd.H_drew ?_)) hg (fun k_ e_ => HO513.out.1 k_ e_))
                     have n4_ := Aside0.mk (below_weaken z4 HL.out hb)
                     have n5_ := Aside0.mk (KeepBut.trans z1 (KeepBut.of_grown hg g) (Kd.R_base2 HO513.out))
                     have n6_ := Aside0.mk (ho)
                     clear HO_4
                     clear HI0
                     clear HO504
                     clear HH62
                     clear HB
                     clear HK
                     clear HO513
                     have HO_4 := n0_
                     have HI0 := n1_
                     have HO504 := n2_
                     have HH62 := n3_
                     have HB := n4_
                     have HK := n5_
                     have HO516 := n6_
                     clear n0_ n1_ n2_ n3_ n4_ n5_ n6_
                     clear ho hb hg hat
                     have p52 : 0 ≤ (x8_4 : Int) := za
                     have q52 : (x8_4 : Int) < ((x6_4.length : Int) : Int) := za
                     replace p52 := eq_true p52
                     replace q52 := eq_true q52
                     obtain ⟨Ao68, co68, eo68⟩ := Kd.R_slice HO516.out
                     (first | subst eo68 | (injection eo68 with f1_ f2_ f3_; have f4_ := f1_.symm; have f5_ := f3_.symm; clear f1_ f2_ f3_; subst f4_; subst f5_))
                     obtain ⟨_, _, hraw66, _, _, hcc66, _⟩ := Kd.H_raw HH62.out (za) (by have h_ : (x8_4 : Int) < ((x6_4.length : Int) : Int) := za; first | exact h_ | (have e_ := (HN62.out); omega) | simpa using h_)
                     obtain ⟨_, hfr66⟩ := Kd.H_at HH62.out (za) (by have h_ : (x8_4 : Int) < ((x6_4.length : Int) : Int) := za; first | exact h_ | (have e_ := (HN62.out); omega) | simpa using h_)
                     have hx66_0 := hcc66 0 _ rfl
                     have hf66_0 := hfr66 0
                     (try simp only [Nat.add_zero] at hx66_0 hf66_0)
                     (try rw [show ((Kd.slice 3 (Kd.int .i64))).sz = 1 from rfl, Nat.mul_one] at hx66_0)
                     (try rw [show ((Kd.slice 3 (Kd.int .i64))).sz = 1 from rfl, Nat.mul_one] at hf66_0)
                     have HP66 := Kd.S_seg0 HH62.out (za) (by have h_ : (x8_4 : Int) < ((x6_4.length : Int) : Int) := za; first | exact h_ | (have e_ := (HN62.out); omega) | simpa using h_) (seg := [.slice Ao68 y514.length co68]) (j := 0) (show 1 ≤ 1 from by decide) (x' := y514) (Kd.M_row HO516.out) (fun _ hk => hk)
                     (try simp only [show ((Kd.slice 3 (Kd.int .i64))).sz = 1 from rfl, Nat.mul_one, Nat.add_zero] at HP66)
                     clear hcc66 hfr66
                     have HN0_go62 := Aside0.mk (show g ≠ go62 from by have h_ := IsS84.own_ne HI0.out hraw66 (by decide); intro e_; exact h_ (by rw [e_]; rfl))
                     have HS66 := HP66.1
                     rw [← Ny517.out] at HS66
                     have HQ66 := Aside0.mk HS66
                     obtain ⟨_, hgg66⟩ := Kd.R_typed hraw66 go62 rfl
                     have GG66_ := Aside0.mk hgg66
                     clear HP66 HS66 hgg66
                     refine hK.out _ _ ?_
                     clear hK K
                     refine norm_ (a' := ?_) ?_ ?_
                     rotate_left
                     ·
                      show Act.put _ (some 103) _ = _
                      simp only [Act.put, List.setIfInBounds_toArray, List.set_cons_zero, List.set_cons_succ, i64_w, i32_w]
                      rfl
                     refine pure_ (i := 16) (N := some 104) (v := ?_) (a' := ?_) #[true, true, true, true, true, true, true, true, true, true, true, true, true, true, true, true, true, false] rfl rfl (any_of HT_.out (by kernel_rfl)) (fun _ _ _ h => h) (Or.inl ⟨by rfl, ?_⟩) ?_ ?_
                     rotate_left
                     ·
                      intro w'
                      go_simp
                      with_reducible rfl
                     rotate_left
                     ·
                      simp only [Act.put, List.setIfInBounds_toArray, List.set_cons_zero, List.set_cons_succ, i64_w, i32_w]
                      rfl
                     refine last_ (i := 17) (N := none) #[true, true, true, true, true, true, true, true, true, true, true, true, true, true, true, true, true, true] rfl rfl (one_of HT_.out (by kernel_rfl)) (by decide) (fun K hK => ?_)
                     refine skip_ (w1 := ?_) (by rfl) rfl ?_ ?_
                     rotate_left
                     ·
                      go_simp
                      rfl
                     refine hK.out _ _ ?_
                     clear hK K
                     refine done_ (done_of HT_.out (by kernel_rfl)) ?_
                     try go_wp2
                     go_roundg k4
                     case measure => have := HK1.out; have := HK2.out; have := HK3.out; have := HK4.out; omega
                     case rel => exact ⟨(y517), (wrap64 (x8_4 + 1)), (t492), (t493), zd, H', ⟨by have := HK1.out; have := HK2.out; have := HK3.out; have := HK4.out; omega⟩, ⟨by (with_reducible repeat (first | apply Kd.R_alloc | apply Kd.R_drewN | apply Kd.R_drew)); exact Kd.R_mono (Kd.R_far (p := ⟨go62, (x8_4 : Int).toNat, none⟩) (Kd.R_types HO_4.out GG66_.out (by decide)) (fun _ hk => hk.2) (.slice Ao68 y514.length co68)) (fun _ hk => trivial)⟩, ⟨by (with_reducible repeat (first | apply Kd.S_alloc | apply Kd.S_drewN | apply Kd.S_drew)); exact Kd.S_mono HQ66.out (fun _ hk => hk.1)⟩, ⟨by repeat (first | (with_reducible first | exact HI0.out | apply IsS84.alloc | apply IsS84.drewN | apply IsS84.drew | apply IsS84.set_1 | apply IsS84.set_2 | refine IsS84.far ?_ HN0_go62.out _) | exact HI0.out)⟩, ⟨by repeat (first | (with_reducible first | exact HK.out | apply KeepBut.set_ | apply keep_drewN | apply keep_drew | apply keep_alloc | refine keep_far ?_ GB62.out _) | exact HK.out)⟩, ⟨by repeat (first | (with_reducible first | exact HB.out | apply below_alloc | apply pw_below_drewN | apply below_drew1 | refine below_set ?_ (Nat.le_trans HL.out GB62.out) | refine below_set ?_ (IsS84.ge HI0.out)) | exact HB.out)⟩⟩
                    ·
                     rw [if_neg c51] at H
                     exact absurd H (by simp)
                   ·
                    rw [if_neg c50] at H
                    exact absurd H (by simp)
                  ·
                   rw [if_neg c47] at H
                   exact absurd H (by simp)
                 ·
                  rw [if_neg c46] at H
                  exact absurd H (by simp)
                ·
                 rw [if_neg c45] at H
                 exact absurd H (by simp)
               ·
                rw [if_neg c43] at H
                exact absurd H (by simp)
              ·
               rw [if_neg c42] at H
               exact absurd H (by simp)
             ·
              rw [if_neg c41] at H
              have c41b0 : decide (x8_4 < x3_2) = false := decide_eq_false c41
              clear c41
              by_cases c69 : 0 ≤ t487
              ·
               rw [if_pos c69] at H
               have c69b0 : decide (0 ≤ t487) = true := decide_eq_true c69
               clear c69
               by_cases c70 : t487 < (x6_4.length : Int)
               ·
                rw [if_pos c70] at H
                have c70b0 : decide (t487 < (x6_4.length : Int)) = true := decide_eq_true c70
                clear c70
                replace H := Option.bind_eq_some_iff.mp H
                obtain ⟨⟨t519, t520, t521⟩, A710, H⟩ := H
                dsimp only at H
                have A71 := Aside0.mk A710
                clear A710
                obtain ⟨y522, hy522⟩ : ∃ y_ : List Int, y_ = (([] : List Int)) := ⟨_, rfl⟩
                replace H : (if 0 ≤ t519 then (if t519 ≤ ((rd_L1 x6_4 t487).length : Int) then ((some ((rd_L1 x6_4 t487).drop (t519 : Int).toNat : List Int)).bind fun y526 => (if y522.length + y526.length < 17592186044416 then ((some (y522 ++ y526 : List Int)).bind fun y530 => ((some ((rd_L1 x6_4 t487).take (t519 : Int).toNat : List Int)).bind fun y534 => (if 0 ≤ x8_4 then (if y534.length < 17592186044416 then ((some (y534 ++ [rd x4_2 x8_4] : List Int)).bind fun y539 => (if y539.length + y530.length < 17592186044416 then (spec_l3Draw.l3 k4 x3_2 x4_2 (x6_4.set (t487 : Int).toNat (y539 ++ y530)) (wrap64 (x8_4 + 1)) s0_0 t520 t521) else (none))) else (none)) else (none)))) else (none))) else (none)) else (none)) = some (r1, r2, r3) := zy hy522 H
                have Ny522 := Aside0.mk hy522
                clear hy522
                by_cases c72 : 0 ≤ t519
                ·
                 rw [if_pos c72] at H
                 have c72b0 := eq_true c72
                 have c72b1 : decide (0 ≤ t519) = true := decide_eq_true c72
                 clear c72
                 by_cases c73 : t519 ≤ ((rd_L1 x6_4 t487).length : Int)
                 ·
                  rw [if_pos c73] at H
                  have c73b0 := eq_true c73
                  have c73b1 : decide (t519 ≤ ((rd_L1 x6_4 t487).length : Int)) = true := decide_eq_true c73
                  clear c73
                  obtain ⟨y526, hy526⟩ : ∃ y_ : List Int, y_ = ((rd_L1 x6_4 t487).drop (t519 : Int).toNat) := ⟨_, rfl⟩
                  replace H : (if y522.length + y526.length < 17592186044416 then ((some (y522 ++ y526 : List Int)).bind fun y530 => ((some ((rd_L1 x6_4 t487).take (t519 : Int).toNat : List Int)).bind fun y534 => (if 0 ≤ x8_4 then (if y534.length < 17592186044416 then ((some (y534 ++ [rd x4_2 x8_4] : List Int)).bind fun y539 => (if y539.length + y530.length < 17592186044416 then (spec_l3Draw.l3 k4 x3_2 x4_2 (x6_4.set (t487 : Int).toNat (y539 ++ y530)) (wrap64 (x8_4 + 1)) s0_0 t520 t521) else (none))) else (none)) else (none)))) else (none)) = some (r1, r2, r3) := zy hy526 H
                  have Ny526 := Aside0.mk hy526
                  clear hy526
                  by_cases c74 : y522.length + y526.length < 17592186044416
                  ·
                   rw [if_pos c74] at H
                   have LMc74 := Aside0.mk c74
                   clear c74
                   obtain ⟨y530, hy530⟩ : ∃ y_ : List Int, y_ = (y522 ++ y526) := ⟨_, rfl⟩
                   replace H : ((some ((rd_L1 x6_4 t487).take (t519 : Int).toNat : List Int)).bind fun y534 => (if 0 ≤ x8_4 then (if y534.length < 17592186044416 then ((some (y534 ++ [rd x4_2 x8_4] : List Int)).bind fun y539 => (if y539.length + y530.length < 17592186044416 then (spec_l3Draw.l3 k4 x3_2 x4_2 (x6_4.set (t487 : Int).toNat (y539 ++ y530)) (wrap64 (x8_4 + 1)) s0_0 t520 t521) else (none))) else (none)) else (none))) = some (r1, r2, r3) := zy hy530 H
                   have Ny530 := Aside0.mk hy530
                   clear hy530
                   have c75b0 := eq_true (za : 0 ≤ t519)
                   have c76b0 := eq_true (za : t519 ≤ ((rd_L1 x6_4 t487).length : Int))
                   obtain ⟨y534, hy534⟩ : ∃ y_ : List Int, y_ = ((rd_L1 x6_4 t487).take (t519 : Int).toNat) := ⟨_, rfl⟩
                   replace H : (if 0 ≤ x8_4 then (if y534.length < 17592186044416 then ((some (y534 ++ [rd x4_2 x8_4] : List Int)).bind fun y539 => (if y539.length + y530.length < 17592186044416 then (spec_l3Draw.l3 k4 x3_2 x4_2 (x6_4.set (t487 : Int).toNat (y539 ++ y530)) (wrap64 (x8_4 + 1)) s0_0 t520 t521) else (none))) else (none)) else (none)) = some (r1, r2, r3) := zy hy534 H
                   have Ny534 := Aside0.mk hy534
                   clear hy534
                   by_cases c77 : 0 ≤ x8_4
                   ·
                    rw [if_pos c77] at H
                    have c77b0 : decide (0 ≤ x8_4) = true := decide_eq_true c77
                    clear c77
                    by_cases c78 : y534.length < 17592186044416
                    ·
                     rw [if_pos c78] at H
                     have LMc78 := Aside0.mk c78
                     clear c78
                     obtain ⟨y539, hy539⟩ : ∃ y_ : List Int, y_ = (y534 ++ [rd x4_2 x8_4]) := ⟨_, rfl⟩
                     replace H : (if y539.length + y530.length < 17592186044416 then (spec_l3Draw.l3 k4 x3_2 x4_2 (x6_4.set (t487 : Int).toNat (y539 ++ y530)) (wrap64 (x8_4 + 1)) s0_0 t520 t521) else (none)) = some (r1, r2, r3) := zy hy539 H
                     have Ny539 := Aside0.mk hy539
                     clear hy539
                     by_cases c79 : y539.length + y530.length < 17592186044416
                     ·
                      rw [if_pos c79] at H
                      have LMc79 := Aside0.mk c79
                      clear c79
                      obtain ⟨y542, hy542⟩ : ∃ y_ : List Int, y_ = (y539 ++ y530) := ⟨_, rfl⟩
                      replace H : (spec_l3Draw.l3 k4 x3_2 x4_2 (x6_4.set (t487 : Int).toNat y542) (wrap64 (x8_4 + 1)) s0_0 t520 t521) = some (r1, r2, r3) := zy hy542 H
                      have Ny542 := Aside0.mk hy542
                      clear hy542
                      obtain ⟨y545, hy545⟩ : ∃ y_ : List (List Int), y_ = (x6_4.set (t487 : Int).toNat y542) := ⟨_, rfl⟩
                      replace H : (spec_l3Draw.l3 k4 x3_2 x4_2 y545 (wrap64 (x8_4 + 1)) s0_0 t520 t521) = some (r1, r2, r3) := zy hy545 H
                      have Ny545 := Aside0.mk hy545
                      clear hy545
                      have H' := Aside0.mk H
                      clear H
                      try go_wp2_with (first | ((with_reducible refine zg 93 rfl ?_); refine zl (some 67) Try.func93 #[.pointer (some ⟨g, 0, none⟩), .int .i64 x3_2] ?_; (with_reducible refine (spec_l1Below.calls g s0_0 x1001_4 x1002_4 x3_2 t487 t488 t489 w0 _ ?side1 ?side2 A40.out).mono ?_); (case side1 => repeat (first | (with_reducible first | exact HI0.out | apply IsS84.alloc | apply IsS84.drewN | apply IsS84.drew | apply IsS84.set_1 | apply IsS84.set_2) | exact HI0.out)); (case side2 => repeat (first | (with_reducible first | exact HB.out | apply below_alloc | apply pw_below_drewN | apply below_drew1 | refine below_set ?_ (IsS84.ge HI0.out)) | exact HB.out)); rintro e w81 ⟨rfl, hi, hb, hk⟩; refine ⟨_, rfl, ?_⟩; replace HO_4 := Aside0.mk (Kd.R_mono (Kd.R_keep (IsS84.apart (show IsS84 w0 _ g s0_0 x1001_4 x1002_4 from z2) (zr HO_4.out) (by decide)) hk (fun _ h => h.2)) (fun _ h => h.1)); replace HO_6 := Aside0.mk (Kd.S_mono (Kd.S_keep (IsS84.apartS (show IsS84 w0 _ g s0_0 x1001_4 x1002_4 from z2) (zs HO_6.out) (by decide)) hk (fun _ h => h.2)) (fun _ h => h.1)); replace HK := Aside0.mk (KeepBut.trans z1 hk (.inl rfl)); replace HB := Aside0.mk (hb); replace HI0 := Aside0.mk (hi); (try clear hb); (try clear hb2); (try clear hk); (try clear hi); obtain ⟨Ao82, co82, eo82⟩ := Kd.S_slice HO_6.out; subst eo82; have p518 : 0 ≤ (t487 : Int) := za; have q518 : t487 < (x6_4.length : Int) := za; obtain ⟨ad518, A518_0, c518_0, e518, hx518_0, hl518_0, hi518_0⟩ := at_L1 (Kd.S_reads' HO_6.out).2.2 t487 p518 q518; cases e518; obtain ⟨ce518, hce518, hMe518, hcc518⟩ := Kd.S_get HO_6.out [] t487 p518 (by first | exact q518 | exact za | (have e_ := (Kd.S_reads' HO_6.out).1; omega)); obtain ⟨ve518_0, rfl, ge518_0⟩ := hMe518; have hv518_0 := hcc518 0 _ rfl; rw [Nat.add_zero, show ((Kd.slice 3 (Kd.int .i64))).sz = 1 from rfl, Nat.mul_one] at hv518_0; replace hv518_0 := Option.some.inj (hv518_0.symm.trans hx518_0); rw [hv518_0] at ge518_0; have HL518_0 := Aside0.mk (show Kd.R (Kd.int .i64) 3 _ _ _ _ (rd_L1 x6_4 t487) from ge518_0); clear hv518_0 ge518_0; have HX518_0 := Aside0.mk hx518_0; clear hcc518 hce518; have HR518_0 := Aside0.mk hi518_0; have HC518_0 := Aside0.mk hl518_0; clear hi518_0 hl518_0; replace p518 := eq_true p518; replace q518 := eq_true q518) | ((with_reducible refine zg 93 rfl ?_); refine zl (some 79) Try.func93 #[.pointer (some ⟨g, 0, none⟩), .int .i64 (wrap64 (((rd_L1 x6_4 t487).length : Int) + 1))] ?_; (with_reducible refine (spec_l1Below.calls g s0_0 t488 t489 (wrap64 (((rd_L1 x6_4 t487).length : Int) + 1)) t519 t520 t521 w0 _ ?side1 ?side2 A71.out).mono ?_); (case side1 => repeat (first | (with_reducible first | exact HI0.out | apply IsS84.alloc | apply IsS84.drewN | apply IsS84.drew | apply IsS84.set_1 | apply IsS84.set_2) | exact HI0.out)); (case side2 => repeat (first | (with_reducible first | exact HB.out | apply below_alloc | apply pw_below_drewN | apply below_drew1 | refine below_set ?_ (IsS84.ge HI0.out)) | exact HB.out)); rintro e w83 ⟨rfl, hi, hb, hk⟩; refine ⟨_, rfl, ?_⟩; replace HO_4 := Aside0.mk (Kd.R_mono (Kd.R_keep (IsS84.apart (show IsS84 w0 _ g s0_0 t488 t489 from z2) (zr HO_4.out) (by decide)) hk (fun _ h => h.2)) (fun _ h => h.1)); replace HL518_0 := Aside0.mk (Kd.R_mono (Kd.R_keep (IsS84.apart (show IsS84 w0 _ g s0_0 t488 t489 from z2) (zr HL518_0.out) (by decide)) hk (fun _ h => h.2)) (fun _ h => h.1)); replace HX518_0 := Aside0.mk (keep_cell hk HX518_0.out (by first | (rw [add_block]; exact Kd.own_blk (IsS84.own_neS HI0.out HO_6.out (by decide))) | (show (Addr.add _ _).block ≠ _; rw [add_block]; exact Kd.own_blk (IsS84.own_neS HI0.out HO_6.out (by decide))) | exact Kd.own_blk (IsS84.own_neS HI0.out HO_6.out (by decide)) | (dsimp only; exact Kd.own_blk (IsS84.own_neS HI0.out HO_6.out (by decide))))); replace HO_6 := Aside0.mk (Kd.S_mono (Kd.S_keep (IsS84.apartS (show IsS84 w0 _ g s0_0 t488 t489 from z2) (zs HO_6.out) (by decide)) hk (fun _ h => h.2)) (fun _ h => h.1)); replace HK := Aside0.mk (KeepBut.trans z1 hk (.inl rfl)); replace HB := Aside0.mk (hb); replace HI0 := Aside0.mk (hi)) | ((with_reducible refine gate_dst (N := 80) rfl ?_); refine Kd.R_lit (Kd.int .i64) _ 3 ?hg (N := 80) ?hd (xs := ([] : List Int)) (inner := []) (ok := fun _ => True) (okp := fun _ => True) ?hr ?hp (fun _ hk => hk) trivial (Below.refl _ _) (Nat.le_refl _) (by simp) ?_; (case hd => rfl); (case hg => rfl); (case hr => first | (go_simp; done) | (go_simp; rfl)); (case hp => exact (Reps.none _ _)); intro v523 w84 ho85 hb hg_ hnew_; clear hg_ hnew_; (first | rw [← Ny522.out] at ho85 | (simp only [Int.reduceToNat] at ho85; rw [← Ny522.out] at ho85)); replace HO_6 := Aside0.mk (Kd.S_elder' (zs HO_6.out) (Kd.R_base ho85) hb); have HO524 := Aside0.mk (Kd.R_lower (Kd.R_new' (Kd.R_new' ho85 (Kd.R_lt (zr HO_4.out))) (Kd.R_lt (zr HL518_0.out))) (keep_size (w := w) (g := g) (row := none) z1)); replace HO_4 := Aside0.mk (Kd.R_elder' (zr HO_4.out) (Kd.R_base ho85) hb); replace HL518_0 := Aside0.mk (Kd.R_elder' (zr HL518_0.out) (Kd.R_base ho85) hb); replace HX518_0 := Aside0.mk (pw_cell_below hb HX518_0.out); replace HK := Aside0.mk (KeepBut.trans z1 (KeepBut.of_below hb g none) (.inl rfl)); replace HB := Aside0.mk (below_step z4 hb); replace HI0 := Aside0.mk (IsS84.below z2 hb); clear hb ho85; have p525 : 0 ≤ (t487 : Int) := za; have q525 : t487 < (x6_4.length : Int) := za; obtain ⟨ad525, A525_0, c525_0, e525, hx525_0, hl525_0, hi525_0⟩ := at_L1 (Kd.S_reads' HO_6.out).2.2 t487 p525 q525; obtain rfl : ad518 = ad525 := (by injection e525); obtain ⟨ce525, hce525, hMe525, hcc525⟩ := Kd.S_get HO_6.out [] t487 p525 (by first | exact q525 | exact za | (have e_ := (Kd.S_reads' HO_6.out).1; omega)); obtain ⟨ve525_0, rfl, ge525_0⟩ := hMe525; have hv525_0 := hcc525 0 _ rfl; rw [Nat.add_zero, show ((Kd.slice 3 (Kd.int .i64))).sz = 1 from rfl, Nat.mul_one] at hv525_0; replace hv525_0 := Option.some.inj (hv525_0.symm.trans hx525_0); rw [hv525_0] at ge525_0; have HL525_0 := Aside0.mk (show Kd.R (Kd.int .i64) 3 _ _ _ _ (rd_L1 x6_4 t487) from ge525_0); clear hv525_0 ge525_0; have HX525_0 := Aside0.mk hx525_0; clear hcc525 hce525; have HR525_0 := Aside0.mk hi525_0; have HC525_0 := Aside0.mk hl525_0; clear hi525_0 hl525_0; replace p525 := eq_true p525; replace q525 := eq_true q525; have q86 : (t519 : Int) ≤ (((rd_L1 x6_4 t487).length : Int) : Int) := za; obtain ⟨i086, hi086, _, hsz86, _⟩ := info_parts info3; have hroom86 : (rd_L1 x6_4 t487).length ≤ c525_0 := HC525_0.out; have hC86 : Kd.C (Kd.int .i64) _ A525_0 (rd_L1 x6_4 t487).length (rd_L1 x6_4 t487) := (by repeat (first | (with_reducible exact HR525_0.out) | (with_reducible refine Kd.C_alloc ?_ _) | (with_reducible refine Kd.C_drewN ?_ _) | (with_reducible refine Kd.C_drew ?_) | exact HR525_0.out)); have q086 : (0 : Int) ≤ (t519 : Int) := za; have hcut86 := cut_from (P := Try.prog) 27 3 .i64 Try.underlying27 hi086 1 hsz86 A525_0 (rd_L1 x6_4 t487).length c525_0 t519 q086 q86; have hr86 := Kd.C_drop (m := (t519 : Int).toNat) (c := c525_0) hC86 (by omega) hroom86; obtain ⟨A86, hA86⟩ : ∃ A1, A1 = (if c525_0 = (t519 : Int).toNat then A525_0 else (A525_0 : Option Addr).map (·.add ((t519 : Int).toNat * 1))) := ⟨_, rfl⟩; obtain ⟨c86, hc86⟩ : ∃ c1, c1 = c525_0 - (t519 : Int).toNat := ⟨_, rfl⟩; have hy86 : y526.length = (rd_L1 x6_4 t487).length - (t519 : Int).toNat := (by rw [Ny526.out, List.length_drop] <;> omega); rw [show (rd_L1 x6_4 t487).drop (t519 : Int).toNat = y526 from Ny526.out.symm] at hr86; replace hr86 : Kd.C (Kd.int .i64) _ A86 y526.length y526 := (by rw [hA86]; exact hr86); rw [← hy86, ← hA86, ← hc86] at hcut86; have HR529 := Aside0.mk hr86; have HC529 := Aside0.mk (show y526.length ≤ c86 from by rw [hy86, hc86]; exact Nat.sub_le_sub_right hroom86 _); clear hr86 hC86 hroom86 hi086 hsz86 hc86; have KY86 := Aside0.mk hy86; have KA86 := Aside0.mk hA86; clear hy86 hA86; replace q86 := eq_true q86) | ((with_reducible refine gate_builtin (b := .append) (xs := #[.tmp 80, .tmp 86]) rfl ?_); at_builtin; refine Kd.R_append_rows (Kd.int .i64) w.heap.size rfl (.tmp 80) (.tmp 86) 27 3 (.int .i64 0) 8 rfl Try.underlying27 info3 rfl (by decide) (by omega) v523 y522 y526 _ _ _ (fun k_ => some k_ ≠ (.slice Ao30 x4_2.length co30 : Value).ownBlock ∧ some k_ ≠ (.slice A518_0 (rd_L1 x6_4 t487).length c518_0 : Value).ownBlock) (fun _ => False) rfl rfl ?aO ?aR (fun _ _ h => h) (fun _ h => h.elim) ?aF (Below.refl _ _) ?aS ?aL ?_; (case aR => repeat (first | exact (by repeat (first | (with_reducible exact HR529.out) | (with_reducible refine Kd.C_alloc ?_ _) | (with_reducible refine Kd.C_drewN ?_ _) | (with_reducible refine Kd.C_drew ?_) | exact HR529.out)) | (with_reducible refine Kd.C_alloc ?_ _) | (with_reducible refine Kd.C_drewN ?_ _) | (with_reducible refine Kd.C_drew ?_))); (case aF => exact (fun k_ hk => ⟨Kd.fresh' (Kd.R_lt (zr HO_4.out)) k_ hk, Kd.fresh' (Kd.R_lt (zr HL518_0.out)) k_ hk⟩)); (case aO => exact (by (with_reducible repeat (first | apply Kd.R_alloc | apply Kd.R_drewN | apply Kd.R_drew)); exact Kd.R_mono HO524.out (fun _ hk => ⟨hk.1.2, hk.2⟩))); (case aS => exact (keep_size (w := w) (g := g) (row := none) z1)); (case aL => have := LMc74.out; omega); intro v531 w87 ho hb hg hat; rw [← Ny530.out] at ho; have n0_ := Aside0.mk (Kd.R_after (ok := (fun _ => True)) (zr HO_4.out) hg hat); have n1_ := Aside0.mk (Kd.S_after (ok := (fun k_ => some k_ ≠ (.slice Ao30 x4_2.length co30 : Value).ownBlock)) (zs HO_6.out) hg hat); have n2_ := Aside0.mk (IsS84.grown z2 hg (IsS84.own_ne HI0.out HO524.out (by decide))); have n3_ := Aside0.mk (Kd.R_after (ok := (fun k_ => some k_ ≠ (.slice Ao30 x4_2.length co30 : Value).ownBlock ∧ some k_ ≠ (.slice (some ad518) x6_4.length co82 : Value).ownBlock)) (zr HL518_0.out) hg hat); have n4_ := Aside0.mk (Kd.R_after (ok := (fun k_ => some k_ ≠ (.slice Ao30 x4_2.length co30 : Value).ownBlock ∧ some k_ ≠ (.slice (some ad518) x6_4.length co82 : Value).ownBlock)) (by (with_reducible repeat (first | apply Kd.R_alloc | apply Kd.R_drewN | apply Kd.R_drew)); exact Kd.R_mono HL525_0.out (fun _ hk => ⟨⟨hk.1.1, hk.2⟩, hk.1.2⟩)) hg hat); have n5_ := Aside0.mk (below_weaken z4 HL.out hb); have n6_ := Aside0.mk (KeepBut.trans z1 (KeepBut.of_grown hg g) (Kd.R_base2 HO524.out)); have n7_ := Aside0.mk (ho); clear HO_4; clear HO_6; clear HI0; clear HL518_0; clear HL525_0; clear HB; clear HK; clear HO524; have HO_4 := n0_; have HO_6 := n1_; have HI0 := n2_; have HL518_0 := n3_; have HL525_0 := n4_; have HB := n5_; have HK := n6_; have HO532 := n7_; clear n0_ n1_ n2_ n3_ n4_ n5_ n6_ n7_; clear ho hb hg hat))
                      have n0_ := Aside0.mk (Kd.R_drew HO_4.out)
                      have n1_ := Aside0.mk (Kd.S_drew HO_6.out)
                      have n2_ := Aside0.mk (Kd.R_drew HL518_0.out)
                      have n3_ := Aside0.mk (Kd.R_drew HL525_0.out)
                      have n4_ := Aside0.mk (Kd.R_drew HO532.out)
                      have n5_ := Aside0.mk (IsS84.drew HI0.out)
                      have n6_ := Aside0.mk (keep_drew HK.out)
                      have n7_ := Aside0.mk (below_drew1 HB.out)
                      clear HO_4
                      clear HO_6
                      clear HL518_0
                      clear HL525_0
                      clear HO532
                      clear HI0
                      clear HK
                      clear HB
                      have HO_4 := n0_
                      have HO_6 := n1_
                      have HL518_0 := n2_
                      have HL525_0 := n3_
                      have HO532 := n4_
                      have HI0 := n5_
                      have HK := n6_
                      have HB := n7_
                      clear n0_ n1_ n2_ n3_ n4_ n5_ n6_ n7_
                      have p533 : 0 ≤ (t487 : Int) := za
                      have q533 : t487 < (x6_4.length : Int) := za
                      obtain ⟨ad533, A533_0, c533_0, e533, hx533_0, hl533_0, hi533_0⟩ := at_L1 (Kd.S_reads' HO_6.out).2.2 t487 p533 q533
                      obtain rfl : ad518 = ad533 := (by injection e533)
                      obtain ⟨ce533, hce533, hMe533, hcc533⟩ := Kd.S_get HO_6.out [] t487 p533 (by first | exact q533 | exact za | (have e_ := (Kd.S_reads' HO_6.out).1; omega))
                      obtain ⟨ve533_0, rfl, ge533_0⟩ := hMe533
                      have hv533_0 := hcc533 0 _ rfl
                      rw [Nat.add_zero, show ((Kd.slice 3 (Kd.int .i64))).sz = 1 from rfl, Nat.mul_one] at hv533_0
                      replace hv533_0 := Option.some.inj (hv533_0.symm.trans hx533_0)
                      rw [hv533_0] at ge533_0
                      have HL533_0 := Aside0.mk (show Kd.R (Kd.int .i64) 3 _ _ _ _ (rd_L1 x6_4 t487) from ge533_0)
                      clear hv533_0 ge533_0
                      have HX533_0 := Aside0.mk hx533_0
                      clear hcc533 hce533
                      have HR533_0 := Aside0.mk hi533_0
                      have HC533_0 := Aside0.mk hl533_0
                      clear hi533_0 hl533_0
                      replace p533 := eq_true p533
                      replace q533 := eq_true q533
                      have q89 : (t519 : Int) ≤ (((rd_L1 x6_4 t487).length : Int) : Int) := za
                      obtain ⟨i089, hi089, _, hsz89, _⟩ := info_parts info3
                      have hroom89 : (rd_L1 x6_4 t487).length ≤ c533_0 := HC533_0.out
                      have hC89 : Kd.C (Kd.int .i64) _ A533_0 (rd_L1 x6_4 t487).length (rd_L1 x6_4 t487) := (by repeat (first | (with_reducible exact HR533_0.out) | (with_reducible refine Kd.C_alloc ?_ _) | (with_reducible refine Kd.C_drewN ?_ _) | (with_reducible refine Kd.C_drew ?_) | exact HR533_0.out))
                      have hcut89 := cut_to (P := Try.prog) 27 3 .i64 Try.underlying27 hi089 A533_0 (rd_L1 x6_4 t487).length c533_0 t519 (za) q89 hroom89
                      have hr89 := Kd.C_take (m := (t519 : Int).toNat) hC89 (by omega)
                      have hy89 : y534.length = (t519 : Int).toNat := (by rw [Ny534.out, List.length_take]; omega)
                      rw [← Ny534.out] at hr89
                      rw [← hy89] at hcut89
                      have HR537 := Aside0.mk hr89
                      have HC537 := Aside0.mk (show y534.length ≤ c533_0 from by omega)
                      clear hr89 hC89 hroom89 hi089 hsz89
                      have KY89 := Aside0.mk hy89
                      clear hy89
                      replace q89 := eq_true q89
                      have p538 : 0 ≤ (x8_4 : Int) := za
                      have q538 : x8_4 < (x4_2.length : Int) := za
                      obtain ⟨ad538, e538, hx538_0⟩ := Kd.at_int (Kd.R_reads' HO_4.out).2.2 x8_4 p538 q538
                      cases e538
                      replace p538 := eq_true p538
                      replace q538 := eq_true q538
                      obtain ⟨go90, co90, eo90, gb90, gl90, cl90, HG90⟩ := Kd.S_form HO_6.out (by have h_ : (t487 : Int) < ((x6_4.length : Int) : Int) := za; have h2_ : 0 ≤ (t487 : Int) := (za); omega)
                      (first | cases eo90 | (injection eo90 with ea_ en_ ec_; (first | subst ea_ | (injection ea_ with ea_; subst ea_)); subst ec_; clear en_))
                      have GB90 := Aside0.mk gb90
                      have GG90 := Aside0.mk HG90
                      clear gb90 gl90 HG90
                      (first | simp only [add_plain] at hx518_0 | skip)
                      (first | simp only [add_plain] at hx525_0 | skip)
                      (first | simp only [add_plain] at hx533_0 | skip)
                      obtain ⟨oki90, ce90, hcl90, hM90, hcc90, _, hoki90, hH90⟩ := Kd.S_elem HO_6.out [] (t487 : Int) (za) (by have h_ : (t487 : Int) < ((x6_4.length : Int) : Int) := za; first | exact h_ | (have e_ := (Kd.S_reads' HO_6.out).1; omega) | simpa using h_)
                      obtain ⟨ve90_0, rfl, ge90_0⟩ := hM90
                      have hv90 := hcc90 0 _ rfl
                      have hX90 := HX533_0.out
                      (try simp only [add_plain] at hX90)
                      (try simp only [Nat.add_zero] at hv90)
                      (try rw [show ((Kd.slice 3 (Kd.int .i64))).sz = 1 from rfl, Nat.mul_one] at hv90)
                      replace hv90 := Option.some.inj (hv90.symm.trans hX90)
                      subst hv90
                      clear hX90 hcc90 hcl90
                      have UU90 := Aside0.mk (show Kd.R (Kd.int .i64) 3 _ w.heap.size oki90 (.slice A533_0 (rd_L1 x6_4 t487).length c533_0) (rd_L1 x6_4 t487) from ge90_0)
                      have HH90 := Aside0.mk hH90
                      have HN90 := Aside0.mk (Kd.S_reads' HO_6.out).1
                      clear hH90 ge90_0
                      have hle90 : (t519 : Int) ≤ ((rd_L1 x6_4 t487).length : Int) := za
                      have ur90 := Kd.R_take (m := (t519 : Int).toNat) UU90.out (by omega)
                      have uy90 : y534.length = (t519 : Int).toNat := (by rw [Ny534.out, List.length_take]; omega)
                      rw [← Ny534.out] at ur90
                      rw [← uy90] at ur90
                      have UC90 := Aside0.mk ur90
                      clear ur90 uy90 hle90
                      have hle90 : (t519 : Int) ≤ ((rd_L1 x6_4 t487).length : Int) := za
                      have ur90 := Kd.R_take (m := (t519 : Int).toNat) HL533_0.out (by omega)
                      have uy90 : y534.length = (t519 : Int).toNat := (by rw [Ny534.out, List.length_take]; omega)
                      rw [← Ny534.out] at ur90
                      rw [← uy90] at ur90
                      have UL90 := Aside0.mk ur90
                      clear ur90 uy90 hle90
                      have HK90_ := Aside0.mk (show ∀ k_, oki90 k_ → ((fun k_ => some k_ ≠ (.slice (some ad538) x4_2.length co30 : Value).ownBlock ∧ some k_ ≠ (v531 : Value).ownBlock)) k_ from fun k_ h2_ => (hoki90 k_ h2_).1)
                      clear hoki90
                      refine start_ (n := 18) (S := fun w' => w'.cell? ⟨go90, (t487).toNat, none⟩ = some (.slice A533_0 (rd_L1 x6_4 t487).length c533_0) ∧ w'.cell? (ad538.add (x8_4).toNat) = some (.int .i64 (rd x4_2 x8_4))) (ds := [13, 15, 17]) #[false, false, false, false, false, false, false, false, false, false, false, false, false, false, false, false, false, false] (by kernel_rfl) rfl rfl ⟨hx533_0, hx538_0⟩ (fun hHeld => ?_); refine with_tabW spec_l3Draw.tab25 spec_l3Draw.bits25 (fun HT_ HW_ => ?_)
                      generalize w87.drew = w88 at HO_4 HO_6 HL518_0 HL525_0 HO532 HI0 HK HB GG90 HH90 HL533_0 HR533_0 HR537 HX533_0 UC90 UL90 UU90 hx518_0 hx525_0 hx533_0 hx538_0 hHeld ⊢
                      refine pure_ (i := 0) (N := some 88) (v := ?_) (a' := ?_) #[true, false, false, false, false, false, false, false, false, false, false, false, false, false, false, false, false, false] rfl rfl (any_of HT_.out (by kernel_rfl)) (fun _ _ _ h => h) (Or.inl ⟨by rfl, ?_⟩) ?_ ?_
                      rotate_left
                      ·
                       intro w'
                       go_simp
                       with_reducible rfl
                      rotate_left
                      ·
                       simp only [Act.put, List.setIfInBounds_toArray, List.set_cons_zero, List.set_cons_succ, i64_w, i32_w]
                       rfl
                      refine pure_ (i := 1) (N := some 89) (v := ?_) (a' := ?_) #[true, true, false, false, false, false, false, false, false, false, false, false, false, false, false, false, false, false] rfl rfl (any_of HT_.out (by kernel_rfl)) (fun _ _ _ h => h) (Or.inl ⟨by rfl, ?_⟩) ?_ ?_
                      rotate_left
                      ·
                       intro w'
                       go_simp
                       with_reducible rfl
                      rotate_left
                      ·
                       simp only [Act.put, List.setIfInBounds_toArray, List.set_cons_zero, List.set_cons_succ, i64_w, i32_w]
                       rfl
                      refine pure_ (i := 2) (N := some 90) (v := ?_) (a' := ?_) #[true, true, true, false, false, false, false, false, false, false, false, false, false, false, false, false, false, false] rfl rfl (any_of HT_.out (by kernel_rfl)) (fun _ _ _ h => h) (Or.inl ⟨by rfl, ?_⟩) ?_ ?_
                      rotate_left
                      ·
                       intro w'
                       go_simp
                       with_reducible rfl
                      rotate_left
                      ·
                       simp only [Act.put, List.setIfInBounds_toArray, List.set_cons_zero, List.set_cons_succ, i64_w, i32_w]
                       rfl
                      refine pure_ (i := 3) (N := some 91) (v := ?_) (a' := ?_) #[true, true, true, true, false, false, false, false, false, false, false, false, false, false, false, false, false, false] rfl rfl (any_of HT_.out (by kernel_rfl)) (fun _ _ _ h => h) (Or.inl ⟨by rfl, ?_⟩) ?_ ?_
                      rotate_left
                      ·
                       intro w'
                       go_simp
                       with_reducible rfl
                      rotate_left
                      ·
                       simp only [Act.put, List.setIfInBounds_toArray, List.set_cons_zero, List.set_cons_succ, i64_w, i32_w]
                       rfl
                      refine pure_ (i := 4) (N := some 92) (v := ?_) (a' := ?_) #[true, true, true, true, true, false, false, false, false, false, false, false, false, false, false, false, false, false] rfl rfl (any_of HT_.out (by kernel_rfl)) (fun _ _ _ h => h) (Or.inl ⟨by rfl, ?_⟩) ?_ ?_
                      rotate_left
                      ·
                       intro w'
                       go_simp
                       with_reducible rfl
                      rotate_left
                      ·
                       simp only [Act.put, List.setIfInBounds_toArray, List.set_cons_zero, List.set_cons_succ, i64_w, i32_w]
                       rfl
                      refine pure_ (i := 6) (N := some 94) (v := ?_) (a' := ?_) #[true, true, true, true, true, false, true, false, false, false, false, false, false, false, false, false, false, false] rfl rfl (any_of HT_.out (by kernel_rfl)) (fun _ _ _ h => h) (Or.inl ⟨by rfl, ?_⟩) ?_ ?_
                      rotate_left
                      ·
                       intro w'
                       go_simp
                       with_reducible rfl
                      rotate_left
                      ·
                       simp only [Act.put, List.setIfInBounds_toArray, List.set_cons_zero, List.set_cons_succ, i64_w, i32_w]
                       rfl
                      refine pure_ (i := 8) (N := some 96) (v := ?_) (a' := ?_) #[true, true, true, true, true, false, true, false, true, false, false, false, false, false, false, false, false, false] rfl rfl (any_of HT_.out (by kernel_rfl)) (fun _ _ _ h => h) (Or.inl ⟨by rfl, ?_⟩) ?_ ?_
                      rotate_left
                      ·
                       intro w'
                       go_simp
                       with_reducible rfl
                      rotate_left
                      ·
                       simp only [Act.put, List.setIfInBounds_toArray, List.set_cons_zero, List.set_cons_succ, i64_w, i32_w]
                       rfl
                      refine pure_ (i := 9) (N := some 97) (v := ?_) (a' := ?_) #[true, true, true, true, true, false, true, false, true, true, false, false, false, false, false, false, false, false] rfl rfl (any_of HT_.out (by kernel_rfl)) (fun _ _ _ h => h) (Or.inl ⟨by rfl, ?_⟩) ?_ ?_
                      rotate_left
                      ·
                       intro w'
                       go_simp
                       with_reducible rfl
                      rotate_left
                      ·
                       simp only [Act.put, List.setIfInBounds_toArray, List.set_cons_zero, List.set_cons_succ, i64_w, i32_w]
                       rfl
                      refine pure_ (i := 10) (N := some 98) (v := ?_) (a' := ?_) #[true, true, true, true, true, false, true, false, true, true, true, false, false, false, false, false, false, false] rfl rfl (any_of HT_.out (by kernel_rfl)) (fun _ _ _ h => h) (Or.inl ⟨by rfl, ?_⟩) ?_ ?_
                      rotate_left
                      ·
                       intro w'
                       go_simp
                       with_reducible rfl
                      rotate_left
                      ·
                       simp only [Act.put, List.setIfInBounds_toArray, List.set_cons_zero, List.set_cons_succ, i64_w, i32_w]
                       rfl
                      refine pure_ (i := 14) (N := some 102) (v := ?_) (a' := ?_) #[true, true, true, true, true, false, true, false, true, true, true, false, false, false, true, false, false, false] rfl rfl (any_of HT_.out (by kernel_rfl)) (fun _ _ _ h => h) (Or.inl ⟨by rfl, ?_⟩) ?_ ?_
                      rotate_left
                      ·
                       intro w'
                       go_simp
                       with_reducible rfl
                      rotate_left
                      ·
                       simp only [Act.put, List.setIfInBounds_toArray, List.set_cons_zero, List.set_cons_succ, i64_w, i32_w]
                       rfl
                      refine take_ (i := 5) (N := some 93) (v := ?_) (a' := ?_) #[true, true, true, true, true, true, true, false, true, true, true, false, false, false, true, false, false, false] rfl rfl (take_ofW HT_.out HW_.out (by kernel_rfl)) (fun _ _ _ h => h) (Or.inl ⟨by rfl, ?_⟩) hHeld ?_ ?_
                      rotate_left
                      ·
                       rintro w' ⟨s0, s1⟩
                       go_simp
                       with_reducible rfl
                      rotate_left
                      ·
                       simp only [Act.put, List.setIfInBounds_toArray, List.set_cons_zero, List.set_cons_succ, i64_w, i32_w]
                       rfl
                      refine pure_ (i := 7) (N := some 95) (v := ?_) (a' := ?_) #[true, true, true, true, true, true, true, true, true, true, true, false, false, false, true, false, false, false] rfl rfl (any_of HT_.out (by kernel_rfl)) (fun _ _ _ h => h) (Or.inl ⟨by rfl, ?_⟩) ?_ ?_
                      rotate_left
                      ·
                       intro w'
                       go_simp
                       with_reducible rfl
                      rotate_left
                      ·
                       simp only [Act.put, List.setIfInBounds_toArray, List.set_cons_zero, List.set_cons_succ, i64_w, i32_w]
                       rfl
                      refine take_ (i := 11) (N := some 99) (v := ?_) (a' := ?_) #[true, true, true, true, true, true, true, true, true, true, true, true, false, false, true, false, false, false] rfl rfl (take_ofW HT_.out HW_.out (by kernel_rfl)) (fun _ _ _ h => h) (Or.inl ⟨by rfl, ?_⟩) hHeld ?_ ?_
                      rotate_left
                      ·
                       rintro w' ⟨s0, s1⟩
                       go_simp
                       with_reducible rfl
                      rotate_left
                      ·
                       simp only [Act.put, List.setIfInBounds_toArray, List.set_cons_zero, List.set_cons_succ, i64_w, i32_w]
                       rfl
                      refine one_ (i := 12) (N := some 100) #[true, true, true, true, true, true, true, true, true, true, true, true, true, false, true, false, false, false] rfl rfl (one_of HT_.out (by kernel_rfl)) (by decide) (fun K hK => ?_)
                      refine value_ (w1 := ?_) (v := ?_) (by rfl) rfl ?_ ?_
                      rotate_left 2
                      ·
                       go_simp
                       constructor
                       ·
                        rfl
                       ·
                        rfl
                      refine hK.out _ _ ⟨(World.cell?_alloc_lt _ _ _ (World.block_lt_of_cell? _ _ (hHeld.1))).trans (hHeld.1), (World.cell?_alloc_lt _ _ _ (World.block_lt_of_cell? _ _ (hHeld.2))).trans (hHeld.2)⟩ (fun hHeld => ?_)
                      clear hK K
                      refine norm_ (a' := ?_) ?_ ?_
                      rotate_left
                      ·
                       show Act.put _ (some 100) _ = _
                       simp only [Act.put, List.setIfInBounds_toArray, List.set_cons_zero, List.set_cons_succ, i64_w, i32_w]
                       rfl
                      refine last_ (i := 13) (N := some 101) #[true, true, true, true, true, true, true, true, true, true, true, true, true, true, true, false, false, false] rfl rfl (one_of HT_.out (by kernel_rfl)) (by decide) (fun K hK => ?_)
                      refine Kd.R_append_step (Kd.int .i64) w.heap.size (by rfl) (.tmp 95) (.tmp 100) 27 3 (.int .i64 0) 8 rfl Try.underlying27 info3 rfl (by decide) (by omega) (.slice A533_0 y534.length c533_0) y534 (rd x4_2 x8_4) [.int .i64 (rd x4_2 x8_4)] (fun k_ => oki90 k_ ∨ ((fun k_ => some k_ ≠ (.slice (some ad538) x4_2.length co30 : Value).ownBlock ∧ some k_ ≠ (v531 : Value).ownBlock)) k_ ∧ w88.heap.size ≤ k_) (fun _ => False) rfl rfl ?aP (fun _ hk => hk.elim) ?aF ?aO (Below.refl _ _) ?aS ?aL ?_
                      (case aP => exact rfl)
                      (case aF => exact (fun k_ hk => .inr ⟨⟨Kd.fresh' (Kd.R_lt (zr HO_4.out)) k_ hk, Kd.fresh' (Kd.R_lt (zr HO532.out)) k_ hk⟩, hk⟩))
                      (case aO => exact (by (with_reducible repeat (first | apply Kd.R_alloc | apply Kd.R_drewN | apply Kd.R_drew)); exact Kd.R_mono UC90.out (fun _ hk => .inl hk)))
                      (case aS => exact (keep_size (w := w) (g := g) (row := none) z1))
                      (case aL => have := LMc78.out; omega)
                      intro v540 w91 ho hb hg hat
                      rw [← Ny539.out] at ho
                      have n0_ := Aside0.mk (Kd.R_grown2 (zr HO_4.out) rfl hg (fun k_ e_ => (UL90.out.1 k_ e_).1.1))
                      have n1_ := Aside0.mk (IsS84.grown z2 hg (IsS84.own_ne HI0.out UL90.out (by decide)))
                      have n2_ := Aside0.mk (Kd.R_grown2 (zr HO532.out) rfl hg (fun k_ e_ => (UL90.out.1 k_ e_).1.2))
                      have n3_ := Aside0.mk (below_weaken z4 HL.out hb)
                      have n4_ := Aside0.mk (KeepBut.trans z1 (KeepBut.of_grown hg g) (Kd.R_base2 UL90.out))
                      have n5_ := Aside0.mk (Kd.H_grown (Kd.H_widen (by repeat (first | exact HH90.out | refine Kd.H_alloc ?_ _ | refine Kd.H_drewN ?_ _ | refine Kd.H_drew ?_))) hg (fun k_ e_ => .inl (UC90.out.1 k_ e_)))
                      have n6_ := Aside0.mk (ho)
                      have n7_ := Aside0.mk (hg.size)
                      clear HO_4
                      clear HI0
                      clear HO532
                      clear HB
                      clear HK
                      clear HH90
                      clear HO_6
                      clear UU90
                      clear UC90
                      clear UL90
                      clear HL518_0
                      clear HL525_0
                      clear HL533_0
                      have HO_4 := n0_
                      have HI0 := n1_
                      have HO532 := n2_
                      have HB := n3_
                      have HK := n4_
                      have HH90 := n5_
                      have HO541 := n6_
                      have HZ90 := n7_
                      clear n0_ n1_ n2_ n3_ n4_ n5_ n6_ n7_
                      clear ho hb hg hat
                      obtain ⟨Ao93, co93, eo93⟩ := Kd.R_slice HO532.out
                      (first | subst eo93 | (injection eo93 with f1_ f2_ f3_; have f4_ := f1_.symm; have f5_ := f3_.symm; clear f1_ f2_ f3_; subst f4_; subst f5_))
                      refine hK.out _ _ ?_
                      clear hK K
                      refine norm_ (a' := ?_) ?_ ?_
                      rotate_left
                      ·
                       show Act.put _ (some 101) _ = _
                       simp only [Act.put, List.setIfInBounds_toArray, List.set_cons_zero, List.set_cons_succ, i64_w, i32_w]
                       rfl
                      refine last_ (i := 15) (N := some 103) #[true, true, true, true, true, true, true, true, true, true, true, true, true, true, true, true, false, false] rfl rfl (one_of HT_.out (by kernel_rfl)) (by decide) (fun K hK => ?_)
                      refine Kd.R_append_rows_step (Kd.int .i64) w.heap.size (by rfl) (.tmp 101) (.tmp 102) 27 3 (.int .i64 0) 8 rfl Try.underlying27 info3 rfl (by decide) (by omega) v540 y539 y530 _ _ _ (fun k_ => oki90 k_ ∨ ((fun k_ => some k_ ≠ (.slice (some ad538) x4_2.length co30 : Value).ownBlock ∧ some k_ ≠ (.slice Ao93 y530.length co93 : Value).ownBlock)) k_ ∧ w88.heap.size ≤ k_) (fun _ => False) rfl rfl ?aO ?aR (fun _ _ h => h) (fun _ h => h.elim) ?aF (Below.refl _ _) ?aS ?aL ?_
                      (case aR => exact zc (Kd.R_reads' HO532.out).2.2)
                      (case aF => exact (fun k_ hk => .inr ⟨⟨Kd.fresh' (Kd.R_lt (zr HO_4.out)) k_ hk, Kd.fresh' (Kd.R_lt (zr HO532.out)) k_ hk⟩, (Nat.le_trans HZ90.out hk)⟩))
                      (case aO => exact ((zr HO541.out)))
                      (case aS => exact (keep_size (w := w) (g := g) (row := none) z1))
                      (case aL => have := LMc79.out; omega)
                      intro v543 w92 ho hb hg hat
                      rw [← Ny542.out] at ho
                      have n0_ := Aside0.mk (Kd.R_grown2 (zr HO_4.out) rfl hg (fun k_ e_ => ((HO541.out.1 k_ e_).elim (fun h2_ => HK90_.out k_ h2_) (fun h2_ => h2_.1)).1))
                      have n1_ := Aside0.mk (IsS84.grown z2 hg (IsS84.own_ne HI0.out HO541.out (by decide)))
                      have n2_ := Aside0.mk (Kd.R_grown2 (zr HO532.out) rfl hg (fun k_ e_ => ((HO541.out.1 k_ e_).elim (fun h2_ => HK90_.out k_ h2_) (fun h2_ => h2_.1)).2))
                      have n3_ := Aside0.mk (Kd.H_grown (by repeat (first | exact HH90.out | refine Kd.H_alloc ?_ _ | refine Kd.H_drewN ?_ _ | refine Kd.H_drew ?_)) hg (fun k_ e_ => HO541.out.1 k_ e_))
                      have n4_ := Aside0.mk (below_weaken z4 HL.out hb)
                      have n5_ := Aside0.mk (KeepBut.trans z1 (KeepBut.of_grown hg g) (Kd.R_base2 HO541.out))
                      have n6_ := Aside0.mk (ho)
                      clear HO_4
                      clear HI0
                      clear HO532
                      clear HH90
                      clear HB
                      clear HK
                      clear HO541
                      have HO_4 := n0_
                      have HI0 := n1_
                      have HO532 := n2_
                      have HH90 := n3_
                      have HB := n4_
                      have HK := n5_
                      have HO544 := n6_
                      clear n0_ n1_ n2_ n3_ n4_ n5_ n6_
                      clear ho hb hg hat
                      have p80 : 0 ≤ (t487 : Int) := za
                      have q80 : (t487 : Int) < ((x6_4.length : Int) : Int) := za
                      replace p80 := eq_true p80
                      replace q80 := eq_true q80
                      obtain ⟨Ao96, co96, eo96⟩ := Kd.R_slice HO544.out
                      (first | subst eo96 | (injection eo96 with f1_ f2_ f3_; have f4_ := f1_.symm; have f5_ := f3_.symm; clear f1_ f2_ f3_; subst f4_; subst f5_))
                      obtain ⟨_, _, hraw94, _, _, hcc94, _⟩ := Kd.H_raw HH90.out (za) (by have h_ : (t487 : Int) < ((x6_4.length : Int) : Int) := za; first | exact h_ | (have e_ := (HN90.out); omega) | simpa using h_)
                      obtain ⟨_, hfr94⟩ := Kd.H_at HH90.out (za) (by have h_ : (t487 : Int) < ((x6_4.length : Int) : Int) := za; first | exact h_ | (have e_ := (HN90.out); omega) | simpa using h_)
                      have hx94_0 := hcc94 0 _ rfl
                      have hf94_0 := hfr94 0
                      (try simp only [Nat.add_zero] at hx94_0 hf94_0)
                      (try rw [show ((Kd.slice 3 (Kd.int .i64))).sz = 1 from rfl, Nat.mul_one] at hx94_0)
                      (try rw [show ((Kd.slice 3 (Kd.int .i64))).sz = 1 from rfl, Nat.mul_one] at hf94_0)
                      have HP94 := Kd.S_seg0 HH90.out (za) (by have h_ : (t487 : Int) < ((x6_4.length : Int) : Int) := za; first | exact h_ | (have e_ := (HN90.out); omega) | simpa using h_) (seg := [.slice Ao96 y542.length co96]) (j := 0) (show 1 ≤ 1 from by decide) (x' := y542) (Kd.M_row HO544.out) (fun _ hk => hk)
                      (try simp only [show ((Kd.slice 3 (Kd.int .i64))).sz = 1 from rfl, Nat.mul_one, Nat.add_zero] at HP94)
                      clear hcc94 hfr94
                      have HN0_go90 := Aside0.mk (show g ≠ go90 from by have h_ := IsS84.own_ne HI0.out hraw94 (by decide); intro e_; exact h_ (by rw [e_]; rfl))
                      have HS94 := HP94.1
                      rw [← Ny545.out] at HS94
                      have HQ94 := Aside0.mk HS94
                      obtain ⟨_, hgg94⟩ := Kd.R_typed hraw94 go90 rfl
                      have GG94_ := Aside0.mk hgg94
                      clear HP94 HS94 hgg94
                      refine hK.out _ _ ?_
                      clear hK K
                      refine norm_ (a' := ?_) ?_ ?_
                      rotate_left
                      ·
                       show Act.put _ (some 103) _ = _
                       simp only [Act.put, List.setIfInBounds_toArray, List.set_cons_zero, List.set_cons_succ, i64_w, i32_w]
                       rfl
                      refine pure_ (i := 16) (N := some 104) (v := ?_) (a' := ?_) #[true, true, true, true, true, true, true, true, true, true, true, true, true, true, true, true, true, false] rfl rfl (any_of HT_.out (by kernel_rfl)) (fun _ _ _ h => h) (Or.inl ⟨by rfl, ?_⟩) ?_ ?_
                      rotate_left
                      ·
                       intro w'
                       go_simp
                       with_reducible rfl
                      rotate_left
                      ·
                       simp only [Act.put, List.setIfInBounds_toArray, List.set_cons_zero, List.set_cons_succ, i64_w, i32_w]
                       rfl
                      refine last_ (i := 17) (N := none) #[true, true, true, true, true, true, true, true, true, true, true, true, true, true, true, true, true, true] rfl rfl (one_of HT_.out (by kernel_rfl)) (by decide) (fun K hK => ?_)
                      refine skip_ (w1 := ?_) (by rfl) rfl ?_ ?_
                      rotate_left
                      ·
                       go_simp
                       rfl
                      refine hK.out _ _ ?_
                      clear hK K
                      refine done_ (done_of HT_.out (by kernel_rfl)) ?_
                      try go_wp2
                      go_roundg k4
                      case measure => have := HK1.out; have := HK2.out; have := HK3.out; have := HK4.out; omega
                      case rel => exact ⟨(y545), (wrap64 (x8_4 + 1)), (t520), (t521), zd, H', ⟨by have := HK1.out; have := HK2.out; have := HK3.out; have := HK4.out; omega⟩, ⟨by (with_reducible repeat (first | apply Kd.R_alloc | apply Kd.R_drewN | apply Kd.R_drew)); exact Kd.R_mono (Kd.R_far (p := ⟨go90, (t487 : Int).toNat, none⟩) (Kd.R_types HO_4.out GG94_.out (by decide)) (fun _ hk => hk.2) (.slice Ao96 y542.length co96)) (fun _ hk => trivial)⟩, ⟨by (with_reducible repeat (first | apply Kd.S_alloc | apply Kd.S_drewN | apply Kd.S_drew)); exact Kd.S_mono HQ94.out (fun _ hk => hk.1)⟩, ⟨by repeat (first | (with_reducible first | exact HI0.out | apply IsS84.alloc | apply IsS84.drewN | apply IsS84.drew | apply IsS84.set_1 | apply IsS84.set_2 | refine IsS84.far ?_ HN0_go90.out _) | exact HI0.out)⟩, ⟨by repeat (first | (with_reducible first | exact HK.out | apply KeepBut.set_ | apply keep_drewN | apply keep_drew | apply keep_alloc | refine keep_far ?_ GB90.out _) | exact HK.out)⟩, ⟨by repeat (first | (with_reducible first | exact HB.out | apply below_alloc | apply pw_below_drewN | apply below_drew1 | refine below_set ?_ (Nat.le_trans HL.out GB90.out) | refine below_set ?_ (IsS84.ge HI0.out)) | exact HB.out)⟩⟩
                     ·
                      rw [if_neg c79] at H
                      exact absurd H (by simp)
                    ·
                     rw [if_neg c78] at H
                     exact absurd H (by simp)
                   ·
                    rw [if_neg c77] at H
                    exact absurd H (by simp)
                  ·
                   rw [if_neg c74] at H
                   exact absurd H (by simp)
                 ·
                  rw [if_neg c73] at H
                  exact absurd H (by simp)
                ·
                 rw [if_neg c72] at H
                 exact absurd H (by simp)
               ·
                rw [if_neg c70] at H
                exact absurd H (by simp)
              ·
               rw [if_neg c69] at H
               exact absurd H (by simp)
            ·
             rw [if_neg c39] at H
             have c39b0 : decide (x8_4 < (x4_2.length : Int)) = false := decide_eq_false c39
             clear c39
             simp only [Option.some.injEq, Prod.mk.injEq] at H
             obtain ⟨rfl, rfl, rfl⟩ := H
             go_wp2
             go_ret
             exact ⟨_, ze, by (with_reducible repeat (first | apply Kd.S_alloc | apply Kd.S_drewN | apply Kd.S_drew)); exact Kd.S_mono HO_6.out (fun _ hk => trivial), z2, z4, z1⟩
end Go.Proofs.Ytfknffpfjoalkaa.QFnGluings
