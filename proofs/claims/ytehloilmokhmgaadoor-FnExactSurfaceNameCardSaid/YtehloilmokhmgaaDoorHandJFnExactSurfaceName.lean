/- The decimal numeral: spec.FormatInt in plain words, and impl.FormatInt over the shelf's contract of strconv.Itoa. Conditions: the whole number is an int; the table of powers of ten reads as it is laid. -/
import Derived.Test.YtehloilmokhmgaaDoorQFnExactSurfaceNamex1
import Derived.Test.YtehloilmokhmgaaDoorCom
import Derived.Test.YtehloilmokhmgaaDoorIto
import Derived.Lib.AppendIntMem
import Derived.Lib.SmallJoins
namespace Go.Proofs.YtehloilmokhmgaaDoor.QFnExactSurfaceName
open Go.RowKit Go.Proofs.YtehloilmokhmgaaDoorW.PrintWords Go.Proofs.YtehloilmokhmgaaDoorW.PrintLast Go.Proofs.YtehloilmokhmgaaDoorW.PrintMore Go.Proofs.YtehloilmokhmgaaDoor.Com
attribute [local go_sem] max2_int min2_int max_two min_two max_three min_three max_four min_four
set_option linter.unusedVariables false
set_option linter.unusedSimpArgs false

/-- The numeral as a text. -/
def itoaB (n : Int) : ByteArray := ⟨(Lib.itoa n).toArray⟩
/-- The table of powers of ten, as it is laid. -/
abbrev Tab (w : World) : Prop := Lib.TabIs Tryd.prog w "internal/strconv.uint64pow10" .u64 Lib.pow10Tab
theorem tab_on {w w' : World} (h : Tab w) (hb : Below w.heap.size w w') : Tab w' := Lib.tabBelow_of_tabIs h w' hb

/-- The digits, none for 0. -/
def digs (u : Nat) : List UInt8 := if u = 0 then [] else Lib.decDigits u
theorem digs_step (u : Nat) (h : u ≠ 0) : digs u = digs (u / 10) ++ [UInt8.ofNat (48 + u % 10)] := by
  unfold digs
  rw [if_neg h]
  by_cases h1 : u < 10
  · rw [if_pos (by omega), Lib.decDigits_one h1, Nat.mod_eq_of_lt h1]; rfl
  · rw [if_neg (by omega), Lib.decDigits, dif_neg h1]
theorem digs_len : ∀ (m u : Nat), u < 10 ^ m → (digs u).length ≤ m
  | 0, u, h => by
    have : u = 0 := by simpa using h
    subst this; simp [digs]
  | m + 1, u, h => by
    by_cases h0 : u = 0
    · subst h0; simp [digs]
    · rw [digs_step u h0, List.length_append]
      have := digs_len m (u / 10) (by rw [Nat.pow_succ] at h; omega)
      simp only [List.length_singleton]
      omega

theorem ba_append (a b : List UInt8) : (⟨a.toArray⟩ : ByteArray) ++ ⟨b.toArray⟩ = ⟨(a ++ b).toArray⟩ := by
  apply ByteArray.ext
  simp
theorem ba_size (a : List UInt8) : (⟨a.toArray⟩ : ByteArray).size = a.length := by simp [ByteArray.size]
theorem strOf_one (u : Nat) (h : u < 256) : strOfNums [(u : Int)] = ⟨[UInt8.ofNat u].toArray⟩ := by
  simp [strOfNums]

theorem spec_l0 (nb : Bool) : ∀ (m : Nat) (x : Int) (acc : List UInt8), x.natAbs < 10 ^ m → acc.length + m < 1000 → -9223372036854775808 ≤ x → x ≤ 9223372036854775807 →
    Ev (fun k => spec_FormatInt.l0 k x nb ⟨acc.toArray⟩) ⟨((if nb then [45] else []) ++ (digs x.natAbs ++ acc)).toArray⟩ := by
  intro m
  induction m with
  | zero =>
    intro x acc hx ha h0 h1
    have hx0 : x = 0 := by
      have : x.natAbs = 0 := by simpa using hx
      omega
    subst hx0
    cases nb with
    | true =>
      refine Ev.step (f := fun _ => some ((⟨#[45]⟩ : ByteArray) ++ ⟨acc.toArray⟩)) (fun k => ?_) ?_
      · simp only [spec_FormatInt.l0]
        rw [if_pos trivial, if_pos trivial, if_pos (by rw [ba_size]; omega)]
      · have e : (⟨#[45]⟩ : ByteArray) ++ ⟨acc.toArray⟩ = ⟨((if true = true then [45] else []) ++ (digs (0 : Int).natAbs ++ acc)).toArray⟩ := ba_append [45] acc
        rw [e]; exact Ev.now _
    | false =>
      refine Ev.step (f := fun _ => some (⟨acc.toArray⟩ : ByteArray)) (fun k => ?_) (Ev.now _)
      simp only [spec_FormatInt.l0]
      rw [if_pos trivial, if_neg (by decide)]
  | succ m ih =>
    intro x acc hx ha h0 h1
    by_cases hx0 : x = 0
    · subst hx0
      have := ih 0 acc (by simpa using Nat.pow_pos (by decide)) (by omega) (by omega) (by omega)
      exact this
    have hq : wrap64 (Int.tdiv x 10) = Int.tdiv x 10 := by
      have e1 : (Int.tdiv x 10).natAbs = x.natAbs / 10 := Int.natAbs_tdiv x 10
      refine w64 ?_ ?_ <;> omega
    have hqa : (Int.tdiv x 10).natAbs = x.natAbs / 10 := Int.natAbs_tdiv x 10
    have hra : (Int.tmod x 10).natAbs = x.natAbs % 10 := Int.natAbs_tmod x 10
    have hi := ih (Int.tdiv x 10) (UInt8.ofNat (48 + x.natAbs % 10) :: acc) (by rw [hqa]; rw [Nat.pow_succ] at hx; omega) (by simp only [List.length_cons]; omega) (by omega) (by omega)
    have e : digs x.natAbs ++ acc = digs (Int.tdiv x 10).natAbs ++ (UInt8.ofNat (48 + x.natAbs % 10) :: acc) := by
      rw [digs_step _ (by omega), hqa, List.append_assoc]; rfl
    rw [e]
    have hcat : strOfNums [((48 + x.natAbs % 10 : Nat) : Int)] ++ (⟨acc.toArray⟩ : ByteArray) = ⟨(UInt8.ofNat (48 + x.natAbs % 10) :: acc).toArray⟩ := by
      rw [strOf_one _ (by omega), ba_append]; rfl
    have hsz : (strOfNums [((48 + x.natAbs % 10 : Nat) : Int)]).size + (⟨acc.toArray⟩ : ByteArray).size ≤ 9223372036854775807 := by
      rw [strOf_one _ (by omega), ba_size, ba_size]; simp only [List.length_singleton]; omega
    refine Ev.step (f := fun k => spec_FormatInt.l0 k (Int.tdiv x 10) nb ⟨(UInt8.ofNat (48 + x.natAbs % 10) :: acc).toArray⟩) (fun k => ?_) hi
    simp only [spec_FormatInt.l0]
    rw [if_neg hx0]
    by_cases hr : Int.tmod x 10 < 0
    · rw [if_pos hr]
      have e1 : wrap64 (48 + wrap64 (-(Int.tmod x 10))) % 256 = ((48 + x.natAbs % 10 : Nat) : Int) := by
        rw [w64 (x := -(Int.tmod x 10)) (by omega) (by omega), w64 (by omega) (by omega)]; omega
      show (if (strOfNums [wrap64 (48 + wrap64 (-(Int.tmod x 10))) % 256]).size + (⟨acc.toArray⟩ : ByteArray).size ≤ 9223372036854775807 then spec_FormatInt.l0 k (wrap64 (Int.tdiv x 10)) nb (strOfNums [wrap64 (48 + wrap64 (-(Int.tmod x 10))) % 256] ++ ⟨acc.toArray⟩) else none) = _
      rw [e1, if_pos hsz, hcat, hq]
    · rw [if_neg hr]
      have e1 : wrap64 (48 + Int.tmod x 10) % 256 = ((48 + x.natAbs % 10 : Nat) : Int) := by
        rw [w64 (by omega) (by omega)]; omega
      show (if (strOfNums [wrap64 (48 + Int.tmod x 10) % 256]).size + (⟨acc.toArray⟩ : ByteArray).size ≤ 9223372036854775807 then spec_FormatInt.l0 k (wrap64 (Int.tdiv x 10)) nb (strOfNums [wrap64 (48 + Int.tmod x 10) % 256] ++ ⟨acc.toArray⟩) else none) = _
      rw [e1, if_pos hsz, hcat, hq]

theorem formatInt_ev (x : Int) (h0 : -9223372036854775808 ≤ x) (h1 : x ≤ 9223372036854775807) : Ev (fun k => spec_FormatInt.f k x) (itoaB x) := by
  unfold spec_FormatInt.f
  by_cases hx : x = 0
  · subst hx
    refine Ev.congr (fun k => if_pos rfl) ?_
    have e : (⟨#[48]⟩ : ByteArray) = itoaB 0 := by
      unfold itoaB Lib.itoa
      rw [if_neg (by decide), Int.toNat_zero, Lib.decDigits_one (by decide)]
      rfl
    rw [e]; exact Ev.now _
  · refine Ev.congr (fun k => if_neg hx) ?_
    have h := spec_l0 (decide (x < 0)) 19 x [] (by omega) (by simp) h0 h1
    have e : (⟨((if decide (x < 0) = true then [45] else []) ++ (digs x.natAbs ++ [])).toArray⟩ : ByteArray) = itoaB x := by
      unfold itoaB Lib.itoa
      congr 2
      rw [List.append_nil]
      have ed : digs x.natAbs = Lib.decDigits x.natAbs := by unfold digs; rw [if_neg (by omega)]
      rw [ed]
      by_cases hn : x < 0
      · rw [if_pos (decide_eq_true hn), if_pos hn]; rfl
      · rw [if_neg (by simpa using hn), if_neg hn]
        rw [show x.toNat = x.natAbs by omega]; rfl
    rw [e] at h
    exact h

set_option maxHeartbeats 8000000 in
theorem spec_FormatInt.told (x : Int) (h0 : -9223372036854775808 ≤ x) (h1 : x ≤ 9223372036854775807) (w : World) : Calls Tryd.prog 5 #[.int .i64 x] w fun e w' => e = .returned (.string (itoaB x)) ∧ Below w.heap.size w w' := by
  obtain ⟨k, hk⟩ := formatInt_ev x h0 h1
  exact spec_FormatInt.calls k x _ w (hk k (Nat.le_refl _))

theorem itoa_calls (x : Int) (h0 : -9223372036854775808 ≤ x) (h1 : x ≤ 9223372036854775807) (w : World) (ht : Tab w) : Calls Tryd.prog 10 #[.int .i64 x] w fun e w' => e = .returned (.string (itoaB x)) ∧ Below w.heap.size w w' := by
  refine (Tryd.strconv_Itoa x h0 h1 w ht).mono ?_
  rintro e w' ⟨rfl, k, os, rfl⟩
  exact ⟨rfl, Lib.below_grow _ w (Nat.le_refl _) k os⟩

set_option maxHeartbeats 8000000 in
set_option maxRecDepth 100000 in
theorem impl_FormatInt.told (x : Int) (h0 : -9223372036854775808 ≤ x) (h1 : x ≤ 9223372036854775807) (w : World) (ht : Tab w) : Calls Tryd.prog 6 #[.int .i64 x] w fun e w' => e = .returned (.string (itoaB x)) ∧ Below w.heap.size w w' := by
  have HT := Aside0.mk ht
  clear ht
  go_enter Tryd.func6, Tryd.ntmps6
  go_wp2_with fail
  go_at_call 10
  refine (itoa_calls x h0 h1 _ HT.out).mono ?_
  rintro e w1 ⟨rfl, hb⟩
  go_wp2_with fail
  go_ret
  exact ⟨rfl, hb⟩
/-- impl.FormatInt, in the printed form: the numeral of an int. -/
def impl_FormatInt.f (a0 : Int) : Option ByteArray := if -9223372036854775808 ≤ a0 ∧ a0 ≤ 9223372036854775807 then some (itoaB a0) else none
theorem impl_FormatInt.calls (a0 : Int) (r : ByteArray) (w : World) (ht : Tab w) (h : impl_FormatInt.f a0 = some r) :
    Calls Tryd.prog 6 #[.int .i64 a0] w fun e w' => e = .returned (.string r) ∧ Below w.heap.size w w' := by
  unfold impl_FormatInt.f at h
  by_cases hc : -9223372036854775808 ≤ a0 ∧ a0 ≤ 9223372036854775807
  · rw [if_pos hc] at h
    obtain rfl := Option.some.inj h
    exact impl_FormatInt.told a0 hc.1 hc.2 w ht
  · rw [if_neg hc] at h; cases h
end Go.Proofs.YtehloilmokhmgaaDoor.QFnExactSurfaceName
