/- The decimal numeral: spec.FormatInt in plain words, and impl.FormatInt over the shelf's contract of strconv.Itoa. Conditions: the whole number is an int; the table of powers of ten reads as it is laid. -/
import Derived.Test.YteeejdbdmfageaaDoorQFnNumbersx1
import Derived.Test.YteeejdbdmfageaaDoorCom
import Derived.Test.YteeejdbdmfageaaDoorIto
import Derived.Lib.AppendIntMem
import Derived.Lib.SmallJoins
import Derived.Test.YteeejdbdmfageaaDoorAto
import Derived.Test.YteeejdbdmfageaaDoorDeci
import Derived.Lib.AtoiErrMem
namespace Go.Proofs.YteeejdbdmfageaaDoor.QFnNumbers
open Go.RowKit Go.Proofs.YteeejdbdmfageaaDoorW.PrintWords Go.Proofs.YteeejdbdmfageaaDoorW.PrintLast Go.Proofs.YteeejdbdmfageaaDoorW.PrintMore Go.Proofs.YteeejdbdmfageaaDoor.Com
attribute [local go_sem] max2_int min2_int max_two min_two max_three min_three max_four min_four
set_option linter.unusedVariables false
set_option linter.unusedSimpArgs false

/-- The numeral as a text. -/
def itoaB (n : Int) : ByteArray := ⟨(Lib.itoa n).toArray⟩
/-- What the library reads: the table of powers of ten, and the two errors of strconv, as they are laid. -/
def Tab (w : World) : Prop := Lib.TabIs Tryd.prog w "internal/strconv.uint64pow10" .u64 Lib.pow10Tab ∧ (∃ tp p, w.var? Tryd.prog "strconv.ErrSyntax" = some #[.iface tp p]) ∧ (∃ tp p, w.var? Tryd.prog "strconv.ErrRange" = some #[.iface tp p])
theorem var_on {w w' : World} {n : String} {c : Array Value} (h : w.var? Tryd.prog n = some c) (hb : Below w.heap.size w w') : w'.var? Tryd.prog n = some c := by
  unfold World.var? at *
  cases hg : Tryd.prog.globalNamed n with
  | none => simp [hg] at h
  | some g =>
    simp only [hg, Option.bind_some] at h ⊢
    have hlt : g < w.heap.size := by
      rcases Nat.lt_or_ge g w.heap.size with h' | h'
      · exact h'
      · rw [Array.getElem?_eq_none h'] at h; simp at h
    rw [hb.block g hlt]
    exact h
theorem tab_on {w w' : World} (h : Tab w) (hb : Below w.heap.size w w') : Tab w' := by
  obtain ⟨h1, ⟨t2, p2, h2⟩, ⟨t3, p3, h3⟩⟩ := h
  exact ⟨Lib.tabBelow_of_tabIs h1 w' hb, ⟨t2, p2, var_on h2 hb⟩, ⟨t3, p3, var_on h3 hb⟩⟩

/-- The digits, none for 0. -/
def digs (u : Nat) : List UInt8 := if u = 0 then [] else Lib.decDigits u
theorem digs_step (u : Nat) (h : u ≠ 0) : digs u = digs (u / 10) ++ [UInt8.ofNat (48 + u % 10)] := by
  unfold digs
  rw [if_neg h]
  by_cases h1 : u < 10
  · rw [if_pos (by omega), Lib.decDigits_one h1, Nat.mod_eq_of_lt h1]; rfl
  · rw [if_neg (by omega), Lib.decDigits, dif_neg h1]
theorem digs_len : ∀ (m u : Nat), u < 10 ^ m → (digs u).length ≤ m
  | 0, u, h => by
    have : u = 0 := by simpa using h
    subst this; simp [digs]
  | m + 1, u, h => by
    by_cases h0 : u = 0
    · subst h0; simp [digs]
    · rw [digs_step u h0, List.length_append]
      have := digs_len m (u / 10) (by rw [Nat.pow_succ] at h; omega)
      simp only [List.length_singleton]
      omega

theorem ba_append (a b : List UInt8) : (⟨a.toArray⟩ : ByteArray) ++ ⟨b.toArray⟩ = ⟨(a ++ b).toArray⟩ := by
  apply ByteArray.ext
  simp
theorem ba_size (a : List UInt8) : (⟨a.toArray⟩ : ByteArray).size = a.length := by simp [ByteArray.size]
theorem strOf_one (u : Nat) (h : u < 256) : strOfNums [(u : Int)] = ⟨[UInt8.ofNat u].toArray⟩ := by
  simp [strOfNums]

theorem spec_l0 (nb : Bool) : ∀ (m : Nat) (x : Int) (acc : List UInt8), x.natAbs < 10 ^ m → acc.length + m < 1000 → -9223372036854775808 ≤ x → x ≤ 9223372036854775807 →
    Ev (fun k => spec_FormatInt.l0 k x nb ⟨acc.toArray⟩) ⟨((if nb then [45] else []) ++ (digs x.natAbs ++ acc)).toArray⟩ := by
  intro m
  induction m with
  | zero =>
    intro x acc hx ha h0 h1
    have hx0 : x = 0 := by
      have : x.natAbs = 0 := by simpa using hx
      omega
    subst hx0
    cases nb with
    | true =>
      refine Ev.step (f := fun _ => some ((⟨#[45]⟩ : ByteArray) ++ ⟨acc.toArray⟩)) (fun k => ?_) ?_
      · simp only [spec_FormatInt.l0]
        rw [if_pos trivial, if_pos trivial, if_pos (by rw [ba_size]; omega)]
      · have e : (⟨#[45]⟩ : ByteArray) ++ ⟨acc.toArray⟩ = ⟨((if true = true then [45] else []) ++ (digs (0 : Int).natAbs ++ acc)).toArray⟩ := ba_append [45] acc
        rw [e]; exact Ev.now _
    | false =>
      refine Ev.step (f := fun _ => some (⟨acc.toArray⟩ : ByteArray)) (fun k => ?_) (Ev.now _)
      simp only [spec_FormatInt.l0]
      rw [if_pos trivial, if_neg (by decide)]
  | succ m ih =>
    intro x acc hx ha h0 h1
    by_cases hx0 : x = 0
    · subst hx0
      have := ih 0 acc (by simpa using Nat.pow_pos (by decide)) (by omega) (by omega) (by omega)
      exact this
    have hq : wrap64 (Int.tdiv x 10) = Int.tdiv x 10 := by
      have e1 : (Int.tdiv x 10).natAbs = x.natAbs / 10 := Int.natAbs_tdiv x 10
      refine w64 ?_ ?_ <;> omega
    have hqa : (Int.tdiv x 10).natAbs = x.natAbs / 10 := Int.natAbs_tdiv x 10
    have hra : (Int.tmod x 10).natAbs = x.natAbs % 10 := Int.natAbs_tmod x 10
    have hi := ih (Int.tdiv x 10) (UInt8.ofNat (48 + x.natAbs % 10) :: acc) (by rw [hqa]; rw [Nat.pow_succ] at hx; omega) (by simp only [List.length_cons]; omega) (by omega) (by omega)
    have e : digs x.natAbs ++ acc = digs (Int.tdiv x 10).natAbs ++ (UInt8.ofNat (48 + x.natAbs % 10) :: acc) := by
      rw [digs_step _ (by omega), hqa, List.append_assoc]; rfl
    rw [e]
    have hcat : strOfNums [((48 + x.natAbs % 10 : Nat) : Int)] ++ (⟨acc.toArray⟩ : ByteArray) = ⟨(UInt8.ofNat (48 + x.natAbs % 10) :: acc).toArray⟩ := by
      rw [strOf_one _ (by omega), ba_append]; rfl
    have hsz : (strOfNums [((48 + x.natAbs % 10 : Nat) : Int)]).size + (⟨acc.toArray⟩ : ByteArray).size ≤ 9223372036854775807 := by
      rw [strOf_one _ (by omega), ba_size, ba_size]; simp only [List.length_singleton]; omega
    refine Ev.step (f := fun k => spec_FormatInt.l0 k (Int.tdiv x 10) nb ⟨(UInt8.ofNat (48 + x.natAbs % 10) :: acc).toArray⟩) (fun k => ?_) hi
    simp only [spec_FormatInt.l0]
    rw [if_neg hx0]
    by_cases hr : Int.tmod x 10 < 0
    · rw [if_pos hr]
      have e1 : wrap64 (48 + wrap64 (-(Int.tmod x 10))) % 256 = ((48 + x.natAbs % 10 : Nat) : Int) := by
        rw [w64 (x := -(Int.tmod x 10)) (by omega) (by omega), w64 (by omega) (by omega)]; omega
      show (if (strOfNums [wrap64 (48 + wrap64 (-(Int.tmod x 10))) % 256]).size + (⟨acc.toArray⟩ : ByteArray).size ≤ 9223372036854775807 then spec_FormatInt.l0 k (wrap64 (Int.tdiv x 10)) nb (strOfNums [wrap64 (48 + wrap64 (-(Int.tmod x 10))) % 256] ++ ⟨acc.toArray⟩) else none) = _
      rw [e1, if_pos hsz, hcat, hq]
    · rw [if_neg hr]
      have e1 : wrap64 (48 + Int.tmod x 10) % 256 = ((48 + x.natAbs % 10 : Nat) : Int) := by
        rw [w64 (by omega) (by omega)]; omega
      show (if (strOfNums [wrap64 (48 + Int.tmod x 10) % 256]).size + (⟨acc.toArray⟩ : ByteArray).size ≤ 9223372036854775807 then spec_FormatInt.l0 k (wrap64 (Int.tdiv x 10)) nb (strOfNums [wrap64 (48 + Int.tmod x 10) % 256] ++ ⟨acc.toArray⟩) else none) = _
      rw [e1, if_pos hsz, hcat, hq]

theorem formatInt_ev (x : Int) (h0 : -9223372036854775808 ≤ x) (h1 : x ≤ 9223372036854775807) : Ev (fun k => spec_FormatInt.f k x) (itoaB x) := by
  unfold spec_FormatInt.f
  by_cases hx : x = 0
  · subst hx
    refine Ev.congr (fun k => if_pos rfl) ?_
    have e : (⟨#[48]⟩ : ByteArray) = itoaB 0 := by
      unfold itoaB Lib.itoa
      rw [if_neg (by decide), Int.toNat_zero, Lib.decDigits_one (by decide)]
      rfl
    rw [e]; exact Ev.now _
  · refine Ev.congr (fun k => if_neg hx) ?_
    have h := spec_l0 (decide (x < 0)) 19 x [] (by omega) (by simp) h0 h1
    have e : (⟨((if decide (x < 0) = true then [45] else []) ++ (digs x.natAbs ++ [])).toArray⟩ : ByteArray) = itoaB x := by
      unfold itoaB Lib.itoa
      congr 2
      rw [List.append_nil]
      have ed : digs x.natAbs = Lib.decDigits x.natAbs := by unfold digs; rw [if_neg (by omega)]
      rw [ed]
      by_cases hn : x < 0
      · rw [if_pos (decide_eq_true hn), if_pos hn]; rfl
      · rw [if_neg (by simpa using hn), if_neg hn]
        rw [show x.toNat = x.natAbs by omega]; rfl
    rw [e] at h
    exact h

set_option maxHeartbeats 8000000 in
theorem spec_FormatInt.told (x : Int) (h0 : -9223372036854775808 ≤ x) (h1 : x ≤ 9223372036854775807) (w : World) : Calls Tryd.prog 13 #[.int .i64 x] w fun e w' => e = .returned (.string (itoaB x)) ∧ Below w.heap.size w w' := by
  obtain ⟨k, hk⟩ := formatInt_ev x h0 h1
  exact spec_FormatInt.calls k x _ w (hk k (Nat.le_refl _))

theorem itoa_calls (x : Int) (h0 : -9223372036854775808 ≤ x) (h1 : x ≤ 9223372036854775807) (w : World) (ht : Tab w) : Calls Tryd.prog 19 #[.int .i64 x] w fun e w' => e = .returned (.string (itoaB x)) ∧ Below w.heap.size w w' := by
  refine (Tryd.strconv_Itoa x h0 h1 w ht.1).mono ?_
  rintro e w' ⟨rfl, k, os, rfl⟩
  exact ⟨rfl, Lib.below_grow _ w (Nat.le_refl _) k os⟩

set_option maxHeartbeats 8000000 in
set_option maxRecDepth 100000 in
theorem impl_FormatInt.told (x : Int) (h0 : -9223372036854775808 ≤ x) (h1 : x ≤ 9223372036854775807) (w : World) (ht : Tab w) : Calls Tryd.prog 12 #[.int .i64 x] w fun e w' => e = .returned (.string (itoaB x)) ∧ Below w.heap.size w w' := by
  have HT := Aside0.mk ht
  clear ht
  go_enter Tryd.func12, Tryd.ntmps12
  go_wp2_with fail
  go_at_call 19
  refine (itoa_calls x h0 h1 _ HT.out).mono ?_
  rintro e w1 ⟨rfl, hb⟩
  go_wp2_with fail
  go_ret
  exact ⟨rfl, hb⟩
/-- impl.FormatInt, in the printed form: the numeral of an int. -/
def impl_FormatInt.f (a0 : Int) : Option ByteArray := if -9223372036854775808 ≤ a0 ∧ a0 ≤ 9223372036854775807 then some (itoaB a0) else none
theorem impl_FormatInt.calls (a0 : Int) (r : ByteArray) (w : World) (ht : Tab w) (h : impl_FormatInt.f a0 = some r) :
    Calls Tryd.prog 12 #[.int .i64 a0] w fun e w' => e = .returned (.string r) ∧ Below w.heap.size w w' := by
  unfold impl_FormatInt.f at h
  by_cases hc : -9223372036854775808 ≤ a0 ∧ a0 ≤ 9223372036854775807
  · rw [if_pos hc] at h
    obtain rfl := Option.some.inj h
    exact impl_FormatInt.told a0 hc.1 hc.2 w ht
  · rw [if_neg hc] at h; cases h

/-- strconv.Atoi, in plain words: the number, or 0 beside an error; whether there is an error. -/
theorem atoi_calls (s : ByteArray) (hl : s.size ≤ 281474976710656) (w : World) (ht : Tab w) : Calls Tryd.prog 22 #[.string s] w fun e w' =>
    Below w.heap.size w w' ∧ ((∃ n, Lib.atoiAll s.data.toList = .ok n ∧ e = .returned (.tuple #[.int .i64 n, .nilIface])) ∨ ((∀ n, Lib.atoiAll s.data.toList ≠ .ok n) ∧ ∃ n T v, e = .returned (.tuple #[.int .i64 n, .iface T v]))) := by
  obtain ⟨h1, ⟨t2, p2, h2⟩, ⟨t3, p3, h3⟩⟩ := ht
  rcases h : Lib.atoiAll s.data.toList with n | _ | _
  · refine (Tryd.strconv_Atoi_ok s (by omega) n h w).mono ?_
    rintro e w' ⟨rfl, hw⟩
    refine ⟨?_, Or.inl ⟨n, rfl, rfl⟩⟩
    rcases hw with rfl | ⟨t, rfl⟩
    · exact Below.refl _ _
    · exact Lib.bytesWorld_below _ _ _
  · refine (Tryd.strconv_Atoi_syntax_var s hl h t2 p2 w h2).mono ?_
    rintro e w' ⟨N, rfl, -, -, hb⟩
    exact ⟨hb, Or.inr ⟨fun n hn => (by cases hn), _, _, _, rfl⟩⟩
  · refine (Tryd.strconv_Atoi_range_var s hl h t3 p3 w h3).mono ?_
    rintro e w' ⟨N, rfl, -, -, hb⟩
    exact ⟨hb, Or.inr ⟨fun n hn => (by cases hn), _, _, _, rfl⟩⟩

/-- impl.readInt, in the printed form. -/
def impl_readInt.f (a0 : ByteArray) (a1 a2 : Int) : Option (Int × Bool) := some (Deci.readI a0.data.toList a1 a2)
theorem itoaB_eq (n : Int) (s : ByteArray) : (itoaB n).toList = s.toList ↔ Lib.itoa n = s.data.toList := by
  rw [ByteArray.toList_eq, ByteArray.toList_eq]
  rfl
theorem within_is (n a b : Int) : impl_within.f n a b = some (decide (a ≤ n ∧ n ≤ b)) := by
  unfold impl_within.f
  by_cases h : n ≥ a
  · rw [if_pos h]
    have : decide (n ≤ b) = decide (a ≤ n ∧ n ≤ b) := by rw [decide_eq_decide]; exact ⟨fun x => ⟨h, x⟩, fun x => x.2⟩
    rw [this]
  · rw [if_neg h, decide_eq_false (fun x => h x.1)]
set_option maxHeartbeats 8000000 in
set_option maxRecDepth 100000 in
theorem impl_readInt.calls (a0 : ByteArray) (a1 a2 : Int) (r1 : Int) (r2 : Bool) (w : World) (ht : Tab w) (h : impl_readInt.f a0 a1 a2 = some (r1, r2)) :
    Calls Tryd.prog 16 #[.string a0, .int .i64 a1, .int .i64 a2] w fun e w' => e = .returned (.tuple #[.int .i64 r1, .bool r2]) ∧ Below w.heap.size w w' := by
  have HT := Aside0.mk ht
  clear ht
  have hr : Deci.readI a0.data.toList a1 a2 = (r1, r2) := Option.some.inj h
  clear h
  have hlen : a0.data.toList.length = a0.size := Array.length_toList
  unfold Deci.readI at hr
  by_cases hs : a0.size > 20
  · rw [if_pos (by omega)] at hr
    cases hr
    have hsb : decide (20 < (a0.size : Int)) = true := decide_eq_true (by omega)
    go_enter Tryd.func16, Tryd.ntmps16
    go_wp2_with fail
    go_ret2
    exact ⟨rfl, Below.refl _ _⟩
  rw [if_neg (by omega)] at hr
  have hsb : decide (20 < (a0.size : Int)) = false := decide_eq_false (by omega)
  go_enter Tryd.func16, Tryd.ntmps16
  go_wp2_with fail
  go_at_call 22
  refine (atoi_calls a0 (by omega) _ HT.out).mono ?_
  rintro e w1 ⟨hb, hc⟩
  have HB := Aside0.mk hb
  clear hb
  rcases hc with ⟨n, hn, rfl⟩ | ⟨hn, n, T, v, rfl⟩
  · rw [hn] at hr
    replace hr : (if a1 ≤ n ∧ n ≤ a2 ∧ Lib.itoa n = a0.data.toList then (n, true) else (0, false)) = (r1, r2) := hr
    have hbd := Lib.atoiAll_bounds hn
    by_cases hw : a1 ≤ n ∧ n ≤ a2
    case neg =>
      rw [if_neg (fun x => hw ⟨x.1, x.2.1⟩)] at hr
      cases hr
      go_wp2_with fail
      go_at_call 23
      refine (impl_within.calls n a1 a2 _ _ (by rw [within_is, decide_eq_false hw])).mono ?_
      rintro e w2 ⟨rfl, ⟨nd, rfl⟩⟩
      go_wp2_with fail
      go_ret2
      exact ⟨rfl, by first | exact HB.out | exact pw_below_drewN HB.out _⟩
    by_cases hi : Lib.itoa n = a0.data.toList
    case neg =>
      rw [if_neg (fun x => hi x.2.2)] at hr
      cases hr
      have hne := mt (itoaB_eq n a0).1 hi
      go_wp2_with fail
      go_at_call 23
      refine (impl_within.calls n a1 a2 _ _ (by rw [within_is, decide_eq_true hw])).mono ?_
      rintro e w2 ⟨rfl, ⟨nd, rfl⟩⟩
      go_wp2_with fail
      go_at_call 19
      refine (itoa_calls n (by omega) (by omega) _ (tab_on HT.out (pw_below_drewN HB.out _))).mono ?_
      rintro e w3 ⟨rfl, hb⟩
      have HB2 := Aside0.mk (below_step (pw_below_drewN HB.out _) hb)
      clear hb HB
      have hnb : ((itoaB n).toList == a0.toList) = false := beq_eq_false_iff_ne.mpr hne
      have hnb2 : ((itoaB n).toList != a0.toList) = true := bne_iff_ne.mpr hne
      go_wp2_with fail
      go_ret2
      exact ⟨rfl, HB2.out⟩
    rw [if_pos ⟨hw.1, hw.2, hi⟩] at hr
    cases hr
    have heq : itoaB r1 = a0 := by
      apply ByteArray.ext
      show (Lib.itoa r1).toArray = a0.data
      rw [hi]
    go_wp2_with fail
    go_at_call 23
    refine (impl_within.calls r1 a1 a2 _ _ (by rw [within_is, decide_eq_true hw])).mono ?_
    rintro e w2 ⟨rfl, ⟨nd, rfl⟩⟩
    go_wp2_with fail
    go_at_call 19
    refine (itoa_calls r1 (by omega) (by omega) _ (tab_on HT.out (pw_below_drewN HB.out _))).mono ?_
    rintro e w3 ⟨rfl, hb⟩
    have HB2 := Aside0.mk (below_step (pw_below_drewN HB.out _) hb)
    clear hb HB
    rw [heq]
    go_wp2_with fail
    go_ret2
    exact ⟨rfl, HB2.out⟩
  · have e0 : ((0 : Int), false) = (r1, r2) := by
      rcases hq : Lib.atoiAll a0.data.toList with m | _ | _
      · exact absurd hq (hn m)
      · rw [hq] at hr; exact hr
      · rw [hq] at hr; exact hr
    cases e0
    go_wp2_with fail
    go_ret2
    exact ⟨rfl, HB.out⟩
end Go.Proofs.YteeejdbdmfageaaDoor.QFnNumbers
