/- Whole numbers and their numerals: what is drawn is written and read again. Conditions: those that the printed statement itself names (lengths and numbers that fit). -/
import Derived.Test.YteeejdbdmfageaaDoorQFnNumbersx5
import Derived.Test.YteeejdbdmfageaaDoorCom
namespace Go.Proofs.YteeejdbdmfageaaDoor.Pure
open Classical Go.RowKit Go.Proofs.YteeejdbdmfageaaDoor.QFnNumbers Go.Proofs.YteeejdbdmfageaaDoorW.PrintWords Go.Proofs.YteeejdbdmfageaaDoorW.PrintLast Go.Proofs.YteeejdbdmfageaaDoor.Com

/-! readNum -/
/-- What the reference's reader answers when its digits are read. -/
def finR (s : ByteArray) (x6 : Bool) : Option Nat → Int × Bool
  | none => (0, false)
  | some u => if Lib.itoa (if x6 = true then -(u : Int) else u) = s.data.toList then ((if x6 = true then -(u : Int) else u), true) else (0, false)
theorem bt_list (s : ByteArray) (i : Nat) (h : i < s.data.toList.length) : bt s i = (s.data.toList[i].toNat : Int) := by
  have hs : i < s.size := by have : s.data.toList.length = s.size := Array.length_toList; omega
  unfold bt
  rw [dif_pos (show (i : Int).toNat < s.size from hs)]
  rfl
theorem l1Read_l0 (s t : ByteArray) (x6 : Bool) (ht : t.data.toList.length ≤ 12) : ∀ (d i v : Nat), i + d = t.data.toList.length → v < 10 ^ i →
    Ev (fun k => spec_l1Read.l0 k s x6 t (v : Int) (i : Int)) (finR s x6 (Lib.decFrom v (t.data.toList.drop i))) := by
  have hsz : t.size = t.data.toList.length := Array.length_toList.symm
  intro d
  induction d with
  | zero =>
    intro i v hi hv
    have hp : (10 : Nat) ^ i ≤ 10 ^ 12 := Nat.pow_le_pow_right (by decide) (by omega)
    have hp2 : (10 : Nat) ^ 12 = 1000000000000 := by decide
    rw [List.drop_of_length_le (by omega)]
    show Ev _ (finR s x6 (some v))
    cases x6 with
    | true =>
      have hn : wrap64 (-(v : Int)) = -(v : Int) := w64 (by omega) (by omega)
      refine Ev.step (f := fun k => (spec_FormatInt.f k (-(v : Int))).bind fun t107 => (if t107.toList = s.toList then (some (-(v : Int), true)) else (some (0, false)))) (fun k => ?_) ?_
      · simp only [spec_l1Read.l0]
        rw [if_neg (by omega), if_pos trivial, hn]
      · refine Ev.bind (formatInt_ev _ (by omega) (by omega)) ?_
        show Ev _ (if Lib.itoa (-(v : Int)) = s.data.toList then (-(v : Int), true) else (0, false))
        by_cases h : Lib.itoa (-(v : Int)) = s.data.toList
        · rw [if_pos ((itoaB_eq _ _).2 h), if_pos h]; exact Ev.now _
        · rw [if_neg (fun x => h ((itoaB_eq _ _).1 x)), if_neg h]; exact Ev.now _
    | false =>
      refine Ev.step (f := fun k => (spec_FormatInt.f k (v : Int)).bind fun t107 => (if t107.toList = s.toList then (some ((v : Int), true)) else (some (0, false)))) (fun k => ?_) ?_
      · simp only [spec_l1Read.l0]
        rw [if_neg (by omega), if_neg (by decide)]
      · refine Ev.bind (formatInt_ev _ (by omega) (by omega)) ?_
        show Ev _ (if Lib.itoa (v : Int) = s.data.toList then ((v : Int), true) else (0, false))
        by_cases h : Lib.itoa (v : Int) = s.data.toList
        · rw [if_pos ((itoaB_eq _ _).2 h), if_pos h]; exact Ev.now _
        · rw [if_neg (fun x => h ((itoaB_eq _ _).1 x)), if_neg h]; exact Ev.now _
  | succ d ih =>
    intro i v hi hv
    have hp : (10 : Nat) ^ i ≤ 10 ^ 11 := Nat.pow_le_pow_right (by decide) (by omega)
    have hp2 : (10 : Nat) ^ 11 = 100000000000 := by decide
    have hlt : i < t.data.toList.length := by omega
    rw [List.drop_eq_getElem_cons hlt]
    have hb := bt_list t i hlt
    generalize t.data.toList[i] = c at hb
    have hc := c.toNat_lt
    by_cases h : 48 ≤ c.toNat ∧ c.toNat ≤ 57
    · have e : Lib.decFrom v (c :: t.data.toList.drop (i + 1)) = Lib.decFrom (v * 10 + (c.toNat - 48)) (t.data.toList.drop (i + 1)) := by
        simp only [Lib.decFrom, Lib.digitVal]; rw [if_pos h]
      rw [e]
      have hi2 := ih (i + 1) (v * 10 + (c.toNat - 48)) (by omega) (by rw [Nat.pow_succ]; omega)
      refine Ev.step (fun k => ?_) hi2
      simp only [spec_l1Read.l0]
      rw [if_pos (by omega), if_pos (by omega), hb, if_neg (by omega), if_neg (by omega)]
      rw [show wrap64 (10 * (v : Int)) = ((v * 10 : Nat) : Int) by rw [w64 (by omega) (by omega)]; omega]
      rw [show wrap64 (((v * 10 : Nat) : Int) + ((c.toNat : Int) - 48) % 256) = ((v * 10 + (c.toNat - 48) : Nat) : Int) by rw [w64 (by omega) (by omega)]; omega]
      rw [w64s hlt (by omega)]
    · have e : Lib.decFrom v (c :: t.data.toList.drop (i + 1)) = none := by
        simp only [Lib.decFrom, Lib.digitVal]; rw [if_neg h]
      rw [e]
      refine Ev.step (f := fun _ => some ((0 : Int), false)) (fun k => ?_) (Ev.now _)
      simp only [spec_l1Read.l0]
      rw [if_pos (by omega), if_pos (by omega), hb]
      by_cases h1 : (c.toNat : Int) < 48
      · rw [if_pos h1]
      · rw [if_neg h1, if_pos (by omega)]
theorem l1Read_ev (s : ByteArray) (most : Nat) (hm : most ≤ 12) (hs : s.data.toList.length ≤ 1048576) : Ev (fun k => spec_l1Read.f k s (most : Int)) (Deci.readS s.data.toList most) := by
  have hsz : s.size = s.data.toList.length := Array.length_toList.symm
  -- behind the sign
  have hj1 : ∀ (x6 : Bool) (t : ByteArray), Ev (fun k => spec_l1Read.j1 k s (most : Int) x6 t) (if t.data.toList.length < 1 ∨ most < t.data.toList.length then (0, false) else finR s x6 (Lib.decFrom 0 t.data.toList)) := by
    intro x6 t
    have htz : t.size = t.data.toList.length := Array.length_toList.symm
    have hj2 : ∀ b : Bool, (b = true ↔ (t.data.toList.length < 1 ∨ most < t.data.toList.length)) → Ev (fun k => spec_l1Read.j2 k s x6 t b) (if t.data.toList.length < 1 ∨ most < t.data.toList.length then (0, false) else finR s x6 (Lib.decFrom 0 t.data.toList)) := by
      intro b hb
      cases b with
      | true =>
        rw [if_pos (hb.1 rfl)]
        refine Ev.step (f := fun _ => some ((0 : Int), false)) (fun k => ?_) (Ev.now _)
        simp only [spec_l1Read.j2]; rw [if_pos trivial]
      | false =>
        have hn : ¬ (t.data.toList.length < 1 ∨ most < t.data.toList.length) := fun x => Bool.false_ne_true (hb.2 x)
        rw [if_neg hn]
        have h0 := l1Read_l0 s t x6 (by omega) t.data.toList.length 0 0 (by omega) (by decide)
        rw [List.drop_zero] at h0
        refine Ev.step (fun k => ?_) h0
        simp only [spec_l1Read.j2]; rw [if_neg (by decide)]; rfl
    by_cases h1 : t.data.toList.length < 1
    · refine Ev.step (fun k => ?_) (hj2 true ⟨fun _ => Or.inl h1, fun _ => rfl⟩)
      simp only [spec_l1Read.j1]; rw [if_pos (by omega)]
    · refine Ev.step (fun k => ?_) (hj2 (decide ((t.size : Int) > (most : Int))) ?_)
      · simp only [spec_l1Read.j1]; rw [if_neg (by omega)]
      · rw [decide_eq_true_iff]
        constructor
        · intro h; exact Or.inr (by omega)
        · rintro (h | h)
          · omega
          · omega
  unfold spec_l1Read.f Deci.readS
  cases hl : s.data.toList with
  | nil =>
    rw [hl] at hsz
    refine Ev.congr (fun k => if_neg (by rw [hsz]; simp)) ?_
    refine Ev.step (f := fun k => spec_l1Read.j1 k s (most : Int) false s) (fun k => ?_) ?_
    · simp only [spec_l1Read.j0]; rw [if_neg (by decide)]
    · have := hj1 false s
      rw [hl] at this
      exact this
  | cons c r =>
    have hpos : 0 < s.size := by rw [hsz, hl]; simp
    refine Ev.congr (fun k => if_pos (by omega)) ?_
    refine Ev.congr (fun k => if_pos (by omega)) ?_
    have hb := bt_list s 0 (by rw [hl]; simp)
    have hc0 : s.data.toList[0]'(by rw [hl]; simp) = c := by simp [hl]
    rw [hc0] at hb
    have hb' : bt s 0 = (c.toNat : Int) := hb
    by_cases h : c = 45
    · subst h
      have hbb : (bt s 0 == 45) = true := by rw [hb']; rfl
      have hx : (s.extract 1 s.size).data.toList = r := by
        rw [ByteArray.data_extract, Array.toList_extract]
        simp only [List.extract_eq_take_drop, hl]
        rw [List.drop_one, List.tail_cons, List.take_of_length_le]
        rw [hsz, hl]; simp
      have := hj1 true (s.extract 1 s.size)
      rw [hx] at this
      have e : (if (List.cons (45 : UInt8) r).head? = some 45 then (List.cons (45 : UInt8) r).tail else (45 :: r)) = r := by rw [if_pos (show (List.cons (45 : UInt8) r).head? = some 45 from rfl)]; rfl
      simp only [e]
      refine Ev.congr (fun k => by rw [hbb]) ?_
      refine Ev.step (f := fun k => spec_l1Read.j1 k s (most : Int) true (s.extract 1 s.size)) (fun k => ?_) ?_
      · simp only [spec_l1Read.j0]; rw [if_pos trivial, if_pos (by omega)]
      · refine Eq.mp ?_ this
        congr 1
        by_cases hq : r.length < 1 ∨ most < r.length
        · rw [if_pos hq, if_pos hq]
        · rw [if_neg hq, if_neg hq]
          cases Lib.decFrom 0 r with
          | none => rfl
          | some u => unfold finR; rw [hl]; rfl
    · have hbb : (bt s 0 == 45) = false := by
        rw [hb', beq_eq_false_iff_ne]
        intro e
        apply h
        apply UInt8.toNat_inj.1
        show c.toNat = 45
        omega
      have hh : ¬ (c :: r).head? = some 45 := fun e => h (Option.some.inj e)
      have := hj1 false s
      rw [hl] at this
      refine Ev.congr (fun k => by rw [hbb]) ?_
      refine Ev.step (f := fun k => spec_l1Read.j1 k s (most : Int) false s) (fun k => ?_) ?_
      · simp only [spec_l1Read.j0]; rw [if_neg (by decide)]
      · simp only [if_neg hh]
        refine Eq.mp ?_ this
        congr 1
        by_cases hq : (c :: r).length < 1 ∨ most < (c :: r).length
        · rw [if_pos hq, if_pos hq]
        · rw [if_neg hq, if_neg hq]
          cases Lib.decFrom 0 (c :: r) with
          | none => rfl
          | some u => unfold finR; rw [hl]; rfl

/-! drawB -/
theorem and255 (x : Int) : 0 ≤ Go.bits .and .i64 x 255 ∧ Go.bits .and .i64 x 255 ≤ 255 := by
  have h : ∃ n : Nat, n ≤ 255 ∧ Go.bits .and .i64 x 255 = IntKind.i64.wrap (n : Int) := by
    refine ⟨(BitVec.ofInt IntKind.i64.bits x &&& BitVec.ofInt IntKind.i64.bits 255).toNat, ?_, rfl⟩
    rw [BitVec.toNat_and]
    exact Nat.le_trans Nat.and_le_right (by decide)
  obtain ⟨n, hn, e⟩ := h
  rw [e, i64_w, w64 (by omega) (by omega)]
  omega
theorem byte_ok (b : List Int) (hb : b.length ≤ 1048576) (i h : Int) (hi : 0 ≤ i) : ∃ x i' h' : Int, spec_l1Byte.f b i h = some (x, i', h') ∧ 0 ≤ x ∧ x ≤ 255 ∧ 0 ≤ i' := by
  unfold spec_l1Byte.f
  by_cases c : i < (b.length : Int)
  · rw [if_pos c, if_pos hi]
    refine ⟨_, _, _, rfl, (and255 _).1, (and255 _).2, ?_⟩
    rw [w64 (by omega) (by omega)]
    omega
  · rw [if_neg c]
    exact ⟨_, _, _, rfl, (and255 _).1, (and255 _).2, hi⟩
theorem below_ok (b : List Int) (hb : b.length ≤ 1048576) (i h n : Int) (hi : 0 ≤ i) (hn : 0 < n) (hn2 : n ≤ 256) : ∃ x i' h' : Int, spec_l1Below.f b i h n = some (x, i', h') ∧ 0 ≤ x ∧ x < n ∧ 0 ≤ i' := by
  obtain ⟨x, i', h', e, h0, h1, h2⟩ := byte_ok b hb i h hi
  unfold spec_l1Below.f
  rw [if_neg (by omega), if_pos hn2, e, Option.bind_some, if_neg (by omega)]
  refine ⟨_, _, _, rfl, ?_, ?_, h2⟩
  · have := Int.tmod_nonneg n h0; exact this
  · exact Int.tmod_lt_of_pos x hn
theorem new_l (l : List Int) (hl : l.length ≤ 1048576) : ∀ (d i : Nat) (x : Int), i + d = l.length → ∃ h : Int, Ev (fun k => spec_l1New.l0 k l x i) (l, 0, h) := by
  intro d
  induction d with
  | zero =>
    intro i x hi
    refine ⟨x, Ev.step (f := fun _ => some (l, 0, x)) (fun k => ?_) (Ev.now _)⟩
    simp only [spec_l1New.l0]; rw [if_neg (by omega)]
  | succ d ih =>
    intro i x hi
    have hlt : i < l.length := by omega
    by_cases c : (i : Int) < 4000
    · obtain ⟨h, hh⟩ := ih (i + 1) (Go.bits .and .i64 (wrap64 ((wrap64 ((wrap64 (x * 131)) + (wrap64 (rd l i)))) + 7)) 1073741823) (by omega)
      refine ⟨h, Ev.step (fun k => ?_) hh⟩
      simp only [spec_l1New.l0]
      rw [if_pos (by omega), if_pos c, if_pos (by omega), w64s hlt (by omega)]
    · refine ⟨x, Ev.step (f := fun _ => some (l, 0, x)) (fun k => ?_) (Ev.now _)⟩
      simp only [spec_l1New.l0]; rw [if_pos (by omega), if_neg c]
theorem new_ok (l : List Int) (hl : l.length ≤ 1048576) : ∃ h : Int, Ev (fun k => spec_l1New.f k l) (l, 0, h) := new_l l hl l.length 0 _ (by omega)
theorem big_eq (l : List Int) : laws_big.f l = some (decide ((l.length : Int) > 1048576)) := rfl

/-! drawPickInt -/
theorem pickInt_ok (b : List Int) (hb : b.length ≤ 1048576) (i h : Int) (hi : 0 ≤ i) (l : List Int) (hn : 0 < l.length) (hn2 : l.length ≤ 256) : ∃ (s i' h' : Int), spec_l1PickInt.f b i h l = some (s, i', h') ∧ s ∈ l ∧ 0 ≤ i' := by
  obtain ⟨x, i', h', e, h0, h1, h2⟩ := below_ok b hb i h l.length hi (by omega) (by omega)
  unfold spec_l1PickInt.f
  rw [e, Option.bind_some, if_pos h0, if_pos h1]
  obtain ⟨n, rfl⟩ := Int.eq_ofNat_of_zero_le h0
  have hn : n < l.length := by omega
  exact ⟨_, _, _, rfl, by rw [show ((n : Nat) : Int) = (n : Int) from rfl, rd_lt hn]; exact List.getElem_mem hn, h2⟩

/-! drawWhole -/
theorem belowB_ok (b : List Int) (hb : b.length ≤ 1048576) (i h n : Int) (hi : 0 ≤ i) (hn : 256 < n) : ∃ x i' h' : Int, spec_l1Below.f b i h n = some (x, i', h') ∧ 0 ≤ x ∧ x < n ∧ 0 ≤ i' := by
  obtain ⟨x1, i1, h1, e1, a1, b1, c1⟩ := byte_ok b hb i h hi
  obtain ⟨x2, i2, h2, e2, a2, b2, c2⟩ := byte_ok b hb i1 h1 c1
  obtain ⟨x3, i3, h3, e3, a3, b3, c3⟩ := byte_ok b hb i2 h2 c2
  obtain ⟨x4, i4, h4, e4, a4, b4, c4⟩ := byte_ok b hb i3 h3 c3
  have hw : 0 ≤ wrap64 ((wrap64 ((wrap64 ((wrap64 (x1 * 16777216)) + (wrap64 (x2 * 65536)))) + (wrap64 (x3 * 256)))) + x4) := by
    rw [w64 (x := x1 * 16777216) (by omega) (by omega), w64 (x := x2 * 65536) (by omega) (by omega), w64 (x := x3 * 256) (by omega) (by omega), w64 (x := x1 * 16777216 + x2 * 65536) (by omega) (by omega), w64 (x := x1 * 16777216 + x2 * 65536 + x3 * 256) (by omega) (by omega), w64 (by omega) (by omega)]
    omega
  refine ⟨Int.tmod (wrap64 ((wrap64 ((wrap64 ((wrap64 (x1 * 16777216)) + (wrap64 (x2 * 65536)))) + (wrap64 (x3 * 256)))) + x4)) n, i4, h4, ?_, Int.tmod_nonneg n hw, Int.tmod_lt_of_pos _ (by omega), c4⟩
  unfold spec_l1Below.f
  rw [if_neg (by omega), if_neg (by omega), e1, Option.bind_some, e2, Option.bind_some, e3, Option.bind_some, e4, Option.bind_some, if_neg (by omega)]
theorem whole_ok (b : List Int) (hb : b.length ≤ 1048576) (i h : Int) (hi : 0 ≤ i) : ∃ n i' h' : Int, spec_l1Whole.f b i h = some (n, i', h') ∧ -9223372036854775808 ≤ n ∧ n ≤ 9223372036854775807 ∧ 0 ≤ i' := by
  obtain ⟨x, i1, h1, e1, a1, b1, c1⟩ := below_ok b hb i h 3 hi (by omega) (by omega)
  unfold spec_l1Whole.f
  rw [e1, Option.bind_some]
  by_cases hx : x = 0
  · rw [if_pos hx]
    obtain ⟨n, i2, h2, e2, hm, c2⟩ := pickInt_ok b hb i1 h1 c1 [0, 1, (-1), 9, 10, 999999, 1000000, 999999999999, 1000000000000, (-999999999999), 9223372036854775807, (-9223372036854775808)] (by decide) (by decide)
    refine ⟨n, i2, h2, ?_, ?_, ?_, c2⟩
    · rw [e2, Option.bind_some]
    · revert hm; simp only [List.mem_cons, List.not_mem_nil, or_false]; intro hm; omega
    · revert hm; simp only [List.mem_cons, List.not_mem_nil, or_false]; intro hm; omega
  · rw [if_neg hx]
    by_cases hx1 : x = 1
    · rw [if_pos hx1]
      obtain ⟨n, i2, h2, e2, a2, b2, c2⟩ := belowB_ok b hb i1 h1 1000000 c1 (by omega)
      refine ⟨wrap64 (n - 500000), i2, h2, ?_, ?_, ?_, c2⟩
      · rw [e2, Option.bind_some]
      · rw [w64 (by omega) (by omega)]; omega
      · rw [w64 (by omega) (by omega)]; omega
    · rw [if_neg hx1]
      obtain ⟨n, i2, h2, e2, a2, b2, c2⟩ := below_ok b hb i1 h1 20 c1 (by omega) (by omega)
      exact ⟨n, i2, h2, by rw [e2, Option.bind_some], by omega, by omega, c2⟩

/-! drawPick -/
theorem pick_ok (b : List Int) (hb : b.length ≤ 1048576) (i h : Int) (hi : 0 ≤ i) (l : List ByteArray) (hn : 0 < l.length) (hn2 : l.length ≤ 256) : ∃ (s : ByteArray) (i' h' : Int), spec_l1Pick.f b i h l = some (s, i', h') ∧ s ∈ l ∧ 0 ≤ i' := by
  obtain ⟨x, i', h', e, h0, h1, h2⟩ := below_ok b hb i h l.length hi (by omega) (by omega)
  unfold spec_l1Pick.f
  rw [e, Option.bind_some, if_pos h0, if_pos h1]
  obtain ⟨n, rfl⟩ := Int.eq_ofNat_of_zero_le h0
  have hn : n < l.length := by omega
  exact ⟨_, _, _, rfl, by rw [show ((n : Nat) : Int) = (n : Int) from rfl, rdOf_lt hn]; exact List.getElem_mem hn, h2⟩

/-! law.FnNumbers -/
theorem impl_fmt (n : Int) (h0 : -9223372036854775808 ≤ n) (h1 : n ≤ 9223372036854775807) : impl_FormatInt.f n = some (itoaB n) := by
  unfold impl_FormatInt.f; rw [if_pos ⟨h0, h1⟩]
theorem itoaB_list (n : Int) : (itoaB n).data.toList = Lib.itoa n := rfl
theorem itoaB_len (n : Int) : (itoaB n).size = (Lib.itoa n).length := ba_size _
theorem draw_int (l : List Int) (hl : l.length ≤ 1048576) : ∃ n, -9223372036854775808 ≤ n ∧ n ≤ 9223372036854775807 ∧ Ev (fun k => spec_DrawFormatInt.f k l) n := by
  obtain ⟨h, hn⟩ := new_ok l hl
  obtain ⟨n, i, g, e, h0, h1, _⟩ := whole_ok l hl 0 h (by omega)
  refine ⟨n, h0, h1, ?_⟩
  unfold spec_DrawFormatInt.f
  refine Ev.bind hn ?_
  refine Ev.congr (f := fun _ => some n) (fun k => ?_) (Ev.now _)
  show (spec_l1Whole.f l 0 h).bind _ = _
  rw [e]; rfl
theorem draw_text (l : List Int) (hl : l.length ≤ 1048576) : ∃ t : ByteArray, t.data.toList.length ≤ 1048576 ∧ Ev (fun k => spec_DrawParseNumber.f k l) t := by
  obtain ⟨h, hn⟩ := new_ok l hl
  obtain ⟨x, i, g, e, _, _, hi⟩ := below_ok l hl 0 h 2 (by omega) (by omega) (by omega)
  have e1 : spec_l1Once.f l 0 h 2 = some ((x == 0), i, g) := by unfold spec_l1Once.f; rw [e]; rfl
  unfold spec_DrawParseNumber.f
  by_cases hx : (x == 0) = true
  · obtain ⟨n, i2, g2, e2, h0, h1, _⟩ := whole_ok l hl i g hi
    refine ⟨itoaB n, ?_, ?_⟩
    · rw [itoaB_list]
      have := Deci.itoa_length (n := n) (k := 19) (by decide) (by have : (10 : Nat) ^ 19 = 10000000000000000000 := by decide
                                                                  omega)
      omega
    refine Ev.bind hn ?_
    refine Ev.congr (f := fun k => (spec_FormatInt.f k n).bind fun t => some t) (fun k => ?_) (Ev.bind (formatInt_ev n h0 h1) (Ev.now _))
    show (spec_l1Once.f l 0 h 2).bind _ = _
    rw [e1, Option.bind_some]
    show (if (x == 0) = true then _ else _) = _
    rw [if_pos hx]
    show (spec_l1Whole.f l i g).bind _ = _
    rw [e2, Option.bind_some]
  · obtain ⟨s, i2, g2, e2, hs, _⟩ := pick_ok l hl i g hi ([(⟨#[]⟩ : ByteArray), (⟨#[48, 48]⟩ : ByteArray), (⟨#[48, 49]⟩ : ByteArray), (⟨#[45, 49]⟩ : ByteArray), (⟨#[43, 49]⟩ : ByteArray), (⟨#[120]⟩ : ByteArray), (⟨#[57, 57, 57, 57, 57, 57]⟩ : ByteArray), (⟨#[49, 48, 48, 48, 48, 48, 48]⟩ : ByteArray), (⟨#[45, 48]⟩ : ByteArray), (⟨#[45]⟩ : ByteArray), (⟨#[32, 49]⟩ : ByteArray), (⟨#[49, 32]⟩ : ByteArray)] : List ByteArray) (by decide) (by decide)
    refine ⟨s, ?_, ?_⟩
    · have hall : (([(⟨#[]⟩ : ByteArray), (⟨#[48, 48]⟩ : ByteArray), (⟨#[48, 49]⟩ : ByteArray), (⟨#[45, 49]⟩ : ByteArray), (⟨#[43, 49]⟩ : ByteArray), (⟨#[120]⟩ : ByteArray), (⟨#[57, 57, 57, 57, 57, 57]⟩ : ByteArray), (⟨#[49, 48, 48, 48, 48, 48, 48]⟩ : ByteArray), (⟨#[45, 48]⟩ : ByteArray), (⟨#[45]⟩ : ByteArray), (⟨#[32, 49]⟩ : ByteArray), (⟨#[49, 32]⟩ : ByteArray)] : List ByteArray).all fun s => decide (s.data.toList.length ≤ 1048576)) = true := by decide +kernel
      exact of_decide_eq_true (List.all_eq_true.1 hall s hs)
    refine Ev.bind hn ?_
    refine Ev.congr (f := fun _ => some s) (fun k => ?_) (Ev.now _)
    show (spec_l1Once.f l 0 h 2).bind _ = _
    rw [e1, Option.bind_some]
    show (if (x == 0) = true then _ else _) = _
    rw [if_neg hx]
    show (spec_l1Pick.f l i g _).bind _ = _
    rw [e2]; rfl
theorem parseNum_ev (t : ByteArray) (ht : t.data.toList.length ≤ 1048576) : Ev (fun k => spec_ParseNumber.f k t) (Deci.readI t.data.toList 0 999999) := by
  have h1 := l1Read_ev t 6 (by decide) ht
  rw [Deci.read_both _ 6 (by decide) (by decide)] at h1
  have e : (-((10 ^ 6 : Nat) : Int) + 1) = -999999 := by decide
  have e' : (((10 ^ 6 : Nat) : Int) - 1) = 999999 := by decide
  rw [e, e'] at h1
  rw [Deci.readI_nat _ 999999 (by decide) (by decide)]
  unfold spec_ParseNumber.f
  refine Ev.bind h1 ?_
  generalize Deci.readI t.data.toList (-999999) 999999 = r
  obtain ⟨n, b⟩ := r
  cases b with
  | false => rw [if_neg (by simp)]; exact Ev.now _
  | true =>
    by_cases h0 : n < 0
    · have e2 : (if (n, true).2 = true ∧ 0 ≤ (n, true).1 then (n, true) else ((0 : Int), false)) = (0, false) := if_neg (fun x => by have h_ : 0 ≤ n := x.2; omega)
      rw [e2]
      refine Ev.congr (f := fun _ => some (0, false)) (fun k => ?_) (Ev.now _)
      show (if true = true then (if n < 0 then some (0, false) else some (n, true)) else some (0, false)) = _
      rw [if_pos rfl, if_pos h0]
    · have e2 : (if (n, true).2 = true ∧ 0 ≤ (n, true).1 then (n, true) else ((0 : Int), false)) = (n, true) := if_pos ⟨rfl, by show 0 ≤ n; omega⟩
      rw [e2]
      refine Ev.congr (f := fun _ => some (n, true)) (fun k => ?_) (Ev.now _)
      show (if true = true then (if n < 0 then some (0, false) else some (n, true)) else some (0, false)) = _
      rw [if_pos rfl, if_neg h0]
theorem j0_ev (l : List Int) (hl : l.length ≤ 1048576) : Ev (fun k => laws_FnNumbers.j0 k l false) true := by
  obtain ⟨t, ht, hd⟩ := draw_text l hl
  have hp := parseNum_ev t ht
  have hi : impl_ParseNumber.f t = some (Deci.readI t.data.toList 0 999999) := rfl
  obtain ⟨y, b, hr⟩ : ∃ y b, Deci.readI t.data.toList 0 999999 = (y, b) := ⟨_, _, rfl⟩
  rw [hr] at hp hi
  refine Ev.step (f := fun k => (spec_DrawParseNumber.f k l).bind fun t224 => ((impl_ParseNumber.f t224).bind fun bt225 => ((spec_ParseNumber.f k t224).bind fun bt227 => (if (bt225.2 == bt227.2) = true then (if bt225.2 = true then ((impl_FormatInt.f bt225.1).bind fun t229 => (if t229.toList = t224.toList then (some (decide (bt225.1 ≥ 0))) else (none))) else (some true)) else (none))))) (fun k => ?_) ?_
  · simp only [laws_FnNumbers.j0]; rw [if_neg (by decide)]
  refine Ev.bind hd ?_
  rw [hi]
  refine Ev.some_bind ?_
  refine Ev.bind hp ?_
  rw [if_pos (beq_self_eq_true b)]
  cases b with
  | false => exact Ev.congr (fun k => if_neg Bool.false_ne_true) (Ev.now _)
  | true =>
    obtain ⟨h0, h1, h2⟩ := Deci.readI_true hr
    refine Ev.congr (fun k => if_pos rfl) ?_
    show Ev (fun k => (impl_FormatInt.f y).bind _) true
    rw [impl_fmt y (by omega) (by omega)]
    refine Ev.some_bind ?_
    show Ev (fun k => if (itoaB y).toList = t.toList then some (decide (y ≥ 0)) else none) true
    refine Ev.congr (fun k => if_pos ((itoaB_eq y t).2 h2.symm)) ?_
    rw [decide_eq_true (by omega)]
    exact Ev.now _
theorem FnNumbers (l : List Int) : ∃ k, laws_FnNumbers.f k l = some true := by
  unfold laws_FnNumbers.f
  by_cases hb : (l.length : Int) > 1048576
  · exact ⟨0, by rw [show laws_big.f l = some (decide ((l.length : Int) > 1048576)) from rfl, decide_eq_true hb, Option.bind_some, if_pos rfl]⟩
  refine Ev.rounds ?_
  have hl : l.length ≤ 1048576 := by omega
  obtain ⟨n, n0, n1, hn⟩ := draw_int l hl
  have hj := j0_ev l hl
  rw [show laws_big.f l = some (decide ((l.length : Int) > 1048576)) from rfl, decide_eq_false hb]
  refine Ev.some_bind (Ev.congr (fun k => if_neg Bool.false_ne_true) ?_)
  refine Ev.bind hn ?_
  rw [impl_fmt n n0 n1]
  refine Ev.some_bind ?_
  have hp : impl_ParseInt.f (itoaB n) = some (Deci.readI (Lib.itoa n) (-999999999999) 999999999999) := rfl
  have e12 : (10 : Nat) ^ 12 = 1000000000000 := by decide
  have hd := Lib.lt_pow_nDigits n.natAbs
  have hpos := Lib.nDigits_pos n.natAbs
  have hle : n.natAbs < 10 ^ 12 → Lib.nDigits n.natAbs ≤ 12 := fun h => Deci.nDigits_le (by decide) h
  have hge : Lib.nDigits n.natAbs ≤ 12 → n.natAbs < 10 ^ 12 := fun h => Nat.lt_of_lt_of_le hd (Nat.pow_le_pow_right (by decide) h)
  have hsz : (itoaB n).size = if n < 0 then Lib.nDigits n.natAbs + 1 else Lib.nDigits n.natAbs := by
    rw [itoaB_len]
    unfold Lib.itoa
    by_cases hn0 : n < 0
    · rw [if_pos hn0, if_pos hn0, List.length_cons, Lib.decDigits_length]
    · rw [if_neg hn0, if_neg hn0, Lib.decDigits_length]
      rw [show n.toNat = n.natAbs by omega]
  have hf := formatInt_ev n n0 n1
  by_cases hin : n.natAbs < 10 ^ 12
  · have hr : Deci.readI (Lib.itoa n) (-999999999999) 999999999999 = (n, true) := Deci.readI_yes (by decide) (by decide) ⟨by omega, by omega, rfl⟩
    rw [hp, hr]
    refine Ev.some_bind ?_
    refine Ev.bind hf ?_
    refine Ev.congr (fun k => if_pos rfl) ?_
    have hl12 := hle hin
    have hgoal : Ev (fun k => laws_FnNumbers.j0 k l (n != n)) true := by rw [bne_self_eq_false]; exact hj
    by_cases hs : ((itoaB n).size : Int) ≤ 12
    · refine Ev.congr (fun k => if_pos hs) ?_
      refine Ev.congr (fun k => if_neg (by simp)) ?_
      exact Ev.congr (fun k => if_pos rfl) hgoal
    · refine Ev.congr (fun k => if_neg hs) ?_
      have hneg : n < 0 := by
        apply Decidable.byContradiction
        intro h
        rw [if_neg h] at hsz
        omega
      rw [if_pos hneg] at hsz
      refine Ev.congr (fun k => if_pos hneg) ?_
      refine Ev.congr (fun k => if_neg (by rw [decide_eq_true (show ((itoaB n).size : Int) ≤ 13 by omega)]; simp)) ?_
      exact Ev.congr (fun k => if_pos rfl) hgoal
  · have hr : Deci.readI (Lib.itoa n) (-999999999999) 999999999999 = (0, false) := by
      apply Deci.readI_no
      rintro ⟨m, m0, m1, hm⟩
      have := Deci.itoa_inj hm
      omega
    rw [hp, hr]
    refine Ev.some_bind ?_
    refine Ev.bind hf ?_
    refine Ev.congr (fun k => if_pos rfl) ?_
    have hg12 : 12 < Lib.nDigits n.natAbs := by
      apply Decidable.byContradiction
      intro h
      exact hin (hge (by omega))
    have hs : ¬ ((itoaB n).size : Int) ≤ 12 := by
      rw [hsz]; split <;> omega
    refine Ev.congr (fun k => if_neg hs) ?_
    by_cases hneg : n < 0
    · rw [if_pos hneg] at hsz
      refine Ev.congr (fun k => if_pos hneg) ?_
      refine Ev.congr (fun k => if_neg (by rw [decide_eq_false (show ¬ ((itoaB n).size : Int) ≤ 13 by omega)]; simp)) ?_
      exact Ev.congr (fun k => if_neg Bool.false_ne_true) hj
    · refine Ev.congr (fun k => if_neg hneg) ?_
      refine Ev.congr (fun k => if_neg (by simp)) ?_
      exact Ev.congr (fun k => if_neg Bool.false_ne_true) hj

end Go.Proofs.YteeejdbdmfageaaDoor.Pure
