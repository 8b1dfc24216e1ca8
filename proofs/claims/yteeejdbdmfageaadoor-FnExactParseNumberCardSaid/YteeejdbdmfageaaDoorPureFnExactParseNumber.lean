/- ParseNumber of the program and ParseNumber of the reference answer the same for all texts. Conditions: those that the printed statement itself names (lengths and numbers that fit). -/
import Derived.Test.YteeejdbdmfageaaDoorQFnExactParseNumberx4
import Derived.Test.YteeejdbdmfageaaDoorCom
namespace Go.Proofs.YteeejdbdmfageaaDoor.Pure
open Classical Go.RowKit Go.Proofs.YteeejdbdmfageaaDoor.QFnExactParseNumber Go.Proofs.YteeejdbdmfageaaDoorW.PrintWords Go.Proofs.YteeejdbdmfageaaDoorW.PrintLast Go.Proofs.YteeejdbdmfageaaDoor.Com

/-! readNum -/
/-- What the reference's reader answers when its digits are read. -/
def finR (s : ByteArray) (x6 : Bool) : Option Nat → Int × Bool
  | none => (0, false)
  | some u => if Lib.itoa (if x6 = true then -(u : Int) else u) = s.data.toList then ((if x6 = true then -(u : Int) else u), true) else (0, false)
theorem bt_list (s : ByteArray) (i : Nat) (h : i < s.data.toList.length) : bt s i = (s.data.toList[i].toNat : Int) := by
  have hs : i < s.size := by have : s.data.toList.length = s.size := Array.length_toList; omega
  unfold bt
  rw [dif_pos (show (i : Int).toNat < s.size from hs)]
  rfl
theorem l1Read_l0 (s t : ByteArray) (x6 : Bool) (ht : t.data.toList.length ≤ 12) : ∀ (d i v : Nat), i + d = t.data.toList.length → v < 10 ^ i →
    Ev (fun k => spec_l1Read.l0 k s x6 t (v : Int) (i : Int)) (finR s x6 (Lib.decFrom v (t.data.toList.drop i))) := by
  have hsz : t.size = t.data.toList.length := Array.length_toList.symm
  intro d
  induction d with
  | zero =>
    intro i v hi hv
    have hp : (10 : Nat) ^ i ≤ 10 ^ 12 := Nat.pow_le_pow_right (by decide) (by omega)
    have hp2 : (10 : Nat) ^ 12 = 1000000000000 := by decide
    rw [List.drop_of_length_le (by omega)]
    show Ev _ (finR s x6 (some v))
    cases x6 with
    | true =>
      have hn : wrap64 (-(v : Int)) = -(v : Int) := w64 (by omega) (by omega)
      refine Ev.step (f := fun k => (spec_FormatInt.f k (-(v : Int))).bind fun t107 => (if t107.toList = s.toList then (some (-(v : Int), true)) else (some (0, false)))) (fun k => ?_) ?_
      · simp only [spec_l1Read.l0]
        rw [if_neg (by omega), if_pos trivial, hn]
      · refine Ev.bind (formatInt_ev _ (by omega) (by omega)) ?_
        show Ev _ (if Lib.itoa (-(v : Int)) = s.data.toList then (-(v : Int), true) else (0, false))
        by_cases h : Lib.itoa (-(v : Int)) = s.data.toList
        · rw [if_pos ((itoaB_eq _ _).2 h), if_pos h]; exact Ev.now _
        · rw [if_neg (fun x => h ((itoaB_eq _ _).1 x)), if_neg h]; exact Ev.now _
    | false =>
      refine Ev.step (f := fun k => (spec_FormatInt.f k (v : Int)).bind fun t107 => (if t107.toList = s.toList then (some ((v : Int), true)) else (some (0, false)))) (fun k => ?_) ?_
      · simp only [spec_l1Read.l0]
        rw [if_neg (by omega), if_neg (by decide)]
      · refine Ev.bind (formatInt_ev _ (by omega) (by omega)) ?_
        show Ev _ (if Lib.itoa (v : Int) = s.data.toList then ((v : Int), true) else (0, false))
        by_cases h : Lib.itoa (v : Int) = s.data.toList
        · rw [if_pos ((itoaB_eq _ _).2 h), if_pos h]; exact Ev.now _
        · rw [if_neg (fun x => h ((itoaB_eq _ _).1 x)), if_neg h]; exact Ev.now _
  | succ d ih =>
    intro i v hi hv
    have hp : (10 : Nat) ^ i ≤ 10 ^ 11 := Nat.pow_le_pow_right (by decide) (by omega)
    have hp2 : (10 : Nat) ^ 11 = 100000000000 := by decide
    have hlt : i < t.data.toList.length := by omega
    rw [List.drop_eq_getElem_cons hlt]
    have hb := bt_list t i hlt
    generalize t.data.toList[i] = c at hb
    have hc := c.toNat_lt
    by_cases h : 48 ≤ c.toNat ∧ c.toNat ≤ 57
    · have e : Lib.decFrom v (c :: t.data.toList.drop (i + 1)) = Lib.decFrom (v * 10 + (c.toNat - 48)) (t.data.toList.drop (i + 1)) := by
        simp only [Lib.decFrom, Lib.digitVal]; rw [if_pos h]
      rw [e]
      have hi2 := ih (i + 1) (v * 10 + (c.toNat - 48)) (by omega) (by rw [Nat.pow_succ]; omega)
      refine Ev.step (fun k => ?_) hi2
      simp only [spec_l1Read.l0]
      rw [if_pos (by omega), if_pos (by omega), hb, if_neg (by omega), if_neg (by omega)]
      rw [show wrap64 (10 * (v : Int)) = ((v * 10 : Nat) : Int) by rw [w64 (by omega) (by omega)]; omega]
      rw [show wrap64 (((v * 10 : Nat) : Int) + ((c.toNat : Int) - 48) % 256) = ((v * 10 + (c.toNat - 48) : Nat) : Int) by rw [w64 (by omega) (by omega)]; omega]
      rw [w64s hlt (by omega)]
    · have e : Lib.decFrom v (c :: t.data.toList.drop (i + 1)) = none := by
        simp only [Lib.decFrom, Lib.digitVal]; rw [if_neg h]
      rw [e]
      refine Ev.step (f := fun _ => some ((0 : Int), false)) (fun k => ?_) (Ev.now _)
      simp only [spec_l1Read.l0]
      rw [if_pos (by omega), if_pos (by omega), hb]
      by_cases h1 : (c.toNat : Int) < 48
      · rw [if_pos h1]
      · rw [if_neg h1, if_pos (by omega)]
theorem l1Read_ev (s : ByteArray) (most : Nat) (hm : most ≤ 12) (hs : s.data.toList.length ≤ 1048576) : Ev (fun k => spec_l1Read.f k s (most : Int)) (Deci.readS s.data.toList most) := by
  have hsz : s.size = s.data.toList.length := Array.length_toList.symm
  -- behind the sign
  have hj1 : ∀ (x6 : Bool) (t : ByteArray), Ev (fun k => spec_l1Read.j1 k s (most : Int) x6 t) (if t.data.toList.length < 1 ∨ most < t.data.toList.length then (0, false) else finR s x6 (Lib.decFrom 0 t.data.toList)) := by
    intro x6 t
    have htz : t.size = t.data.toList.length := Array.length_toList.symm
    have hj2 : ∀ b : Bool, (b = true ↔ (t.data.toList.length < 1 ∨ most < t.data.toList.length)) → Ev (fun k => spec_l1Read.j2 k s x6 t b) (if t.data.toList.length < 1 ∨ most < t.data.toList.length then (0, false) else finR s x6 (Lib.decFrom 0 t.data.toList)) := by
      intro b hb
      cases b with
      | true =>
        rw [if_pos (hb.1 rfl)]
        refine Ev.step (f := fun _ => some ((0 : Int), false)) (fun k => ?_) (Ev.now _)
        simp only [spec_l1Read.j2]; rw [if_pos trivial]
      | false =>
        have hn : ¬ (t.data.toList.length < 1 ∨ most < t.data.toList.length) := fun x => Bool.false_ne_true (hb.2 x)
        rw [if_neg hn]
        have h0 := l1Read_l0 s t x6 (by omega) t.data.toList.length 0 0 (by omega) (by decide)
        rw [List.drop_zero] at h0
        refine Ev.step (fun k => ?_) h0
        simp only [spec_l1Read.j2]; rw [if_neg (by decide)]; rfl
    by_cases h1 : t.data.toList.length < 1
    · refine Ev.step (fun k => ?_) (hj2 true ⟨fun _ => Or.inl h1, fun _ => rfl⟩)
      simp only [spec_l1Read.j1]; rw [if_pos (by omega)]
    · refine Ev.step (fun k => ?_) (hj2 (decide ((t.size : Int) > (most : Int))) ?_)
      · simp only [spec_l1Read.j1]; rw [if_neg (by omega)]
      · rw [decide_eq_true_iff]
        constructor
        · intro h; exact Or.inr (by omega)
        · rintro (h | h)
          · omega
          · omega
  unfold spec_l1Read.f Deci.readS
  cases hl : s.data.toList with
  | nil =>
    rw [hl] at hsz
    refine Ev.congr (fun k => if_neg (by rw [hsz]; simp)) ?_
    refine Ev.step (f := fun k => spec_l1Read.j1 k s (most : Int) false s) (fun k => ?_) ?_
    · simp only [spec_l1Read.j0]; rw [if_neg (by decide)]
    · have := hj1 false s
      rw [hl] at this
      exact this
  | cons c r =>
    have hpos : 0 < s.size := by rw [hsz, hl]; simp
    refine Ev.congr (fun k => if_pos (by omega)) ?_
    refine Ev.congr (fun k => if_pos (by omega)) ?_
    have hb := bt_list s 0 (by rw [hl]; simp)
    have hc0 : s.data.toList[0]'(by rw [hl]; simp) = c := by simp [hl]
    rw [hc0] at hb
    have hb' : bt s 0 = (c.toNat : Int) := hb
    by_cases h : c = 45
    · subst h
      have hbb : (bt s 0 == 45) = true := by rw [hb']; rfl
      have hx : (s.extract 1 s.size).data.toList = r := by
        rw [ByteArray.data_extract, Array.toList_extract]
        simp only [List.extract_eq_take_drop, hl]
        rw [List.drop_one, List.tail_cons, List.take_of_length_le]
        rw [hsz, hl]; simp
      have := hj1 true (s.extract 1 s.size)
      rw [hx] at this
      have e : (if (List.cons (45 : UInt8) r).head? = some 45 then (List.cons (45 : UInt8) r).tail else (45 :: r)) = r := by rw [if_pos (show (List.cons (45 : UInt8) r).head? = some 45 from rfl)]; rfl
      simp only [e]
      refine Ev.congr (fun k => by rw [hbb]) ?_
      refine Ev.step (f := fun k => spec_l1Read.j1 k s (most : Int) true (s.extract 1 s.size)) (fun k => ?_) ?_
      · simp only [spec_l1Read.j0]; rw [if_pos trivial, if_pos (by omega)]
      · refine Eq.mp ?_ this
        congr 1
        by_cases hq : r.length < 1 ∨ most < r.length
        · rw [if_pos hq, if_pos hq]
        · rw [if_neg hq, if_neg hq]
          cases Lib.decFrom 0 r with
          | none => rfl
          | some u => unfold finR; rw [hl]; rfl
    · have hbb : (bt s 0 == 45) = false := by
        rw [hb', beq_eq_false_iff_ne]
        intro e
        apply h
        apply UInt8.toNat_inj.1
        show c.toNat = 45
        omega
      have hh : ¬ (c :: r).head? = some 45 := fun e => h (Option.some.inj e)
      have := hj1 false s
      rw [hl] at this
      refine Ev.congr (fun k => by rw [hbb]) ?_
      refine Ev.step (f := fun k => spec_l1Read.j1 k s (most : Int) false s) (fun k => ?_) ?_
      · simp only [spec_l1Read.j0]; rw [if_neg (by decide)]
      · simp only [if_neg hh]
        refine Eq.mp ?_ this
        congr 1
        by_cases hq : (c :: r).length < 1 ∨ most < (c :: r).length
        · rw [if_pos hq, if_pos hq]
        · rw [if_neg hq, if_neg hq]
          cases Lib.decFrom 0 (c :: r) with
          | none => rfl
          | some u => unfold finR; rw [hl]; rfl

/-! law.FnExactParseNumber -/
theorem FnExactParseNumber (a0 : ByteArray) (w0 : a0.size ≤ 140737488351232) : ∃ k, laws_FnExactParseNumber.f k a0 = some true := by
  unfold laws_FnExactParseNumber.f
  by_cases h : (a0.size : Int) > 1048576
  · exact ⟨0, by rw [if_pos h]⟩
  have hsz : a0.size = a0.data.toList.length := Array.length_toList.symm
  obtain ⟨K, hK⟩ := l1Read_ev a0 6 (by decide) (by omega)
  refine ⟨K, ?_⟩
  rw [if_neg h]
  obtain ⟨r, e1, e2⟩ : ∃ r, spec_ParseNumber.f K a0 = some r ∧ impl_ParseNumber.f a0 = some r := by
    have h1 : spec_l1Read.f K a0 6 = some (Deci.readS a0.data.toList 6) := hK K (Nat.le_refl _)
    rw [Deci.read_both _ 6 (by decide) (by decide)] at h1
    have h2 : impl_ParseNumber.f a0 = some (Deci.readI a0.data.toList 0 999999) := rfl
    refine ⟨Deci.readI a0.data.toList 0 999999, ?_, h2⟩
    unfold spec_ParseNumber.f
    rw [h1, Deci.readI_nat _ 999999 (by decide) (by decide)]
    have e : (-((10 ^ 6 : Nat) : Int) + 1) = -999999 := by decide
    have e' : (((10 ^ 6 : Nat) : Int) - 1) = 999999 := by decide
    rw [e, e']
    obtain ⟨n, b⟩ := Deci.readI a0.data.toList (-999999) 999999
    cases b with
    | false => rw [if_neg (by simp)]; rfl
    | true =>
      by_cases h0 : n < 0
      · rw [if_neg (by simp; omega)]
        show (if true = true then (if n < 0 then some (0, false) else some (n, true)) else some (0, false)) = _
        rw [if_pos rfl, if_pos h0]
      · rw [if_pos ⟨rfl, by omega⟩]
        show (if true = true then (if n < 0 then some (0, false) else some (n, true)) else some (0, false)) = _
        rw [if_pos rfl, if_neg h0]
  rw [e1, e2]
  show (if r.1 = r.1 then (if (r.2 != r.2) = true then (some false) else (some true)) else (some false)) = some true
  rw [if_pos rfl, if_neg (by simp)]

end Go.Proofs.YteeejdbdmfageaaDoor.Pure
