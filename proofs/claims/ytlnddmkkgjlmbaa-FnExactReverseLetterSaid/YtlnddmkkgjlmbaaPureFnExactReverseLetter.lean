/- ReverseLetter of the program and ReverseLetter of the reference answer the same for all arguments; the arguments are left as they were and share nothing with the results. Conditions: those that the printed statement itself names (lengths and numbers that fit). -/
import Derived.Test.YtlnddmkkgjlmbaaWalkFnExactReverseLetter
import Derived.Test.YtlnddmkkgjlmbaaCom
namespace Go.Proofs.Ytlnddmkkgjlmbaa.Pure
open Classical Go.RowKit Go.Proofs.Ytlnddmkkgjlmbaa.QFnExactReverseLetter Go.Proofs.YtlnddmkkgjlmbaaW.PrintWords Go.Proofs.YtlnddmkkgjlmbaaW.PrintLast Go.Proofs.Ytlnddmkkgjlmbaa.Com

/-! rdL -/
theorem rdL_lt {l : List (List Int)} {i : Nat} (h : i < l.length) : rd_L1 l (i : Int) = l[i] := by
  simp [rd_L1, List.getD_eq_getElem?_getD, h]
theorem rdL_nat (l : List (List Int)) (i : Nat) : rd_L1 l (i : Int) = l.getD i [] := rfl
/-- Rows and numbers together. -/
def bulk (l : List (List Int)) : Nat := l.length + (l.map List.length).sum
theorem sum_drop_lt {l : List (List Int)} {i : Nat} (h : i < l.length) : ((l.drop i).map List.length).sum = l[i].length + ((l.drop (i + 1)).map List.length).sum := by
  rw [List.drop_eq_getElem_cons h, List.map_cons, List.sum_cons]
theorem len_le_sum {l : List (List Int)} {x : List Int} (h : x ∈ l) : x.length ≤ (l.map List.length).sum := by
  induction l with
  | nil => simp at h
  | cons y l ih =>
    rw [List.map_cons, List.sum_cons]
    rcases List.mem_cons.1 h with rfl | h
    · omega
    · have := ih h; omega

/-! szIntSS -/
theorem szIntSS_l (l : List (List Int)) (hl : l.length ≤ 9223372036854775807) (hx : ∀ x ∈ l, x.length ≤ 9223372036854775807) : ∀ (d i : Nat) (left : Nat), i + d = l.length → left ≤ 1048576 → ∃ v : Int, Ev (fun k => laws_szIntSS.l0 k l left i) v ∧ (0 ≤ v → ((l.drop i).map List.length).sum ≤ left) := by
  intro d
  induction d with
  | zero =>
    intro i left hi hle
    refine ⟨left, Ev.step (f := fun _ => some (left : Int)) (fun k => ?_) (Ev.now _), fun _ => ?_⟩
    · simp only [laws_szIntSS.l0]; rw [if_neg (by omega)]
    · rw [List.drop_of_length_le (by omega)]; simp
  | succ d ih =>
    intro i left hi hle
    have hlt : i < l.length := by omega
    have hxl := hx l[i] (List.getElem_mem hlt)
    have hw : wrap64 ((left : Int) - (l[i].length : Int)) = (left : Int) - l[i].length := w64 (by omega) (by omega)
    by_cases hc : (left : Int) - (l[i].length : Int) < 0
    · refine ⟨-1, Ev.step (f := fun _ => some (-1 : Int)) (fun k => ?_) (Ev.now _), fun h => absurd h (by omega)⟩
      simp only [laws_szIntSS.l0, rdL_lt hlt, laws_szIntS.f, hw]
      rw [if_pos (by omega), if_pos (by omega), if_pos hc]
      simp
    · obtain ⟨v, h1, h2⟩ := ih (i + 1) (left - l[i].length) (by omega) (by omega)
      refine ⟨v, Ev.step (fun k => ?_) h1, fun h => ?_⟩
      · simp only [laws_szIntSS.l0, rdL_lt hlt, laws_szIntS.f, hw]
        rw [if_pos (by omega), if_pos (by omega), if_neg hc, Option.bind_some, if_neg hc, w64s hlt hl, show (left : Int) - (l[i].length : Int) = ((left - l[i].length : Nat) : Int) by omega]
      · have := h2 h
        rw [sum_drop_lt hlt]
        omega
theorem szIntSS_ev (l : List (List Int)) (hl : l.length ≤ 9223372036854775807) (hx : ∀ x ∈ l, x.length ≤ 9223372036854775807) : ∃ v : Int, Ev (fun k => laws_szIntSS.f k l 1048576) v ∧ (0 ≤ v → bulk l ≤ 1048576) := by
  have hw : wrap64 ((1048576 : Int) - (l.length : Int)) = (1048576 : Int) - l.length := w64 (by omega) (by omega)
  by_cases hc : (1048576 : Int) - (l.length : Int) < 0
  · refine ⟨-1, Ev.congr (f := fun _ => some (-1 : Int)) (fun k => ?_) (Ev.now _), fun h => absurd h (by omega)⟩
    unfold laws_szIntSS.f; rw [hw, if_pos hc]
  · obtain ⟨v, h1, h2⟩ := szIntSS_l l hl hx l.length 0 (1048576 - l.length) (by omega) (by omega)
    refine ⟨v, Ev.congr (fun k => ?_) h1, fun h => ?_⟩
    · unfold laws_szIntSS.f; rw [hw, if_neg hc, show (1048576 : Int) - (l.length : Int) = ((1048576 - l.length : Nat) : Int) by omega]; rfl
    · have := h2 h
      unfold bulk
      simp only [List.drop_zero] at this
      omega

/-! toIntS -/
theorem toIntS_l (l : List Int) (hl : l.length ≤ 9223372036854775807) : ∀ (d i : Nat) (acc : List Int), i + d = l.length → acc.length = l.length → acc.take i = l.take i → Ev (fun k => laws_toIntS.l0 k l acc i) l := by
  intro d
  induction d with
  | zero =>
    intro i acc hi ha ht
    refine Ev.step (f := fun _ => some acc) (fun k => ?_) ?_
    · simp only [laws_toIntS.l0]; rw [if_neg (by omega)]
    · have e : acc = l := by
        have h1 := List.take_of_length_le (l := acc) (i := i) (by omega)
        have h2 := List.take_of_length_le (l := l) (i := i) (by omega)
        rw [← h1, ← h2, ht]
      rw [e]; exact Ev.now _
  | succ d ih =>
    intro i acc hi ha ht
    have hlt : i < l.length := by omega
    refine Ev.step (f := fun k => laws_toIntS.l0 k l (acc.set i l[i]) ((i + 1 : Nat) : Int)) (fun k => ?_) (ih (i + 1) (acc.set i l[i]) (by omega) (by simpa using ha) ?_)
    · simp only [laws_toIntS.l0]
      rw [if_pos (by omega), if_pos (by omega), if_pos (by omega), w64s hlt hl, rd_lt hlt, Int.toNat_natCast]
    · rw [List.take_succ_eq_append_getElem (by simp; omega), List.take_succ_eq_append_getElem hlt, List.take_set_of_le (Nat.le_refl i), ht]
      simp
theorem toIntS_ev (l : List Int) (hl : l.length ≤ 35184372088832) : Ev (fun k => laws_toIntS.f k l) l := by
  refine Ev.congr (f := fun k => laws_toIntS.l0 k l (List.replicate l.length 0) ((0 : Nat) : Int)) (fun k => ?_) (toIntS_l l (by omega) l.length 0 _ (by omega) (by simp) (by simp))
  unfold laws_toIntS.f
  rw [if_pos (by omega), if_pos (by omega), Int.toNat_natCast]; rfl

/-! toIntSS -/
theorem toIntSS_l (l : List (List Int)) (hl : bulk l ≤ 1048576) : ∀ (d i : Nat) (acc : List (List Int)), i + d = l.length → acc.length = l.length → acc.take i = l.take i → Ev (fun k => laws_toIntSS.l0 k l acc i) l := by
  intro d
  induction d with
  | zero =>
    intro i acc hi ha ht
    refine Ev.step (f := fun _ => some acc) (fun k => ?_) ?_
    · simp only [laws_toIntSS.l0]; rw [if_neg (by omega)]
    · have e : acc = l := by
        have h1 := List.take_of_length_le (l := acc) (i := i) (by omega)
        have h2 := List.take_of_length_le (l := l) (i := i) (by omega)
        rw [← h1, ← h2, ht]
      rw [e]; exact Ev.now _
  | succ d ih =>
    intro i acc hi ha ht
    have hlt : i < l.length := by omega
    have hll : l.length ≤ 1048576 := by unfold bulk at hl; omega
    have hxl : l[i].length ≤ 35184372088832 := by have := len_le_sum (List.getElem_mem hlt); unfold bulk at hl; omega
    refine Ev.step (f := fun k => (laws_toIntS.f k l[i]).bind fun t => laws_toIntSS.l0 k l (acc.set i t) ((i + 1 : Nat) : Int)) (fun k => ?_) (Ev.bind (toIntS_ev l[i] hxl) (ih (i + 1) (acc.set i l[i]) (by omega) (by simpa using ha) ?_))
    · simp only [laws_toIntSS.l0, rdL_lt hlt]
      rw [if_pos (by omega), if_pos (by omega), w64s hlt (by omega), Int.toNat_natCast]
      congr 1
      funext t
      rw [if_pos (by omega)]
    · rw [List.take_succ_eq_append_getElem (by simp; omega), List.take_succ_eq_append_getElem hlt, List.take_set_of_le (Nat.le_refl i), ht]
      simp
theorem toIntSS_ev (l : List (List Int)) (hl : bulk l ≤ 1048576) : Ev (fun k => laws_toIntSS.f k l) l := by
  have hll : l.length ≤ 1048576 := by unfold bulk at hl; omega
  refine Ev.congr (f := fun k => laws_toIntSS.l0 k l (List.replicate l.length []) ((0 : Nat) : Int)) (fun k => ?_) (toIntSS_l l hl l.length 0 _ (by omega) (by simp) (by simp))
  unfold laws_toIntSS.f
  rw [if_pos (by omega), if_pos (by omega), Int.toNat_natCast]; rfl

/-! eqIntS -/
theorem eqIntS_l (a b : List Int) (hn : a.length = b.length) (hl : a.length ≤ 9223372036854775807) : ∀ (d i : Nat), i + d = a.length → Ev (fun k => laws_eqIntS.l0 k a b i) (decide (a.drop i = b.drop i)) := by
  intro d
  induction d with
  | zero =>
    intro i hi
    refine Ev.step (f := fun _ => some true) (fun k => ?_) ?_
    · simp only [laws_eqIntS.l0]; rw [if_neg (by omega)]
    · rw [List.drop_of_length_le (by omega), List.drop_of_length_le (by omega)]; exact Ev.now _
  | succ d ih =>
    intro i hi
    have h1 : i < a.length := by omega
    have h2 : i < b.length := by omega
    have e1 : a.drop i = a[i] :: a.drop (i + 1) := List.drop_eq_getElem_cons h1
    have e2 : b.drop i = b[i] :: b.drop (i + 1) := List.drop_eq_getElem_cons h2
    by_cases he : a[i] = b[i]
    · refine Ev.step (f := fun k => laws_eqIntS.l0 k a b ((i + 1 : Nat) : Int)) (fun k => ?_) ?_
      · simp only [laws_eqIntS.l0]
        rw [if_pos (by omega), if_pos (by omega), if_pos (by omega), rd_lt h1, rd_lt h2, if_pos he, w64s h1 hl]
      · have hd : decide (a.drop i = b.drop i) = decide (a.drop (i + 1) = b.drop (i + 1)) := by
          rw [decide_eq_decide, e1, e2, he]; simp only [List.cons.injEq, true_and]
        rw [hd]; exact ih (i + 1) (by omega)
    · refine Ev.step (f := fun _ => some false) (fun k => ?_) ?_
      · simp only [laws_eqIntS.l0]
        rw [if_pos (by omega), if_pos (by omega), if_pos (by omega), rd_lt h1, rd_lt h2, if_neg he]
      · have hd : decide (a.drop i = b.drop i) = false := by
          refine decide_eq_false fun e => he ?_
          rw [e1, e2] at e
          exact (List.cons.inj e).1
        rw [hd]; exact Ev.now _
theorem eqIntS_ev (a b : List Int) (hl : a.length ≤ 9223372036854775807) : Ev (fun k => laws_eqIntS.f k a b) (decide (a = b)) := by
  by_cases hn : a.length = b.length
  · refine Ev.congr (f := fun k => laws_eqIntS.l0 k a b ((0 : Nat) : Int)) (fun k => ?_) (eqIntS_l a b hn hl a.length 0 (by omega))
    unfold laws_eqIntS.f; rw [if_pos (by omega)]; rfl
  · refine Ev.congr (f := fun _ => some false) (fun k => ?_) ?_
    · unfold laws_eqIntS.f; rw [if_neg (by omega)]
    · rw [decide_eq_false (fun e => hn (by rw [e]))]; exact Ev.now _
theorem eqIntS_same (a : List Int) (hl : a.length ≤ 9223372036854775807) : Ev (fun k => laws_eqIntS.f k a a) true := by simpa using eqIntS_ev a a hl

/-! eqIntSS -/
theorem eqIntSS_l (a b : List (List Int)) (hn : a.length = b.length) (hl : a.length ≤ 9223372036854775807) (hx : ∀ x ∈ a, x.length ≤ 9223372036854775807) : ∀ (d i : Nat), i + d = a.length → Ev (fun k => laws_eqIntSS.l0 k a b i) (decide (a.drop i = b.drop i)) := by
  intro d
  induction d with
  | zero =>
    intro i hi
    refine Ev.step (f := fun _ => some true) (fun k => ?_) ?_
    · simp only [laws_eqIntSS.l0]; rw [if_neg (by omega)]
    · rw [List.drop_of_length_le (by omega), List.drop_of_length_le (by omega), decide_eq_true rfl]; exact Ev.now _
  | succ d ih =>
    intro i hi
    have h1 : i < a.length := by omega
    have h2 : i < b.length := by omega
    have e1 : a.drop i = a[i] :: a.drop (i + 1) := List.drop_eq_getElem_cons h1
    have e2 : b.drop i = b[i] :: b.drop (i + 1) := List.drop_eq_getElem_cons h2
    have hq := eqIntS_ev a[i] b[i] (hx _ (List.getElem_mem h1))
    refine Ev.step (f := fun k => (laws_eqIntS.f k a[i] b[i]).bind fun t => if t = true then laws_eqIntSS.l0 k a b ((i + 1 : Nat) : Int) else some false) (fun k => ?_) (Ev.bind hq ?_)
    · simp only [laws_eqIntSS.l0, rdL_lt h1, rdL_lt h2]
      rw [if_pos (by omega), if_pos (by omega), if_pos (by omega), w64s h1 hl]
    · by_cases he : a[i] = b[i]
      · have hd : decide (a.drop i = b.drop i) = decide (a.drop (i + 1) = b.drop (i + 1)) := by
          rw [decide_eq_decide, e1, e2, he]; simp only [List.cons.injEq, true_and]
        rw [hd, decide_eq_true he]
        simp only [if_true]
        exact ih (i + 1) (by omega)
      · have hd : decide (a.drop i = b.drop i) = false := by
          refine decide_eq_false fun e => he ?_
          rw [e1, e2] at e
          exact (List.cons.inj e).1
        rw [hd, decide_eq_false he]; exact Ev.now _
theorem eqIntSS_ev (a b : List (List Int)) (hl : a.length ≤ 9223372036854775807) (hx : ∀ x ∈ a, x.length ≤ 9223372036854775807) : Ev (fun k => laws_eqIntSS.f k a b) (decide (a = b)) := by
  by_cases hn : a.length = b.length
  · refine Ev.congr (f := fun k => laws_eqIntSS.l0 k a b ((0 : Nat) : Int)) (fun k => ?_) (eqIntSS_l a b hn hl hx a.length 0 (by omega))
    unfold laws_eqIntSS.f; rw [if_pos (by omega)]; rfl
  · refine Ev.congr (f := fun _ => some false) (fun k => ?_) ?_
    · unfold laws_eqIntSS.f; rw [if_neg (by omega)]
    · rw [decide_eq_false (fun e => hn (by rw [e]))]; exact Ev.now _
theorem eqIntSS_same (a : List (List Int)) (hl : bulk a ≤ 1048576) : Ev (fun k => laws_eqIntSS.f k a a) true := by
  have := eqIntSS_ev a a (by unfold bulk at hl; omega) (fun x hx => by have := len_le_sum hx; unfold bulk at hl; omega)
  rwa [decide_eq_true rfl] at this

/-! markIntS -/
theorem markIntS_l (n : Nat) (m : Int) (hm : 0 ≤ m) (hb : m + n ≤ 9223372036854775807) : ∀ (d i : Nat) (acc : List Int), i + d = n → acc.length = n → acc.take i = (from_ m n).take i → Ev (fun k => laws_markIntS.l0 k acc (m + i) i) (m + n, from_ m n) := by
  intro d
  induction d with
  | zero =>
    intro i acc hi ha ht
    refine Ev.step (f := fun _ => some (m + i, acc)) (fun k => ?_) ?_
    · simp only [laws_markIntS.l0]; rw [if_neg (by omega)]
    · have e : acc = from_ m n := by
        have h1 := List.take_of_length_le (l := acc) (i := i) (by omega)
        have h2 := List.take_of_length_le (l := from_ m n) (i := i) (by rw [from_length]; omega)
        rw [← h1, ← h2, ht]
      rw [e, show i = n by omega]; exact Ev.now _
  | succ d ih =>
    intro i acc hi ha ht
    have hlt : i < n := by omega
    have := ih (i + 1) (acc.set i (m + i)) (by omega) (by simpa using ha) (by
      rw [List.take_succ_eq_append_getElem (by simp; omega), List.take_succ_eq_append_getElem (by rw [from_length]; exact hlt), List.take_set_of_le (Nat.le_refl i), ht, from_get m n i hlt]
      simp)
    refine Ev.step (f := fun k => laws_markIntS.l0 k (acc.set i (m + i)) (m + ((i + 1 : Nat) : Int)) ((i + 1 : Nat) : Int)) (fun k => ?_) this
    simp only [laws_markIntS.l0]
    rw [if_pos (by omega), if_pos (by omega), w64 (by omega) (by omega), w64 (by omega) (by omega), Int.toNat_natCast, show m + (i : Int) + 1 = m + ((i + 1 : Nat) : Int) by omega, show (i : Int) + 1 = ((i + 1 : Nat) : Int) by omega]
theorem markIntS_ev (l : List Int) (m : Int) (hm : 0 ≤ m) (hb : m + l.length ≤ 9223372036854775807) : Ev (fun k => laws_markIntS.f k l m) (m + l.length, from_ m l.length) := by
  have := markIntS_l l.length m hm hb l.length 0 l (by omega) rfl (by simp)
  simpa [laws_markIntS.f] using this

/-! markIntSS -/
/-- Rows of marks, one behind the other. -/
def rowsFrom (m : Int) : List (List Int) → List (List Int)
  | [] => []
  | x :: t => from_ m x.length :: rowsFrom (m + x.length) t
theorem rowsFrom_length (m : Int) (l : List (List Int)) : (rowsFrom m l).length = l.length := by
  induction l generalizing m with
  | nil => rfl
  | cons x t ih => simp [rowsFrom, ih]
theorem rdL_mid (a : List (List Int)) (x : List Int) (t : List (List Int)) : rd_L1 (a ++ x :: t) (a.length : Int) = x := by
  rw [rdL_lt (by simp)]; simp
theorem set_mid {α : Type} (a : List α) (x y : α) (t : List α) : (a ++ x :: t).set a.length y = (a ++ [y]) ++ t := by simp
theorem markIntSS_l : ∀ (t a : List (List Int)) (m : Int), 0 ≤ m → m + (t.map List.length).sum ≤ 9223372036854775807 → a.length + t.length ≤ 1048576 → Ev (fun k => laws_markIntSS.l0 k (a ++ t) m a.length) (m + (t.map List.length).sum, a ++ rowsFrom m t) := by
  intro t
  induction t with
  | nil =>
    intro a m h0 hb hl
    refine Ev.step (f := fun _ => some (m, a ++ [])) (fun k => ?_) ?_
    · simp only [laws_markIntSS.l0]; rw [if_neg (by simp)]
    · simpa [rowsFrom] using Ev.now (m, a)
  | cons x t ih =>
    intro a m h0 hb hl
    simp only [List.map_cons, List.sum_cons, List.length_cons] at hb hl
    have hM := markIntS_ev x m h0 (by omega)
    have := ih (a ++ [from_ m x.length]) (m + x.length) (by omega) (by omega) (by simp; omega)
    refine Ev.step (f := fun k => (laws_markIntS.f k x m).bind fun bt => laws_markIntSS.l0 k ((a ++ [bt.2]) ++ t) bt.1 ((a.length + 1 : Nat) : Int)) (fun k => ?_) (Ev.bind hM ?_)
    · simp only [laws_markIntSS.l0, rdL_mid, Int.toNat_natCast, set_mid]
      rw [if_pos (by simp; omega), if_pos (by omega), w64s (n := a.length + t.length + 1) (by omega) (by omega)]
    · simp only [List.map_cons, List.sum_cons, rowsFrom]
      simp only [List.length_append, List.length_singleton, List.append_assoc, List.singleton_append] at this
      rw [show m + ((x.length + (t.map List.length).sum : Nat) : Int) = m + (x.length : Int) + ((t.map List.length).sum : Nat) by omega]
      simpa using this
theorem markIntSS_ev (l : List (List Int)) (hl : bulk l ≤ 1048576) : Ev (fun k => laws_markIntSS.f k l 1) (1 + ((l.map List.length).sum : Int), rowsFrom 1 l) := by
  unfold bulk at hl
  exact markIntSS_l l [] 1 (by omega) (by omega) (by simp; omega)

/-! heldIntS -/
theorem heldIntS_l (n : Nat) (m : Int) (hm : 0 ≤ m) (hb : m + n ≤ 9223372036854775807) : ∀ (d i : Nat), i + d = n → Ev (fun k => laws_heldIntS.l0 k (from_ m n) (m + i) i) (m + n) := by
  intro d
  induction d with
  | zero =>
    intro i hi
    refine Ev.step (f := fun _ => some (m + i)) (fun k => ?_) ?_
    · simp only [laws_heldIntS.l0]; rw [if_neg (by rw [from_length]; omega)]
    · rw [show i = n by omega]; exact Ev.now _
  | succ d ih =>
    intro i hi
    have hlt : i < n := by omega
    refine Ev.step (f := fun k => laws_heldIntS.l0 k (from_ m n) (m + ((i + 1 : Nat) : Int)) ((i + 1 : Nat) : Int)) (fun k => ?_) (ih (i + 1) (by omega))
    simp only [laws_heldIntS.l0]
    rw [if_pos (by rw [from_length]; omega), if_pos (by omega), rd_lt (by rw [from_length]; omega), from_get m n i hlt, if_pos rfl, w64 (by omega) (by omega), w64 (by omega) (by omega), show m + (i : Int) + 1 = m + ((i + 1 : Nat) : Int) by omega, show (i : Int) + 1 = ((i + 1 : Nat) : Int) by omega]
theorem heldIntS_ev (n : Nat) (m : Int) (hm : 0 ≤ m) (hb : m + n ≤ 9223372036854775807) : Ev (fun k => laws_heldIntS.f k (from_ m n) m) (m + n) := by
  have := heldIntS_l n m hm hb n 0 (by omega)
  simpa [laws_heldIntS.f] using this

/-! heldIntSS -/
theorem heldIntSS_l : ∀ (t a : List (List Int)) (m : Int), 0 ≤ m → m + (t.map List.length).sum ≤ 9223372036854775807 → a.length + t.length ≤ 1048576 → Ev (fun k => laws_heldIntSS.l0 k (a ++ rowsFrom m t) m a.length) (m + (t.map List.length).sum) := by
  intro t
  induction t with
  | nil =>
    intro a m h0 hb hl
    refine Ev.step (f := fun _ => some m) (fun k => ?_) ?_
    · simp only [laws_heldIntSS.l0]; rw [if_neg (by simp [rowsFrom])]
    · simpa using Ev.now m
  | cons x t ih =>
    intro a m h0 hb hl
    simp only [List.map_cons, List.sum_cons, List.length_cons] at hb hl
    have hM := heldIntS_ev x.length m h0 (by omega)
    have := ih (a ++ [from_ m x.length]) (m + x.length) (by omega) (by omega) (by simp; omega)
    have hn : ¬ (m + (x.length : Int) < 0) := by omega
    refine Ev.step (f := fun k => (laws_heldIntS.f k (from_ m x.length) m).bind fun t1 => if t1 < 0 then some (-1) else laws_heldIntSS.l0 k ((a ++ [from_ m x.length]) ++ rowsFrom (m + x.length) t) t1 ((a.length + 1 : Nat) : Int)) (fun k => ?_) (Ev.bind hM ?_)
    · simp only [laws_heldIntSS.l0, rowsFrom, rdL_mid, List.append_assoc, List.singleton_append]
      rw [if_pos (by simp; omega), if_pos (by omega), w64s (n := a.length + t.length + 1) (by omega) (by omega)]
    · simp only [List.map_cons, List.sum_cons, hn, if_false]
      simp only [List.length_append, List.length_singleton] at this
      rw [show m + ((x.length + (t.map List.length).sum : Nat) : Int) = m + (x.length : Int) + ((t.map List.length).sum : Nat) by omega]
      exact this
theorem heldIntSS_ev (l : List (List Int)) (hl : bulk l ≤ 1048576) : Ev (fun k => laws_heldIntSS.f k (rowsFrom 1 l) 1) (1 + ((l.map List.length).sum : Int)) := by
  unfold bulk at hl
  exact heldIntSS_l l [] 1 (by omega) (by omega) (by simp; omega)

/-! evp -/
/-- From some number of rounds on. -/
def Evp (P : Nat → Prop) : Prop := ∃ K, ∀ k, K ≤ k → P k
theorem Evp.and {P Q : Nat → Prop} (h : Evp P) (g : Evp Q) : Evp (fun k => P k ∧ Q k) := by
  obtain ⟨K, hK⟩ := h
  obtain ⟨M, hM⟩ := g
  exact ⟨max K M, fun k hk => ⟨hK k (by omega), hM k (by omega)⟩⟩
theorem evp {α : Type} {g : Nat → Option α} {r : α} (h : Ev g r) : Evp (fun k => g k = some r) := h
theorem Evp.some {P : Nat → Prop} (h : Evp P) : ∃ k, P k := by obtain ⟨K, hK⟩ := h; exact ⟨K, hK K (Nat.le_refl _)⟩

/-! cnt -/
/-- How often a letter or its inverse occurs. -/
def cnt (l : List Int) (y : Nat) : Nat := l.countP fun x => x.natAbs == y
theorem cnt_append (a b : List Int) (y : Nat) : cnt (a ++ b) y = cnt a y + cnt b y := List.countP_append
theorem cnt_one (x : Int) (y : Nat) : cnt [x] y = if x.natAbs = y then 1 else 0 := by
  unfold cnt
  rw [List.countP_cons, List.countP_nil]
  by_cases h : x.natAbs = y <;> simp [h]
theorem cnt_le (l : List Int) (y : Nat) : cnt l y ≤ l.length := List.countP_le_length
def usesL (l : List Int) : List Int := (List.range 9).map fun y => ((cnt l y : Nat) : Int)
theorem usesL_length (l : List Int) : (usesL l).length = 9 := by simp [usesL]
theorem usesL_rd (l : List Int) {y : Nat} (h : y < 9) : rd (usesL l) (y : Int) = (cnt l y : Int) := by
  rw [rd_lt (by rw [usesL_length]; exact h)]
  simp [usesL]
theorem usesL_nil : usesL [] = List.replicate 9 0 := by decide
theorem usesL_snoc (l : List Int) (x : Int) : (usesL l).set x.natAbs ((cnt l x.natAbs : Int) + 1) = usesL (l ++ [x]) := by
  refine List.ext_getElem (by simp [usesL_length]) fun y h1 h2 => ?_
  have hy : y < 9 := by rw [usesL_length] at h2; exact h2
  rw [List.getElem_set]
  have e1 : (usesL (l ++ [x]))[y] = ((cnt (l ++ [x]) y : Nat) : Int) := by simp [usesL]
  refine Eq.trans ?_ e1.symm
  rw [cnt_append, cnt_one]
  by_cases h : x.natAbs = y
  · subst h; rw [if_pos rfl, if_pos rfl]; omega
  · rw [if_neg h, if_neg h]; simp [usesL]
theorem flat_take_succ {g : List (List Int)} {p : Nat} (h : p < g.length) : (g.take (p + 1)).flatten = (g.take p).flatten ++ g[p] := by
  rw [List.take_succ_eq_append_getElem h, List.flatten_append, List.flatten_singleton]
theorem flat_len (g : List (List Int)) : g.flatten.length = (g.map List.length).sum := List.length_flatten
theorem flat_take_len (g : List (List Int)) (p : Nat) : ((g.take p).flatten).length ≤ g.flatten.length := by
  have : g.flatten = (g.take p).flatten ++ (g.drop p).flatten := by rw [← List.flatten_append, List.take_append_drop]
  rw [this, List.length_append]; omega

/-! bulkF -/
theorem bulk_flat {g : List (List Int)} (h : bulk g ≤ 1048576) : g.length ≤ 1048576 ∧ g.flatten.length ≤ 1048576 := by
  unfold bulk at h
  rw [flat_len]
  omega

/-! within -/
theorem within_eq (a b c : Int) : impl_within.f a b c = some (decide (b ≤ a ∧ a ≤ c)) := by
  unfold impl_within.f
  split <;> simp <;> omega

/-! l1In -/
theorem l1In_eq (a b c : Int) : spec_l1In.f a b c = some (decide (b ≤ a ∧ a ≤ c)) := by
  unfold spec_l1In.f
  split <;> simp <;> omega

/-! letter -/
/-- A letter. -/
def LetP (x : Int) : Prop := x ≠ 0 ∧ -8 ≤ x ∧ x ≤ 8
theorem l2Letter_eq (x : Int) : spec_l2Letter.f x = some (decide (LetP x)) := by
  unfold spec_l2Letter.f
  simp only [l1In_eq, Option.bind_some]
  by_cases h : 1 ≤ x ∧ x ≤ 8
  · rw [decide_eq_true h, decide_eq_true (show LetP x from ⟨by omega, by omega, by omega⟩)]; rfl
  · rw [decide_eq_false h]
    simp only [Bool.false_eq_true, if_false]
    congr 1
    rw [decide_eq_decide]
    unfold LetP
    omega
theorem isLetter_eq (x : Int) : impl_isLetter.f x = some (decide (LetP x)) := by
  unfold impl_isLetter.f
  simp only [within_eq, Option.bind_some]
  split
  · rename_i h
    rw [decide_eq_false (fun hh : LetP x => hh.1 h)]
  · rename_i h
    congr 1
    rw [decide_eq_decide]
    unfold LetP
    omega

/-! isWord -/
/-- A word. -/
def WordP (l : List Int) : Prop := (∀ x ∈ l, LetP x) ∧ l.length ≤ 24
def WordFrom (l : List Int) (i : Nat) : Prop := (∀ x ∈ l.drop i, LetP x) ∧ l.length ≤ 24
theorem isWord_l (l : List Int) (hl : l.length ≤ 9223372036854775807) : ∀ (d i : Nat), i + d = l.length → Ev (fun k => spec_IsWord.l0 k l i) (decide (WordFrom l i)) ∧ Ev (fun k => impl_IsWord.l0 k l l l.length i) (decide (WordFrom l i)) := by
  intro d
  induction d with
  | zero =>
    intro i hi
    have e : decide (WordFrom l i) = decide ((l.length : Int) ≤ 24) := by
      rw [decide_eq_decide]; unfold WordFrom; rw [List.drop_of_length_le (by omega)]
      simp
      omega
    rw [e]
    refine ⟨Ev.step (f := fun _ => some (decide ((l.length : Int) ≤ 24))) (fun k => ?_) (Ev.now _), Ev.step (f := fun _ => some (decide ((l.length : Int) ≤ 24))) (fun k => ?_) (Ev.now _)⟩
    · simp only [spec_IsWord.l0]; rw [if_neg (by omega)]
    · simp only [impl_IsWord.l0]; rw [if_neg (by omega)]
  | succ d ih =>
    intro i hi
    have hlt : i < l.length := by omega
    have e1 := rd_lt hlt
    have ed : l.drop i = l[i] :: l.drop (i + 1) := List.drop_eq_getElem_cons hlt
    by_cases hp : LetP l[i]
    · have e : decide (WordFrom l i) = decide (WordFrom l (i + 1)) := by
        rw [decide_eq_decide]; unfold WordFrom; rw [ed]
        simp only [List.mem_cons, forall_eq_or_imp, hp, true_and]
      rw [e]
      obtain ⟨h1, h2⟩ := ih (i + 1) (by omega)
      refine ⟨Ev.step (fun k => ?_) h1, Ev.step (fun k => ?_) h2⟩
      · simp only [spec_IsWord.l0, l2Letter_eq, e1, Option.bind_some, decide_eq_true hp]
        rw [if_pos (by omega), if_pos (by omega), if_pos trivial, w64s hlt hl]
      · simp only [impl_IsWord.l0, isLetter_eq, e1, Option.bind_some, decide_eq_true hp]
        rw [if_pos (by omega), if_pos (by omega), if_pos (by omega), if_pos trivial, w64s hlt hl]
    · have e : decide (WordFrom l i) = false := by
        refine decide_eq_false fun h => hp (h.1 _ ?_)
        rw [ed]; exact List.mem_cons_self
      rw [e]
      refine ⟨Ev.step (f := fun _ => some false) (fun k => ?_) (Ev.now _), Ev.step (f := fun _ => some false) (fun k => ?_) (Ev.now _)⟩
      · simp only [spec_IsWord.l0, l2Letter_eq, e1, Option.bind_some, decide_eq_false hp]
        rw [if_pos (by omega), if_pos (by omega)]; rfl
      · simp only [impl_IsWord.l0, isLetter_eq, e1, Option.bind_some, decide_eq_false hp]
        rw [if_pos (by omega), if_pos (by omega), if_pos (by omega)]; rfl
theorem isWord_ev (l : List Int) (hl : l.length ≤ 1048576) : Ev (fun k => spec_IsWord.f k l) (decide (WordP l)) ∧ Ev (fun k => impl_IsWord.f k l) (decide (WordP l)) := by
  have := isWord_l l (by omega) l.length 0 (by omega)
  have e : decide (WordFrom l 0) = decide (WordP l) := by rw [decide_eq_decide]; rfl
  rw [e] at this
  exact this

/-! gluP -/
/-- A gluing. -/
def GluP (g : List (List Int)) : Prop := (1 ≤ g.length ∧ g.length ≤ 4) ∧ (∀ p ∈ g, p ≠ [] ∧ WordP p) ∧ g.flatten.length ≤ 20 ∧ ∀ y, y < 9 → cnt g.flatten y ≤ 2
theorem GluP.let {g : List (List Int)} (h : GluP g) : ∀ p ∈ g, ∀ x ∈ p, LetP x := fun p hp => (h.2.1 p hp).2.1
/-- Rows from p on are words that are not empty. -/
def RowsP (g : List (List Int)) (p : Nat) : Prop := ∀ w ∈ g.drop p, w ≠ [] ∧ WordP w
theorem rowsP_succ {g : List (List Int)} {p : Nat} (h : p < g.length) : RowsP g p ↔ (g[p] ≠ [] ∧ WordP g[p]) ∧ RowsP g (p + 1) := by
  unfold RowsP
  rw [List.drop_eq_getElem_cons h]
  simp only [List.mem_cons, forall_eq_or_imp]
def Few (l : List Int) (i : Nat) : Prop := ∀ y, i ≤ y → y < 9 → cnt l y ≤ 2

/-! gluMap -/
theorem GluP.map {g : List (List Int)} (h : GluP g) (f : Int → Int) (hf : ∀ z, LetP z → LetP (f z)) (s : Nat → Nat) (hs : ∀ y, y < 9 → s y < 9) (hc : ∀ z, LetP z → ∀ y, y < 9 → ((f z).natAbs = y ↔ z.natAbs = s y)) : GluP (g.map (List.map f)) := by
  have hlet := h.let
  refine ⟨by rw [List.length_map]; exact h.1, fun p hp => ?_, ?_, fun y hy => ?_⟩
  · obtain ⟨q, hq, rfl⟩ := List.mem_map.1 hp
    obtain ⟨h1, h2⟩ := h.2.1 q hq
    refine ⟨fun e => h1 (List.map_eq_nil_iff.1 e), fun x hx => ?_, by rw [List.length_map]; exact h2.2⟩
    obtain ⟨z, hz, rfl⟩ := List.mem_map.1 hx
    exact hf z (h2.1 z hz)
  · rw [← List.map_flatten, List.length_map]
    exact h.2.2.1
  · rw [← List.map_flatten]
    have e : cnt (g.flatten.map f) y = cnt g.flatten (s y) := by
      unfold cnt
      rw [List.countP_map]
      refine List.countP_congr fun x hx => ?_
      obtain ⟨p, hp, hxp⟩ := List.mem_flatten.1 hx
      have := hc x (hlet p hp x hxp) y hy
      simp only [Function.comp_apply, beq_iff_eq]
      exact this
    rw [e]
    exact h.2.2.2 _ (hs y hy)
theorem GluP.letOk {g : List (List Int)} (h : GluP g) : LetOk g := by
  refine ⟨by have := h.1.2; omega, fun row hr => ⟨by have := (h.2.1 row hr).2.2; omega, fun x hx => ?_⟩⟩
  have := h.let row hr x hx
  unfold LetP at this
  omega
theorem bulk_map (g : List (List Int)) (f : Int → Int) : bulk (g.map (List.map f)) = bulk g := by
  unfold bulk
  rw [List.length_map, List.map_map]
  congr 2
  refine List.map_congr_left fun x _ => ?_
  simp

/-! fewS -/
theorem fewS_l (l : List Int) : ∀ (d i : Nat), i + d = 9 → Ev (fun k => spec_IsGluing.l1 k (usesL l) i) (decide (Few l i)) := by
  intro d
  induction d with
  | zero =>
    intro i hi
    rw [decide_eq_true (show Few l i from fun y h1 h2 => by omega)]
    refine Ev.step (f := fun _ => some true) (fun k => ?_) (Ev.now _)
    simp only [spec_IsGluing.l1, usesL_length]; rw [if_neg (by omega)]
  | succ d ih =>
    intro i hi
    by_cases hc : cnt l i ≤ 2
    · have e : Few l i ↔ Few l (i + 1) := ⟨fun h y h1 h2 => h y (by omega) h2, fun h y h1 h2 => by
        rcases Nat.eq_or_lt_of_le h1 with rfl | h3
        · exact hc
        · exact h y h3 h2⟩
      rw [decide_eq_decide.2 e]
      refine Ev.step (fun k => ?_) (ih (i + 1) (by omega))
      simp only [spec_IsGluing.l1, usesL_length, usesL_rd l (show i < 9 by omega)]
      rw [if_pos (by omega), if_pos (by omega), if_neg (by omega), w64s (show i < 9 by omega) (by omega)]
    · rw [decide_eq_false (show ¬ Few l i from fun h => hc (h i (Nat.le_refl _) (by omega)))]
      refine Ev.step (f := fun _ => some false) (fun k => ?_) (Ev.now _)
      simp only [spec_IsGluing.l1, usesL_length, usesL_rd l (show i < 9 by omega)]
      rw [if_pos (by omega), if_pos (by omega), if_pos (by omega)]

/-! neg -/
theorem LetP.neg {x : Int} (h : LetP x) : LetP (-x) := by unfold LetP at *; omega
theorem w64neg {x : Int} (h : LetP x) : wrap64 (-x) = -x := w64 (by unfold LetP at h; omega) (by unfold LetP at h; omega)

/-! abs -/
theorem LetP.abs {x : Int} (h : LetP x) : 1 ≤ x.natAbs ∧ x.natAbs ≤ 8 := by unfold LetP at h; omega
theorem l3Abs_eq {x : Int} (h : LetP x) : spec_l3Abs.f x = some (x.natAbs : Int) := by
  unfold spec_l3Abs.f spec_l1Max.f
  rw [w64neg h]
  split <;> simp only [Option.bind_some, Option.some.injEq] <;> omega

/-! usesS -/
theorem usesS_row (g : List (List Int)) (hg : g.length ≤ 1048576) (p : Nat) (hp : p < g.length) (hl : ∀ x ∈ g[p], LetP x) (pre : List Int) (hb : pre.length + g[p].length ≤ 1048576) (r : List Int) (h : Ev (fun k => spec_l3Uses.l0 k g (usesL (pre ++ g[p])) ((p + 1 : Nat) : Int)) r) :
    ∀ (d i : Nat), i + d = g[p].length → Ev (fun k => spec_l3Uses.l1 k g (usesL (pre ++ g[p].take i)) p i) r := by
  intro d
  induction d with
  | zero =>
    intro i hi
    rw [List.take_of_length_le (by omega)]
    refine Ev.step (fun k => ?_) h
    simp only [spec_l3Uses.l1, rdL_lt hp]
    rw [if_pos (by omega), if_pos (by omega), if_neg (by omega), w64s hp (by omega)]
  | succ d ih =>
    intro i hi
    have hlt : i < g[p].length := by omega
    have hx := hl g[p][i] (List.getElem_mem hlt)
    have ha := hx.abs
    have hc := cnt_le (pre ++ g[p].take i) g[p][i].natAbs
    rw [List.length_append, List.length_take] at hc
    have hw : wrap64 ((cnt (pre ++ g[p].take i) g[p][i].natAbs : Int) + 1) = (cnt (pre ++ g[p].take i) g[p][i].natAbs : Int) + 1 := w64 (by omega) (by omega)
    have := ih (i + 1) (by omega)
    rw [List.take_succ_eq_append_getElem hlt, ← List.append_assoc, ← usesL_snoc] at this
    refine Ev.step (fun k => ?_) this
    simp only [spec_l3Uses.l1, rdL_lt hp, rd_lt hlt, l3Abs_eq hx, Option.bind_some, usesL_length]
    rw [if_pos (by omega), if_pos (by omega), if_pos (by omega), if_pos (by omega), if_pos (by omega), if_pos (by omega), if_pos (by omega), if_pos (by omega), usesL_rd _ (by omega), hw, w64s hlt (by omega), Int.toNat_natCast]
theorem usesS_l (g : List (List Int)) (hg : g.length ≤ 1048576) (hl : ∀ p ∈ g, ∀ x ∈ p, LetP x) (hb : g.flatten.length ≤ 1048576) : ∀ (d p : Nat), p + d = g.length → Ev (fun k => spec_l3Uses.l0 k g (usesL (g.take p).flatten) p) (usesL g.flatten) := by
  intro d
  induction d with
  | zero =>
    intro p hp
    rw [List.take_of_length_le (by omega)]
    refine Ev.step (f := fun _ => some (usesL g.flatten)) (fun k => ?_) (Ev.now _)
    simp only [spec_l3Uses.l0]; rw [if_neg (by omega)]
  | succ d ih =>
    intro p hp
    have hlt : p < g.length := by omega
    have h1 := ih (p + 1) (by omega)
    rw [flat_take_succ hlt] at h1
    have h2 := usesS_row g hg p hlt (hl _ (List.getElem_mem hlt)) (g.take p).flatten (by have := flat_take_len g (p + 1); rw [flat_take_succ hlt, List.length_append] at this; omega) _ h1 g[p].length 0 (by omega)
    rw [List.take_zero, List.append_nil] at h2
    refine Ev.step (fun k => ?_) h2
    simp only [spec_l3Uses.l0]; rw [if_pos (by omega)]; rfl
theorem usesS_ev (g : List (List Int)) (hg : g.length ≤ 1048576) (hl : ∀ p ∈ g, ∀ x ∈ p, LetP x) (hb : g.flatten.length ≤ 1048576) : Ev (fun k => spec_l3Uses.f k g) (usesL g.flatten) := by
  refine Ev.congr (fun k => ?_) (usesS_l g hg hl hb g.length 0 (by omega))
  unfold spec_l3Uses.f
  rw [if_pos (by omega), List.take_zero, List.flatten_nil, usesL_nil]; rfl

/-! isGluingS -/
theorem isGluingS_l (g : List (List Int)) (hg : g.length ≤ 1048576) (hb : g.flatten.length ≤ 1048576) (r : Bool) (hr : RowsP g 0 → (Ev (fun k => spec_IsGluing.l0 k g (g.flatten.length : Nat) g.length) r)) : ∀ (d p : Nat), p + d = g.length → (RowsP g p ↔ RowsP g 0) → Ev (fun k => spec_IsGluing.l0 k g (((g.take p).flatten.length : Nat) : Int) p) (if RowsP g 0 then r else false) := by
  intro d
  induction d with
  | zero =>
    intro p hp hrow
    have h0 : RowsP g 0 := hrow.1 (by unfold RowsP; rw [List.drop_of_length_le (by omega)]; simp)
    rw [if_pos h0, List.take_of_length_le (by omega), show p = g.length by omega]
    exact hr h0
  | succ d ih =>
    intro p hp hrow
    have hlt : p < g.length := by omega
    have hs := rowsP_succ hlt
    have hxl : g[p].length ≤ 1048576 := by have := flat_take_len g (p + 1); rw [flat_take_succ hlt, List.length_append] at this; omega
    by_cases hz : g[p] = []
    · rw [if_neg (fun h0 => (hs.1 (hrow.2 h0)).1.1 hz)]
      refine Ev.step (f := fun _ => some false) (fun k => ?_) (Ev.now _)
      simp only [spec_IsGluing.l0, rdL_lt hlt, hz]
      rw [if_pos (by omega), if_pos (by omega), if_pos (by simp)]
    have hzl : 0 < g[p].length := List.length_pos_iff.2 hz
    have hw := (isWord_ev g[p] hxl).1
    refine Ev.step (f := fun k => (spec_IsWord.f k g[p]).bind fun t => if t = true then spec_IsGluing.l0 k g (wrap64 ((((g.take p).flatten.length : Nat) : Int) + (g[p].length : Int))) ((p + 1 : Nat) : Int) else some false) (fun k => ?_) (Ev.bind hw ?_)
    · simp only [spec_IsGluing.l0, rdL_lt hlt]
      rw [if_pos (by omega), if_pos (by omega), if_neg (by omega), w64s hlt (by omega)]
    · by_cases hwp : WordP g[p]
      · rw [decide_eq_true hwp]
        simp only [if_true]
        have h1 := ih (p + 1) (by omega) ⟨fun h => hrow.1 (hs.2 ⟨⟨hz, hwp⟩, h⟩), fun h => (hs.1 (hrow.2 h)).2⟩
        have hl : ((g.take (p + 1)).flatten.length : Nat) = (g.take p).flatten.length + g[p].length := by rw [flat_take_succ hlt, List.length_append]
        have hle := flat_take_len g (p + 1)
        have e : wrap64 ((((g.take p).flatten.length : Nat) : Int) + (g[p].length : Int)) = (((g.take (p + 1)).flatten.length : Nat) : Int) := by
          rw [w64 (by omega) (by omega)]; omega
        rw [e]
        exact h1
      · rw [decide_eq_false hwp, if_neg (fun h0 => hwp (hs.1 (hrow.2 h0)).1.2)]
        exact Ev.now _
theorem isGluingS_ev (g : List (List Int)) (hg : g.length ≤ 1048576) (hb : g.flatten.length ≤ 1048576) : Ev (fun k => spec_IsGluing.f k g) (decide (GluP g)) := by
  have hend : RowsP g 0 → Ev (fun k => spec_IsGluing.l0 k g (g.flatten.length : Nat) g.length) (decide (GluP g)) := by
    intro h0
    have h0' : ∀ p ∈ g, p ≠ [] ∧ WordP p := fun p hp => h0 p (by rw [List.drop_zero]; exact hp)
    by_cases hl : (1 : Int) ≤ g.length ∧ (g.length : Int) ≤ 4
    · by_cases h20 : (g.flatten.length : Int) > 20
      · rw [decide_eq_false (fun h : GluP g => by have := h.2.2.1; omega)]
        refine Ev.step (f := fun k => spec_IsGluing.j1 k g true) (fun k => ?_) (Ev.step (f := fun _ => some false) (fun k => ?_) (Ev.now _))
        · simp only [spec_IsGluing.l0, l1In_eq, Option.bind_some, decide_eq_true hl, decide_eq_true h20]; rw [if_neg (by omega), if_pos trivial]
        · simp only [spec_IsGluing.j1]; rw [if_pos trivial]
      · have e : Few g.flatten 0 ↔ GluP g := ⟨fun h => ⟨⟨by omega, by omega⟩, h0', by omega, fun y hy => h y (by omega) hy⟩, fun h y _ hy => h.2.2.2 y hy⟩
        rw [← decide_eq_decide.2 e]
        refine Ev.step (f := fun k => spec_IsGluing.j1 k g false) (fun k => ?_) (Ev.step (f := fun k => (spec_l3Uses.f k g).bind fun t => spec_IsGluing.l1 k t ((0 : Nat) : Int)) (fun k => ?_) (Ev.bind (usesS_ev g hg (fun p hp => (h0' p hp).2.1) hb) (fewS_l g.flatten 9 0 (by omega))))
        · simp only [spec_IsGluing.l0, l1In_eq, Option.bind_some, decide_eq_true hl, decide_eq_false h20]; rw [if_neg (by omega), if_pos trivial]
        · simp only [spec_IsGluing.j1]; rw [if_neg (by simp)]; rfl
    · rw [decide_eq_false (fun h : GluP g => hl ⟨by have := h.1.1; omega, by have := h.1.2; omega⟩)]
      refine Ev.step (f := fun k => spec_IsGluing.j1 k g true) (fun k => ?_) (Ev.step (f := fun _ => some false) (fun k => ?_) (Ev.now _))
      · simp only [spec_IsGluing.l0, l1In_eq, Option.bind_some, decide_eq_false hl]; rw [if_neg (by omega), if_neg (by simp)]
      · simp only [spec_IsGluing.j1]; rw [if_pos trivial]
  have h := isGluingS_l g hg hb _ hend g.length 0 (by omega) Iff.rfl
  have e : (if RowsP g 0 then decide (GluP g) else false) = decide (GluP g) := by
    split
    · rfl
    · rename_i hn
      rw [decide_eq_false (fun h : GluP g => hn (fun p hp => h.2.1 p (by rw [List.drop_zero] at hp; exact hp)))]
  rw [e] at h
  simpa [spec_IsGluing.f] using h

/-! fewI -/
theorem fewI_l (l : List Int) : ∀ (d i : Nat), i + d = 9 → Ev (fun k => impl_IsGluing.l1 k (usesL l) 9 i) (decide (Few l i)) := by
  intro d
  induction d with
  | zero =>
    intro i hi
    rw [decide_eq_true (show Few l i from fun y h1 h2 => by omega)]
    refine Ev.step (f := fun _ => some true) (fun k => ?_) (Ev.now _)
    simp only [impl_IsGluing.l1]; rw [if_neg (by omega)]
  | succ d ih =>
    intro i hi
    by_cases hc : cnt l i ≤ 2
    · have e : Few l i ↔ Few l (i + 1) := ⟨fun h y h1 h2 => h y (by omega) h2, fun h y h1 h2 => by
        rcases Nat.eq_or_lt_of_le h1 with rfl | h3
        · exact hc
        · exact h y h3 h2⟩
      rw [decide_eq_decide.2 e]
      refine Ev.step (fun k => ?_) (ih (i + 1) (by omega))
      simp only [impl_IsGluing.l1, usesL_length, usesL_rd l (show i < 9 by omega)]
      rw [if_pos (by omega), if_pos (by omega), if_pos (by omega), if_neg (by omega), w64s (show i < 9 by omega) (by omega)]
    · rw [decide_eq_false (show ¬ Few l i from fun h => hc (h i (Nat.le_refl _) (by omega)))]
      refine Ev.step (f := fun _ => some false) (fun k => ?_) (Ev.now _)
      simp only [impl_IsGluing.l1, usesL_length, usesL_rd l (show i < 9 by omega)]
      rw [if_pos (by omega), if_pos (by omega), if_pos (by omega), if_pos (by omega)]

/-! sizeI -/
theorem size_eq {x : Int} (h : LetP x) : impl_size.f x = some (x.natAbs : Int) := by
  unfold impl_size.f
  rw [w64neg h]
  unfold mx
  congr 1
  omega

/-! usesI -/
theorem usesI_row (g : List (List Int)) (hg : g.length ≤ 1048576) (p : Nat) (hp : p < g.length) (hl : ∀ x ∈ g[p], LetP x) (pre : List Int) (hb : pre.length + g[p].length ≤ 1048576) (r : List Int) (h : Ev (fun k => impl_letterCounts.l0 k (usesL (pre ++ g[p])) g g.length ((p + 1 : Nat) : Int)) r) :
    ∀ (d i : Nat), i + d = g[p].length → Ev (fun k => impl_letterCounts.l1 k (usesL (pre ++ g[p].take i)) g g.length p g[p] g[p].length i) r := by
  intro d
  induction d with
  | zero =>
    intro i hi
    rw [List.take_of_length_le (by omega)]
    refine Ev.step (fun k => ?_) h
    simp only [impl_letterCounts.l1]
    rw [if_neg (by omega), w64s hp (by omega)]
  | succ d ih =>
    intro i hi
    have hlt : i < g[p].length := by omega
    have hx := hl g[p][i] (List.getElem_mem hlt)
    have ha := hx.abs
    have hc := cnt_le (pre ++ g[p].take i) g[p][i].natAbs
    rw [List.length_append, List.length_take] at hc
    have hw : wrap64 ((cnt (pre ++ g[p].take i) g[p][i].natAbs : Int) + 1) = (cnt (pre ++ g[p].take i) g[p][i].natAbs : Int) + 1 := w64 (by omega) (by omega)
    have := ih (i + 1) (by omega)
    rw [List.take_succ_eq_append_getElem hlt, ← List.append_assoc, ← usesL_snoc] at this
    refine Ev.step (fun k => ?_) this
    simp only [impl_letterCounts.l1, rd_lt hlt, size_eq hx, Option.bind_some, usesL_length]
    rw [if_pos (by omega), if_pos (by omega), if_pos (by omega), if_pos (by omega), if_pos (by omega), usesL_rd _ (by omega), hw, w64s hlt (by omega), Int.toNat_natCast]
theorem usesI_l (g : List (List Int)) (hg : g.length ≤ 1048576) (hl : ∀ p ∈ g, ∀ x ∈ p, LetP x) (hb : g.flatten.length ≤ 1048576) : ∀ (d p : Nat), p + d = g.length → Ev (fun k => impl_letterCounts.l0 k (usesL (g.take p).flatten) g g.length p) (usesL g.flatten) := by
  intro d
  induction d with
  | zero =>
    intro p hp
    rw [List.take_of_length_le (by omega)]
    refine Ev.step (f := fun _ => some (usesL g.flatten)) (fun k => ?_) (Ev.now _)
    simp only [impl_letterCounts.l0]; rw [if_neg (by omega)]
  | succ d ih =>
    intro p hp
    have hlt : p < g.length := by omega
    have h1 := ih (p + 1) (by omega)
    rw [flat_take_succ hlt] at h1
    have h2 := usesI_row g hg p hlt (hl _ (List.getElem_mem hlt)) (g.take p).flatten (by have := flat_take_len g (p + 1); rw [flat_take_succ hlt, List.length_append] at this; omega) _ h1 g[p].length 0 (by omega)
    rw [List.take_zero, List.append_nil] at h2
    refine Ev.step (fun k => ?_) h2
    simp only [impl_letterCounts.l0, rdL_lt hlt]; rw [if_pos (by omega), if_pos (by omega), if_pos (by omega)]; rfl
theorem usesI_ev (g : List (List Int)) (hg : g.length ≤ 1048576) (hl : ∀ p ∈ g, ∀ x ∈ p, LetP x) (hb : g.flatten.length ≤ 1048576) : Ev (fun k => impl_letterCounts.f k g) (usesL g.flatten) := by
  refine Ev.congr (fun k => ?_) (usesI_l g hg hl hb g.length 0 (by omega))
  unfold impl_letterCounts.f
  rw [if_pos (by omega), List.take_zero, List.flatten_nil, usesL_nil]; rfl

/-! isGluingI -/
theorem isGluingI_l (g : List (List Int)) (hg : g.length ≤ 1048576) (hb : g.flatten.length ≤ 1048576) (r : Bool) (hr : RowsP g 0 → (Ev (fun k => impl_IsGluing.l0 k g (g.flatten.length : Nat) g g.length g.length) r)) : ∀ (d p : Nat), p + d = g.length → (RowsP g p ↔ RowsP g 0) → Ev (fun k => impl_IsGluing.l0 k g (((g.take p).flatten.length : Nat) : Int) g g.length p) (if RowsP g 0 then r else false) := by
  intro d
  induction d with
  | zero =>
    intro p hp hrow
    have h0 : RowsP g 0 := hrow.1 (by unfold RowsP; rw [List.drop_of_length_le (by omega)]; simp)
    rw [if_pos h0, List.take_of_length_le (by omega), show p = g.length by omega]
    exact hr h0
  | succ d ih =>
    intro p hp hrow
    have hlt : p < g.length := by omega
    have hs := rowsP_succ hlt
    have hxl : g[p].length ≤ 1048576 := by have := flat_take_len g (p + 1); rw [flat_take_succ hlt, List.length_append] at this; omega
    by_cases hz : g[p] = []
    · rw [if_neg (fun h0 => (hs.1 (hrow.2 h0)).1.1 hz)]
      refine Ev.step (f := fun _ => some false) (fun k => ?_) (Ev.now _)
      simp only [impl_IsGluing.l0, rdL_lt hlt, hz]
      rw [if_pos (by omega), if_pos (by omega), if_pos (by omega), if_pos (by simp)]
    have hzl : 0 < g[p].length := List.length_pos_iff.2 hz
    have hw := (isWord_ev g[p] hxl).2
    refine Ev.step (f := fun k => (impl_IsWord.f k g[p]).bind fun t => if t = true then impl_IsGluing.l0 k g (wrap64 ((((g.take p).flatten.length : Nat) : Int) + (g[p].length : Int))) g g.length ((p + 1 : Nat) : Int) else some false) (fun k => ?_) (Ev.bind hw ?_)
    · simp only [impl_IsGluing.l0, rdL_lt hlt]
      rw [if_pos (by omega), if_pos (by omega), if_pos (by omega), if_neg (by omega), w64s hlt (by omega)]
    · by_cases hwp : WordP g[p]
      · rw [decide_eq_true hwp]
        simp only [if_true]
        have h1 := ih (p + 1) (by omega) ⟨fun h => hrow.1 (hs.2 ⟨⟨hz, hwp⟩, h⟩), fun h => (hs.1 (hrow.2 h)).2⟩
        have hl : ((g.take (p + 1)).flatten.length : Nat) = (g.take p).flatten.length + g[p].length := by rw [flat_take_succ hlt, List.length_append]
        have hle := flat_take_len g (p + 1)
        have e : wrap64 ((((g.take p).flatten.length : Nat) : Int) + (g[p].length : Int)) = (((g.take (p + 1)).flatten.length : Nat) : Int) := by
          rw [w64 (by omega) (by omega)]; omega
        rw [e]
        exact h1
      · rw [decide_eq_false hwp, if_neg (fun h0 => hwp (hs.1 (hrow.2 h0)).1.2)]
        exact Ev.now _
theorem isGluingI_ev (g : List (List Int)) (hg : g.length ≤ 1048576) (hb : g.flatten.length ≤ 1048576) : Ev (fun k => impl_IsGluing.f k g) (decide (GluP g)) := by
  unfold impl_IsGluing.f
  simp only [within_eq, Option.bind_some]
  by_cases hl : (1 : Int) ≤ g.length ∧ (g.length : Int) ≤ 4
  case neg =>
    rw [decide_eq_false hl, decide_eq_false (fun h : GluP g => hl ⟨by have := h.1.1; omega, by have := h.1.2; omega⟩)]
    exact Ev.now _
  rw [decide_eq_true hl]
  simp only [if_true]
  have hend : RowsP g 0 → Ev (fun k => impl_IsGluing.l0 k g (g.flatten.length : Nat) g g.length g.length) (decide (GluP g)) := by
    intro h0
    have h0' : ∀ p ∈ g, p ≠ [] ∧ WordP p := fun p hp => h0 p (by rw [List.drop_zero]; exact hp)
    by_cases h20 : (g.flatten.length : Int) > 20
    · rw [decide_eq_false (fun h : GluP g => by have := h.2.2.1; omega)]
      refine Ev.step (f := fun _ => some false) (fun k => ?_) (Ev.now _)
      simp only [impl_IsGluing.l0]; rw [if_neg (by omega), if_pos h20]
    · have e : Few g.flatten 0 ↔ GluP g := ⟨fun h => ⟨⟨by omega, by omega⟩, h0', by omega, fun y hy => h y (by omega) hy⟩, fun h y _ hy => h.2.2.2 y hy⟩
      rw [← decide_eq_decide.2 e]
      refine Ev.step (f := fun k => (impl_letterCounts.f k g).bind fun t => impl_IsGluing.l1 k t (t.length : Int) 0) (fun k => ?_) (Ev.bind (usesI_ev g hg (fun p hp => (h0' p hp).2.1) hb) ?_)
      · simp only [impl_IsGluing.l0]; rw [if_neg (by omega), if_neg h20]
      · simp only [usesL_length]
        exact fewI_l g.flatten 9 0 (by omega)
  have h := isGluingI_l g hg hb _ hend g.length 0 (by omega) Iff.rfl
  have e : (if RowsP g 0 then decide (GluP g) else false) = decide (GluP g) := by
    split
    · rfl
    · rename_i hn
      rw [decide_eq_false (fun h : GluP g => hn (fun p hp => h.2.1 p (by rw [List.drop_zero] at hp; exact hp)))]
  rw [e] at h
  simpa using h

/-! moveM -/
/-- A gluing, or nothing. -/
noncomputable def moveM (h : List (List Int)) : List (List Int) × Bool := if GluP h then (h, true) else ([], false)
theorem moveM_bulk (h : List (List Int)) : bulk (moveM h).1 ≤ 1048576 := by
  unfold moveM
  by_cases hg : GluP h
  · rw [if_pos hg]
    obtain ⟨⟨_, g1⟩, _, g2, _⟩ := hg
    unfold bulk
    rw [flat_len] at g2
    dsimp only
    omega
  · rw [if_neg hg]; decide

/-! moved -/
theorem moved_ev (h : List (List Int)) (h1 : h.length ≤ 1048576) (h2 : h.flatten.length ≤ 1048576) : Ev (fun k => impl_moved.f k h) (moveM h) := by
  unfold impl_moved.f moveM
  refine Ev.bind (isGluingI_ev h h1 h2) ?_
  by_cases hg : GluP h
  · rw [decide_eq_true hg, if_pos hg]; exact Ev.now _
  · rw [decide_eq_false hg, if_neg hg]; exact Ev.now _
theorem set_sum (g : List (List Int)) (p : Nat) (w : List Int) : ((g.set p w).map List.length).sum ≤ (g.map List.length).sum + w.length := by
  induction g generalizing p with
  | nil => simp
  | cons x t ih =>
    cases p with
    | zero => simp; omega
    | succ p => have := ih p; simp only [List.set_cons_succ, List.map_cons, List.sum_cons]; omega
theorem set_flat (g : List (List Int)) (p : Nat) (w : List Int) : (g.set p w).flatten.length ≤ g.flatten.length + w.length := by
  rw [flat_len, flat_len]; exact set_sum g p w

/-! copyOf -/
theorem copyOf_eq (l : List Int) (hl : l.length ≤ 1048576) : impl_copyOf.f l = some l := by
  unfold impl_copyOf.f
  simp only [Option.bind_some, List.nil_append, List.length_nil, Nat.zero_add]
  rw [if_pos (by omega)]

/-! l5Copy -/
theorem l5Copy_l (g : List (List Int)) (hl : bulk g ≤ 1048576) : ∀ (d i : Nat), i + d = g.length → Ev (fun k => spec_l5Copy.l0 k g (g.take i) i) g ∧ Ev (fun k => impl_copyRows.l0 k (g.take i) g g.length i) g := by
  have hgl : g.length ≤ 1048576 := by unfold bulk at hl; omega
  intro d
  induction d with
  | zero =>
    intro i hi
    have ht : g.take i = g := List.take_of_length_le (by omega)
    rw [ht]
    refine ⟨Ev.step (f := fun _ => some g) (fun k => ?_) (Ev.now _), Ev.step (f := fun _ => some g) (fun k => ?_) (Ev.now _)⟩
    · simp only [spec_l5Copy.l0]; rw [if_neg (by omega)]
    · simp only [impl_copyRows.l0]; rw [if_neg (by omega)]
  | succ d ih =>
    intro i hi
    have hlt : i < g.length := by omega
    obtain ⟨h1, h2⟩ := ih (i + 1) (by omega)
    rw [List.take_succ_eq_append_getElem hlt] at h1 h2
    have hb : g[i].length ≤ 1048576 := by have := len_le_sum (List.getElem_mem hlt); unfold bulk at hl; omega
    have htl : (g.take i).length = i := by rw [List.length_take]; omega
    refine ⟨Ev.step (fun k => ?_) h1, Ev.step (fun k => ?_) h2⟩
    · simp only [spec_l5Copy.l0, rdL_lt hlt, Option.bind_some, List.nil_append, List.length_nil, Nat.zero_add]
      rw [if_pos (by omega), if_pos (by omega), if_pos (by omega), if_pos (by omega), w64s hlt (by omega)]
    · simp only [impl_copyRows.l0, rdL_lt hlt, copyOf_eq _ hb, Option.bind_some]
      rw [if_pos (by omega), if_pos (by omega), if_pos (by omega), if_pos (by omega), w64s hlt (by omega)]
theorem l5Copy_ev (g : List (List Int)) (hl : bulk g ≤ 1048576) : Ev (fun k => spec_l5Copy.f k g) g ∧ Ev (fun k => impl_copyRows.f k g) g := l5Copy_l g hl g.length 0 (by omega)

/-! reverseLetter -/
theorem rv_let {x : Int} (hx : 1 ≤ x ∧ x ≤ 8) (z : Int) (hz : LetP z) : LetP (eachZ (rvZ x) z) := by
  unfold LetP at *
  unfold eachZ rvZ
  repeat' split
  all_goals omega
theorem rv_cnt {x : Int} (z : Int) (u : Nat) : (eachZ (rvZ x) z).natAbs = u ↔ z.natAbs = u := by
  unfold eachZ rvZ
  repeat' split
  all_goals omega
theorem rv_sel {x : Int} : selZ x (-x) x (-x) = rvZ x := by
  funext z
  unfold selZ rvZ
  repeat' split
  all_goals omega
theorem reverseLetter_ev (g : List (List Int)) (hbl : bulk g ≤ 1048576) (x : Int) : ∃ (r : List (List Int)) (o : Bool), bulk r ≤ 1048576 ∧ Ev (fun k => spec_ReverseLetter.f k g x) (r, o) ∧ Ev (fun k => impl_ReverseLetter.f k g x) (r, o) := by
  obtain ⟨hl1, hl2⟩ := bulk_flat hbl
  have e1 := isGluingS_ev g hl1 hl2
  have e2 := isGluingI_ev g hl1 hl2
  obtain ⟨c1, c2⟩ := l5Copy_ev g hbl
  unfold spec_ReverseLetter.f impl_ReverseLetter.f
  by_cases hx : 1 ≤ x ∧ x ≤ 8
  case neg =>
    refine ⟨[], false, by unfold bulk; simp, Ev.congr (fun k => if_neg hx) (Ev.now _), ?_⟩
    by_cases h : GluP g
    · rw [decide_eq_true h] at e2
      exact Ev.bind e2 (Ev.congr (fun k => (if_pos rfl).trans (if_neg hx)) (Ev.now _))
    · rw [decide_eq_false h] at e2
      exact Ev.bind e2 (Ev.congr (fun k => if_neg Bool.false_ne_true) (Ev.now _))
  by_cases h : GluP g
  case neg =>
    rw [decide_eq_false h] at e1 e2
    refine ⟨[], false, by unfold bulk; simp, Ev.congr (fun k => if_pos hx) ?_, Ev.bind e2 (Ev.congr (fun k => if_neg Bool.false_ne_true) (Ev.now _))⟩
    unfold spec_l5Swap.f
    exact Ev.bind e1 (Ev.congr (fun k => if_neg Bool.false_ne_true) (Ev.now _))
  rw [decide_eq_true h] at e1 e2
  have hG : GluP (g.map (List.map (eachZ (rvZ x)))) := h.map _ (rv_let hx) (fun u => u) (fun u hu => hu) (fun z _ u _ => rv_cnt z u)
  have hB := bulk_map g (eachZ (rvZ x))
  obtain ⟨f1, f2⟩ := bulk_flat (g := g.map (List.map (eachZ (rvZ x)))) (by omega)
  have hM := moved_ev _ f1 f2
  rw [show moveM (g.map (List.map (eachZ (rvZ x)))) = (g.map (List.map (eachZ (rvZ x))), true) from if_pos hG] at hM
  refine ⟨g.map (List.map (eachZ (rvZ x))), true, by omega, Ev.congr (fun k => if_pos hx) ?_, Ev.bind e2 ?_⟩
  · unfold spec_l5Swap.f
    refine Ev.bind e1 (Ev.congr (fun k => (if_pos rfl).trans ((if_pos hx).trans (if_pos hx))) (Ev.bind c1 ?_))
    rw [rv_sel]
    exact Ev.congr (fun k => if_pos ⟨rfl, h.letOk, by omega, by omega⟩) (Ev.now _)
  · refine Ev.congr (fun k => (if_pos rfl).trans (if_pos hx)) (Ev.bind c2 ?_)
    exact Ev.congr (fun k => if_pos h.letOk) hM

/-! law.FnExactReverseLetter -/
theorem FnExactReverseLetter (l : List (List Int)) (h1 : l.length ≤ maxLen) (h2 : ∀ x ∈ l, x.length ≤ maxLen ∧ ∀ n ∈ x, (Lit.int .i64 n).wf = true) (x : Int) (_wx : (Lit.int .i64 x).wf = true) : ∃ k, laws_FnExactReverseLetter.f k l x = some true := by
  unfold maxLen at h1 h2
  obtain ⟨v, hv, hb⟩ := szIntSS_ev l (by omega) (fun x hx => by have := (h2 x hx).1; omega)
  by_cases hn : v < 0
  · obtain ⟨k, hk⟩ := (evp hv).some
    exact ⟨k, by unfold laws_FnExactReverseLetter.f; rw [if_pos ⟨v, hk, .inl hn⟩]⟩
  have hbl := hb (by omega)
  obtain ⟨r, o, hr, e1, e2⟩ := reverseLetter_ev l hbl x
  obtain ⟨k, q1, q2, q3, q4, q5, q6, q7, q8, q9⟩ := ((evp hv).and ((evp (toIntSS_ev l hbl)).and ((evp e1).and ((evp e2).and ((evp (eqIntSS_same r hr)).and ((evp (eqIntSS_same l hbl)).and ((evp (markIntSS_ev l hbl)).and ((evp (markIntSS_ev r hr)).and (evp (heldIntSS_ev r hr)))))))))).some
  exact ⟨k, by unfold laws_FnExactReverseLetter.f; rw [if_pos ⟨v, q1, .inr ⟨by omega, r, o, _, _, _, _, by omega, by omega, q2, q3, q4, q5, q6, q7, q8, q9⟩⟩]⟩

end Go.Proofs.Ytlnddmkkgjlmbaa.Pure
