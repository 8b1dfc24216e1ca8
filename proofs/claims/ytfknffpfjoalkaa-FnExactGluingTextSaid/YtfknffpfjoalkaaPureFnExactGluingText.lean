/- GluingText of the program and GluingText of the reference answer the same for every list of lists of numbers, and the argument is left as it was. Conditions: those that the printed statement itself names (lengths and numbers that fit). -/
import Derived.Test.YtfknffpfjoalkaaQFnExactGluingTextx5
import Derived.Test.YtfknffpfjoalkaaCom
namespace Go.Proofs.Ytfknffpfjoalkaa.Pure
open Classical Go.RowKit Go.Proofs.Ytfknffpfjoalkaa.QFnExactGluingText Go.Proofs.YtfknffpfjoalkaaW.PrintWords Go.Proofs.YtfknffpfjoalkaaW.PrintLast Go.Proofs.Ytfknffpfjoalkaa.Com

/-! rdL -/
theorem rdL_lt {l : List (List Int)} {i : Nat} (h : i < l.length) : rd_L1 l (i : Int) = l[i] := by
  simp [rd_L1, List.getD_eq_getElem?_getD, h]
theorem rdL_nat (l : List (List Int)) (i : Nat) : rd_L1 l (i : Int) = l.getD i [] := rfl
/-- Rows and numbers together. -/
def bulk (l : List (List Int)) : Nat := l.length + (l.map List.length).sum
theorem sum_drop_lt {l : List (List Int)} {i : Nat} (h : i < l.length) : ((l.drop i).map List.length).sum = l[i].length + ((l.drop (i + 1)).map List.length).sum := by
  rw [List.drop_eq_getElem_cons h, List.map_cons, List.sum_cons]
theorem len_le_sum {l : List (List Int)} {x : List Int} (h : x ∈ l) : x.length ≤ (l.map List.length).sum := by
  induction l with
  | nil => simp at h
  | cons y l ih =>
    rw [List.map_cons, List.sum_cons]
    rcases List.mem_cons.1 h with rfl | h
    · omega
    · have := ih h; omega

/-! szIntSS -/
theorem szIntSS_l (l : List (List Int)) (hl : l.length ≤ 9223372036854775807) (hx : ∀ x ∈ l, x.length ≤ 9223372036854775807) : ∀ (d i : Nat) (left : Nat), i + d = l.length → left ≤ 1048576 → ∃ v : Int, Ev (fun k => laws_szIntSS.l0 k l left i) v ∧ (0 ≤ v → ((l.drop i).map List.length).sum ≤ left) := by
  intro d
  induction d with
  | zero =>
    intro i left hi hle
    refine ⟨left, Ev.step (f := fun _ => some (left : Int)) (fun k => ?_) (Ev.now _), fun _ => ?_⟩
    · simp only [laws_szIntSS.l0]; rw [if_neg (by omega)]
    · rw [List.drop_of_length_le (by omega)]; simp
  | succ d ih =>
    intro i left hi hle
    have hlt : i < l.length := by omega
    have hxl := hx l[i] (List.getElem_mem hlt)
    have hw : wrap64 ((left : Int) - (l[i].length : Int)) = (left : Int) - l[i].length := w64 (by omega) (by omega)
    by_cases hc : (left : Int) - (l[i].length : Int) < 0
    · refine ⟨-1, Ev.step (f := fun _ => some (-1 : Int)) (fun k => ?_) (Ev.now _), fun h => absurd h (by omega)⟩
      simp only [laws_szIntSS.l0, rdL_lt hlt, laws_szIntS.f, hw]
      rw [if_pos (by omega), if_pos (by omega), if_pos hc]
      simp
    · obtain ⟨v, h1, h2⟩ := ih (i + 1) (left - l[i].length) (by omega) (by omega)
      refine ⟨v, Ev.step (fun k => ?_) h1, fun h => ?_⟩
      · simp only [laws_szIntSS.l0, rdL_lt hlt, laws_szIntS.f, hw]
        rw [if_pos (by omega), if_pos (by omega), if_neg hc, Option.bind_some, if_neg hc, w64s hlt hl, show (left : Int) - (l[i].length : Int) = ((left - l[i].length : Nat) : Int) by omega]
      · have := h2 h
        rw [sum_drop_lt hlt]
        omega
theorem szIntSS_ev (l : List (List Int)) (hl : l.length ≤ 9223372036854775807) (hx : ∀ x ∈ l, x.length ≤ 9223372036854775807) : ∃ v : Int, Ev (fun k => laws_szIntSS.f k l 1048576) v ∧ (0 ≤ v → bulk l ≤ 1048576) := by
  have hw : wrap64 ((1048576 : Int) - (l.length : Int)) = (1048576 : Int) - l.length := w64 (by omega) (by omega)
  by_cases hc : (1048576 : Int) - (l.length : Int) < 0
  · refine ⟨-1, Ev.congr (f := fun _ => some (-1 : Int)) (fun k => ?_) (Ev.now _), fun h => absurd h (by omega)⟩
    unfold laws_szIntSS.f; rw [hw, if_pos hc]
  · obtain ⟨v, h1, h2⟩ := szIntSS_l l hl hx l.length 0 (1048576 - l.length) (by omega) (by omega)
    refine ⟨v, Ev.congr (fun k => ?_) h1, fun h => ?_⟩
    · unfold laws_szIntSS.f; rw [hw, if_neg hc, show (1048576 : Int) - (l.length : Int) = ((1048576 - l.length : Nat) : Int) by omega]; rfl
    · have := h2 h
      unfold bulk
      simp only [List.drop_zero] at this
      omega

/-! toIntS -/
theorem toIntS_l (l : List Int) (hl : l.length ≤ 9223372036854775807) : ∀ (d i : Nat) (acc : List Int), i + d = l.length → acc.length = l.length → acc.take i = l.take i → Ev (fun k => laws_toIntS.l0 k l acc i) l := by
  intro d
  induction d with
  | zero =>
    intro i acc hi ha ht
    refine Ev.step (f := fun _ => some acc) (fun k => ?_) ?_
    · simp only [laws_toIntS.l0]; rw [if_neg (by omega)]
    · have e : acc = l := by
        have h1 := List.take_of_length_le (l := acc) (i := i) (by omega)
        have h2 := List.take_of_length_le (l := l) (i := i) (by omega)
        rw [← h1, ← h2, ht]
      rw [e]; exact Ev.now _
  | succ d ih =>
    intro i acc hi ha ht
    have hlt : i < l.length := by omega
    refine Ev.step (f := fun k => laws_toIntS.l0 k l (acc.set i l[i]) ((i + 1 : Nat) : Int)) (fun k => ?_) (ih (i + 1) (acc.set i l[i]) (by omega) (by simpa using ha) ?_)
    · simp only [laws_toIntS.l0]
      rw [if_pos (by omega), if_pos (by omega), if_pos (by omega), w64s hlt hl, rd_lt hlt, Int.toNat_natCast]
    · rw [List.take_succ_eq_append_getElem (by simp; omega), List.take_succ_eq_append_getElem hlt, List.take_set_of_le (Nat.le_refl i), ht]
      simp
theorem toIntS_ev (l : List Int) (hl : l.length ≤ 35184372088832) : Ev (fun k => laws_toIntS.f k l) l := by
  refine Ev.congr (f := fun k => laws_toIntS.l0 k l (List.replicate l.length 0) ((0 : Nat) : Int)) (fun k => ?_) (toIntS_l l (by omega) l.length 0 _ (by omega) (by simp) (by simp))
  unfold laws_toIntS.f
  rw [if_pos (by omega), if_pos (by omega), Int.toNat_natCast]; rfl

/-! toIntSS -/
theorem toIntSS_l (l : List (List Int)) (hl : bulk l ≤ 1048576) : ∀ (d i : Nat) (acc : List (List Int)), i + d = l.length → acc.length = l.length → acc.take i = l.take i → Ev (fun k => laws_toIntSS.l0 k l acc i) l := by
  intro d
  induction d with
  | zero =>
    intro i acc hi ha ht
    refine Ev.step (f := fun _ => some acc) (fun k => ?_) ?_
    · simp only [laws_toIntSS.l0]; rw [if_neg (by omega)]
    · have e : acc = l := by
        have h1 := List.take_of_length_le (l := acc) (i := i) (by omega)
        have h2 := List.take_of_length_le (l := l) (i := i) (by omega)
        rw [← h1, ← h2, ht]
      rw [e]; exact Ev.now _
  | succ d ih =>
    intro i acc hi ha ht
    have hlt : i < l.length := by omega
    have hll : l.length ≤ 1048576 := by unfold bulk at hl; omega
    have hxl : l[i].length ≤ 35184372088832 := by have := len_le_sum (List.getElem_mem hlt); unfold bulk at hl; omega
    refine Ev.step (f := fun k => (laws_toIntS.f k l[i]).bind fun t => laws_toIntSS.l0 k l (acc.set i t) ((i + 1 : Nat) : Int)) (fun k => ?_) (Ev.bind (toIntS_ev l[i] hxl) (ih (i + 1) (acc.set i l[i]) (by omega) (by simpa using ha) ?_))
    · simp only [laws_toIntSS.l0, rdL_lt hlt]
      rw [if_pos (by omega), if_pos (by omega), w64s hlt (by omega), Int.toNat_natCast]
      congr 1
      funext t
      rw [if_pos (by omega)]
    · rw [List.take_succ_eq_append_getElem (by simp; omega), List.take_succ_eq_append_getElem hlt, List.take_set_of_le (Nat.le_refl i), ht]
      simp
theorem toIntSS_ev (l : List (List Int)) (hl : bulk l ≤ 1048576) : Ev (fun k => laws_toIntSS.f k l) l := by
  have hll : l.length ≤ 1048576 := by unfold bulk at hl; omega
  refine Ev.congr (f := fun k => laws_toIntSS.l0 k l (List.replicate l.length []) ((0 : Nat) : Int)) (fun k => ?_) (toIntSS_l l hl l.length 0 _ (by omega) (by simp) (by simp))
  unfold laws_toIntSS.f
  rw [if_pos (by omega), if_pos (by omega), Int.toNat_natCast]; rfl

/-! eqIntS -/
theorem eqIntS_l (a b : List Int) (hn : a.length = b.length) (hl : a.length ≤ 9223372036854775807) : ∀ (d i : Nat), i + d = a.length → Ev (fun k => laws_eqIntS.l0 k a b i) (decide (a.drop i = b.drop i)) := by
  intro d
  induction d with
  | zero =>
    intro i hi
    refine Ev.step (f := fun _ => some true) (fun k => ?_) ?_
    · simp only [laws_eqIntS.l0]; rw [if_neg (by omega)]
    · rw [List.drop_of_length_le (by omega), List.drop_of_length_le (by omega)]; exact Ev.now _
  | succ d ih =>
    intro i hi
    have h1 : i < a.length := by omega
    have h2 : i < b.length := by omega
    have e1 : a.drop i = a[i] :: a.drop (i + 1) := List.drop_eq_getElem_cons h1
    have e2 : b.drop i = b[i] :: b.drop (i + 1) := List.drop_eq_getElem_cons h2
    by_cases he : a[i] = b[i]
    · refine Ev.step (f := fun k => laws_eqIntS.l0 k a b ((i + 1 : Nat) : Int)) (fun k => ?_) ?_
      · simp only [laws_eqIntS.l0]
        rw [if_pos (by omega), if_pos (by omega), if_pos (by omega), rd_lt h1, rd_lt h2, if_pos he, w64s h1 hl]
      · have hd : decide (a.drop i = b.drop i) = decide (a.drop (i + 1) = b.drop (i + 1)) := by
          rw [decide_eq_decide, e1, e2, he]; simp only [List.cons.injEq, true_and]
        rw [hd]; exact ih (i + 1) (by omega)
    · refine Ev.step (f := fun _ => some false) (fun k => ?_) ?_
      · simp only [laws_eqIntS.l0]
        rw [if_pos (by omega), if_pos (by omega), if_pos (by omega), rd_lt h1, rd_lt h2, if_neg he]
      · have hd : decide (a.drop i = b.drop i) = false := by
          refine decide_eq_false fun e => he ?_
          rw [e1, e2] at e
          exact (List.cons.inj e).1
        rw [hd]; exact Ev.now _
theorem eqIntS_ev (a b : List Int) (hl : a.length ≤ 9223372036854775807) : Ev (fun k => laws_eqIntS.f k a b) (decide (a = b)) := by
  by_cases hn : a.length = b.length
  · refine Ev.congr (f := fun k => laws_eqIntS.l0 k a b ((0 : Nat) : Int)) (fun k => ?_) (eqIntS_l a b hn hl a.length 0 (by omega))
    unfold laws_eqIntS.f; rw [if_pos (by omega)]; rfl
  · refine Ev.congr (f := fun _ => some false) (fun k => ?_) ?_
    · unfold laws_eqIntS.f; rw [if_neg (by omega)]
    · rw [decide_eq_false (fun e => hn (by rw [e]))]; exact Ev.now _
theorem eqIntS_same (a : List Int) (hl : a.length ≤ 9223372036854775807) : Ev (fun k => laws_eqIntS.f k a a) true := by simpa using eqIntS_ev a a hl

/-! eqIntSS -/
theorem eqIntSS_l (a b : List (List Int)) (hn : a.length = b.length) (hl : a.length ≤ 9223372036854775807) (hx : ∀ x ∈ a, x.length ≤ 9223372036854775807) : ∀ (d i : Nat), i + d = a.length → Ev (fun k => laws_eqIntSS.l0 k a b i) (decide (a.drop i = b.drop i)) := by
  intro d
  induction d with
  | zero =>
    intro i hi
    refine Ev.step (f := fun _ => some true) (fun k => ?_) ?_
    · simp only [laws_eqIntSS.l0]; rw [if_neg (by omega)]
    · rw [List.drop_of_length_le (by omega), List.drop_of_length_le (by omega), decide_eq_true rfl]; exact Ev.now _
  | succ d ih =>
    intro i hi
    have h1 : i < a.length := by omega
    have h2 : i < b.length := by omega
    have e1 : a.drop i = a[i] :: a.drop (i + 1) := List.drop_eq_getElem_cons h1
    have e2 : b.drop i = b[i] :: b.drop (i + 1) := List.drop_eq_getElem_cons h2
    have hq := eqIntS_ev a[i] b[i] (hx _ (List.getElem_mem h1))
    refine Ev.step (f := fun k => (laws_eqIntS.f k a[i] b[i]).bind fun t => if t = true then laws_eqIntSS.l0 k a b ((i + 1 : Nat) : Int) else some false) (fun k => ?_) (Ev.bind hq ?_)
    · simp only [laws_eqIntSS.l0, rdL_lt h1, rdL_lt h2]
      rw [if_pos (by omega), if_pos (by omega), if_pos (by omega), w64s h1 hl]
    · by_cases he : a[i] = b[i]
      · have hd : decide (a.drop i = b.drop i) = decide (a.drop (i + 1) = b.drop (i + 1)) := by
          rw [decide_eq_decide, e1, e2, he]; simp only [List.cons.injEq, true_and]
        rw [hd, decide_eq_true he]
        simp only [if_true]
        exact ih (i + 1) (by omega)
      · have hd : decide (a.drop i = b.drop i) = false := by
          refine decide_eq_false fun e => he ?_
          rw [e1, e2] at e
          exact (List.cons.inj e).1
        rw [hd, decide_eq_false he]; exact Ev.now _
theorem eqIntSS_ev (a b : List (List Int)) (hl : a.length ≤ 9223372036854775807) (hx : ∀ x ∈ a, x.length ≤ 9223372036854775807) : Ev (fun k => laws_eqIntSS.f k a b) (decide (a = b)) := by
  by_cases hn : a.length = b.length
  · refine Ev.congr (f := fun k => laws_eqIntSS.l0 k a b ((0 : Nat) : Int)) (fun k => ?_) (eqIntSS_l a b hn hl hx a.length 0 (by omega))
    unfold laws_eqIntSS.f; rw [if_pos (by omega)]; rfl
  · refine Ev.congr (f := fun _ => some false) (fun k => ?_) ?_
    · unfold laws_eqIntSS.f; rw [if_neg (by omega)]
    · rw [decide_eq_false (fun e => hn (by rw [e]))]; exact Ev.now _
theorem eqIntSS_same (a : List (List Int)) (hl : bulk a ≤ 1048576) : Ev (fun k => laws_eqIntSS.f k a a) true := by
  have := eqIntSS_ev a a (by unfold bulk at hl; omega) (fun x hx => by have := len_le_sum hx; unfold bulk at hl; omega)
  rwa [decide_eq_true rfl] at this

/-! within -/
theorem within_eq (a b c : Int) : impl_within.f a b c = some (decide (b ≤ a ∧ a ≤ c)) := by
  unfold impl_within.f
  split <;> simp <;> omega

/-! l1In -/
theorem l1In_eq (a b c : Int) : spec_l1In.f a b c = some (decide (b ≤ a ∧ a ≤ c)) := by
  unfold spec_l1In.f
  split <;> simp <;> omega

/-! letter -/
/-- A letter. -/
def LetP (x : Int) : Prop := x ≠ 0 ∧ -8 ≤ x ∧ x ≤ 8
theorem l2Letter_eq (x : Int) : spec_l2Letter.f x = some (decide (LetP x)) := by
  unfold spec_l2Letter.f
  simp only [l1In_eq, Option.bind_some]
  by_cases h : 1 ≤ x ∧ x ≤ 8
  · rw [decide_eq_true h, decide_eq_true (show LetP x from ⟨by omega, by omega, by omega⟩)]; rfl
  · rw [decide_eq_false h]
    simp only [Bool.false_eq_true, if_false]
    congr 1
    rw [decide_eq_decide]
    unfold LetP
    omega
theorem isLetter_eq (x : Int) : impl_isLetter.f x = some (decide (LetP x)) := by
  unfold impl_isLetter.f
  simp only [within_eq, Option.bind_some]
  split
  · rename_i h
    rw [decide_eq_false (fun hh : LetP x => hh.1 h)]
  · rename_i h
    congr 1
    rw [decide_eq_decide]
    unfold LetP
    omega

/-! isWord -/
/-- A word. -/
def WordP (l : List Int) : Prop := (∀ x ∈ l, LetP x) ∧ l.length ≤ 24
def WordFrom (l : List Int) (i : Nat) : Prop := (∀ x ∈ l.drop i, LetP x) ∧ l.length ≤ 24
theorem isWord_l (l : List Int) (hl : l.length ≤ 9223372036854775807) : ∀ (d i : Nat), i + d = l.length → Ev (fun k => spec_IsWord.l0 k l i) (decide (WordFrom l i)) ∧ Ev (fun k => impl_IsWord.l0 k l l l.length i) (decide (WordFrom l i)) := by
  intro d
  induction d with
  | zero =>
    intro i hi
    have e : decide (WordFrom l i) = decide ((l.length : Int) ≤ 24) := by
      rw [decide_eq_decide]; unfold WordFrom; rw [List.drop_of_length_le (by omega)]
      simp
      omega
    rw [e]
    refine ⟨Ev.step (f := fun _ => some (decide ((l.length : Int) ≤ 24))) (fun k => ?_) (Ev.now _), Ev.step (f := fun _ => some (decide ((l.length : Int) ≤ 24))) (fun k => ?_) (Ev.now _)⟩
    · simp only [spec_IsWord.l0]; rw [if_neg (by omega)]
    · simp only [impl_IsWord.l0]; rw [if_neg (by omega)]
  | succ d ih =>
    intro i hi
    have hlt : i < l.length := by omega
    have e1 := rd_lt hlt
    have ed : l.drop i = l[i] :: l.drop (i + 1) := List.drop_eq_getElem_cons hlt
    by_cases hp : LetP l[i]
    · have e : decide (WordFrom l i) = decide (WordFrom l (i + 1)) := by
        rw [decide_eq_decide]; unfold WordFrom; rw [ed]
        simp only [List.mem_cons, forall_eq_or_imp, hp, true_and]
      rw [e]
      obtain ⟨h1, h2⟩ := ih (i + 1) (by omega)
      refine ⟨Ev.step (fun k => ?_) h1, Ev.step (fun k => ?_) h2⟩
      · simp only [spec_IsWord.l0, l2Letter_eq, e1, Option.bind_some, decide_eq_true hp]
        rw [if_pos (by omega), if_pos (by omega), if_pos trivial, w64s hlt hl]
      · simp only [impl_IsWord.l0, isLetter_eq, e1, Option.bind_some, decide_eq_true hp]
        rw [if_pos (by omega), if_pos (by omega), if_pos (by omega), if_pos trivial, w64s hlt hl]
    · have e : decide (WordFrom l i) = false := by
        refine decide_eq_false fun h => hp (h.1 _ ?_)
        rw [ed]; exact List.mem_cons_self
      rw [e]
      refine ⟨Ev.step (f := fun _ => some false) (fun k => ?_) (Ev.now _), Ev.step (f := fun _ => some false) (fun k => ?_) (Ev.now _)⟩
      · simp only [spec_IsWord.l0, l2Letter_eq, e1, Option.bind_some, decide_eq_false hp]
        rw [if_pos (by omega), if_pos (by omega)]; rfl
      · simp only [impl_IsWord.l0, isLetter_eq, e1, Option.bind_some, decide_eq_false hp]
        rw [if_pos (by omega), if_pos (by omega), if_pos (by omega)]; rfl
theorem isWord_ev (l : List Int) (hl : l.length ≤ 1048576) : Ev (fun k => spec_IsWord.f k l) (decide (WordP l)) ∧ Ev (fun k => impl_IsWord.f k l) (decide (WordP l)) := by
  have := isWord_l l (by omega) l.length 0 (by omega)
  have e : decide (WordFrom l 0) = decide (WordP l) := by rw [decide_eq_decide]; rfl
  rw [e] at this
  exact this

/-! neg -/
theorem LetP.neg {x : Int} (h : LetP x) : LetP (-x) := by unfold LetP at *; omega
theorem w64neg {x : Int} (h : LetP x) : wrap64 (-x) = -x := w64 (by unfold LetP at h; omega) (by unfold LetP at h; omega)

/-! texts -/
/-- The byte of a letter, as a text. -/
def ltx (x : Int) : ByteArray := strOfNums [if x > 0 then 96 + x else 64 - x]
def txt (l : List Int) : ByteArray := l.foldl (fun t x => t ++ ltx x) (⟨#[]⟩ : ByteArray)
theorem letter_cases {x : Int} (h : LetP x) : x = 1 ∨ x = 2 ∨ x = 3 ∨ x = 4 ∨ x = 5 ∨ x = 6 ∨ x = 7 ∨ x = 8 ∨ x = -1 ∨ x = -2 ∨ x = -3 ∨ x = -4 ∨ x = -5 ∨ x = -6 ∨ x = -7 ∨ x = -8 := by
  unfold LetP at h; omega
theorem ltx_size (x : Int) : (ltx x).size = 1 := rfl
theorem txt_size (l : List Int) : ∀ t : ByteArray, (l.foldl (fun t x => t ++ ltx x) t).size = t.size + l.length := by
  induction l with
  | nil => intro t; simp
  | cons x l ih => intro t; rw [List.foldl_cons, ih, ByteArray.size_append, ltx_size, List.length_cons]; omega
theorem ltx_pos {x : Int} (h : LetP x) (h0 : x > 0) : (⟨#[97, 98, 99, 100, 101, 102, 103, 104]⟩ : ByteArray).extract (x - 1).toNat x.toNat = ltx x := by
  rcases letter_cases h with rfl | rfl | rfl | rfl | rfl | rfl | rfl | rfl | rfl | rfl | rfl | rfl | rfl | rfl | rfl | rfl <;> first | (exfalso; omega) | decide +kernel
theorem ltx_neg {x : Int} (h : LetP x) (h0 : ¬ x > 0) : (⟨#[65, 66, 67, 68, 69, 70, 71, 72]⟩ : ByteArray).extract (-x - 1).toNat (-x).toNat = ltx x := by
  rcases letter_cases h with rfl | rfl | rfl | rfl | rfl | rfl | rfl | rfl | rfl | rfl | rfl | rfl | rfl | rfl | rfl | rfl <;> first | (exfalso; omega) | decide +kernel
theorem letterText_eq {x : Int} (h : LetP x) : impl_letterText.f x = some (ltx x) := by
  unfold impl_letterText.f ltx
  unfold LetP at h
  split
  · rw [w64 (x := 97 + x) (by omega) (by omega), w64 (by omega) (by omega), show (97 + x - 1) % 256 = 96 + x by omega]
  · rw [w64 (x := 65 - x) (by omega) (by omega), w64 (by omega) (by omega), show (65 - x - 1) % 256 = 64 - x by omega]
theorem textS_l (l : List Int) (hl : l.length ≤ 1048576) (hp : ∀ x ∈ l, LetP x) : ∀ (d i : Nat) (t : ByteArray), i + d = l.length → t.size = i → Ev (fun k => spec_l2Text.l0 k l t i) ((l.drop i).foldl (fun t x => t ++ ltx x) t) := by
  intro d
  induction d with
  | zero =>
    intro i t hi ht
    rw [List.drop_of_length_le (by omega)]
    refine Ev.step (f := fun _ => some t) (fun k => ?_) (Ev.now _)
    simp only [spec_l2Text.l0]; rw [if_neg (by omega)]
  | succ d ih =>
    intro i t hi ht
    have hlt : i < l.length := by omega
    have ed : l.drop i = l[i] :: l.drop (i + 1) := List.drop_eq_getElem_cons hlt
    have hx := hp l[i] (List.getElem_mem hlt)
    have hn := w64neg hx
    have hx' := hx
    unfold LetP at hx'
    have h1 := ih (i + 1) (t ++ ltx l[i]) (by omega) (by rw [ByteArray.size_append, ltx_size, ht])
    rw [ed, List.foldl_cons]
    refine Ev.step (fun k => ?_) h1
    simp only [spec_l2Text.l0, rd_lt hlt, hn]
    by_cases h0 : l[i] > 0
    · have hw : wrap64 (l[i] - 1) = l[i] - 1 := w64 (by omega) (by omega)
      have hlx := ltx_pos hx h0
      simp only [hw, hlx]
      rw [if_pos (by omega), if_pos (by omega), if_pos h0, if_pos (by omega), if_pos (by omega), if_pos (by omega), if_pos (by rw [ltx_size]; omega), w64s hlt (by omega)]
    · have hw : wrap64 (-l[i] - 1) = -l[i] - 1 := w64 (by omega) (by omega)
      have hlx := ltx_neg hx h0
      simp only [hw, hlx]
      rw [if_pos (by omega), if_pos (by omega), if_neg h0, if_pos (by omega), if_pos (by omega), if_pos (by omega), if_pos (by rw [ltx_size]; omega), w64s hlt (by omega)]
theorem textI_l (l : List Int) (hl : l.length ≤ 1048576) (hp : ∀ x ∈ l, LetP x) : ∀ (d i : Nat) (t : ByteArray), i + d = l.length → t.size = i → Ev (fun k => impl_WordText.l0 k t l l.length i) (if l.length = 0 then (⟨#[45]⟩ : ByteArray) else (l.drop i).foldl (fun t x => t ++ ltx x) t) := by
  intro d
  induction d with
  | zero =>
    intro i t hi ht
    rw [List.drop_of_length_le (by omega)]
    have hl0 : t.toList = [] ↔ l.length = 0 := by
      rw [tol_nil]
      omega
    refine Ev.step (f := fun _ => some (if l.length = 0 then (⟨#[45]⟩ : ByteArray) else t)) (fun k => ?_) (Ev.now _)
    simp only [impl_WordText.l0]
    rw [if_neg (by omega)]
    by_cases h0 : l.length = 0
    · rw [if_pos (hl0.2 h0), if_pos h0]
    · rw [if_neg (fun h => h0 (hl0.1 h)), if_neg h0]
  | succ d ih =>
    intro i t hi ht
    have hlt : i < l.length := by omega
    have ed : l.drop i = l[i] :: l.drop (i + 1) := List.drop_eq_getElem_cons hlt
    have hx := hp l[i] (List.getElem_mem hlt)
    have h1 := ih (i + 1) (t ++ ltx l[i]) (by omega) (by rw [ByteArray.size_append, ltx_size, ht])
    rw [ed, List.foldl_cons]
    refine Ev.step (fun k => ?_) h1
    simp only [impl_WordText.l0, rd_lt hlt, letterText_eq hx, Option.bind_some]
    rw [if_pos (by omega), if_pos (by omega), if_pos (by omega), if_pos (by rw [ltx_size]; omega), w64s hlt (by omega)]
def textM (l : List Int) : ByteArray := if l.length = 0 then (⟨#[45]⟩ : ByteArray) else txt l

/-! bulkS -/
/-- Texts and bytes together. -/
def bulkS (l : List ByteArray) : Nat := l.length + (l.map ByteArray.size).sum
theorem sumS_drop {l : List ByteArray} {i : Nat} (h : i < l.length) : ((l.drop i).map ByteArray.size).sum = l[i].size + ((l.drop (i + 1)).map ByteArray.size).sum := by
  rw [List.drop_eq_getElem_cons h, List.map_cons, List.sum_cons]

/-! joinP -/
/-- The bytes of some texts, joined. -/
def jl (xs : List ByteArray) (sep : ByteArray) : List UInt8 := Lib.join (xs.map (·.data.toList)) sep.data.toList
def nm (l : List UInt8) : List Int := l.map fun b => (b.toNat : Int)
theorem nm_app (a b : List UInt8) : nm (a ++ b) = nm a ++ nm b := List.map_append
theorem nm_len (a : List UInt8) : (nm a).length = a.length := List.length_map ..
theorem bytesOf_nm (s : ByteArray) : bytesOf s = nm s.data.toList := rfl
theorem strOf_nm (l : List UInt8) : strOfNums (nm l) = ⟨l.toArray⟩ := by
  unfold strOfNums nm
  rw [List.map_map]
  congr 2
  exact (List.map_congr_left fun b _ => by simp).trans (List.map_id l)
theorem join_snoc (xs : List (List UInt8)) (y sep : List UInt8) (h : xs ≠ []) : Lib.join (xs ++ [y]) sep = Lib.join xs sep ++ sep ++ y := by
  cases xs with
  | nil => exact (h rfl).elim
  | cons x r =>
    rw [List.cons_append, Lib.join_cons, Lib.join_cons]
    unfold Lib.joinTail
    rw [List.map_append, List.flatten_append]
    simp
theorem join_len_le (xs : List (List UInt8)) (sep : List UInt8) : (Lib.join xs sep).length ≤ sep.length * xs.length + Lib.lens xs := by
  cases xs with
  | nil => simp [Lib.join_nil]
  | cons x r =>
    rw [Lib.join_length, List.length_cons]
    have := Nat.mul_le_mul_left sep.length (Nat.le_add_right r.length 1)
    omega
theorem lensS (l : List ByteArray) : Lib.lens (l.map (·.data.toList)) = (l.map ByteArray.size).sum := by
  unfold Lib.lens
  rw [List.map_map]
  rfl
theorem jl_len (xs : List ByteArray) (sep : ByteArray) (hb : bulkS xs ≤ 1048576) (hs : sep.size ≤ 1048576) : (jl xs sep).length ≤ 1099512676352 := by
  have h1 := join_len_le (xs.map (·.data.toList)) sep.data.toList
  rw [lensS, List.length_map] at h1
  have h2 : sep.data.toList.length * xs.length ≤ 1048576 * 1048576 := Nat.mul_le_mul hs (by unfold bulkS at hb; omega)
  unfold jl
  unfold bulkS at hb
  omega
theorem bulkS_take (l : List ByteArray) (i : Nat) : bulkS (l.take i) ≤ bulkS l := by
  unfold bulkS
  have h1 := Lib.lens_take_le (l.map (·.data.toList)) i
  rw [← List.map_take, lensS, lensS] at h1
  rw [List.length_take]
  omega

/-! joinS -/
theorem joinS_l (l : List ByteArray) (sep : ByteArray) (hb : bulkS l ≤ 1048576) (hs : sep.size ≤ 1048576) : ∀ (d i : Nat), i + d = l.length → Ev (fun k => spec_Join.l0 k l sep (nm (jl (l.take i) sep)) i) (⟨(jl l sep).toArray⟩ : ByteArray) := by
  have hlen : l.length ≤ 1048576 := by unfold bulkS at hb; omega
  intro d
  induction d with
  | zero =>
    intro i hi
    refine Ev.step (f := fun _ => some (⟨(jl l sep).toArray⟩ : ByteArray)) (fun k => ?_) (Ev.now _)
    simp only [spec_Join.l0]
    rw [if_neg (by omega), List.take_of_length_le (by omega), strOf_nm]
  | succ d ih =>
    intro i hi
    have hlt : i < l.length := by omega
    have h1 := jl_len (l.take i) sep (Nat.le_trans (bulkS_take l i) hb) hs
    have h2 := jl_len (l.take (i + 1)) sep (Nat.le_trans (bulkS_take l (i + 1)) hb) hs
    have hx : l[i].size ≤ 1048576 := by
      have := sumS_drop hlt
      have h3 := Lib.lens_take_le (l.map (·.data.toList)) (i + 1)
      rw [Lib.lens_take_succ (l.map (·.data.toList)) i l[i].data.toList (by rw [List.getElem?_map, List.getElem?_eq_getElem hlt]; rfl), lensS] at h3
      have h4 : l[i].data.toList.length = l[i].size := data_length _
      unfold bulkS at hb
      omega
    have hg := ih (i + 1) (by omega)
    have ht : l.take (i + 1) = l.take i ++ [l[i]] := by rw [List.take_succ_eq_append_getElem hlt]
    refine Ev.step (fun k => ?_) hg
    simp only [spec_Join.l0, rdOf_lt hlt]
    rw [if_pos (by omega)]
    by_cases h0 : i = 0
    · subst h0
      have e1 : jl (l.take 0) sep = [] := rfl
      have e2 : jl (l.take (0 + 1)) sep = l[0].data.toList := by
        rw [ht]; unfold jl; simp [Lib.join_one]
      rw [if_neg (by simp), e1, e2, if_pos (by omega), if_pos (by show 0 + l[0].size < _; omega), w64s hlt (by omega)]
      rfl
    · have hne : (l.take i).map (·.data.toList) ≠ [] := by
        intro h
        have := congrArg List.length h
        rw [List.length_map, List.length_take, List.length_nil] at this
        omega
      have e2 : jl (l.take (i + 1)) sep = jl (l.take i) sep ++ sep.data.toList ++ l[i].data.toList := by
        unfold jl
        rw [ht, List.map_append]
        exact join_snoc _ _ _ hne
      rw [if_pos (by omega), Option.bind_some, bytesOf_nm, bytesOf_nm, ← nm_app, if_pos (by rw [nm_len]; omega), if_pos (by omega), if_pos (by rw [nm_len, List.length_append]; have := data_length sep; omega), w64s hlt (by omega), ← nm_app, ← e2]
theorem joinS_ev (l : List ByteArray) (sep : ByteArray) (hb : bulkS l ≤ 1048576) (hs : sep.size ≤ 1048576) : Ev (fun k => spec_Join.f k l sep) (⟨(jl l sep).toArray⟩ : ByteArray) := joinS_l l sep hb hs l.length 0 (by omega)
theorem joinI_eq (l : List ByteArray) (sep : ByteArray) (hb : bulkS l ≤ 1048576) (hs : sep.size ≤ 1048576) : impl_Join.f l sep = some (⟨(jl l sep).toArray⟩ : ByteArray) := by
  have h := jl_len l sep hb hs
  unfold impl_Join.f
  rw [if_pos ⟨by unfold bulkS at hb; omega, by show (jl l sep).length ≤ _; omega⟩]
  rfl

/-! cnt -/
/-- How often a letter or its inverse occurs. -/
def cnt (l : List Int) (y : Nat) : Nat := l.countP fun x => x.natAbs == y
theorem cnt_append (a b : List Int) (y : Nat) : cnt (a ++ b) y = cnt a y + cnt b y := List.countP_append
theorem cnt_one (x : Int) (y : Nat) : cnt [x] y = if x.natAbs = y then 1 else 0 := by
  unfold cnt
  rw [List.countP_cons, List.countP_nil]
  by_cases h : x.natAbs = y <;> simp [h]
theorem cnt_le (l : List Int) (y : Nat) : cnt l y ≤ l.length := List.countP_le_length
def usesL (l : List Int) : List Int := (List.range 9).map fun y => ((cnt l y : Nat) : Int)
theorem usesL_length (l : List Int) : (usesL l).length = 9 := by simp [usesL]
theorem usesL_rd (l : List Int) {y : Nat} (h : y < 9) : rd (usesL l) (y : Int) = (cnt l y : Int) := by
  rw [rd_lt (by rw [usesL_length]; exact h)]
  simp [usesL]
theorem usesL_nil : usesL [] = List.replicate 9 0 := by decide
theorem usesL_snoc (l : List Int) (x : Int) : (usesL l).set x.natAbs ((cnt l x.natAbs : Int) + 1) = usesL (l ++ [x]) := by
  refine List.ext_getElem (by simp [usesL_length]) fun y h1 h2 => ?_
  have hy : y < 9 := by rw [usesL_length] at h2; exact h2
  rw [List.getElem_set]
  have e1 : (usesL (l ++ [x]))[y] = ((cnt (l ++ [x]) y : Nat) : Int) := by simp [usesL]
  refine Eq.trans ?_ e1.symm
  rw [cnt_append, cnt_one]
  by_cases h : x.natAbs = y
  · subst h; rw [if_pos rfl, if_pos rfl]; omega
  · rw [if_neg h, if_neg h]; simp [usesL]
theorem flat_take_succ {g : List (List Int)} {p : Nat} (h : p < g.length) : (g.take (p + 1)).flatten = (g.take p).flatten ++ g[p] := by
  rw [List.take_succ_eq_append_getElem h, List.flatten_append, List.flatten_singleton]
theorem flat_len (g : List (List Int)) : g.flatten.length = (g.map List.length).sum := List.length_flatten
theorem flat_take_len (g : List (List Int)) (p : Nat) : ((g.take p).flatten).length ≤ g.flatten.length := by
  have : g.flatten = (g.take p).flatten ++ (g.drop p).flatten := by rw [← List.flatten_append, List.take_append_drop]
  rw [this, List.length_append]; omega

/-! gluP -/
/-- A gluing. -/
def GluP (g : List (List Int)) : Prop := (1 ≤ g.length ∧ g.length ≤ 4) ∧ (∀ p ∈ g, p ≠ [] ∧ WordP p) ∧ g.flatten.length ≤ 20 ∧ ∀ y, y < 9 → cnt g.flatten y ≤ 2
theorem GluP.let {g : List (List Int)} (h : GluP g) : ∀ p ∈ g, ∀ x ∈ p, LetP x := fun p hp => (h.2.1 p hp).2.1
/-- Rows from p on are words that are not empty. -/
def RowsP (g : List (List Int)) (p : Nat) : Prop := ∀ w ∈ g.drop p, w ≠ [] ∧ WordP w
theorem rowsP_succ {g : List (List Int)} {p : Nat} (h : p < g.length) : RowsP g p ↔ (g[p] ≠ [] ∧ WordP g[p]) ∧ RowsP g (p + 1) := by
  unfold RowsP
  rw [List.drop_eq_getElem_cons h]
  simp only [List.mem_cons, forall_eq_or_imp]
def Few (l : List Int) (i : Nat) : Prop := ∀ y, i ≤ y → y < 9 → cnt l y ≤ 2

/-! fewS -/
theorem fewS_l (l : List Int) : ∀ (d i : Nat), i + d = 9 → Ev (fun k => spec_IsGluing.l1 k (usesL l) i) (decide (Few l i)) := by
  intro d
  induction d with
  | zero =>
    intro i hi
    rw [decide_eq_true (show Few l i from fun y h1 h2 => by omega)]
    refine Ev.step (f := fun _ => some true) (fun k => ?_) (Ev.now _)
    simp only [spec_IsGluing.l1, usesL_length]; rw [if_neg (by omega)]
  | succ d ih =>
    intro i hi
    by_cases hc : cnt l i ≤ 2
    · have e : Few l i ↔ Few l (i + 1) := ⟨fun h y h1 h2 => h y (by omega) h2, fun h y h1 h2 => by
        rcases Nat.eq_or_lt_of_le h1 with rfl | h3
        · exact hc
        · exact h y h3 h2⟩
      rw [decide_eq_decide.2 e]
      refine Ev.step (fun k => ?_) (ih (i + 1) (by omega))
      simp only [spec_IsGluing.l1, usesL_length, usesL_rd l (show i < 9 by omega)]
      rw [if_pos (by omega), if_pos (by omega), if_neg (by omega), w64s (show i < 9 by omega) (by omega)]
    · rw [decide_eq_false (show ¬ Few l i from fun h => hc (h i (Nat.le_refl _) (by omega)))]
      refine Ev.step (f := fun _ => some false) (fun k => ?_) (Ev.now _)
      simp only [spec_IsGluing.l1, usesL_length, usesL_rd l (show i < 9 by omega)]
      rw [if_pos (by omega), if_pos (by omega), if_pos (by omega)]

/-! abs -/
theorem LetP.abs {x : Int} (h : LetP x) : 1 ≤ x.natAbs ∧ x.natAbs ≤ 8 := by unfold LetP at h; omega
theorem l3Abs_eq {x : Int} (h : LetP x) : spec_l3Abs.f x = some (x.natAbs : Int) := by
  unfold spec_l3Abs.f spec_l1Max.f
  rw [w64neg h]
  split <;> simp only [Option.bind_some, Option.some.injEq] <;> omega

/-! usesS -/
theorem usesS_row (g : List (List Int)) (hg : g.length ≤ 1048576) (p : Nat) (hp : p < g.length) (hl : ∀ x ∈ g[p], LetP x) (pre : List Int) (hb : pre.length + g[p].length ≤ 1048576) (r : List Int) (h : Ev (fun k => spec_l3Uses.l0 k g (usesL (pre ++ g[p])) ((p + 1 : Nat) : Int)) r) :
    ∀ (d i : Nat), i + d = g[p].length → Ev (fun k => spec_l3Uses.l1 k g (usesL (pre ++ g[p].take i)) p i) r := by
  intro d
  induction d with
  | zero =>
    intro i hi
    rw [List.take_of_length_le (by omega)]
    refine Ev.step (fun k => ?_) h
    simp only [spec_l3Uses.l1, rdL_lt hp]
    rw [if_pos (by omega), if_pos (by omega), if_neg (by omega), w64s hp (by omega)]
  | succ d ih =>
    intro i hi
    have hlt : i < g[p].length := by omega
    have hx := hl g[p][i] (List.getElem_mem hlt)
    have ha := hx.abs
    have hc := cnt_le (pre ++ g[p].take i) g[p][i].natAbs
    rw [List.length_append, List.length_take] at hc
    have hw : wrap64 ((cnt (pre ++ g[p].take i) g[p][i].natAbs : Int) + 1) = (cnt (pre ++ g[p].take i) g[p][i].natAbs : Int) + 1 := w64 (by omega) (by omega)
    have := ih (i + 1) (by omega)
    rw [List.take_succ_eq_append_getElem hlt, ← List.append_assoc, ← usesL_snoc] at this
    refine Ev.step (fun k => ?_) this
    simp only [spec_l3Uses.l1, rdL_lt hp, rd_lt hlt, l3Abs_eq hx, Option.bind_some, usesL_length]
    rw [if_pos (by omega), if_pos (by omega), if_pos (by omega), if_pos (by omega), if_pos (by omega), if_pos (by omega), if_pos (by omega), if_pos (by omega), usesL_rd _ (by omega), hw, w64s hlt (by omega), Int.toNat_natCast]
theorem usesS_l (g : List (List Int)) (hg : g.length ≤ 1048576) (hl : ∀ p ∈ g, ∀ x ∈ p, LetP x) (hb : g.flatten.length ≤ 1048576) : ∀ (d p : Nat), p + d = g.length → Ev (fun k => spec_l3Uses.l0 k g (usesL (g.take p).flatten) p) (usesL g.flatten) := by
  intro d
  induction d with
  | zero =>
    intro p hp
    rw [List.take_of_length_le (by omega)]
    refine Ev.step (f := fun _ => some (usesL g.flatten)) (fun k => ?_) (Ev.now _)
    simp only [spec_l3Uses.l0]; rw [if_neg (by omega)]
  | succ d ih =>
    intro p hp
    have hlt : p < g.length := by omega
    have h1 := ih (p + 1) (by omega)
    rw [flat_take_succ hlt] at h1
    have h2 := usesS_row g hg p hlt (hl _ (List.getElem_mem hlt)) (g.take p).flatten (by have := flat_take_len g (p + 1); rw [flat_take_succ hlt, List.length_append] at this; omega) _ h1 g[p].length 0 (by omega)
    rw [List.take_zero, List.append_nil] at h2
    refine Ev.step (fun k => ?_) h2
    simp only [spec_l3Uses.l0]; rw [if_pos (by omega)]; rfl
theorem usesS_ev (g : List (List Int)) (hg : g.length ≤ 1048576) (hl : ∀ p ∈ g, ∀ x ∈ p, LetP x) (hb : g.flatten.length ≤ 1048576) : Ev (fun k => spec_l3Uses.f k g) (usesL g.flatten) := by
  refine Ev.congr (fun k => ?_) (usesS_l g hg hl hb g.length 0 (by omega))
  unfold spec_l3Uses.f
  rw [if_pos (by omega), List.take_zero, List.flatten_nil, usesL_nil]; rfl

/-! isGluingS -/
theorem isGluingS_l (g : List (List Int)) (hg : g.length ≤ 1048576) (hb : g.flatten.length ≤ 1048576) (r : Bool) (hr : RowsP g 0 → (Ev (fun k => spec_IsGluing.l0 k g (g.flatten.length : Nat) g.length) r)) : ∀ (d p : Nat), p + d = g.length → (RowsP g p ↔ RowsP g 0) → Ev (fun k => spec_IsGluing.l0 k g (((g.take p).flatten.length : Nat) : Int) p) (if RowsP g 0 then r else false) := by
  intro d
  induction d with
  | zero =>
    intro p hp hrow
    have h0 : RowsP g 0 := hrow.1 (by unfold RowsP; rw [List.drop_of_length_le (by omega)]; simp)
    rw [if_pos h0, List.take_of_length_le (by omega), show p = g.length by omega]
    exact hr h0
  | succ d ih =>
    intro p hp hrow
    have hlt : p < g.length := by omega
    have hs := rowsP_succ hlt
    have hxl : g[p].length ≤ 1048576 := by have := flat_take_len g (p + 1); rw [flat_take_succ hlt, List.length_append] at this; omega
    by_cases hz : g[p] = []
    · rw [if_neg (fun h0 => (hs.1 (hrow.2 h0)).1.1 hz)]
      refine Ev.step (f := fun _ => some false) (fun k => ?_) (Ev.now _)
      simp only [spec_IsGluing.l0, rdL_lt hlt, hz]
      rw [if_pos (by omega), if_pos (by omega), if_pos (by simp)]
    have hzl : 0 < g[p].length := List.length_pos_iff.2 hz
    have hw := (isWord_ev g[p] hxl).1
    refine Ev.step (f := fun k => (spec_IsWord.f k g[p]).bind fun t => if t = true then spec_IsGluing.l0 k g (wrap64 ((((g.take p).flatten.length : Nat) : Int) + (g[p].length : Int))) ((p + 1 : Nat) : Int) else some false) (fun k => ?_) (Ev.bind hw ?_)
    · simp only [spec_IsGluing.l0, rdL_lt hlt]
      rw [if_pos (by omega), if_pos (by omega), if_neg (by omega), w64s hlt (by omega)]
    · by_cases hwp : WordP g[p]
      · rw [decide_eq_true hwp]
        simp only [if_true]
        have h1 := ih (p + 1) (by omega) ⟨fun h => hrow.1 (hs.2 ⟨⟨hz, hwp⟩, h⟩), fun h => (hs.1 (hrow.2 h)).2⟩
        have hl : ((g.take (p + 1)).flatten.length : Nat) = (g.take p).flatten.length + g[p].length := by rw [flat_take_succ hlt, List.length_append]
        have hle := flat_take_len g (p + 1)
        have e : wrap64 ((((g.take p).flatten.length : Nat) : Int) + (g[p].length : Int)) = (((g.take (p + 1)).flatten.length : Nat) : Int) := by
          rw [w64 (by omega) (by omega)]; omega
        rw [e]
        exact h1
      · rw [decide_eq_false hwp, if_neg (fun h0 => hwp (hs.1 (hrow.2 h0)).1.2)]
        exact Ev.now _
theorem isGluingS_ev (g : List (List Int)) (hg : g.length ≤ 1048576) (hb : g.flatten.length ≤ 1048576) : Ev (fun k => spec_IsGluing.f k g) (decide (GluP g)) := by
  have hend : RowsP g 0 → Ev (fun k => spec_IsGluing.l0 k g (g.flatten.length : Nat) g.length) (decide (GluP g)) := by
    intro h0
    have h0' : ∀ p ∈ g, p ≠ [] ∧ WordP p := fun p hp => h0 p (by rw [List.drop_zero]; exact hp)
    by_cases hl : (1 : Int) ≤ g.length ∧ (g.length : Int) ≤ 4
    · by_cases h20 : (g.flatten.length : Int) > 20
      · rw [decide_eq_false (fun h : GluP g => by have := h.2.2.1; omega)]
        refine Ev.step (f := fun k => spec_IsGluing.j1 k g true) (fun k => ?_) (Ev.step (f := fun _ => some false) (fun k => ?_) (Ev.now _))
        · simp only [spec_IsGluing.l0, l1In_eq, Option.bind_some, decide_eq_true hl, decide_eq_true h20]; rw [if_neg (by omega), if_pos trivial]
        · simp only [spec_IsGluing.j1]; rw [if_pos trivial]
      · have e : Few g.flatten 0 ↔ GluP g := ⟨fun h => ⟨⟨by omega, by omega⟩, h0', by omega, fun y hy => h y (by omega) hy⟩, fun h y _ hy => h.2.2.2 y hy⟩
        rw [← decide_eq_decide.2 e]
        refine Ev.step (f := fun k => spec_IsGluing.j1 k g false) (fun k => ?_) (Ev.step (f := fun k => (spec_l3Uses.f k g).bind fun t => spec_IsGluing.l1 k t ((0 : Nat) : Int)) (fun k => ?_) (Ev.bind (usesS_ev g hg (fun p hp => (h0' p hp).2.1) hb) (fewS_l g.flatten 9 0 (by omega))))
        · simp only [spec_IsGluing.l0, l1In_eq, Option.bind_some, decide_eq_true hl, decide_eq_false h20]; rw [if_neg (by omega), if_pos trivial]
        · simp only [spec_IsGluing.j1]; rw [if_neg (by simp)]; rfl
    · rw [decide_eq_false (fun h : GluP g => hl ⟨by have := h.1.1; omega, by have := h.1.2; omega⟩)]
      refine Ev.step (f := fun k => spec_IsGluing.j1 k g true) (fun k => ?_) (Ev.step (f := fun _ => some false) (fun k => ?_) (Ev.now _))
      · simp only [spec_IsGluing.l0, l1In_eq, Option.bind_some, decide_eq_false hl]; rw [if_neg (by omega), if_neg (by simp)]
      · simp only [spec_IsGluing.j1]; rw [if_pos trivial]
  have h := isGluingS_l g hg hb _ hend g.length 0 (by omega) Iff.rfl
  have e : (if RowsP g 0 then decide (GluP g) else false) = decide (GluP g) := by
    split
    · rfl
    · rename_i hn
      rw [decide_eq_false (fun h : GluP g => hn (fun p hp => h.2.1 p (by rw [List.drop_zero] at hp; exact hp)))]
  rw [e] at h
  simpa [spec_IsGluing.f] using h

/-! fewI -/
theorem fewI_l (l : List Int) : ∀ (d i : Nat), i + d = 9 → Ev (fun k => impl_IsGluing.l1 k (usesL l) 9 i) (decide (Few l i)) := by
  intro d
  induction d with
  | zero =>
    intro i hi
    rw [decide_eq_true (show Few l i from fun y h1 h2 => by omega)]
    refine Ev.step (f := fun _ => some true) (fun k => ?_) (Ev.now _)
    simp only [impl_IsGluing.l1]; rw [if_neg (by omega)]
  | succ d ih =>
    intro i hi
    by_cases hc : cnt l i ≤ 2
    · have e : Few l i ↔ Few l (i + 1) := ⟨fun h y h1 h2 => h y (by omega) h2, fun h y h1 h2 => by
        rcases Nat.eq_or_lt_of_le h1 with rfl | h3
        · exact hc
        · exact h y h3 h2⟩
      rw [decide_eq_decide.2 e]
      refine Ev.step (fun k => ?_) (ih (i + 1) (by omega))
      simp only [impl_IsGluing.l1, usesL_length, usesL_rd l (show i < 9 by omega)]
      rw [if_pos (by omega), if_pos (by omega), if_pos (by omega), if_neg (by omega), w64s (show i < 9 by omega) (by omega)]
    · rw [decide_eq_false (show ¬ Few l i from fun h => hc (h i (Nat.le_refl _) (by omega)))]
      refine Ev.step (f := fun _ => some false) (fun k => ?_) (Ev.now _)
      simp only [impl_IsGluing.l1, usesL_length, usesL_rd l (show i < 9 by omega)]
      rw [if_pos (by omega), if_pos (by omega), if_pos (by omega), if_pos (by omega)]

/-! sizeI -/
theorem size_eq {x : Int} (h : LetP x) : impl_size.f x = some (x.natAbs : Int) := by
  unfold impl_size.f
  rw [w64neg h]
  unfold mx
  congr 1
  omega

/-! usesI -/
theorem usesI_row (g : List (List Int)) (hg : g.length ≤ 1048576) (p : Nat) (hp : p < g.length) (hl : ∀ x ∈ g[p], LetP x) (pre : List Int) (hb : pre.length + g[p].length ≤ 1048576) (r : List Int) (h : Ev (fun k => impl_letterCounts.l0 k (usesL (pre ++ g[p])) g g.length ((p + 1 : Nat) : Int)) r) :
    ∀ (d i : Nat), i + d = g[p].length → Ev (fun k => impl_letterCounts.l1 k (usesL (pre ++ g[p].take i)) g g.length p g[p] g[p].length i) r := by
  intro d
  induction d with
  | zero =>
    intro i hi
    rw [List.take_of_length_le (by omega)]
    refine Ev.step (fun k => ?_) h
    simp only [impl_letterCounts.l1]
    rw [if_neg (by omega), w64s hp (by omega)]
  | succ d ih =>
    intro i hi
    have hlt : i < g[p].length := by omega
    have hx := hl g[p][i] (List.getElem_mem hlt)
    have ha := hx.abs
    have hc := cnt_le (pre ++ g[p].take i) g[p][i].natAbs
    rw [List.length_append, List.length_take] at hc
    have hw : wrap64 ((cnt (pre ++ g[p].take i) g[p][i].natAbs : Int) + 1) = (cnt (pre ++ g[p].take i) g[p][i].natAbs : Int) + 1 := w64 (by omega) (by omega)
    have := ih (i + 1) (by omega)
    rw [List.take_succ_eq_append_getElem hlt, ← List.append_assoc, ← usesL_snoc] at this
    refine Ev.step (fun k => ?_) this
    simp only [impl_letterCounts.l1, rd_lt hlt, size_eq hx, Option.bind_some, usesL_length]
    rw [if_pos (by omega), if_pos (by omega), if_pos (by omega), if_pos (by omega), if_pos (by omega), usesL_rd _ (by omega), hw, w64s hlt (by omega), Int.toNat_natCast]
theorem usesI_l (g : List (List Int)) (hg : g.length ≤ 1048576) (hl : ∀ p ∈ g, ∀ x ∈ p, LetP x) (hb : g.flatten.length ≤ 1048576) : ∀ (d p : Nat), p + d = g.length → Ev (fun k => impl_letterCounts.l0 k (usesL (g.take p).flatten) g g.length p) (usesL g.flatten) := by
  intro d
  induction d with
  | zero =>
    intro p hp
    rw [List.take_of_length_le (by omega)]
    refine Ev.step (f := fun _ => some (usesL g.flatten)) (fun k => ?_) (Ev.now _)
    simp only [impl_letterCounts.l0]; rw [if_neg (by omega)]
  | succ d ih =>
    intro p hp
    have hlt : p < g.length := by omega
    have h1 := ih (p + 1) (by omega)
    rw [flat_take_succ hlt] at h1
    have h2 := usesI_row g hg p hlt (hl _ (List.getElem_mem hlt)) (g.take p).flatten (by have := flat_take_len g (p + 1); rw [flat_take_succ hlt, List.length_append] at this; omega) _ h1 g[p].length 0 (by omega)
    rw [List.take_zero, List.append_nil] at h2
    refine Ev.step (fun k => ?_) h2
    simp only [impl_letterCounts.l0, rdL_lt hlt]; rw [if_pos (by omega), if_pos (by omega), if_pos (by omega)]; rfl
theorem usesI_ev (g : List (List Int)) (hg : g.length ≤ 1048576) (hl : ∀ p ∈ g, ∀ x ∈ p, LetP x) (hb : g.flatten.length ≤ 1048576) : Ev (fun k => impl_letterCounts.f k g) (usesL g.flatten) := by
  refine Ev.congr (fun k => ?_) (usesI_l g hg hl hb g.length 0 (by omega))
  unfold impl_letterCounts.f
  rw [if_pos (by omega), List.take_zero, List.flatten_nil, usesL_nil]; rfl

/-! isGluingI -/
theorem isGluingI_l (g : List (List Int)) (hg : g.length ≤ 1048576) (hb : g.flatten.length ≤ 1048576) (r : Bool) (hr : RowsP g 0 → (Ev (fun k => impl_IsGluing.l0 k g (g.flatten.length : Nat) g g.length g.length) r)) : ∀ (d p : Nat), p + d = g.length → (RowsP g p ↔ RowsP g 0) → Ev (fun k => impl_IsGluing.l0 k g (((g.take p).flatten.length : Nat) : Int) g g.length p) (if RowsP g 0 then r else false) := by
  intro d
  induction d with
  | zero =>
    intro p hp hrow
    have h0 : RowsP g 0 := hrow.1 (by unfold RowsP; rw [List.drop_of_length_le (by omega)]; simp)
    rw [if_pos h0, List.take_of_length_le (by omega), show p = g.length by omega]
    exact hr h0
  | succ d ih =>
    intro p hp hrow
    have hlt : p < g.length := by omega
    have hs := rowsP_succ hlt
    have hxl : g[p].length ≤ 1048576 := by have := flat_take_len g (p + 1); rw [flat_take_succ hlt, List.length_append] at this; omega
    by_cases hz : g[p] = []
    · rw [if_neg (fun h0 => (hs.1 (hrow.2 h0)).1.1 hz)]
      refine Ev.step (f := fun _ => some false) (fun k => ?_) (Ev.now _)
      simp only [impl_IsGluing.l0, rdL_lt hlt, hz]
      rw [if_pos (by omega), if_pos (by omega), if_pos (by omega), if_pos (by simp)]
    have hzl : 0 < g[p].length := List.length_pos_iff.2 hz
    have hw := (isWord_ev g[p] hxl).2
    refine Ev.step (f := fun k => (impl_IsWord.f k g[p]).bind fun t => if t = true then impl_IsGluing.l0 k g (wrap64 ((((g.take p).flatten.length : Nat) : Int) + (g[p].length : Int))) g g.length ((p + 1 : Nat) : Int) else some false) (fun k => ?_) (Ev.bind hw ?_)
    · simp only [impl_IsGluing.l0, rdL_lt hlt]
      rw [if_pos (by omega), if_pos (by omega), if_pos (by omega), if_neg (by omega), w64s hlt (by omega)]
    · by_cases hwp : WordP g[p]
      · rw [decide_eq_true hwp]
        simp only [if_true]
        have h1 := ih (p + 1) (by omega) ⟨fun h => hrow.1 (hs.2 ⟨⟨hz, hwp⟩, h⟩), fun h => (hs.1 (hrow.2 h)).2⟩
        have hl : ((g.take (p + 1)).flatten.length : Nat) = (g.take p).flatten.length + g[p].length := by rw [flat_take_succ hlt, List.length_append]
        have hle := flat_take_len g (p + 1)
        have e : wrap64 ((((g.take p).flatten.length : Nat) : Int) + (g[p].length : Int)) = (((g.take (p + 1)).flatten.length : Nat) : Int) := by
          rw [w64 (by omega) (by omega)]; omega
        rw [e]
        exact h1
      · rw [decide_eq_false hwp, if_neg (fun h0 => hwp (hs.1 (hrow.2 h0)).1.2)]
        exact Ev.now _
theorem isGluingI_ev (g : List (List Int)) (hg : g.length ≤ 1048576) (hb : g.flatten.length ≤ 1048576) : Ev (fun k => impl_IsGluing.f k g) (decide (GluP g)) := by
  unfold impl_IsGluing.f
  simp only [within_eq, Option.bind_some]
  by_cases hl : (1 : Int) ≤ g.length ∧ (g.length : Int) ≤ 4
  case neg =>
    rw [decide_eq_false hl, decide_eq_false (fun h : GluP g => hl ⟨by have := h.1.1; omega, by have := h.1.2; omega⟩)]
    exact Ev.now _
  rw [decide_eq_true hl]
  simp only [if_true]
  have hend : RowsP g 0 → Ev (fun k => impl_IsGluing.l0 k g (g.flatten.length : Nat) g g.length g.length) (decide (GluP g)) := by
    intro h0
    have h0' : ∀ p ∈ g, p ≠ [] ∧ WordP p := fun p hp => h0 p (by rw [List.drop_zero]; exact hp)
    by_cases h20 : (g.flatten.length : Int) > 20
    · rw [decide_eq_false (fun h : GluP g => by have := h.2.2.1; omega)]
      refine Ev.step (f := fun _ => some false) (fun k => ?_) (Ev.now _)
      simp only [impl_IsGluing.l0]; rw [if_neg (by omega), if_pos h20]
    · have e : Few g.flatten 0 ↔ GluP g := ⟨fun h => ⟨⟨by omega, by omega⟩, h0', by omega, fun y hy => h y (by omega) hy⟩, fun h y _ hy => h.2.2.2 y hy⟩
      rw [← decide_eq_decide.2 e]
      refine Ev.step (f := fun k => (impl_letterCounts.f k g).bind fun t => impl_IsGluing.l1 k t (t.length : Int) 0) (fun k => ?_) (Ev.bind (usesI_ev g hg (fun p hp => (h0' p hp).2.1) hb) ?_)
      · simp only [impl_IsGluing.l0]; rw [if_neg (by omega), if_neg h20]
      · simp only [usesL_length]
        exact fewI_l g.flatten 9 0 (by omega)
  have h := isGluingI_l g hg hb _ hend g.length 0 (by omega) Iff.rfl
  have e : (if RowsP g 0 then decide (GluP g) else false) = decide (GluP g) := by
    split
    · rfl
    · rename_i hn
      rw [decide_eq_false (fun h : GluP g => hn (fun p hp => h.2.1 p (by rw [List.drop_zero] at hp; exact hp)))]
  rw [e] at h
  simpa using h

/-! gluText -/
theorem txt_size0 (l : List Int) : (txt l).size = l.length := by
  unfold txt
  rw [txt_size]
  show 0 + l.length = _
  omega
theorem bulk_txt (g : List (List Int)) (h : GluP g) : bulkS (g.map txt) ≤ 24 := by
  have h4 := h.1.2
  have h20 := h.2.2.1
  rw [flat_len] at h20
  unfold bulkS
  rw [List.length_map, List.map_map]
  have e : (ByteArray.size ∘ txt) = List.length := funext fun l => txt_size0 l
  rw [e]
  omega
def sp : ByteArray := (⟨#[32]⟩ : ByteArray)
def gtx (g : List (List Int)) : ByteArray := (⟨(jl (g.map txt) sp).toArray⟩ : ByteArray)
theorem gtS_l (g : List (List Int)) (h : GluP g) : ∀ (d p : Nat), p + d = g.length → Ev (fun k => spec_GluingText.l0 k g ((g.take p).map txt) p) (gtx g) := by
  have hb := bulk_txt g h
  have h4 := h.1.2
  intro d
  induction d with
  | zero =>
    intro p hp
    have hJ := joinS_ev (g.map txt) sp (by omega) (by decide)
    refine Ev.step (f := fun k => (spec_Join.f k (g.map txt) sp).bind fun t => some t) (fun k => ?_) (Ev.bind hJ (Ev.now _))
    simp only [spec_GluingText.l0]
    rw [if_neg (by omega), List.take_of_length_le (by omega)]
    rfl
  | succ d ih =>
    intro p hp
    have hlt : p < g.length := by omega
    have hw := h.2.1 g[p] (List.getElem_mem hlt)
    have ht := textS_l g[p] (by have := hw.2.2; omega) hw.2.1 g[p].length 0 (⟨#[]⟩ : ByteArray) (by omega) rfl
    have hg := ih (p + 1) (by omega)
    rw [List.take_succ_eq_append_getElem hlt, List.map_append] at hg
    refine Ev.step (f := fun k => (spec_l2Text.f k g[p]).bind fun t => spec_GluingText.l0 k g ((g.take p).map txt ++ [t]) ((p + 1 : Nat) : Int)) (fun k => ?_) (Ev.bind ht hg)
    simp only [spec_GluingText.l0, rdL_lt hlt]
    rw [if_pos (by omega), if_pos (by omega), w64s hlt (by omega)]
    congr 1
    funext t
    rw [if_pos (by rw [List.length_map, List.length_take]; omega)]
theorem gtI_l (g : List (List Int)) (h : GluP g) : ∀ (d p : Nat), p + d = g.length → Ev (fun k => impl_GluingText.l0 k ((g.take p).map txt) g g.length p) (gtx g) := by
  have hb := bulk_txt g h
  have h4 := h.1.2
  intro d
  induction d with
  | zero =>
    intro p hp
    have hJ := joinI_eq (g.map txt) sp (by omega) (by decide)
    refine Ev.step (f := fun _ => some (gtx g)) (fun k => ?_) (Ev.now _)
    simp only [impl_GluingText.l0]
    rw [if_neg (by omega), List.take_of_length_le (by omega)]
    show (impl_Join.f (g.map txt) sp).bind _ = _
    rw [hJ]
    rfl
  | succ d ih =>
    intro p hp
    have hlt : p < g.length := by omega
    have hw := h.2.1 g[p] (List.getElem_mem hlt)
    have hl24 := hw.2.2
    have hne : g[p].length ≠ 0 := fun e => hw.1 (List.length_eq_zero_iff.1 e)
    have e2 := (isWord_ev g[p] (by omega)).2
    rw [decide_eq_true hw.2] at e2
    have ht := textI_l g[p] (by omega) hw.2.1 g[p].length 0 (⟨#[]⟩ : ByteArray) (by omega) rfl
    rw [if_neg hne] at ht
    have hf : Ev (fun k => impl_WordText.f k g[p]) (txt g[p]) := by
      unfold impl_WordText.f
      exact Ev.bind e2 (Ev.congr (fun k => if_pos rfl) ht)
    have hg := ih (p + 1) (by omega)
    rw [List.take_succ_eq_append_getElem hlt, List.map_append] at hg
    refine Ev.step (f := fun k => (impl_WordText.f k g[p]).bind fun t => impl_GluingText.l0 k ((g.take p).map txt ++ [t]) g g.length ((p + 1 : Nat) : Int)) (fun k => ?_) (Ev.bind hf hg)
    simp only [impl_GluingText.l0, rdL_lt hlt]
    rw [if_pos (by omega), if_pos (by omega), if_pos (by omega), w64s hlt (by omega)]
    congr 1
    funext t
    rw [if_pos (by rw [List.length_map, List.length_take]; omega)]
theorem gluText_ev (g : List (List Int)) (hl1 : g.length ≤ 1048576) (hl2 : g.flatten.length ≤ 1048576) : Ev (fun k => spec_GluingText.f k g) (if GluP g then gtx g else (⟨#[]⟩ : ByteArray)) ∧ Ev (fun k => impl_GluingText.f k g) (if GluP g then gtx g else (⟨#[]⟩ : ByteArray)) := by
  have e1 := isGluingS_ev g hl1 hl2
  have e2 := isGluingI_ev g hl1 hl2
  unfold spec_GluingText.f impl_GluingText.f
  by_cases h : GluP g
  · rw [decide_eq_true h] at e1 e2
    rw [if_pos h]
    exact ⟨Ev.bind e1 (Ev.congr (fun k => if_pos rfl) (gtS_l g h g.length 0 (by omega))), Ev.bind e2 (Ev.congr (fun k => if_pos rfl) (gtI_l g h g.length 0 (by omega)))⟩
  · rw [decide_eq_false h] at e1 e2
    rw [if_neg h]
    exact ⟨Ev.bind e1 (Ev.congr (fun k => if_neg Bool.false_ne_true) (Ev.now _)), Ev.bind e2 (Ev.congr (fun k => if_neg Bool.false_ne_true) (Ev.now _))⟩

/-! bulkF -/
theorem bulk_flat {g : List (List Int)} (h : bulk g ≤ 1048576) : g.length ≤ 1048576 ∧ g.flatten.length ≤ 1048576 := by
  unfold bulk at h
  rw [flat_len]
  omega

/-! law.FnExactGluingText -/
theorem FnExactGluingText (l : List (List Int)) (h1 : l.length ≤ maxLen) (h2 : ∀ x ∈ l, x.length ≤ maxLen ∧ ∀ n ∈ x, (Lit.int .i64 n).wf = true) : ∃ k, laws_FnExactGluingText.f k l = some true := by
  unfold maxLen at h1 h2
  obtain ⟨v, hv, hb⟩ := szIntSS_ev l (by omega) (fun x hx => by have := (h2 x hx).1; omega)
  refine Ev.rounds ?_
  unfold laws_FnExactGluingText.f
  refine Ev.bind hv ?_
  by_cases hn : v < 0
  · exact Ev.congr (fun k => if_pos hn) (Ev.now _)
  refine Ev.congr (fun k => if_neg hn) ?_
  have hbl := hb (by omega)
  obtain ⟨hl1, hl2⟩ := bulk_flat hbl
  obtain ⟨e1, e2⟩ := gluText_ev l hl1 hl2
  have hT := toIntSS_ev l hbl
  refine Ev.bind hT (Ev.bind e1 (Ev.bind hT (Ev.bind e2 ?_)))
  refine Ev.congr (fun k => if_pos rfl) ?_
  refine Ev.bind hT (Ev.bind (eqIntSS_same l hbl) ?_)
  exact Ev.congr (fun k => if_pos rfl) (Ev.now _)

end Go.Proofs.Ytfknffpfjoalkaa.Pure
