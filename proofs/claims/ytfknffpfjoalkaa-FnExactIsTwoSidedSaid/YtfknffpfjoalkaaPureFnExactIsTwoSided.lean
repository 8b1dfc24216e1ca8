/- IsTwoSided of the program and IsTwoSided of the reference answer the same for every list of lists of numbers, and the argument is left as it was. Conditions: those that the printed statement itself names (lengths and numbers that fit). -/
import Derived.Test.YtfknffpfjoalkaaQFnExactIsTwoSidedx6
import Derived.Test.YtfknffpfjoalkaaCom
namespace Go.Proofs.Ytfknffpfjoalkaa.Pure
open Classical Go.RowKit Go.Proofs.Ytfknffpfjoalkaa.QFnExactIsTwoSided Go.Proofs.YtfknffpfjoalkaaW.PrintWords Go.Proofs.YtfknffpfjoalkaaW.PrintLast Go.Proofs.Ytfknffpfjoalkaa.Com

/-! rdL -/
theorem rdL_lt {l : List (List Int)} {i : Nat} (h : i < l.length) : rd_L1 l (i : Int) = l[i] := by
  simp [rd_L1, List.getD_eq_getElem?_getD, h]
theorem rdL_nat (l : List (List Int)) (i : Nat) : rd_L1 l (i : Int) = l.getD i [] := rfl
/-- Rows and numbers together. -/
def bulk (l : List (List Int)) : Nat := l.length + (l.map List.length).sum
theorem sum_drop_lt {l : List (List Int)} {i : Nat} (h : i < l.length) : ((l.drop i).map List.length).sum = l[i].length + ((l.drop (i + 1)).map List.length).sum := by
  rw [List.drop_eq_getElem_cons h, List.map_cons, List.sum_cons]
theorem len_le_sum {l : List (List Int)} {x : List Int} (h : x ∈ l) : x.length ≤ (l.map List.length).sum := by
  induction l with
  | nil => simp at h
  | cons y l ih =>
    rw [List.map_cons, List.sum_cons]
    rcases List.mem_cons.1 h with rfl | h
    · omega
    · have := ih h; omega

/-! szIntSS -/
theorem szIntSS_l (l : List (List Int)) (hl : l.length ≤ 9223372036854775807) (hx : ∀ x ∈ l, x.length ≤ 9223372036854775807) : ∀ (d i : Nat) (left : Nat), i + d = l.length → left ≤ 1048576 → ∃ v : Int, Ev (fun k => laws_szIntSS.l0 k l left i) v ∧ (0 ≤ v → ((l.drop i).map List.length).sum ≤ left) := by
  intro d
  induction d with
  | zero =>
    intro i left hi hle
    refine ⟨left, Ev.step (f := fun _ => some (left : Int)) (fun k => ?_) (Ev.now _), fun _ => ?_⟩
    · simp only [laws_szIntSS.l0]; rw [if_neg (by omega)]
    · rw [List.drop_of_length_le (by omega)]; simp
  | succ d ih =>
    intro i left hi hle
    have hlt : i < l.length := by omega
    have hxl := hx l[i] (List.getElem_mem hlt)
    have hw : wrap64 ((left : Int) - (l[i].length : Int)) = (left : Int) - l[i].length := w64 (by omega) (by omega)
    by_cases hc : (left : Int) - (l[i].length : Int) < 0
    · refine ⟨-1, Ev.step (f := fun _ => some (-1 : Int)) (fun k => ?_) (Ev.now _), fun h => absurd h (by omega)⟩
      simp only [laws_szIntSS.l0, rdL_lt hlt, laws_szIntS.f, hw]
      rw [if_pos (by omega), if_pos (by omega), if_pos hc]
      simp
    · obtain ⟨v, h1, h2⟩ := ih (i + 1) (left - l[i].length) (by omega) (by omega)
      refine ⟨v, Ev.step (fun k => ?_) h1, fun h => ?_⟩
      · simp only [laws_szIntSS.l0, rdL_lt hlt, laws_szIntS.f, hw]
        rw [if_pos (by omega), if_pos (by omega), if_neg hc, Option.bind_some, if_neg hc, w64s hlt hl, show (left : Int) - (l[i].length : Int) = ((left - l[i].length : Nat) : Int) by omega]
      · have := h2 h
        rw [sum_drop_lt hlt]
        omega
theorem szIntSS_ev (l : List (List Int)) (hl : l.length ≤ 9223372036854775807) (hx : ∀ x ∈ l, x.length ≤ 9223372036854775807) : ∃ v : Int, Ev (fun k => laws_szIntSS.f k l 1048576) v ∧ (0 ≤ v → bulk l ≤ 1048576) := by
  have hw : wrap64 ((1048576 : Int) - (l.length : Int)) = (1048576 : Int) - l.length := w64 (by omega) (by omega)
  by_cases hc : (1048576 : Int) - (l.length : Int) < 0
  · refine ⟨-1, Ev.congr (f := fun _ => some (-1 : Int)) (fun k => ?_) (Ev.now _), fun h => absurd h (by omega)⟩
    unfold laws_szIntSS.f; rw [hw, if_pos hc]
  · obtain ⟨v, h1, h2⟩ := szIntSS_l l hl hx l.length 0 (1048576 - l.length) (by omega) (by omega)
    refine ⟨v, Ev.congr (fun k => ?_) h1, fun h => ?_⟩
    · unfold laws_szIntSS.f; rw [hw, if_neg hc, show (1048576 : Int) - (l.length : Int) = ((1048576 - l.length : Nat) : Int) by omega]; rfl
    · have := h2 h
      unfold bulk
      simp only [List.drop_zero] at this
      omega

/-! toIntS -/
theorem toIntS_l (l : List Int) (hl : l.length ≤ 9223372036854775807) : ∀ (d i : Nat) (acc : List Int), i + d = l.length → acc.length = l.length → acc.take i = l.take i → Ev (fun k => laws_toIntS.l0 k l acc i) l := by
  intro d
  induction d with
  | zero =>
    intro i acc hi ha ht
    refine Ev.step (f := fun _ => some acc) (fun k => ?_) ?_
    · simp only [laws_toIntS.l0]; rw [if_neg (by omega)]
    · have e : acc = l := by
        have h1 := List.take_of_length_le (l := acc) (i := i) (by omega)
        have h2 := List.take_of_length_le (l := l) (i := i) (by omega)
        rw [← h1, ← h2, ht]
      rw [e]; exact Ev.now _
  | succ d ih =>
    intro i acc hi ha ht
    have hlt : i < l.length := by omega
    refine Ev.step (f := fun k => laws_toIntS.l0 k l (acc.set i l[i]) ((i + 1 : Nat) : Int)) (fun k => ?_) (ih (i + 1) (acc.set i l[i]) (by omega) (by simpa using ha) ?_)
    · simp only [laws_toIntS.l0]
      rw [if_pos (by omega), if_pos (by omega), if_pos (by omega), w64s hlt hl, rd_lt hlt, Int.toNat_natCast]
    · rw [List.take_succ_eq_append_getElem (by simp; omega), List.take_succ_eq_append_getElem hlt, List.take_set_of_le (Nat.le_refl i), ht]
      simp
theorem toIntS_ev (l : List Int) (hl : l.length ≤ 35184372088832) : Ev (fun k => laws_toIntS.f k l) l := by
  refine Ev.congr (f := fun k => laws_toIntS.l0 k l (List.replicate l.length 0) ((0 : Nat) : Int)) (fun k => ?_) (toIntS_l l (by omega) l.length 0 _ (by omega) (by simp) (by simp))
  unfold laws_toIntS.f
  rw [if_pos (by omega), if_pos (by omega), Int.toNat_natCast]; rfl

/-! toIntSS -/
theorem toIntSS_l (l : List (List Int)) (hl : bulk l ≤ 1048576) : ∀ (d i : Nat) (acc : List (List Int)), i + d = l.length → acc.length = l.length → acc.take i = l.take i → Ev (fun k => laws_toIntSS.l0 k l acc i) l := by
  intro d
  induction d with
  | zero =>
    intro i acc hi ha ht
    refine Ev.step (f := fun _ => some acc) (fun k => ?_) ?_
    · simp only [laws_toIntSS.l0]; rw [if_neg (by omega)]
    · have e : acc = l := by
        have h1 := List.take_of_length_le (l := acc) (i := i) (by omega)
        have h2 := List.take_of_length_le (l := l) (i := i) (by omega)
        rw [← h1, ← h2, ht]
      rw [e]; exact Ev.now _
  | succ d ih =>
    intro i acc hi ha ht
    have hlt : i < l.length := by omega
    have hll : l.length ≤ 1048576 := by unfold bulk at hl; omega
    have hxl : l[i].length ≤ 35184372088832 := by have := len_le_sum (List.getElem_mem hlt); unfold bulk at hl; omega
    refine Ev.step (f := fun k => (laws_toIntS.f k l[i]).bind fun t => laws_toIntSS.l0 k l (acc.set i t) ((i + 1 : Nat) : Int)) (fun k => ?_) (Ev.bind (toIntS_ev l[i] hxl) (ih (i + 1) (acc.set i l[i]) (by omega) (by simpa using ha) ?_))
    · simp only [laws_toIntSS.l0, rdL_lt hlt]
      rw [if_pos (by omega), if_pos (by omega), w64s hlt (by omega), Int.toNat_natCast]
      congr 1
      funext t
      rw [if_pos (by omega)]
    · rw [List.take_succ_eq_append_getElem (by simp; omega), List.take_succ_eq_append_getElem hlt, List.take_set_of_le (Nat.le_refl i), ht]
      simp
theorem toIntSS_ev (l : List (List Int)) (hl : bulk l ≤ 1048576) : Ev (fun k => laws_toIntSS.f k l) l := by
  have hll : l.length ≤ 1048576 := by unfold bulk at hl; omega
  refine Ev.congr (f := fun k => laws_toIntSS.l0 k l (List.replicate l.length []) ((0 : Nat) : Int)) (fun k => ?_) (toIntSS_l l hl l.length 0 _ (by omega) (by simp) (by simp))
  unfold laws_toIntSS.f
  rw [if_pos (by omega), if_pos (by omega), Int.toNat_natCast]; rfl

/-! eqIntS -/
theorem eqIntS_l (a b : List Int) (hn : a.length = b.length) (hl : a.length ≤ 9223372036854775807) : ∀ (d i : Nat), i + d = a.length → Ev (fun k => laws_eqIntS.l0 k a b i) (decide (a.drop i = b.drop i)) := by
  intro d
  induction d with
  | zero =>
    intro i hi
    refine Ev.step (f := fun _ => some true) (fun k => ?_) ?_
    · simp only [laws_eqIntS.l0]; rw [if_neg (by omega)]
    · rw [List.drop_of_length_le (by omega), List.drop_of_length_le (by omega)]; exact Ev.now _
  | succ d ih =>
    intro i hi
    have h1 : i < a.length := by omega
    have h2 : i < b.length := by omega
    have e1 : a.drop i = a[i] :: a.drop (i + 1) := List.drop_eq_getElem_cons h1
    have e2 : b.drop i = b[i] :: b.drop (i + 1) := List.drop_eq_getElem_cons h2
    by_cases he : a[i] = b[i]
    · refine Ev.step (f := fun k => laws_eqIntS.l0 k a b ((i + 1 : Nat) : Int)) (fun k => ?_) ?_
      · simp only [laws_eqIntS.l0]
        rw [if_pos (by omega), if_pos (by omega), if_pos (by omega), rd_lt h1, rd_lt h2, if_pos he, w64s h1 hl]
      · have hd : decide (a.drop i = b.drop i) = decide (a.drop (i + 1) = b.drop (i + 1)) := by
          rw [decide_eq_decide, e1, e2, he]; simp only [List.cons.injEq, true_and]
        rw [hd]; exact ih (i + 1) (by omega)
    · refine Ev.step (f := fun _ => some false) (fun k => ?_) ?_
      · simp only [laws_eqIntS.l0]
        rw [if_pos (by omega), if_pos (by omega), if_pos (by omega), rd_lt h1, rd_lt h2, if_neg he]
      · have hd : decide (a.drop i = b.drop i) = false := by
          refine decide_eq_false fun e => he ?_
          rw [e1, e2] at e
          exact (List.cons.inj e).1
        rw [hd]; exact Ev.now _
theorem eqIntS_ev (a b : List Int) (hl : a.length ≤ 9223372036854775807) : Ev (fun k => laws_eqIntS.f k a b) (decide (a = b)) := by
  by_cases hn : a.length = b.length
  · refine Ev.congr (f := fun k => laws_eqIntS.l0 k a b ((0 : Nat) : Int)) (fun k => ?_) (eqIntS_l a b hn hl a.length 0 (by omega))
    unfold laws_eqIntS.f; rw [if_pos (by omega)]; rfl
  · refine Ev.congr (f := fun _ => some false) (fun k => ?_) ?_
    · unfold laws_eqIntS.f; rw [if_neg (by omega)]
    · rw [decide_eq_false (fun e => hn (by rw [e]))]; exact Ev.now _
theorem eqIntS_same (a : List Int) (hl : a.length ≤ 9223372036854775807) : Ev (fun k => laws_eqIntS.f k a a) true := by simpa using eqIntS_ev a a hl

/-! eqIntSS -/
theorem eqIntSS_l (a b : List (List Int)) (hn : a.length = b.length) (hl : a.length ≤ 9223372036854775807) (hx : ∀ x ∈ a, x.length ≤ 9223372036854775807) : ∀ (d i : Nat), i + d = a.length → Ev (fun k => laws_eqIntSS.l0 k a b i) (decide (a.drop i = b.drop i)) := by
  intro d
  induction d with
  | zero =>
    intro i hi
    refine Ev.step (f := fun _ => some true) (fun k => ?_) ?_
    · simp only [laws_eqIntSS.l0]; rw [if_neg (by omega)]
    · rw [List.drop_of_length_le (by omega), List.drop_of_length_le (by omega), decide_eq_true rfl]; exact Ev.now _
  | succ d ih =>
    intro i hi
    have h1 : i < a.length := by omega
    have h2 : i < b.length := by omega
    have e1 : a.drop i = a[i] :: a.drop (i + 1) := List.drop_eq_getElem_cons h1
    have e2 : b.drop i = b[i] :: b.drop (i + 1) := List.drop_eq_getElem_cons h2
    have hq := eqIntS_ev a[i] b[i] (hx _ (List.getElem_mem h1))
    refine Ev.step (f := fun k => (laws_eqIntS.f k a[i] b[i]).bind fun t => if t = true then laws_eqIntSS.l0 k a b ((i + 1 : Nat) : Int) else some false) (fun k => ?_) (Ev.bind hq ?_)
    · simp only [laws_eqIntSS.l0, rdL_lt h1, rdL_lt h2]
      rw [if_pos (by omega), if_pos (by omega), if_pos (by omega), w64s h1 hl]
    · by_cases he : a[i] = b[i]
      · have hd : decide (a.drop i = b.drop i) = decide (a.drop (i + 1) = b.drop (i + 1)) := by
          rw [decide_eq_decide, e1, e2, he]; simp only [List.cons.injEq, true_and]
        rw [hd, decide_eq_true he]
        simp only [if_true]
        exact ih (i + 1) (by omega)
      · have hd : decide (a.drop i = b.drop i) = false := by
          refine decide_eq_false fun e => he ?_
          rw [e1, e2] at e
          exact (List.cons.inj e).1
        rw [hd, decide_eq_false he]; exact Ev.now _
theorem eqIntSS_ev (a b : List (List Int)) (hl : a.length ≤ 9223372036854775807) (hx : ∀ x ∈ a, x.length ≤ 9223372036854775807) : Ev (fun k => laws_eqIntSS.f k a b) (decide (a = b)) := by
  by_cases hn : a.length = b.length
  · refine Ev.congr (f := fun k => laws_eqIntSS.l0 k a b ((0 : Nat) : Int)) (fun k => ?_) (eqIntSS_l a b hn hl hx a.length 0 (by omega))
    unfold laws_eqIntSS.f; rw [if_pos (by omega)]; rfl
  · refine Ev.congr (f := fun _ => some false) (fun k => ?_) ?_
    · unfold laws_eqIntSS.f; rw [if_neg (by omega)]
    · rw [decide_eq_false (fun e => hn (by rw [e]))]; exact Ev.now _
theorem eqIntSS_same (a : List (List Int)) (hl : bulk a ≤ 1048576) : Ev (fun k => laws_eqIntSS.f k a a) true := by
  have := eqIntSS_ev a a (by unfold bulk at hl; omega) (fun x hx => by have := len_le_sum hx; unfold bulk at hl; omega)
  rwa [decide_eq_true rfl] at this

/-! within -/
theorem within_eq (a b c : Int) : impl_within.f a b c = some (decide (b ≤ a ∧ a ≤ c)) := by
  unfold impl_within.f
  split <;> simp <;> omega

/-! l1In -/
theorem l1In_eq (a b c : Int) : spec_l1In.f a b c = some (decide (b ≤ a ∧ a ≤ c)) := by
  unfold spec_l1In.f
  split <;> simp <;> omega

/-! letter -/
/-- A letter. -/
def LetP (x : Int) : Prop := x ≠ 0 ∧ -8 ≤ x ∧ x ≤ 8
theorem l2Letter_eq (x : Int) : spec_l2Letter.f x = some (decide (LetP x)) := by
  unfold spec_l2Letter.f
  simp only [l1In_eq, Option.bind_some]
  by_cases h : 1 ≤ x ∧ x ≤ 8
  · rw [decide_eq_true h, decide_eq_true (show LetP x from ⟨by omega, by omega, by omega⟩)]; rfl
  · rw [decide_eq_false h]
    simp only [Bool.false_eq_true, if_false]
    congr 1
    rw [decide_eq_decide]
    unfold LetP
    omega
theorem isLetter_eq (x : Int) : impl_isLetter.f x = some (decide (LetP x)) := by
  unfold impl_isLetter.f
  simp only [within_eq, Option.bind_some]
  split
  · rename_i h
    rw [decide_eq_false (fun hh : LetP x => hh.1 h)]
  · rename_i h
    congr 1
    rw [decide_eq_decide]
    unfold LetP
    omega

/-! isWord -/
/-- A word. -/
def WordP (l : List Int) : Prop := (∀ x ∈ l, LetP x) ∧ l.length ≤ 24
def WordFrom (l : List Int) (i : Nat) : Prop := (∀ x ∈ l.drop i, LetP x) ∧ l.length ≤ 24
theorem isWord_l (l : List Int) (hl : l.length ≤ 9223372036854775807) : ∀ (d i : Nat), i + d = l.length → Ev (fun k => spec_IsWord.l0 k l i) (decide (WordFrom l i)) ∧ Ev (fun k => impl_IsWord.l0 k l l l.length i) (decide (WordFrom l i)) := by
  intro d
  induction d with
  | zero =>
    intro i hi
    have e : decide (WordFrom l i) = decide ((l.length : Int) ≤ 24) := by
      rw [decide_eq_decide]; unfold WordFrom; rw [List.drop_of_length_le (by omega)]
      simp
      omega
    rw [e]
    refine ⟨Ev.step (f := fun _ => some (decide ((l.length : Int) ≤ 24))) (fun k => ?_) (Ev.now _), Ev.step (f := fun _ => some (decide ((l.length : Int) ≤ 24))) (fun k => ?_) (Ev.now _)⟩
    · simp only [spec_IsWord.l0]; rw [if_neg (by omega)]
    · simp only [impl_IsWord.l0]; rw [if_neg (by omega)]
  | succ d ih =>
    intro i hi
    have hlt : i < l.length := by omega
    have e1 := rd_lt hlt
    have ed : l.drop i = l[i] :: l.drop (i + 1) := List.drop_eq_getElem_cons hlt
    by_cases hp : LetP l[i]
    · have e : decide (WordFrom l i) = decide (WordFrom l (i + 1)) := by
        rw [decide_eq_decide]; unfold WordFrom; rw [ed]
        simp only [List.mem_cons, forall_eq_or_imp, hp, true_and]
      rw [e]
      obtain ⟨h1, h2⟩ := ih (i + 1) (by omega)
      refine ⟨Ev.step (fun k => ?_) h1, Ev.step (fun k => ?_) h2⟩
      · simp only [spec_IsWord.l0, l2Letter_eq, e1, Option.bind_some, decide_eq_true hp]
        rw [if_pos (by omega), if_pos (by omega), if_pos trivial, w64s hlt hl]
      · simp only [impl_IsWord.l0, isLetter_eq, e1, Option.bind_some, decide_eq_true hp]
        rw [if_pos (by omega), if_pos (by omega), if_pos (by omega), if_pos trivial, w64s hlt hl]
    · have e : decide (WordFrom l i) = false := by
        refine decide_eq_false fun h => hp (h.1 _ ?_)
        rw [ed]; exact List.mem_cons_self
      rw [e]
      refine ⟨Ev.step (f := fun _ => some false) (fun k => ?_) (Ev.now _), Ev.step (f := fun _ => some false) (fun k => ?_) (Ev.now _)⟩
      · simp only [spec_IsWord.l0, l2Letter_eq, e1, Option.bind_some, decide_eq_false hp]
        rw [if_pos (by omega), if_pos (by omega)]; rfl
      · simp only [impl_IsWord.l0, isLetter_eq, e1, Option.bind_some, decide_eq_false hp]
        rw [if_pos (by omega), if_pos (by omega), if_pos (by omega)]; rfl
theorem isWord_ev (l : List Int) (hl : l.length ≤ 1048576) : Ev (fun k => spec_IsWord.f k l) (decide (WordP l)) ∧ Ev (fun k => impl_IsWord.f k l) (decide (WordP l)) := by
  have := isWord_l l (by omega) l.length 0 (by omega)
  have e : decide (WordFrom l 0) = decide (WordP l) := by rw [decide_eq_decide]; rfl
  rw [e] at this
  exact this

/-! cnt -/
/-- How often a letter or its inverse occurs. -/
def cnt (l : List Int) (y : Nat) : Nat := l.countP fun x => x.natAbs == y
theorem cnt_append (a b : List Int) (y : Nat) : cnt (a ++ b) y = cnt a y + cnt b y := List.countP_append
theorem cnt_one (x : Int) (y : Nat) : cnt [x] y = if x.natAbs = y then 1 else 0 := by
  unfold cnt
  rw [List.countP_cons, List.countP_nil]
  by_cases h : x.natAbs = y <;> simp [h]
theorem cnt_le (l : List Int) (y : Nat) : cnt l y ≤ l.length := List.countP_le_length
def usesL (l : List Int) : List Int := (List.range 9).map fun y => ((cnt l y : Nat) : Int)
theorem usesL_length (l : List Int) : (usesL l).length = 9 := by simp [usesL]
theorem usesL_rd (l : List Int) {y : Nat} (h : y < 9) : rd (usesL l) (y : Int) = (cnt l y : Int) := by
  rw [rd_lt (by rw [usesL_length]; exact h)]
  simp [usesL]
theorem usesL_nil : usesL [] = List.replicate 9 0 := by decide
theorem usesL_snoc (l : List Int) (x : Int) : (usesL l).set x.natAbs ((cnt l x.natAbs : Int) + 1) = usesL (l ++ [x]) := by
  refine List.ext_getElem (by simp [usesL_length]) fun y h1 h2 => ?_
  have hy : y < 9 := by rw [usesL_length] at h2; exact h2
  rw [List.getElem_set]
  have e1 : (usesL (l ++ [x]))[y] = ((cnt (l ++ [x]) y : Nat) : Int) := by simp [usesL]
  refine Eq.trans ?_ e1.symm
  rw [cnt_append, cnt_one]
  by_cases h : x.natAbs = y
  · subst h; rw [if_pos rfl, if_pos rfl]; omega
  · rw [if_neg h, if_neg h]; simp [usesL]
theorem flat_take_succ {g : List (List Int)} {p : Nat} (h : p < g.length) : (g.take (p + 1)).flatten = (g.take p).flatten ++ g[p] := by
  rw [List.take_succ_eq_append_getElem h, List.flatten_append, List.flatten_singleton]
theorem flat_len (g : List (List Int)) : g.flatten.length = (g.map List.length).sum := List.length_flatten
theorem flat_take_len (g : List (List Int)) (p : Nat) : ((g.take p).flatten).length ≤ g.flatten.length := by
  have : g.flatten = (g.take p).flatten ++ (g.drop p).flatten := by rw [← List.flatten_append, List.take_append_drop]
  rw [this, List.length_append]; omega

/-! gluP -/
/-- A gluing. -/
def GluP (g : List (List Int)) : Prop := (1 ≤ g.length ∧ g.length ≤ 4) ∧ (∀ p ∈ g, p ≠ [] ∧ WordP p) ∧ g.flatten.length ≤ 20 ∧ ∀ y, y < 9 → cnt g.flatten y ≤ 2
theorem GluP.let {g : List (List Int)} (h : GluP g) : ∀ p ∈ g, ∀ x ∈ p, LetP x := fun p hp => (h.2.1 p hp).2.1
/-- Rows from p on are words that are not empty. -/
def RowsP (g : List (List Int)) (p : Nat) : Prop := ∀ w ∈ g.drop p, w ≠ [] ∧ WordP w
theorem rowsP_succ {g : List (List Int)} {p : Nat} (h : p < g.length) : RowsP g p ↔ (g[p] ≠ [] ∧ WordP g[p]) ∧ RowsP g (p + 1) := by
  unfold RowsP
  rw [List.drop_eq_getElem_cons h]
  simp only [List.mem_cons, forall_eq_or_imp]
def Few (l : List Int) (i : Nat) : Prop := ∀ y, i ≤ y → y < 9 → cnt l y ≤ 2

/-! neg -/
theorem LetP.neg {x : Int} (h : LetP x) : LetP (-x) := by unfold LetP at *; omega
theorem w64neg {x : Int} (h : LetP x) : wrap64 (-x) = -x := w64 (by unfold LetP at h; omega) (by unfold LetP at h; omega)

/-! abs -/
theorem LetP.abs {x : Int} (h : LetP x) : 1 ≤ x.natAbs ∧ x.natAbs ≤ 8 := by unfold LetP at h; omega
theorem l3Abs_eq {x : Int} (h : LetP x) : spec_l3Abs.f x = some (x.natAbs : Int) := by
  unfold spec_l3Abs.f spec_l1Max.f
  rw [w64neg h]
  split <;> simp only [Option.bind_some, Option.some.injEq] <;> omega

/-! occ -/
/-- The sign of a side, its polygon turned or not. -/
def tb (set : Int) (p : Nat) : Bool := Go.bits .and .i64 (shr .i64 set (p : Int)) 1 == 1
def sg (set : Int) (p : Nat) (x : Int) : Int := if (decide (x > 0) != tb set p) = true then 1 else -1
theorem sg_one (set : Int) (p : Nat) (x : Int) : sg set p x = 1 ∨ sg set p x = -1 := by unfold sg; split <;> simp
def occR (set : Int) (p : Nat) (w : List Int) : List (Nat × Int) := w.map fun x => (x.natAbs, sg set p x)
/-- The sides of polygons, each with its sign, in order. -/
def occ (set : Int) (g : List (List Int)) : Nat → List (Nat × Int)
  | 0 => []
  | p + 1 => occ set g p ++ occR set p (g.getD p [])
def sgs (y : Nat) (L : List (Nat × Int)) : List Int := (L.filter fun q => q.1 == y).map fun q => q.2
theorem sgs_append (y : Nat) (A B : List (Nat × Int)) : sgs y (A ++ B) = sgs y A ++ sgs y B := by simp [sgs]
theorem sgs_one (y z : Nat) (s : Int) : sgs y [(z, s)] = if z = y then [s] else [] := by
  unfold sgs
  by_cases h : z = y <;> simp [h]
theorem sgs_length_le (y : Nat) (L : List (Nat × Int)) : (sgs y L).length ≤ L.length := by
  unfold sgs; rw [List.length_map]; exact List.length_filter_le _ _
theorem occR_snoc (set : Int) (p : Nat) (w : List Int) (i : Nat) (h : i < w.length) : occR set p (w.take (i + 1)) = occR set p (w.take i) ++ [(w[i].natAbs, sg set p w[i])] := by
  rw [List.take_succ_eq_append_getElem h]
  simp only [occR, List.map_append, List.map_cons, List.map_nil]
theorem occR_length (set : Int) (p : Nat) (w : List Int) : (occR set p w).length = w.length := by simp [occR]
theorem sg_pos {set : Int} {p : Nat} {x : Int} (h : (decide (x > 0) != (Go.bits .and .i64 (shr .i64 set (p : Int)) 1 == 1)) = true) : sg set p x = 1 := if_pos h
theorem sg_neg {set : Int} {p : Nat} {x : Int} (h : ¬ (decide (x > 0) != (Go.bits .and .i64 (shr .i64 set (p : Int)) 1 == 1)) = true) : sg set p x = -1 := if_neg h
theorem occR_fst (set : Int) (p : Nat) (w : List Int) : (occR set p w).map (fun q => q.1) = w.map Int.natAbs := by simp [occR]
theorem sgs_occR_length (y : Nat) (set : Int) (p : Nat) (w : List Int) : (sgs y (occR set p w)).length = cnt w y := by
  unfold sgs occR cnt
  rw [List.length_map, List.countP_eq_length_filter, List.filter_map, List.length_map]
  rfl
theorem sgs_occ_length (y : Nat) (set : Int) (g : List (List Int)) : ∀ p, p ≤ g.length → (sgs y (occ set g p)).length = cnt (g.take p).flatten y := by
  intro p
  induction p with
  | zero => intro _; simp [occ, sgs, cnt]
  | succ p ih =>
    intro hp
    rw [flat_take_succ (show p < g.length by omega), cnt_append, ← ih (by omega)]
    show (sgs y (occ set g p ++ occR set p (g.getD p []))).length = _
    rw [sgs_append, List.length_append, sgs_occR_length, getD_lt (show p < g.length by omega)]
theorem occ_length (set : Int) (g : List (List Int)) : ∀ p, p ≤ g.length → (occ set g p).length = (g.take p).flatten.length := by
  intro p
  induction p with
  | zero => intro _; simp [occ]
  | succ p ih =>
    intro hp
    rw [flat_take_succ (show p < g.length by omega), List.length_append, ← ih (by omega)]
    show (occ set g p ++ occR set p (g.getD p [])).length = _
    rw [List.length_append, getD_lt (show p < g.length by omega)]
    simp [occR]
theorem sgs_pm {y : Nat} {set : Int} {g : List (List Int)} {p : Nat} {s : Int} (h : s ∈ sgs y (occ set g p)) : s = 1 ∨ s = -1 := by
  induction p with
  | zero => simp [occ, sgs] at h
  | succ p ih =>
    have h' : s ∈ sgs y (occ set g p ++ occR set p (g.getD p [])) := h
    rw [sgs_append] at h'
    rcases List.mem_append.1 h' with h' | h'
    · exact ih h'
    · unfold sgs occR at h'
      obtain ⟨q, hq, rfl⟩ := List.mem_map.1 h'
      obtain ⟨x, _, rfl⟩ := List.mem_map.1 (List.mem_filter.1 hq).1
      exact sg_one _ _ _
theorem sum_pm (l : List Int) (h : ∀ s ∈ l, s = 1 ∨ s = -1) : -(l.length : Int) ≤ l.sum ∧ l.sum ≤ l.length := by
  induction l with
  | nil => simp
  | cons a l ih =>
    have h1 := ih fun s hs => h s (List.mem_cons_of_mem _ hs)
    have h2 := h a List.mem_cons_self
    rw [List.sum_cons, List.length_cons]
    omega
/-- No sign stands twice in a row. -/
def alt : List Int → Bool
  | [] => true
  | [_] => true
  | a :: b :: t => decide (a ≠ b) && alt (b :: t)
theorem alt_snoc : ∀ (l : List Int) (s : Int), alt (l ++ [s]) = (alt l && decide (l.getLast? ≠ some s))
  | [], s => by simp [alt]
  | [a], s => by simp [alt]
  | a :: b :: t, s => by
    have := alt_snoc (b :: t) s
    simp only [List.cons_append, alt] at this ⊢
    rw [this, Bool.and_assoc]
    rw [List.getLast?_cons_cons]
theorem alt_two {l : List Int} (h : ∀ s ∈ l, s = 1 ∨ s = -1) (h2 : l.length ≤ 2) : alt l = true ↔ (l.length < 2 ∨ l.sum = 0) := by
  match l, h2 with
  | [], _ => simp [alt]
  | [a], _ => simp [alt]
  | [a, b], _ =>
    have ha := h a (by simp)
    have hb := h b (by simp)
    simp [alt]
    omega
/-- All letters that occur twice are met against each other. -/
def Fine (set : Int) (g : List (List Int)) : Prop := ∀ y, 1 ≤ y → y < 9 → (sgs y (occ set g g.length)).length < 2 ∨ (sgs y (occ set g g.length)).sum = 0
/-- The sum that the reference makes. -/
def sgnV (set : Int) (g : List (List Int)) (y : Nat) : Int := if (sgs y (occ set g g.length)).length < 2 then 0 else (sgs y (occ set g g.length)).sum
theorem sgnV_zero (set : Int) (g : List (List Int)) (y : Nat) : sgnV set g y = 0 ↔ (sgs y (occ set g g.length)).length < 2 ∨ (sgs y (occ set g g.length)).sum = 0 := by
  unfold sgnV
  split
  · rename_i h; simp [h]
  · rename_i h; simp [h]
theorem u64nat (n : Nat) (h : n < 1000) : IntKind.u64.wrap (n : Int) = (n : Int) := by
  simp [IntKind.wrap, IntKind.bits, IntKind.signed]; omega

/-! signsS -/
theorem signsS_row (set : Int) (y : Nat) (g : List (List Int)) (hg : GluP g) (p : Nat) (hp : p < g.length) (pre : List (Nat × Int)) (hpre : pre.length ≤ 20) (hpm : ∀ s ∈ sgs y pre, s = 1 ∨ s = -1) (r : Int)
    (h : Ev (fun k => spec_l3Signs.l0 k g set y (sgs y (pre ++ occR set p g[p])).sum ((sgs y (pre ++ occR set p g[p])).length : Nat) ((p + 1 : Nat) : Int)) r) :
    ∀ (d i : Nat), i + d = g[p].length → Ev (fun k => spec_l3Signs.l1 k g set y (sgs y (pre ++ occR set p (g[p].take i))).sum ((sgs y (pre ++ occR set p (g[p].take i))).length : Nat) p i) r := by
  intro d
  have hl := hg.let g[p] (List.getElem_mem hp)
  have h4 := hg.1.2
  have h24 := (hg.2.1 g[p] (List.getElem_mem hp)).2.2
  induction d with
  | zero =>
    intro i hi
    rw [List.take_of_length_le (by omega)]
    refine Ev.step (fun k => ?_) h
    simp only [spec_l3Signs.l1, rdL_lt hp]
    rw [if_pos (by omega), if_pos (by omega), if_neg (by omega), w64s hp (by omega)]
  | succ d ih =>
    intro i hi
    have hlt : i < g[p].length := by omega
    have hx := hl g[p][i] (List.getElem_mem hlt)
    have h1 := ih (i + 1) (by omega)
    have eo : occR set p (g[p].take (i + 1)) = occR set p (g[p].take i) ++ [(g[p][i].natAbs, sg set p g[p][i])] := occR_snoc set p g[p] i hlt
    have hlen : (sgs y (pre ++ occR set p (g[p].take i))).length ≤ 44 := by
      have := sgs_length_le y (pre ++ occR set p (g[p].take i))
      rw [List.length_append, occR_length, List.length_take] at this
      omega
    have hpm' : ∀ s ∈ sgs y (pre ++ occR set p (g[p].take i)), s = 1 ∨ s = -1 := by
      intro s hs
      rw [sgs_append] at hs
      rcases List.mem_append.1 hs with hs | hs
      · exact hpm s hs
      · unfold sgs occR at hs
        obtain ⟨q, hq, rfl⟩ := List.mem_map.1 hs
        obtain ⟨x, _, rfl⟩ := List.mem_map.1 (List.mem_filter.1 hq).1
        exact sg_one _ _ _
    have hsum := sum_pm _ hpm'
    rw [eo, ← List.append_assoc, sgs_append, sgs_one] at h1
    generalize sgs y (pre ++ occR set p (g[p].take i)) = l at h1 hlen hpm' hsum ⊢
    have hu := u64nat p (by omega)
    have c1 : (0 : Int) ≤ (p : Int) := by omega
    have c2 : (p : Int) < (g.length : Int) := by omega
    have c3 : (i : Int) < (g[p].length : Int) := by omega
    have c4 : (0 : Int) ≤ (i : Int) := by omega
    have c5 := w64s hlt (show g[p].length ≤ 9223372036854775807 by omega)
    have e2 : wrap64 ((l.length : Int) + 1) = ((l.length + (0 + 1) : Nat) : Int) := w64s (show l.length < 45 by omega) (by omega)
    obtain ⟨S, hS⟩ : ∃ S, l.sum = S := ⟨_, rfl⟩
    rw [hS] at hsum
    have e3 : wrap64 (S + 1) = S + (1 + 0) := w64 (by omega) (by omega)
    have e4 : wrap64 (S - 1) = S + (-1 + 0) := w64 (by omega) (by omega)
    rw [hS]
    clear hpre hpm h hl h4 h24 ih hlen hpm' hsum eo hi hg
    by_cases hy : g[p][i].natAbs = y
    · rw [if_pos hy, List.sum_append, List.length_append, hS] at h1
      simp only [List.sum_cons, List.sum_nil, List.length_cons, List.length_nil] at h1
      have hy' : ((g[p][i].natAbs : Nat) : Int) = (y : Int) := by omega
      by_cases hc : (decide (g[p][i] > 0) != (Go.bits .and .i64 (shr .i64 set (p : Int)) 1 == 1)) = true
      · rw [sg_pos hc] at h1
        refine Ev.step (fun k => ?_) h1
        simp only [spec_l3Signs.l1, rdL_lt hp, rd_lt hlt, l3Abs_eq hx, Option.bind_some, hu]
        rw [if_pos c1, if_pos c2, if_pos c3, if_pos c4, if_pos hy', if_pos c1, if_pos hc, e3, e2, c5]
      · rw [sg_neg hc] at h1
        refine Ev.step (fun k => ?_) h1
        simp only [spec_l3Signs.l1, rdL_lt hp, rd_lt hlt, l3Abs_eq hx, Option.bind_some, hu]
        rw [if_pos c1, if_pos c2, if_pos c3, if_pos c4, if_pos hy', if_pos c1, if_neg hc, e4, e2, c5]
    · rw [if_neg hy, List.append_nil, hS] at h1
      have hy' : ¬ ((g[p][i].natAbs : Nat) : Int) = (y : Int) := by omega
      refine Ev.step (fun k => ?_) h1
      simp only [spec_l3Signs.l1, rdL_lt hp, rd_lt hlt, l3Abs_eq hx, Option.bind_some]
      rw [if_pos c1, if_pos c2, if_pos c3, if_pos c4, if_neg hy', c5]
theorem signsS_l (set : Int) (y : Nat) (g : List (List Int)) (hg : GluP g) : ∀ (d p : Nat), p + d = g.length → Ev (fun k => spec_l3Signs.l0 k g set y (sgs y (occ set g p)).sum ((sgs y (occ set g p)).length : Nat) p) (sgnV set g y) := by
  intro d
  induction d with
  | zero =>
    intro p hp
    have hpe : p = g.length := by omega
    subst hpe
    refine Ev.step (f := fun _ => some (sgnV set g y)) (fun k => ?_) (Ev.now _)
    simp only [spec_l3Signs.l0]
    rw [if_neg (by omega)]
    unfold sgnV
    split
    · rw [if_pos (by omega)]
    · rw [if_neg (by omega)]
  | succ d ih =>
    intro p hp
    have hlt : p < g.length := by omega
    have h1 := ih (p + 1) (by omega)
    have e : occ set g (p + 1) = occ set g p ++ occR set p g[p] := by
      show occ set g p ++ occR set p (g.getD p []) = _
      rw [getD_lt hlt]
    rw [e] at h1
    have h2 := signsS_row set y g hg p hlt (occ set g p) (by rw [occ_length set g p (by omega)]; have := flat_take_len g p; have := hg.2.2.1; omega) (fun s hs => sgs_pm hs) _ h1 g[p].length 0 (by omega)
    rw [List.take_zero, show occR set p [] = [] from rfl, List.append_nil] at h2
    refine Ev.step (fun k => ?_) h2
    simp only [spec_l3Signs.l0]; rw [if_pos (by omega)]; rfl
theorem signsS_ev (set : Int) (y : Nat) (g : List (List Int)) (hg : GluP g) : Ev (fun k => spec_l3Signs.f k g set y) (sgnV set g y) :=
  signsS_l set y g hg g.length 0 (by omega)

/-! twoBound -/
theorem shl_one (n : Nat) (h : n ≤ 4) : shl .i64 1 (n : Int) = ((2 ^ n : Nat) : Int) := by
  have : n = 0 ∨ n = 1 ∨ n = 2 ∨ n = 3 ∨ n = 4 := by omega
  rcases this with rfl | rfl | rfl | rfl | rfl <;> decide +kernel
theorem pow_le16 (n : Nat) (h : n ≤ 4) : 2 ^ n ≤ 16 := by
  have : n = 0 ∨ n = 1 ∨ n = 2 ∨ n = 3 ∨ n = 4 := by omega
  rcases this with rfl | rfl | rfl | rfl | rfl <;> decide
/-- Some polygons turned from a set on. -/
def TwoFrom (g : List (List Int)) (s : Nat) : Prop := ∃ t, s ≤ t ∧ t < 2 ^ g.length ∧ Fine (t : Int) g
def Two (g : List (List Int)) : Prop := GluP g ∧ TwoFrom g 0

/-! fewS -/
theorem fewS_l (l : List Int) : ∀ (d i : Nat), i + d = 9 → Ev (fun k => spec_IsGluing.l1 k (usesL l) i) (decide (Few l i)) := by
  intro d
  induction d with
  | zero =>
    intro i hi
    rw [decide_eq_true (show Few l i from fun y h1 h2 => by omega)]
    refine Ev.step (f := fun _ => some true) (fun k => ?_) (Ev.now _)
    simp only [spec_IsGluing.l1, usesL_length]; rw [if_neg (by omega)]
  | succ d ih =>
    intro i hi
    by_cases hc : cnt l i ≤ 2
    · have e : Few l i ↔ Few l (i + 1) := ⟨fun h y h1 h2 => h y (by omega) h2, fun h y h1 h2 => by
        rcases Nat.eq_or_lt_of_le h1 with rfl | h3
        · exact hc
        · exact h y h3 h2⟩
      rw [decide_eq_decide.2 e]
      refine Ev.step (fun k => ?_) (ih (i + 1) (by omega))
      simp only [spec_IsGluing.l1, usesL_length, usesL_rd l (show i < 9 by omega)]
      rw [if_pos (by omega), if_pos (by omega), if_neg (by omega), w64s (show i < 9 by omega) (by omega)]
    · rw [decide_eq_false (show ¬ Few l i from fun h => hc (h i (Nat.le_refl _) (by omega)))]
      refine Ev.step (f := fun _ => some false) (fun k => ?_) (Ev.now _)
      simp only [spec_IsGluing.l1, usesL_length, usesL_rd l (show i < 9 by omega)]
      rw [if_pos (by omega), if_pos (by omega), if_pos (by omega)]

/-! usesS -/
theorem usesS_row (g : List (List Int)) (hg : g.length ≤ 1048576) (p : Nat) (hp : p < g.length) (hl : ∀ x ∈ g[p], LetP x) (pre : List Int) (hb : pre.length + g[p].length ≤ 1048576) (r : List Int) (h : Ev (fun k => spec_l3Uses.l0 k g (usesL (pre ++ g[p])) ((p + 1 : Nat) : Int)) r) :
    ∀ (d i : Nat), i + d = g[p].length → Ev (fun k => spec_l3Uses.l1 k g (usesL (pre ++ g[p].take i)) p i) r := by
  intro d
  induction d with
  | zero =>
    intro i hi
    rw [List.take_of_length_le (by omega)]
    refine Ev.step (fun k => ?_) h
    simp only [spec_l3Uses.l1, rdL_lt hp]
    rw [if_pos (by omega), if_pos (by omega), if_neg (by omega), w64s hp (by omega)]
  | succ d ih =>
    intro i hi
    have hlt : i < g[p].length := by omega
    have hx := hl g[p][i] (List.getElem_mem hlt)
    have ha := hx.abs
    have hc := cnt_le (pre ++ g[p].take i) g[p][i].natAbs
    rw [List.length_append, List.length_take] at hc
    have hw : wrap64 ((cnt (pre ++ g[p].take i) g[p][i].natAbs : Int) + 1) = (cnt (pre ++ g[p].take i) g[p][i].natAbs : Int) + 1 := w64 (by omega) (by omega)
    have := ih (i + 1) (by omega)
    rw [List.take_succ_eq_append_getElem hlt, ← List.append_assoc, ← usesL_snoc] at this
    refine Ev.step (fun k => ?_) this
    simp only [spec_l3Uses.l1, rdL_lt hp, rd_lt hlt, l3Abs_eq hx, Option.bind_some, usesL_length]
    rw [if_pos (by omega), if_pos (by omega), if_pos (by omega), if_pos (by omega), if_pos (by omega), if_pos (by omega), if_pos (by omega), if_pos (by omega), usesL_rd _ (by omega), hw, w64s hlt (by omega), Int.toNat_natCast]
theorem usesS_l (g : List (List Int)) (hg : g.length ≤ 1048576) (hl : ∀ p ∈ g, ∀ x ∈ p, LetP x) (hb : g.flatten.length ≤ 1048576) : ∀ (d p : Nat), p + d = g.length → Ev (fun k => spec_l3Uses.l0 k g (usesL (g.take p).flatten) p) (usesL g.flatten) := by
  intro d
  induction d with
  | zero =>
    intro p hp
    rw [List.take_of_length_le (by omega)]
    refine Ev.step (f := fun _ => some (usesL g.flatten)) (fun k => ?_) (Ev.now _)
    simp only [spec_l3Uses.l0]; rw [if_neg (by omega)]
  | succ d ih =>
    intro p hp
    have hlt : p < g.length := by omega
    have h1 := ih (p + 1) (by omega)
    rw [flat_take_succ hlt] at h1
    have h2 := usesS_row g hg p hlt (hl _ (List.getElem_mem hlt)) (g.take p).flatten (by have := flat_take_len g (p + 1); rw [flat_take_succ hlt, List.length_append] at this; omega) _ h1 g[p].length 0 (by omega)
    rw [List.take_zero, List.append_nil] at h2
    refine Ev.step (fun k => ?_) h2
    simp only [spec_l3Uses.l0]; rw [if_pos (by omega)]; rfl
theorem usesS_ev (g : List (List Int)) (hg : g.length ≤ 1048576) (hl : ∀ p ∈ g, ∀ x ∈ p, LetP x) (hb : g.flatten.length ≤ 1048576) : Ev (fun k => spec_l3Uses.f k g) (usesL g.flatten) := by
  refine Ev.congr (fun k => ?_) (usesS_l g hg hl hb g.length 0 (by omega))
  unfold spec_l3Uses.f
  rw [if_pos (by omega), List.take_zero, List.flatten_nil, usesL_nil]; rfl

/-! isGluingS -/
theorem isGluingS_l (g : List (List Int)) (hg : g.length ≤ 1048576) (hb : g.flatten.length ≤ 1048576) (r : Bool) (hr : RowsP g 0 → (Ev (fun k => spec_IsGluing.l0 k g (g.flatten.length : Nat) g.length) r)) : ∀ (d p : Nat), p + d = g.length → (RowsP g p ↔ RowsP g 0) → Ev (fun k => spec_IsGluing.l0 k g (((g.take p).flatten.length : Nat) : Int) p) (if RowsP g 0 then r else false) := by
  intro d
  induction d with
  | zero =>
    intro p hp hrow
    have h0 : RowsP g 0 := hrow.1 (by unfold RowsP; rw [List.drop_of_length_le (by omega)]; simp)
    rw [if_pos h0, List.take_of_length_le (by omega), show p = g.length by omega]
    exact hr h0
  | succ d ih =>
    intro p hp hrow
    have hlt : p < g.length := by omega
    have hs := rowsP_succ hlt
    have hxl : g[p].length ≤ 1048576 := by have := flat_take_len g (p + 1); rw [flat_take_succ hlt, List.length_append] at this; omega
    by_cases hz : g[p] = []
    · rw [if_neg (fun h0 => (hs.1 (hrow.2 h0)).1.1 hz)]
      refine Ev.step (f := fun _ => some false) (fun k => ?_) (Ev.now _)
      simp only [spec_IsGluing.l0, rdL_lt hlt, hz]
      rw [if_pos (by omega), if_pos (by omega), if_pos (by simp)]
    have hzl : 0 < g[p].length := List.length_pos_iff.2 hz
    have hw := (isWord_ev g[p] hxl).1
    refine Ev.step (f := fun k => (spec_IsWord.f k g[p]).bind fun t => if t = true then spec_IsGluing.l0 k g (wrap64 ((((g.take p).flatten.length : Nat) : Int) + (g[p].length : Int))) ((p + 1 : Nat) : Int) else some false) (fun k => ?_) (Ev.bind hw ?_)
    · simp only [spec_IsGluing.l0, rdL_lt hlt]
      rw [if_pos (by omega), if_pos (by omega), if_neg (by omega), w64s hlt (by omega)]
    · by_cases hwp : WordP g[p]
      · rw [decide_eq_true hwp]
        simp only [if_true]
        have h1 := ih (p + 1) (by omega) ⟨fun h => hrow.1 (hs.2 ⟨⟨hz, hwp⟩, h⟩), fun h => (hs.1 (hrow.2 h)).2⟩
        have hl : ((g.take (p + 1)).flatten.length : Nat) = (g.take p).flatten.length + g[p].length := by rw [flat_take_succ hlt, List.length_append]
        have hle := flat_take_len g (p + 1)
        have e : wrap64 ((((g.take p).flatten.length : Nat) : Int) + (g[p].length : Int)) = (((g.take (p + 1)).flatten.length : Nat) : Int) := by
          rw [w64 (by omega) (by omega)]; omega
        rw [e]
        exact h1
      · rw [decide_eq_false hwp, if_neg (fun h0 => hwp (hs.1 (hrow.2 h0)).1.2)]
        exact Ev.now _
theorem isGluingS_ev (g : List (List Int)) (hg : g.length ≤ 1048576) (hb : g.flatten.length ≤ 1048576) : Ev (fun k => spec_IsGluing.f k g) (decide (GluP g)) := by
  have hend : RowsP g 0 → Ev (fun k => spec_IsGluing.l0 k g (g.flatten.length : Nat) g.length) (decide (GluP g)) := by
    intro h0
    have h0' : ∀ p ∈ g, p ≠ [] ∧ WordP p := fun p hp => h0 p (by rw [List.drop_zero]; exact hp)
    by_cases hl : (1 : Int) ≤ g.length ∧ (g.length : Int) ≤ 4
    · by_cases h20 : (g.flatten.length : Int) > 20
      · rw [decide_eq_false (fun h : GluP g => by have := h.2.2.1; omega)]
        refine Ev.step (f := fun k => spec_IsGluing.j1 k g true) (fun k => ?_) (Ev.step (f := fun _ => some false) (fun k => ?_) (Ev.now _))
        · simp only [spec_IsGluing.l0, l1In_eq, Option.bind_some, decide_eq_true hl, decide_eq_true h20]; rw [if_neg (by omega), if_pos trivial]
        · simp only [spec_IsGluing.j1]; rw [if_pos trivial]
      · have e : Few g.flatten 0 ↔ GluP g := ⟨fun h => ⟨⟨by omega, by omega⟩, h0', by omega, fun y hy => h y (by omega) hy⟩, fun h y _ hy => h.2.2.2 y hy⟩
        rw [← decide_eq_decide.2 e]
        refine Ev.step (f := fun k => spec_IsGluing.j1 k g false) (fun k => ?_) (Ev.step (f := fun k => (spec_l3Uses.f k g).bind fun t => spec_IsGluing.l1 k t ((0 : Nat) : Int)) (fun k => ?_) (Ev.bind (usesS_ev g hg (fun p hp => (h0' p hp).2.1) hb) (fewS_l g.flatten 9 0 (by omega))))
        · simp only [spec_IsGluing.l0, l1In_eq, Option.bind_some, decide_eq_true hl, decide_eq_false h20]; rw [if_neg (by omega), if_pos trivial]
        · simp only [spec_IsGluing.j1]; rw [if_neg (by simp)]; rfl
    · rw [decide_eq_false (fun h : GluP g => hl ⟨by have := h.1.1; omega, by have := h.1.2; omega⟩)]
      refine Ev.step (f := fun k => spec_IsGluing.j1 k g true) (fun k => ?_) (Ev.step (f := fun _ => some false) (fun k => ?_) (Ev.now _))
      · simp only [spec_IsGluing.l0, l1In_eq, Option.bind_some, decide_eq_false hl]; rw [if_neg (by omega), if_neg (by simp)]
      · simp only [spec_IsGluing.j1]; rw [if_pos trivial]
  have h := isGluingS_l g hg hb _ hend g.length 0 (by omega) Iff.rfl
  have e : (if RowsP g 0 then decide (GluP g) else false) = decide (GluP g) := by
    split
    · rfl
    · rename_i hn
      rw [decide_eq_false (fun h : GluP g => hn (fun p hp => h.2.1 p (by rw [List.drop_zero] at hp; exact hp)))]
  rw [e] at h
  simpa [spec_IsGluing.f] using h

/-! twoS -/
theorem twoS_in (set : Int) (g : List (List Int)) (hg : GluP g) (r : Bool) (hn : ¬ Fine set g → Ev (fun k => spec_IsTwoSided.l0 k g (wrap64 (set + 1))) r) : ∀ (d y : Nat) (b : Bool), y + d = 9 → 1 ≤ y → (b = true ↔ ∀ z, 1 ≤ z → z < y → sgnV set g z = 0) → Ev (fun k => spec_IsTwoSided.l1 k g set b y) (if Fine set g then true else r) := by
  intro d
  induction d with
  | zero =>
    intro y b hy h1 hb
    have hf : b = true ↔ Fine set g := by
      rw [hb]
      unfold Fine
      constructor
      · intro h z hz1 hz2; exact (sgnV_zero set g z).1 (h z hz1 (by omega))
      · intro h z hz1 hz2; exact (sgnV_zero set g z).2 (h z hz1 (by omega))
    by_cases hF : Fine set g
    · rw [if_pos hF]
      refine Ev.step (f := fun _ => some true) (fun k => ?_) (Ev.now _)
      simp only [spec_IsTwoSided.l1]; rw [if_neg (by omega), if_pos (hf.2 hF)]
    · rw [if_neg hF]
      refine Ev.step (fun k => ?_) (hn hF)
      simp only [spec_IsTwoSided.l1]; rw [if_neg (by omega), if_neg (fun h => hF (hf.1 h))]
  | succ d ih =>
    intro y b hy h1 hb
    cases b with
    | true =>
      have hb' := hb.1 rfl
      refine Ev.step (f := fun k => (spec_l3Signs.f k g set y).bind fun t => spec_IsTwoSided.l1 k g set (t == 0) ((y + 1 : Nat) : Int)) (fun k => ?_) (Ev.bind (signsS_ev set y g hg) (ih (y + 1) (sgnV set g y == 0) (by omega) (by omega) ?_))
      · simp only [spec_IsTwoSided.l1]; rw [if_pos (by omega), if_pos trivial, w64s (show y < 9 by omega) (by omega)]
      · rw [beq_iff_eq]
        constructor
        · intro h z hz1 hz2
          rcases Nat.lt_or_ge z y with hz | hz
          · exact hb' z hz1 hz
          · rw [show z = y by omega]; exact h
        · intro h; exact h y h1 (by omega)
    | false =>
      refine Ev.step (fun k => ?_) (ih (y + 1) false (by omega) (by omega) ?_)
      · simp only [spec_IsTwoSided.l1]; rw [if_pos (by omega), if_neg (by simp), w64s (show y < 9 by omega) (by omega)]
      · constructor
        · intro h; cases h
        · intro h; exact hb.2 fun z hz1 hz2 => h z hz1 (by omega)
theorem twoS_l (g : List (List Int)) (hg : GluP g) : ∀ (d s : Nat), s + d = 2 ^ g.length → Ev (fun k => spec_IsTwoSided.l0 k g s) (decide (TwoFrom g s)) := by
  intro d
  have hp := pow_le16 g.length hg.1.2
  have hsh := shl_one g.length hg.1.2
  have hu := u64nat g.length (by have := hg.1.2; omega)
  induction d with
  | zero =>
    intro s hs
    rw [decide_eq_false (by rintro ⟨t, h1, h2, _⟩; omega)]
    refine Ev.step (f := fun _ => some false) (fun k => ?_) (Ev.now _)
    simp only [spec_IsTwoSided.l0, hu, hsh]; rw [if_pos (by omega), if_neg (by omega)]
  | succ d ih =>
    intro s hs
    have h1 := ih (s + 1) (by omega)
    have h2 := twoS_in (s : Int) g hg (decide (TwoFrom g (s + 1))) (fun _ => by rw [show wrap64 ((s : Int) + 1) = ((s + 1 : Nat) : Int) from w64s (show s < 17 by omega) (by omega)]; exact h1) 8 1 true (by omega) (by omega) (by simp; omega)
    have e : (if Fine (s : Int) g then true else decide (TwoFrom g (s + 1))) = decide (TwoFrom g s) := by
      split
      · rename_i hf
        exact (decide_eq_true (show TwoFrom g s from ⟨s, Nat.le_refl _, by omega, hf⟩)).symm
      · rename_i hf
        rw [decide_eq_decide]
        constructor
        · rintro ⟨t, h3, h4, h5⟩; exact ⟨t, by omega, h4, h5⟩
        · rintro ⟨t, h3, h4, h5⟩
          rcases Nat.eq_or_lt_of_le h3 with rfl | h6
          · exact absurd h5 hf
          · exact ⟨t, h6, h4, h5⟩
    rw [e] at h2
    refine Ev.step (fun k => ?_) h2
    simp only [spec_IsTwoSided.l0, hu, hsh]; rw [if_pos (by omega), if_pos (by omega)]; rfl
theorem twoS_ev (g : List (List Int)) (hg : g.length ≤ 1048576) (hb : g.flatten.length ≤ 1048576) : Ev (fun k => spec_IsTwoSided.f k g) (decide (Two g)) := by
  unfold spec_IsTwoSided.f
  refine Ev.bind (isGluingS_ev g hg hb) ?_
  by_cases h : GluP g
  · rw [decide_eq_true h]
    simp only [if_true]
    have e : decide (Two g) = decide (TwoFrom g 0) := decide_eq_decide.2 ⟨fun h => h.2, fun h' => ⟨h, h'⟩⟩
    rw [e]
    exact twoS_l g h (2 ^ g.length) 0 (by omega)
  · rw [decide_eq_false h, decide_eq_false (fun h' : Two g => h h'.1)]
    exact Ev.now _

/-! lastL -/
/-- The signs that were met last. -/
def lastL (L : List (Nat × Int)) : List Int := (List.range 9).map fun y => ((sgs y L).getLast?).getD 0
theorem lastL_length (L : List (Nat × Int)) : (lastL L).length = 9 := by simp [lastL]
theorem lastL_nil : lastL [] = List.replicate 9 0 := by decide
theorem lastL_rd (L : List (Nat × Int)) {y : Nat} (h : y < 9) : rd (lastL L) (y : Int) = ((sgs y L).getLast?).getD 0 := by
  rw [rd_lt (by rw [lastL_length]; exact h)]
  simp [lastL]
theorem lastL_snoc (L : List (Nat × Int)) (z : Nat) (s : Int) : (lastL L).set z s = lastL (L ++ [(z, s)]) := by
  refine List.ext_getElem (by simp [lastL_length]) fun y h1 h2 => ?_
  have hy : y < 9 := by rw [lastL_length] at h2; exact h2
  have e1 : (lastL (L ++ [(z, s)]))[y] = ((sgs y (L ++ [(z, s)])).getLast?).getD 0 := by simp [lastL]
  refine Eq.trans ?_ e1.symm
  rw [List.getElem_set, sgs_append, sgs_one]
  by_cases h : z = y
  · subst h; simp
  · rw [if_neg h, if_neg h]; simp [lastL]
/-- No letter has met itself so far. -/
def altB (L : List (Nat × Int)) : Prop := ∀ y, y < 9 → alt (sgs y L) = true
theorem altB_snoc (L : List (Nat × Int)) (z : Nat) (s : Int) (hz : z < 9) : altB (L ++ [(z, s)]) ↔ altB L ∧ (sgs z L).getLast? ≠ some s := by
  unfold altB
  constructor
  · intro h
    have hz' := h z hz
    rw [sgs_append, sgs_one, if_pos rfl, alt_snoc] at hz'
    simp only [Bool.and_eq_true, decide_eq_true_eq] at hz'
    refine ⟨fun y hy => ?_, hz'.2⟩
    have := h y hy
    rw [sgs_append, sgs_one] at this
    split at this
    · rw [alt_snoc] at this
      simp only [Bool.and_eq_true] at this
      exact this.1
    · simpa using this
  · rintro ⟨h, hl⟩ y hy
    rw [sgs_append, sgs_one]
    split
    · rename_i he; subst he
      rw [alt_snoc, h z hz]
      simpa using hl
    · simpa using h y hy

/-! fewI -/
theorem fewI_l (l : List Int) : ∀ (d i : Nat), i + d = 9 → Ev (fun k => impl_IsGluing.l1 k (usesL l) 9 i) (decide (Few l i)) := by
  intro d
  induction d with
  | zero =>
    intro i hi
    rw [decide_eq_true (show Few l i from fun y h1 h2 => by omega)]
    refine Ev.step (f := fun _ => some true) (fun k => ?_) (Ev.now _)
    simp only [impl_IsGluing.l1]; rw [if_neg (by omega)]
  | succ d ih =>
    intro i hi
    by_cases hc : cnt l i ≤ 2
    · have e : Few l i ↔ Few l (i + 1) := ⟨fun h y h1 h2 => h y (by omega) h2, fun h y h1 h2 => by
        rcases Nat.eq_or_lt_of_le h1 with rfl | h3
        · exact hc
        · exact h y h3 h2⟩
      rw [decide_eq_decide.2 e]
      refine Ev.step (fun k => ?_) (ih (i + 1) (by omega))
      simp only [impl_IsGluing.l1, usesL_length, usesL_rd l (show i < 9 by omega)]
      rw [if_pos (by omega), if_pos (by omega), if_pos (by omega), if_neg (by omega), w64s (show i < 9 by omega) (by omega)]
    · rw [decide_eq_false (show ¬ Few l i from fun h => hc (h i (Nat.le_refl _) (by omega)))]
      refine Ev.step (f := fun _ => some false) (fun k => ?_) (Ev.now _)
      simp only [impl_IsGluing.l1, usesL_length, usesL_rd l (show i < 9 by omega)]
      rw [if_pos (by omega), if_pos (by omega), if_pos (by omega), if_pos (by omega)]

/-! sizeI -/
theorem size_eq {x : Int} (h : LetP x) : impl_size.f x = some (x.natAbs : Int) := by
  unfold impl_size.f
  rw [w64neg h]
  unfold mx
  congr 1
  omega

/-! usesI -/
theorem usesI_row (g : List (List Int)) (hg : g.length ≤ 1048576) (p : Nat) (hp : p < g.length) (hl : ∀ x ∈ g[p], LetP x) (pre : List Int) (hb : pre.length + g[p].length ≤ 1048576) (r : List Int) (h : Ev (fun k => impl_letterCounts.l0 k (usesL (pre ++ g[p])) g g.length ((p + 1 : Nat) : Int)) r) :
    ∀ (d i : Nat), i + d = g[p].length → Ev (fun k => impl_letterCounts.l1 k (usesL (pre ++ g[p].take i)) g g.length p g[p] g[p].length i) r := by
  intro d
  induction d with
  | zero =>
    intro i hi
    rw [List.take_of_length_le (by omega)]
    refine Ev.step (fun k => ?_) h
    simp only [impl_letterCounts.l1]
    rw [if_neg (by omega), w64s hp (by omega)]
  | succ d ih =>
    intro i hi
    have hlt : i < g[p].length := by omega
    have hx := hl g[p][i] (List.getElem_mem hlt)
    have ha := hx.abs
    have hc := cnt_le (pre ++ g[p].take i) g[p][i].natAbs
    rw [List.length_append, List.length_take] at hc
    have hw : wrap64 ((cnt (pre ++ g[p].take i) g[p][i].natAbs : Int) + 1) = (cnt (pre ++ g[p].take i) g[p][i].natAbs : Int) + 1 := w64 (by omega) (by omega)
    have := ih (i + 1) (by omega)
    rw [List.take_succ_eq_append_getElem hlt, ← List.append_assoc, ← usesL_snoc] at this
    refine Ev.step (fun k => ?_) this
    simp only [impl_letterCounts.l1, rd_lt hlt, size_eq hx, Option.bind_some, usesL_length]
    rw [if_pos (by omega), if_pos (by omega), if_pos (by omega), if_pos (by omega), if_pos (by omega), usesL_rd _ (by omega), hw, w64s hlt (by omega), Int.toNat_natCast]
theorem usesI_l (g : List (List Int)) (hg : g.length ≤ 1048576) (hl : ∀ p ∈ g, ∀ x ∈ p, LetP x) (hb : g.flatten.length ≤ 1048576) : ∀ (d p : Nat), p + d = g.length → Ev (fun k => impl_letterCounts.l0 k (usesL (g.take p).flatten) g g.length p) (usesL g.flatten) := by
  intro d
  induction d with
  | zero =>
    intro p hp
    rw [List.take_of_length_le (by omega)]
    refine Ev.step (f := fun _ => some (usesL g.flatten)) (fun k => ?_) (Ev.now _)
    simp only [impl_letterCounts.l0]; rw [if_neg (by omega)]
  | succ d ih =>
    intro p hp
    have hlt : p < g.length := by omega
    have h1 := ih (p + 1) (by omega)
    rw [flat_take_succ hlt] at h1
    have h2 := usesI_row g hg p hlt (hl _ (List.getElem_mem hlt)) (g.take p).flatten (by have := flat_take_len g (p + 1); rw [flat_take_succ hlt, List.length_append] at this; omega) _ h1 g[p].length 0 (by omega)
    rw [List.take_zero, List.append_nil] at h2
    refine Ev.step (fun k => ?_) h2
    simp only [impl_letterCounts.l0, rdL_lt hlt]; rw [if_pos (by omega), if_pos (by omega), if_pos (by omega)]; rfl
theorem usesI_ev (g : List (List Int)) (hg : g.length ≤ 1048576) (hl : ∀ p ∈ g, ∀ x ∈ p, LetP x) (hb : g.flatten.length ≤ 1048576) : Ev (fun k => impl_letterCounts.f k g) (usesL g.flatten) := by
  refine Ev.congr (fun k => ?_) (usesI_l g hg hl hb g.length 0 (by omega))
  unfold impl_letterCounts.f
  rw [if_pos (by omega), List.take_zero, List.flatten_nil, usesL_nil]; rfl

/-! isGluingI -/
theorem isGluingI_l (g : List (List Int)) (hg : g.length ≤ 1048576) (hb : g.flatten.length ≤ 1048576) (r : Bool) (hr : RowsP g 0 → (Ev (fun k => impl_IsGluing.l0 k g (g.flatten.length : Nat) g g.length g.length) r)) : ∀ (d p : Nat), p + d = g.length → (RowsP g p ↔ RowsP g 0) → Ev (fun k => impl_IsGluing.l0 k g (((g.take p).flatten.length : Nat) : Int) g g.length p) (if RowsP g 0 then r else false) := by
  intro d
  induction d with
  | zero =>
    intro p hp hrow
    have h0 : RowsP g 0 := hrow.1 (by unfold RowsP; rw [List.drop_of_length_le (by omega)]; simp)
    rw [if_pos h0, List.take_of_length_le (by omega), show p = g.length by omega]
    exact hr h0
  | succ d ih =>
    intro p hp hrow
    have hlt : p < g.length := by omega
    have hs := rowsP_succ hlt
    have hxl : g[p].length ≤ 1048576 := by have := flat_take_len g (p + 1); rw [flat_take_succ hlt, List.length_append] at this; omega
    by_cases hz : g[p] = []
    · rw [if_neg (fun h0 => (hs.1 (hrow.2 h0)).1.1 hz)]
      refine Ev.step (f := fun _ => some false) (fun k => ?_) (Ev.now _)
      simp only [impl_IsGluing.l0, rdL_lt hlt, hz]
      rw [if_pos (by omega), if_pos (by omega), if_pos (by omega), if_pos (by simp)]
    have hzl : 0 < g[p].length := List.length_pos_iff.2 hz
    have hw := (isWord_ev g[p] hxl).2
    refine Ev.step (f := fun k => (impl_IsWord.f k g[p]).bind fun t => if t = true then impl_IsGluing.l0 k g (wrap64 ((((g.take p).flatten.length : Nat) : Int) + (g[p].length : Int))) g g.length ((p + 1 : Nat) : Int) else some false) (fun k => ?_) (Ev.bind hw ?_)
    · simp only [impl_IsGluing.l0, rdL_lt hlt]
      rw [if_pos (by omega), if_pos (by omega), if_pos (by omega), if_neg (by omega), w64s hlt (by omega)]
    · by_cases hwp : WordP g[p]
      · rw [decide_eq_true hwp]
        simp only [if_true]
        have h1 := ih (p + 1) (by omega) ⟨fun h => hrow.1 (hs.2 ⟨⟨hz, hwp⟩, h⟩), fun h => (hs.1 (hrow.2 h)).2⟩
        have hl : ((g.take (p + 1)).flatten.length : Nat) = (g.take p).flatten.length + g[p].length := by rw [flat_take_succ hlt, List.length_append]
        have hle := flat_take_len g (p + 1)
        have e : wrap64 ((((g.take p).flatten.length : Nat) : Int) + (g[p].length : Int)) = (((g.take (p + 1)).flatten.length : Nat) : Int) := by
          rw [w64 (by omega) (by omega)]; omega
        rw [e]
        exact h1
      · rw [decide_eq_false hwp, if_neg (fun h0 => hwp (hs.1 (hrow.2 h0)).1.2)]
        exact Ev.now _
theorem isGluingI_ev (g : List (List Int)) (hg : g.length ≤ 1048576) (hb : g.flatten.length ≤ 1048576) : Ev (fun k => impl_IsGluing.f k g) (decide (GluP g)) := by
  unfold impl_IsGluing.f
  simp only [within_eq, Option.bind_some]
  by_cases hl : (1 : Int) ≤ g.length ∧ (g.length : Int) ≤ 4
  case neg =>
    rw [decide_eq_false hl, decide_eq_false (fun h : GluP g => hl ⟨by have := h.1.1; omega, by have := h.1.2; omega⟩)]
    exact Ev.now _
  rw [decide_eq_true hl]
  simp only [if_true]
  have hend : RowsP g 0 → Ev (fun k => impl_IsGluing.l0 k g (g.flatten.length : Nat) g g.length g.length) (decide (GluP g)) := by
    intro h0
    have h0' : ∀ p ∈ g, p ≠ [] ∧ WordP p := fun p hp => h0 p (by rw [List.drop_zero]; exact hp)
    by_cases h20 : (g.flatten.length : Int) > 20
    · rw [decide_eq_false (fun h : GluP g => by have := h.2.2.1; omega)]
      refine Ev.step (f := fun _ => some false) (fun k => ?_) (Ev.now _)
      simp only [impl_IsGluing.l0]; rw [if_neg (by omega), if_pos h20]
    · have e : Few g.flatten 0 ↔ GluP g := ⟨fun h => ⟨⟨by omega, by omega⟩, h0', by omega, fun y hy => h y (by omega) hy⟩, fun h y _ hy => h.2.2.2 y hy⟩
      rw [← decide_eq_decide.2 e]
      refine Ev.step (f := fun k => (impl_letterCounts.f k g).bind fun t => impl_IsGluing.l1 k t (t.length : Int) 0) (fun k => ?_) (Ev.bind (usesI_ev g hg (fun p hp => (h0' p hp).2.1) hb) ?_)
      · simp only [impl_IsGluing.l0]; rw [if_neg (by omega), if_neg h20]
      · simp only [usesL_length]
        exact fewI_l g.flatten 9 0 (by omega)
  have h := isGluingI_l g hg hb _ hend g.length 0 (by omega) Iff.rfl
  have e : (if RowsP g 0 then decide (GluP g) else false) = decide (GluP g) := by
    split
    · rfl
    · rename_i hn
      rw [decide_eq_false (fun h : GluP g => hn (fun p hp => h.2.1 p (by rw [List.drop_zero] at hp; exact hp)))]
  rw [e] at h
  simpa using h

/-! twoI -/
theorem sgn_same {x : Int} (h : LetP x) (set : Int) (p : Nat) : ((decide (x < 0) != (Go.bits .and .i64 (shr .i64 set (p : Int)) 1 == 1)) = true ∧ sg set p x = -1) ∨ (¬ (decide (x < 0) != (Go.bits .and .i64 (shr .i64 set (p : Int)) 1 == 1)) = true ∧ sg set p x = 1) := by
  unfold sg tb
  generalize (Go.bits .and .i64 (shr .i64 set (p : Int)) 1 == 1) = b
  have h0 := h.1
  by_cases hx : x > 0
  · have h1 : ¬ x < 0 := by omega
    cases b <;> simp [hx, h1]
  · have h1 : x < 0 := by omega
    cases b <;> simp [hx, h1]
theorem twoI_row (set B : Int) (g : List (List Int)) (hg : GluP g) (p : Nat) (hp : p < g.length) (pre : List (Nat × Int)) (r : Bool)
    (h : ∀ b : Bool, (b = true ↔ altB (pre ++ occR set p g[p])) → Ev (fun k => impl_IsTwoSided.l1 k g set (lastL (pre ++ occR set p g[p])) b B set g g.length ((p + 1 : Nat) : Int)) r) :
    ∀ (d i : Nat) (b : Bool), i + d = g[p].length → (b = true ↔ altB (pre ++ occR set p (g[p].take i))) → Ev (fun k => impl_IsTwoSided.l2 k g set (lastL (pre ++ occR set p (g[p].take i))) b p B set g g.length p g[p] g[p].length i) r := by
  intro d
  have hl := hg.let g[p] (List.getElem_mem hp)
  have h4 := hg.1.2
  have h24 := (hg.2.1 g[p] (List.getElem_mem hp)).2.2
  induction d with
  | zero =>
    intro i b hi hb
    rw [List.take_of_length_le (by omega)] at hb ⊢
    refine Ev.step (fun k => ?_) (h b hb)
    simp only [impl_IsTwoSided.l2]
    rw [if_neg (by omega), w64s hp (by omega)]
  | succ d ih =>
    intro i b hi hb
    have hlt : i < g[p].length := by omega
    have hx := hl g[p][i] (List.getElem_mem hlt)
    have ha := hx.abs
    have eo : occR set p (g[p].take (i + 1)) = occR set p (g[p].take i) ++ [(g[p][i].natAbs, sg set p g[p][i])] := occR_snoc set p g[p] i hlt
    have hs1 := sg_one set p g[p][i]
    -- behind the sign
    have hj : Ev (fun k => impl_IsTwoSided.j3 k g set (lastL (pre ++ occR set p (g[p].take i))) b p g[p][i] (sg set p g[p][i]) B set g g.length p g[p] g[p].length i) r := by
      have hrd := lastL_rd (pre ++ occR set p (g[p].take i)) (show g[p][i].natAbs < 9 by omega)
      have hal := altB_snoc (pre ++ occR set p (g[p].take i)) g[p][i].natAbs (sg set p g[p][i]) (by omega)
      have hls := lastL_snoc (pre ++ occR set p (g[p].take i)) g[p][i].natAbs (sg set p g[p][i])
      rw [List.append_assoc, ← eo] at hal hls
      have hq : ((sgs g[p][i].natAbs (pre ++ occR set p (g[p].take i))).getLast?).getD 0 = sg set p g[p][i] ↔ (sgs g[p][i].natAbs (pre ++ occR set p (g[p].take i))).getLast? = some (sg set p g[p][i]) := by
        cases (sgs g[p][i].natAbs (pre ++ occR set p (g[p].take i))).getLast? with
        | none => simp; omega
        | some v => simp
      by_cases he : ((sgs g[p][i].natAbs (pre ++ occR set p (g[p].take i))).getLast?).getD 0 = sg set p g[p][i]
      · refine Ev.step (fun k => ?_) (ih (i + 1) false (by omega) ?_)
        · simp only [impl_IsTwoSided.j3, size_eq hx, Option.bind_some, lastL_length, hrd]
          rw [if_pos (by omega), if_pos (by omega), if_pos he, Int.toNat_natCast, hls, w64s hlt (by omega), if_pos (by omega), if_pos (by omega)]
        · constructor
          · intro hf; cases hf
          · intro hh; exact absurd (hq.1 he) (hal.1 hh).2
      · refine Ev.step (fun k => ?_) (ih (i + 1) b (by omega) ?_)
        · simp only [impl_IsTwoSided.j3, size_eq hx, Option.bind_some, lastL_length, hrd]
          rw [if_pos (by omega), if_pos (by omega), if_neg he, Int.toNat_natCast, hls, w64s hlt (by omega), if_pos (by omega), if_pos (by omega)]
        · rw [hb, hal]
          exact ⟨fun hh => ⟨hh, fun hc => he (hq.2 hc)⟩, fun hh => hh.1⟩
    rcases sgn_same hx set p with ⟨h1, h2⟩ | ⟨h1, h2⟩
    · rw [h2] at hj
      refine Ev.step (fun k => ?_) hj
      simp only [impl_IsTwoSided.l2, rd_lt hlt]
      rw [if_pos (by omega), if_pos (by omega), if_pos (by omega), if_pos (by omega), if_pos h1]
    · rw [h2] at hj
      refine Ev.step (fun k => ?_) hj
      simp only [impl_IsTwoSided.l2, rd_lt hlt]
      rw [if_pos (by omega), if_pos (by omega), if_pos (by omega), if_pos (by omega), if_neg h1]
theorem fine_alt (set : Int) (g : List (List Int)) (hg : GluP g) : altB (occ set g g.length) ↔ Fine set g := by
  have hlen : ∀ y, y < 9 → (sgs y (occ set g g.length)).length ≤ 2 := by
    intro y hy
    rw [sgs_occ_length y set g g.length (Nat.le_refl _), List.take_length]
    exact hg.2.2.2 y hy
  unfold altB Fine
  constructor
  · intro h y h1 h2
    exact (alt_two (fun s hs => sgs_pm hs) (hlen y h2)).1 (h y h2)
  · intro h y h2
    rcases Nat.eq_zero_or_pos y with rfl | h1
    · have h0 : (sgs 0 (occ set g g.length)).length = 0 := by
        rw [sgs_occ_length 0 set g g.length (Nat.le_refl _), List.take_length]
        unfold cnt
        rw [List.countP_eq_zero]
        intro x hx
        obtain ⟨p, hp, hxp⟩ := List.mem_flatten.1 hx
        have := (hg.let p hp x hxp).abs
        simp
        omega
      rw [List.length_eq_zero_iff.1 h0]; rfl
    · exact (alt_two (fun s hs => sgs_pm hs) (hlen y h2)).2 (h y h1 h2)
theorem twoI_in (set B : Int) (g : List (List Int)) (hg : GluP g) (r : Bool) (hn : ¬ Fine set g → Ev (fun k => impl_IsTwoSided.l0 k g B (wrap64 (set + 1))) r) : ∀ (d p : Nat) (b : Bool), p + d = g.length → (b = true ↔ altB (occ set g p)) → Ev (fun k => impl_IsTwoSided.l1 k g set (lastL (occ set g p)) b B set g g.length p) (if Fine set g then true else r) := by
  intro d
  induction d with
  | zero =>
    intro p b hp hb
    have hpe : p = g.length := by omega
    subst hpe
    have hf := hb.trans (fine_alt set g hg)
    by_cases hF : Fine set g
    · rw [if_pos hF]
      refine Ev.step (f := fun _ => some true) (fun k => ?_) (Ev.now _)
      simp only [impl_IsTwoSided.l1]; rw [if_neg (by omega), if_pos (hf.2 hF)]
    · rw [if_neg hF]
      refine Ev.step (fun k => ?_) (hn hF)
      simp only [impl_IsTwoSided.l1]; rw [if_neg (by omega), if_neg (fun h => hF (hf.1 h))]
  | succ d ih =>
    intro p b hp hb
    have hlt : p < g.length := by omega
    have e : occ set g (p + 1) = occ set g p ++ occR set p g[p] := by
      show occ set g p ++ occR set p (g.getD p []) = _
      rw [getD_lt hlt]
    have h2 := twoI_row set B g hg p hlt (occ set g p) _ (fun b' hb' => by have := ih (p + 1) b' (by omega) (by rw [e]; exact hb'); rw [e] at this; exact this) g[p].length 0 b (by omega) (by rw [List.take_zero, show occR set p [] = [] from rfl, List.append_nil]; exact hb)
    rw [List.take_zero, show occR set p [] = [] from rfl, List.append_nil] at h2
    refine Ev.step (fun k => ?_) h2
    simp only [impl_IsTwoSided.l1, rdL_lt hlt]; rw [if_pos (by omega), if_pos (by omega), if_pos (by omega)]; rfl
theorem twoI_l (g : List (List Int)) (hg : GluP g) : ∀ (d s : Nat), s + d = 2 ^ g.length → Ev (fun k => impl_IsTwoSided.l0 k g ((2 ^ g.length : Nat) : Int) s) (decide (TwoFrom g s)) := by
  intro d
  have hp := pow_le16 g.length hg.1.2
  induction d with
  | zero =>
    intro s hs
    rw [decide_eq_false (by rintro ⟨t, h1, h2, _⟩; omega)]
    refine Ev.step (f := fun _ => some false) (fun k => ?_) (Ev.now _)
    simp only [impl_IsTwoSided.l0]; rw [if_neg (by omega)]
  | succ d ih =>
    intro s hs
    have h1 := ih (s + 1) (by omega)
    have h2 := twoI_in (s : Int) ((2 ^ g.length : Nat) : Int) g hg (decide (TwoFrom g (s + 1))) (fun _ => by rw [show wrap64 ((s : Int) + 1) = ((s + 1 : Nat) : Int) from w64s (show s < 17 by omega) (by omega)]; exact h1) g.length 0 true (by omega) (by simp [altB, occ, sgs, alt])
    have e : (if Fine (s : Int) g then true else decide (TwoFrom g (s + 1))) = decide (TwoFrom g s) := by
      split
      · rename_i hf
        exact (decide_eq_true (show TwoFrom g s from ⟨s, Nat.le_refl _, by omega, hf⟩)).symm
      · rename_i hf
        rw [decide_eq_decide]
        constructor
        · rintro ⟨t, h3, h4, h5⟩; exact ⟨t, by omega, h4, h5⟩
        · rintro ⟨t, h3, h4, h5⟩
          rcases Nat.eq_or_lt_of_le h3 with rfl | h6
          · exact absurd h5 hf
          · exact ⟨t, h6, h4, h5⟩
    rw [e, show lastL (occ (s : Int) g 0) = List.replicate 9 0 from lastL_nil] at h2
    refine Ev.step (fun k => ?_) h2
    simp only [impl_IsTwoSided.l0]; rw [if_pos (by omega), if_pos (by omega)]; rfl
theorem twoI_ev (g : List (List Int)) (hg : g.length ≤ 1048576) (hb : g.flatten.length ≤ 1048576) : Ev (fun k => impl_IsTwoSided.f k g) (decide (Two g)) := by
  unfold impl_IsTwoSided.f
  refine Ev.bind (isGluingI_ev g hg hb) ?_
  by_cases h : GluP g
  · rw [decide_eq_true h]
    simp only [if_true]
    have e : decide (Two g) = decide (TwoFrom g 0) := decide_eq_decide.2 ⟨fun h => h.2, fun h' => ⟨h, h'⟩⟩
    rw [e, shl_one g.length h.1.2]
    exact twoI_l g h (2 ^ g.length) 0 (by omega)
  · rw [decide_eq_false h, decide_eq_false (fun h' : Two g => h h'.1)]
    exact Ev.now _

/-! bulkF -/
theorem bulk_flat {g : List (List Int)} (h : bulk g ≤ 1048576) : g.length ≤ 1048576 ∧ g.flatten.length ≤ 1048576 := by
  unfold bulk at h
  rw [flat_len]
  omega

/-! law.FnExactIsTwoSided -/
theorem FnExactIsTwoSided (l : List (List Int)) (h1 : l.length ≤ maxLen) (h2 : ∀ x ∈ l, x.length ≤ maxLen ∧ ∀ n ∈ x, (Lit.int .i64 n).wf = true) : ∃ k, laws_FnExactIsTwoSided.f k l = some true := by
  refine Ev.rounds ?_
  unfold maxLen at h1 h2
  obtain ⟨v, hv, hb⟩ := szIntSS_ev l (by omega) (fun x hx => by have := (h2 x hx).1; omega)
  unfold laws_FnExactIsTwoSided.f
  refine Ev.bind hv ?_
  by_cases hn : v < 0
  · simp only [hn, if_true]; exact Ev.now _
  have hbl := hb (by omega)
  obtain ⟨hl1, hl2⟩ := bulk_flat hbl
  simp only [hn, if_false]
  have e1 := twoS_ev l hl1 hl2
  have e2 := twoI_ev l hl1 hl2
  have hT := toIntSS_ev l hbl
  refine Ev.bind hT (Ev.bind e1 (Ev.bind hT (Ev.bind e2 ?_)))
  simp only [bne_self_eq_false, Bool.false_eq_true, if_false]
  refine Ev.bind hT (Ev.bind (eqIntSS_same l hbl) ?_)
  exact Ev.now _

end Go.Proofs.Ytfknffpfjoalkaa.Pure
