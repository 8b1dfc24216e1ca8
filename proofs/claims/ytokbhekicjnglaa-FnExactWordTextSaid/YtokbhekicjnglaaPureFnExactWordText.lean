/- WordText of the program and WordText of the reference answer the same for every list of numbers, and the argument is left as it was. Conditions: those that the printed statement itself names (lengths and numbers that fit). -/
import Derived.Test.YtokbhekicjnglaaPFnExactWordTextx2
import Derived.Test.YtokbhekicjnglaaCom
namespace Go.Proofs.Ytokbhekicjnglaa.Pure
open Classical Go.RowKit Go.Proofs.Ytokbhekicjnglaa.PFnExactWordText Go.Proofs.YtokbhekicjnglaaW.PrintWords Go.Proofs.YtokbhekicjnglaaW.PrintLast Go.Proofs.Ytokbhekicjnglaa.Com

/-! toIntS -/
theorem toIntS_l (l : List Int) (hl : l.length ≤ 9223372036854775807) : ∀ (d i : Nat) (acc : List Int), i + d = l.length → acc.length = l.length → acc.take i = l.take i → Ev (fun k => laws_toIntS.l0 k l acc i) l := by
  intro d
  induction d with
  | zero =>
    intro i acc hi ha ht
    refine Ev.step (f := fun _ => some acc) (fun k => ?_) ?_
    · simp only [laws_toIntS.l0]; rw [if_neg (by omega)]
    · have e : acc = l := by
        have h1 := List.take_of_length_le (l := acc) (i := i) (by omega)
        have h2 := List.take_of_length_le (l := l) (i := i) (by omega)
        rw [← h1, ← h2, ht]
      rw [e]; exact Ev.now _
  | succ d ih =>
    intro i acc hi ha ht
    have hlt : i < l.length := by omega
    refine Ev.step (f := fun k => laws_toIntS.l0 k l (acc.set i l[i]) ((i + 1 : Nat) : Int)) (fun k => ?_) (ih (i + 1) (acc.set i l[i]) (by omega) (by simpa using ha) ?_)
    · simp only [laws_toIntS.l0]
      rw [if_pos (by omega), if_pos (by omega), if_pos (by omega), w64s hlt hl, rd_lt hlt, Int.toNat_natCast]
    · rw [List.take_succ_eq_append_getElem (by simp; omega), List.take_succ_eq_append_getElem hlt, List.take_set_of_le (Nat.le_refl i), ht]
      simp
theorem toIntS_ev (l : List Int) (hl : l.length ≤ 35184372088832) : Ev (fun k => laws_toIntS.f k l) l := by
  refine Ev.congr (f := fun k => laws_toIntS.l0 k l (List.replicate l.length 0) ((0 : Nat) : Int)) (fun k => ?_) (toIntS_l l (by omega) l.length 0 _ (by omega) (by simp) (by simp))
  unfold laws_toIntS.f
  rw [if_pos (by omega), if_pos (by omega), Int.toNat_natCast]; rfl

/-! eqIntS -/
theorem eqIntS_l (a b : List Int) (hn : a.length = b.length) (hl : a.length ≤ 9223372036854775807) : ∀ (d i : Nat), i + d = a.length → Ev (fun k => laws_eqIntS.l0 k a b i) (decide (a.drop i = b.drop i)) := by
  intro d
  induction d with
  | zero =>
    intro i hi
    refine Ev.step (f := fun _ => some true) (fun k => ?_) ?_
    · simp only [laws_eqIntS.l0]; rw [if_neg (by omega)]
    · rw [List.drop_of_length_le (by omega), List.drop_of_length_le (by omega)]; exact Ev.now _
  | succ d ih =>
    intro i hi
    have h1 : i < a.length := by omega
    have h2 : i < b.length := by omega
    have e1 : a.drop i = a[i] :: a.drop (i + 1) := List.drop_eq_getElem_cons h1
    have e2 : b.drop i = b[i] :: b.drop (i + 1) := List.drop_eq_getElem_cons h2
    by_cases he : a[i] = b[i]
    · refine Ev.step (f := fun k => laws_eqIntS.l0 k a b ((i + 1 : Nat) : Int)) (fun k => ?_) ?_
      · simp only [laws_eqIntS.l0]
        rw [if_pos (by omega), if_pos (by omega), if_pos (by omega), rd_lt h1, rd_lt h2, if_pos he, w64s h1 hl]
      · have hd : decide (a.drop i = b.drop i) = decide (a.drop (i + 1) = b.drop (i + 1)) := by
          rw [decide_eq_decide, e1, e2, he]; simp only [List.cons.injEq, true_and]
        rw [hd]; exact ih (i + 1) (by omega)
    · refine Ev.step (f := fun _ => some false) (fun k => ?_) ?_
      · simp only [laws_eqIntS.l0]
        rw [if_pos (by omega), if_pos (by omega), if_pos (by omega), rd_lt h1, rd_lt h2, if_neg he]
      · have hd : decide (a.drop i = b.drop i) = false := by
          refine decide_eq_false fun e => he ?_
          rw [e1, e2] at e
          exact (List.cons.inj e).1
        rw [hd]; exact Ev.now _
theorem eqIntS_ev (a b : List Int) (hl : a.length ≤ 9223372036854775807) : Ev (fun k => laws_eqIntS.f k a b) (decide (a = b)) := by
  by_cases hn : a.length = b.length
  · refine Ev.congr (f := fun k => laws_eqIntS.l0 k a b ((0 : Nat) : Int)) (fun k => ?_) (eqIntS_l a b hn hl a.length 0 (by omega))
    unfold laws_eqIntS.f; rw [if_pos (by omega)]; rfl
  · refine Ev.congr (f := fun _ => some false) (fun k => ?_) ?_
    · unfold laws_eqIntS.f; rw [if_neg (by omega)]
    · rw [decide_eq_false (fun e => hn (by rw [e]))]; exact Ev.now _
theorem eqIntS_same (a : List Int) (hl : a.length ≤ 9223372036854775807) : Ev (fun k => laws_eqIntS.f k a a) true := by simpa using eqIntS_ev a a hl

/-! within -/
theorem within_eq (a b c : Int) : impl_within.f a b c = some (decide (b ≤ a ∧ a ≤ c)) := by
  unfold impl_within.f
  split <;> simp <;> omega

/-! l1In -/
theorem l1In_eq (a b c : Int) : spec_l1In.f a b c = some (decide (b ≤ a ∧ a ≤ c)) := by
  unfold spec_l1In.f
  split <;> simp <;> omega

/-! letter -/
/-- A letter. -/
def LetP (x : Int) : Prop := x ≠ 0 ∧ -8 ≤ x ∧ x ≤ 8
theorem l2Letter_eq (x : Int) : spec_l2Letter.f x = some (decide (LetP x)) := by
  unfold spec_l2Letter.f
  simp only [l1In_eq, Option.bind_some]
  by_cases h : 1 ≤ x ∧ x ≤ 8
  · rw [decide_eq_true h, decide_eq_true (show LetP x from ⟨by omega, by omega, by omega⟩)]; rfl
  · rw [decide_eq_false h]
    simp only [Bool.false_eq_true, if_false]
    congr 1
    rw [decide_eq_decide]
    unfold LetP
    omega
theorem isLetter_eq (x : Int) : impl_isLetter.f x = some (decide (LetP x)) := by
  unfold impl_isLetter.f
  simp only [within_eq, Option.bind_some]
  split
  · rename_i h
    rw [decide_eq_false (fun hh : LetP x => hh.1 h)]
  · rename_i h
    congr 1
    rw [decide_eq_decide]
    unfold LetP
    omega

/-! isWord -/
/-- A word. -/
def WordP (l : List Int) : Prop := (∀ x ∈ l, LetP x) ∧ l.length ≤ 24
def WordFrom (l : List Int) (i : Nat) : Prop := (∀ x ∈ l.drop i, LetP x) ∧ l.length ≤ 24
theorem isWord_l (l : List Int) (hl : l.length ≤ 9223372036854775807) : ∀ (d i : Nat), i + d = l.length → Ev (fun k => spec_IsWord.l0 k l i) (decide (WordFrom l i)) ∧ Ev (fun k => impl_IsWord.l0 k l l l.length i) (decide (WordFrom l i)) := by
  intro d
  induction d with
  | zero =>
    intro i hi
    have e : decide (WordFrom l i) = decide ((l.length : Int) ≤ 24) := by
      rw [decide_eq_decide]; unfold WordFrom; rw [List.drop_of_length_le (by omega)]
      simp
      omega
    rw [e]
    refine ⟨Ev.step (f := fun _ => some (decide ((l.length : Int) ≤ 24))) (fun k => ?_) (Ev.now _), Ev.step (f := fun _ => some (decide ((l.length : Int) ≤ 24))) (fun k => ?_) (Ev.now _)⟩
    · simp only [spec_IsWord.l0]; rw [if_neg (by omega)]
    · simp only [impl_IsWord.l0]; rw [if_neg (by omega)]
  | succ d ih =>
    intro i hi
    have hlt : i < l.length := by omega
    have e1 := rd_lt hlt
    have ed : l.drop i = l[i] :: l.drop (i + 1) := List.drop_eq_getElem_cons hlt
    by_cases hp : LetP l[i]
    · have e : decide (WordFrom l i) = decide (WordFrom l (i + 1)) := by
        rw [decide_eq_decide]; unfold WordFrom; rw [ed]
        simp only [List.mem_cons, forall_eq_or_imp, hp, true_and]
      rw [e]
      obtain ⟨h1, h2⟩ := ih (i + 1) (by omega)
      refine ⟨Ev.step (fun k => ?_) h1, Ev.step (fun k => ?_) h2⟩
      · simp only [spec_IsWord.l0, l2Letter_eq, e1, Option.bind_some, decide_eq_true hp]
        rw [if_pos (by omega), if_pos (by omega), if_pos trivial, w64s hlt hl]
      · simp only [impl_IsWord.l0, isLetter_eq, e1, Option.bind_some, decide_eq_true hp]
        rw [if_pos (by omega), if_pos (by omega), if_pos (by omega), if_pos trivial, w64s hlt hl]
    · have e : decide (WordFrom l i) = false := by
        refine decide_eq_false fun h => hp (h.1 _ ?_)
        rw [ed]; exact List.mem_cons_self
      rw [e]
      refine ⟨Ev.step (f := fun _ => some false) (fun k => ?_) (Ev.now _), Ev.step (f := fun _ => some false) (fun k => ?_) (Ev.now _)⟩
      · simp only [spec_IsWord.l0, l2Letter_eq, e1, Option.bind_some, decide_eq_false hp]
        rw [if_pos (by omega), if_pos (by omega)]; rfl
      · simp only [impl_IsWord.l0, isLetter_eq, e1, Option.bind_some, decide_eq_false hp]
        rw [if_pos (by omega), if_pos (by omega), if_pos (by omega)]; rfl
theorem isWord_ev (l : List Int) (hl : l.length ≤ 1048576) : Ev (fun k => spec_IsWord.f k l) (decide (WordP l)) ∧ Ev (fun k => impl_IsWord.f k l) (decide (WordP l)) := by
  have := isWord_l l (by omega) l.length 0 (by omega)
  have e : decide (WordFrom l 0) = decide (WordP l) := by rw [decide_eq_decide]; rfl
  rw [e] at this
  exact this

/-! neg -/
theorem LetP.neg {x : Int} (h : LetP x) : LetP (-x) := by unfold LetP at *; omega
theorem w64neg {x : Int} (h : LetP x) : wrap64 (-x) = -x := w64 (by unfold LetP at h; omega) (by unfold LetP at h; omega)

/-! wordText -/
/-- The byte of a letter, as a text. -/
def ltx (x : Int) : ByteArray := strOfNums [if x > 0 then 96 + x else 64 - x]
def txt (l : List Int) : ByteArray := l.foldl (fun t x => t ++ ltx x) (⟨#[]⟩ : ByteArray)
theorem letter_cases {x : Int} (h : LetP x) : x = 1 ∨ x = 2 ∨ x = 3 ∨ x = 4 ∨ x = 5 ∨ x = 6 ∨ x = 7 ∨ x = 8 ∨ x = -1 ∨ x = -2 ∨ x = -3 ∨ x = -4 ∨ x = -5 ∨ x = -6 ∨ x = -7 ∨ x = -8 := by
  unfold LetP at h; omega
theorem ltx_size (x : Int) : (ltx x).size = 1 := rfl
theorem txt_size (l : List Int) : ∀ t : ByteArray, (l.foldl (fun t x => t ++ ltx x) t).size = t.size + l.length := by
  induction l with
  | nil => intro t; simp
  | cons x l ih => intro t; rw [List.foldl_cons, ih, ByteArray.size_append, ltx_size, List.length_cons]; omega
theorem ltx_pos {x : Int} (h : LetP x) (h0 : x > 0) : (⟨#[97, 98, 99, 100, 101, 102, 103, 104]⟩ : ByteArray).extract (x - 1).toNat x.toNat = ltx x := by
  rcases letter_cases h with rfl | rfl | rfl | rfl | rfl | rfl | rfl | rfl | rfl | rfl | rfl | rfl | rfl | rfl | rfl | rfl <;> first | (exfalso; omega) | decide +kernel
theorem ltx_neg {x : Int} (h : LetP x) (h0 : ¬ x > 0) : (⟨#[65, 66, 67, 68, 69, 70, 71, 72]⟩ : ByteArray).extract (-x - 1).toNat (-x).toNat = ltx x := by
  rcases letter_cases h with rfl | rfl | rfl | rfl | rfl | rfl | rfl | rfl | rfl | rfl | rfl | rfl | rfl | rfl | rfl | rfl <;> first | (exfalso; omega) | decide +kernel
theorem letterText_eq {x : Int} (h : LetP x) : impl_letterText.f x = some (ltx x) := by
  unfold impl_letterText.f ltx
  unfold LetP at h
  split
  · rw [w64 (x := 97 + x) (by omega) (by omega), w64 (by omega) (by omega), show (97 + x - 1) % 256 = 96 + x by omega]
  · rw [w64 (x := 65 - x) (by omega) (by omega), w64 (by omega) (by omega), show (65 - x - 1) % 256 = 64 - x by omega]
theorem textS_l (l : List Int) (hl : l.length ≤ 1048576) (hp : ∀ x ∈ l, LetP x) : ∀ (d i : Nat) (t : ByteArray), i + d = l.length → t.size = i → Ev (fun k => spec_l2Text.l0 k l t i) ((l.drop i).foldl (fun t x => t ++ ltx x) t) := by
  intro d
  induction d with
  | zero =>
    intro i t hi ht
    rw [List.drop_of_length_le (by omega)]
    refine Ev.step (f := fun _ => some t) (fun k => ?_) (Ev.now _)
    simp only [spec_l2Text.l0]; rw [if_neg (by omega)]
  | succ d ih =>
    intro i t hi ht
    have hlt : i < l.length := by omega
    have ed : l.drop i = l[i] :: l.drop (i + 1) := List.drop_eq_getElem_cons hlt
    have hx := hp l[i] (List.getElem_mem hlt)
    have hn := w64neg hx
    have hx' := hx
    unfold LetP at hx'
    have h1 := ih (i + 1) (t ++ ltx l[i]) (by omega) (by rw [ByteArray.size_append, ltx_size, ht])
    rw [ed, List.foldl_cons]
    refine Ev.step (fun k => ?_) h1
    simp only [spec_l2Text.l0, rd_lt hlt, hn]
    by_cases h0 : l[i] > 0
    · have hw : wrap64 (l[i] - 1) = l[i] - 1 := w64 (by omega) (by omega)
      have hlx := ltx_pos hx h0
      simp only [hw, hlx]
      rw [if_pos (by omega), if_pos (by omega), if_pos h0, if_pos (by omega), if_pos (by omega), if_pos (by omega), if_pos (by rw [ltx_size]; omega), w64s hlt (by omega)]
    · have hw : wrap64 (-l[i] - 1) = -l[i] - 1 := w64 (by omega) (by omega)
      have hlx := ltx_neg hx h0
      simp only [hw, hlx]
      rw [if_pos (by omega), if_pos (by omega), if_neg h0, if_pos (by omega), if_pos (by omega), if_pos (by omega), if_pos (by rw [ltx_size]; omega), w64s hlt (by omega)]
theorem textI_l (l : List Int) (hl : l.length ≤ 1048576) (hp : ∀ x ∈ l, LetP x) : ∀ (d i : Nat) (t : ByteArray), i + d = l.length → t.size = i → Ev (fun k => impl_WordText.l0 k t l l.length i) (if l.length = 0 then (⟨#[45]⟩ : ByteArray) else (l.drop i).foldl (fun t x => t ++ ltx x) t) := by
  intro d
  induction d with
  | zero =>
    intro i t hi ht
    rw [List.drop_of_length_le (by omega)]
    have hl0 : t.toList = [] ↔ l.length = 0 := by
      rw [tol_nil]
      omega
    refine Ev.step (f := fun _ => some (if l.length = 0 then (⟨#[45]⟩ : ByteArray) else t)) (fun k => ?_) (Ev.now _)
    simp only [impl_WordText.l0]
    rw [if_neg (by omega)]
    by_cases h0 : l.length = 0
    · rw [if_pos (hl0.2 h0), if_pos h0]
    · rw [if_neg (fun h => h0 (hl0.1 h)), if_neg h0]
  | succ d ih =>
    intro i t hi ht
    have hlt : i < l.length := by omega
    have ed : l.drop i = l[i] :: l.drop (i + 1) := List.drop_eq_getElem_cons hlt
    have hx := hp l[i] (List.getElem_mem hlt)
    have h1 := ih (i + 1) (t ++ ltx l[i]) (by omega) (by rw [ByteArray.size_append, ltx_size, ht])
    rw [ed, List.foldl_cons]
    refine Ev.step (fun k => ?_) h1
    simp only [impl_WordText.l0, rd_lt hlt, letterText_eq hx, Option.bind_some]
    rw [if_pos (by omega), if_pos (by omega), if_pos (by omega), if_pos (by rw [ltx_size]; omega), w64s hlt (by omega)]
def textM (l : List Int) : ByteArray := if l.length = 0 then (⟨#[45]⟩ : ByteArray) else txt l
theorem wordText_ev (l : List Int) (hl : l.length ≤ 1048576) : ∃ r : ByteArray, Ev (fun k => spec_WordText.f k l) r ∧ Ev (fun k => impl_WordText.f k l) r ∧ (WordP l → r = textM l) ∧ (¬ WordP l → r = (⟨#[]⟩ : ByteArray)) := by
  obtain ⟨e1, e2⟩ := isWord_ev l hl
  unfold spec_WordText.f impl_WordText.f
  by_cases h : WordP l
  · rw [decide_eq_true h] at e1 e2
    refine ⟨textM l, Ev.bind e1 ?_, Ev.bind e2 ?_, fun _ => rfl, fun hn => absurd h hn⟩
    · simp only [if_true]
      unfold textM
      by_cases h0 : l.length = 0
      · have hq : ((l.length : Int) = 0) = True := eq_true (by omega)
        simp only [hq, if_true]; rw [if_pos h0]; exact Ev.now _
      · have hq : ((l.length : Int) = 0) = False := eq_false (by omega)
        simp only [hq, if_false]; rw [if_neg h0]
        exact Ev.bind (textS_l l hl h.1 l.length 0 _ (by omega) rfl) (Ev.now _)
    · simp only [if_true]
      exact textI_l l hl h.1 l.length 0 _ (by omega) rfl
  · rw [decide_eq_false h] at e1 e2
    exact ⟨_, Ev.bind e1 (Ev.now _), Ev.bind e2 (Ev.now _), fun hh => absurd hh h, fun _ => rfl⟩

/-! law.FnExactWordText -/
theorem FnExactWordText : laws_FnExactWordText.Pure := by
  intro l h1 h2 h3
  by_cases hb : (l.length : Int) > 1048576
  · exact ⟨0, by unfold laws_FnExactWordText.f; rw [if_pos hb]⟩
  refine Ev.rounds ?_
  unfold laws_FnExactWordText.f
  simp only [if_neg hb]
  obtain ⟨r, e1, e2, -, -⟩ := wordText_ev l (by omega)
  have hT := toIntS_ev l (by omega)
  refine Ev.bind hT (Ev.bind e1 (Ev.bind hT (Ev.bind e2 ?_)))
  simp only [if_true]
  refine Ev.bind hT (Ev.bind (eqIntS_same l (by omega)) ?_)
  exact Ev.now _

end Go.Proofs.Ytokbhekicjnglaa.Pure
