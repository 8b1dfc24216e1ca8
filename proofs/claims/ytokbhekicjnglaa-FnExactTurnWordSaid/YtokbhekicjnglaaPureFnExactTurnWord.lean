/- TurnWord of the program and TurnWord of the reference answer the same for all arguments; the arguments are left as they were and share nothing with the results. Conditions: those that the printed statement itself names (lengths and numbers that fit). -/
import Derived.Test.YtokbhekicjnglaaQFnExactTurnWordx3
import Derived.Test.YtokbhekicjnglaaCom
namespace Go.Proofs.Ytokbhekicjnglaa.Pure
open Classical Go.RowKit Go.Proofs.Ytokbhekicjnglaa.QFnExactTurnWord Go.Proofs.YtokbhekicjnglaaW.PrintWords Go.Proofs.YtokbhekicjnglaaW.PrintLast Go.Proofs.Ytokbhekicjnglaa.Com

/-! toIntS -/
theorem toIntS_l (l : List Int) (hl : l.length ≤ 9223372036854775807) : ∀ (d i : Nat) (acc : List Int), i + d = l.length → acc.length = l.length → acc.take i = l.take i → Ev (fun k => laws_toIntS.l0 k l acc i) l := by
  intro d
  induction d with
  | zero =>
    intro i acc hi ha ht
    refine Ev.step (f := fun _ => some acc) (fun k => ?_) ?_
    · simp only [laws_toIntS.l0]; rw [if_neg (by omega)]
    · have e : acc = l := by
        have h1 := List.take_of_length_le (l := acc) (i := i) (by omega)
        have h2 := List.take_of_length_le (l := l) (i := i) (by omega)
        rw [← h1, ← h2, ht]
      rw [e]; exact Ev.now _
  | succ d ih =>
    intro i acc hi ha ht
    have hlt : i < l.length := by omega
    refine Ev.step (f := fun k => laws_toIntS.l0 k l (acc.set i l[i]) ((i + 1 : Nat) : Int)) (fun k => ?_) (ih (i + 1) (acc.set i l[i]) (by omega) (by simpa using ha) ?_)
    · simp only [laws_toIntS.l0]
      rw [if_pos (by omega), if_pos (by omega), if_pos (by omega), w64s hlt hl, rd_lt hlt, Int.toNat_natCast]
    · rw [List.take_succ_eq_append_getElem (by simp; omega), List.take_succ_eq_append_getElem hlt, List.take_set_of_le (Nat.le_refl i), ht]
      simp
theorem toIntS_ev (l : List Int) (hl : l.length ≤ 35184372088832) : Ev (fun k => laws_toIntS.f k l) l := by
  refine Ev.congr (f := fun k => laws_toIntS.l0 k l (List.replicate l.length 0) ((0 : Nat) : Int)) (fun k => ?_) (toIntS_l l (by omega) l.length 0 _ (by omega) (by simp) (by simp))
  unfold laws_toIntS.f
  rw [if_pos (by omega), if_pos (by omega), Int.toNat_natCast]; rfl

/-! eqIntS -/
theorem eqIntS_l (a b : List Int) (hn : a.length = b.length) (hl : a.length ≤ 9223372036854775807) : ∀ (d i : Nat), i + d = a.length → Ev (fun k => laws_eqIntS.l0 k a b i) (decide (a.drop i = b.drop i)) := by
  intro d
  induction d with
  | zero =>
    intro i hi
    refine Ev.step (f := fun _ => some true) (fun k => ?_) ?_
    · simp only [laws_eqIntS.l0]; rw [if_neg (by omega)]
    · rw [List.drop_of_length_le (by omega), List.drop_of_length_le (by omega)]; exact Ev.now _
  | succ d ih =>
    intro i hi
    have h1 : i < a.length := by omega
    have h2 : i < b.length := by omega
    have e1 : a.drop i = a[i] :: a.drop (i + 1) := List.drop_eq_getElem_cons h1
    have e2 : b.drop i = b[i] :: b.drop (i + 1) := List.drop_eq_getElem_cons h2
    by_cases he : a[i] = b[i]
    · refine Ev.step (f := fun k => laws_eqIntS.l0 k a b ((i + 1 : Nat) : Int)) (fun k => ?_) ?_
      · simp only [laws_eqIntS.l0]
        rw [if_pos (by omega), if_pos (by omega), if_pos (by omega), rd_lt h1, rd_lt h2, if_pos he, w64s h1 hl]
      · have hd : decide (a.drop i = b.drop i) = decide (a.drop (i + 1) = b.drop (i + 1)) := by
          rw [decide_eq_decide, e1, e2, he]; simp only [List.cons.injEq, true_and]
        rw [hd]; exact ih (i + 1) (by omega)
    · refine Ev.step (f := fun _ => some false) (fun k => ?_) ?_
      · simp only [laws_eqIntS.l0]
        rw [if_pos (by omega), if_pos (by omega), if_pos (by omega), rd_lt h1, rd_lt h2, if_neg he]
      · have hd : decide (a.drop i = b.drop i) = false := by
          refine decide_eq_false fun e => he ?_
          rw [e1, e2] at e
          exact (List.cons.inj e).1
        rw [hd]; exact Ev.now _
theorem eqIntS_ev (a b : List Int) (hl : a.length ≤ 9223372036854775807) : Ev (fun k => laws_eqIntS.f k a b) (decide (a = b)) := by
  by_cases hn : a.length = b.length
  · refine Ev.congr (f := fun k => laws_eqIntS.l0 k a b ((0 : Nat) : Int)) (fun k => ?_) (eqIntS_l a b hn hl a.length 0 (by omega))
    unfold laws_eqIntS.f; rw [if_pos (by omega)]; rfl
  · refine Ev.congr (f := fun _ => some false) (fun k => ?_) ?_
    · unfold laws_eqIntS.f; rw [if_neg (by omega)]
    · rw [decide_eq_false (fun e => hn (by rw [e]))]; exact Ev.now _
theorem eqIntS_same (a : List Int) (hl : a.length ≤ 9223372036854775807) : Ev (fun k => laws_eqIntS.f k a a) true := by simpa using eqIntS_ev a a hl

/-! markIntS -/
theorem markIntS_l (n : Nat) (m : Int) (hm : 0 ≤ m) (hb : m + n ≤ 9223372036854775807) : ∀ (d i : Nat) (acc : List Int), i + d = n → acc.length = n → acc.take i = (from_ m n).take i → Ev (fun k => laws_markIntS.l0 k acc (m + i) i) (m + n, from_ m n) := by
  intro d
  induction d with
  | zero =>
    intro i acc hi ha ht
    refine Ev.step (f := fun _ => some (m + i, acc)) (fun k => ?_) ?_
    · simp only [laws_markIntS.l0]; rw [if_neg (by omega)]
    · have e : acc = from_ m n := by
        have h1 := List.take_of_length_le (l := acc) (i := i) (by omega)
        have h2 := List.take_of_length_le (l := from_ m n) (i := i) (by rw [from_length]; omega)
        rw [← h1, ← h2, ht]
      rw [e, show i = n by omega]; exact Ev.now _
  | succ d ih =>
    intro i acc hi ha ht
    have hlt : i < n := by omega
    have := ih (i + 1) (acc.set i (m + i)) (by omega) (by simpa using ha) (by
      rw [List.take_succ_eq_append_getElem (by simp; omega), List.take_succ_eq_append_getElem (by rw [from_length]; exact hlt), List.take_set_of_le (Nat.le_refl i), ht, from_get m n i hlt]
      simp)
    refine Ev.step (f := fun k => laws_markIntS.l0 k (acc.set i (m + i)) (m + ((i + 1 : Nat) : Int)) ((i + 1 : Nat) : Int)) (fun k => ?_) this
    simp only [laws_markIntS.l0]
    rw [if_pos (by omega), if_pos (by omega), w64 (by omega) (by omega), w64 (by omega) (by omega), Int.toNat_natCast, show m + (i : Int) + 1 = m + ((i + 1 : Nat) : Int) by omega, show (i : Int) + 1 = ((i + 1 : Nat) : Int) by omega]
theorem markIntS_ev (l : List Int) (m : Int) (hm : 0 ≤ m) (hb : m + l.length ≤ 9223372036854775807) : Ev (fun k => laws_markIntS.f k l m) (m + l.length, from_ m l.length) := by
  have := markIntS_l l.length m hm hb l.length 0 l (by omega) rfl (by simp)
  simpa [laws_markIntS.f] using this

/-! heldIntS -/
theorem heldIntS_l (n : Nat) (m : Int) (hm : 0 ≤ m) (hb : m + n ≤ 9223372036854775807) : ∀ (d i : Nat), i + d = n → Ev (fun k => laws_heldIntS.l0 k (from_ m n) (m + i) i) (m + n) := by
  intro d
  induction d with
  | zero =>
    intro i hi
    refine Ev.step (f := fun _ => some (m + i)) (fun k => ?_) ?_
    · simp only [laws_heldIntS.l0]; rw [if_neg (by rw [from_length]; omega)]
    · rw [show i = n by omega]; exact Ev.now _
  | succ d ih =>
    intro i hi
    have hlt : i < n := by omega
    refine Ev.step (f := fun k => laws_heldIntS.l0 k (from_ m n) (m + ((i + 1 : Nat) : Int)) ((i + 1 : Nat) : Int)) (fun k => ?_) (ih (i + 1) (by omega))
    simp only [laws_heldIntS.l0]
    rw [if_pos (by rw [from_length]; omega), if_pos (by omega), rd_lt (by rw [from_length]; omega), from_get m n i hlt, if_pos rfl, w64 (by omega) (by omega), w64 (by omega) (by omega), show m + (i : Int) + 1 = m + ((i + 1 : Nat) : Int) by omega, show (i : Int) + 1 = ((i + 1 : Nat) : Int) by omega]
theorem heldIntS_ev (n : Nat) (m : Int) (hm : 0 ≤ m) (hb : m + n ≤ 9223372036854775807) : Ev (fun k => laws_heldIntS.f k (from_ m n) m) (m + n) := by
  have := heldIntS_l n m hm hb n 0 (by omega)
  simpa [laws_heldIntS.f] using this

/-! within -/
theorem within_eq (a b c : Int) : impl_within.f a b c = some (decide (b ≤ a ∧ a ≤ c)) := by
  unfold impl_within.f
  split <;> simp <;> omega

/-! l1In -/
theorem l1In_eq (a b c : Int) : spec_l1In.f a b c = some (decide (b ≤ a ∧ a ≤ c)) := by
  unfold spec_l1In.f
  split <;> simp <;> omega

/-! letter -/
/-- A letter. -/
def LetP (x : Int) : Prop := x ≠ 0 ∧ -8 ≤ x ∧ x ≤ 8
theorem l2Letter_eq (x : Int) : spec_l2Letter.f x = some (decide (LetP x)) := by
  unfold spec_l2Letter.f
  simp only [l1In_eq, Option.bind_some]
  by_cases h : 1 ≤ x ∧ x ≤ 8
  · rw [decide_eq_true h, decide_eq_true (show LetP x from ⟨by omega, by omega, by omega⟩)]; rfl
  · rw [decide_eq_false h]
    simp only [Bool.false_eq_true, if_false]
    congr 1
    rw [decide_eq_decide]
    unfold LetP
    omega
theorem isLetter_eq (x : Int) : impl_isLetter.f x = some (decide (LetP x)) := by
  unfold impl_isLetter.f
  simp only [within_eq, Option.bind_some]
  split
  · rename_i h
    rw [decide_eq_false (fun hh : LetP x => hh.1 h)]
  · rename_i h
    congr 1
    rw [decide_eq_decide]
    unfold LetP
    omega

/-! isWord -/
/-- A word. -/
def WordP (l : List Int) : Prop := (∀ x ∈ l, LetP x) ∧ l.length ≤ 24
def WordFrom (l : List Int) (i : Nat) : Prop := (∀ x ∈ l.drop i, LetP x) ∧ l.length ≤ 24
theorem isWord_l (l : List Int) (hl : l.length ≤ 9223372036854775807) : ∀ (d i : Nat), i + d = l.length → Ev (fun k => spec_IsWord.l0 k l i) (decide (WordFrom l i)) ∧ Ev (fun k => impl_IsWord.l0 k l l l.length i) (decide (WordFrom l i)) := by
  intro d
  induction d with
  | zero =>
    intro i hi
    have e : decide (WordFrom l i) = decide ((l.length : Int) ≤ 24) := by
      rw [decide_eq_decide]; unfold WordFrom; rw [List.drop_of_length_le (by omega)]
      simp
      omega
    rw [e]
    refine ⟨Ev.step (f := fun _ => some (decide ((l.length : Int) ≤ 24))) (fun k => ?_) (Ev.now _), Ev.step (f := fun _ => some (decide ((l.length : Int) ≤ 24))) (fun k => ?_) (Ev.now _)⟩
    · simp only [spec_IsWord.l0]; rw [if_neg (by omega)]
    · simp only [impl_IsWord.l0]; rw [if_neg (by omega)]
  | succ d ih =>
    intro i hi
    have hlt : i < l.length := by omega
    have e1 := rd_lt hlt
    have ed : l.drop i = l[i] :: l.drop (i + 1) := List.drop_eq_getElem_cons hlt
    by_cases hp : LetP l[i]
    · have e : decide (WordFrom l i) = decide (WordFrom l (i + 1)) := by
        rw [decide_eq_decide]; unfold WordFrom; rw [ed]
        simp only [List.mem_cons, forall_eq_or_imp, hp, true_and]
      rw [e]
      obtain ⟨h1, h2⟩ := ih (i + 1) (by omega)
      refine ⟨Ev.step (fun k => ?_) h1, Ev.step (fun k => ?_) h2⟩
      · simp only [spec_IsWord.l0, l2Letter_eq, e1, Option.bind_some, decide_eq_true hp]
        rw [if_pos (by omega), if_pos (by omega), if_pos trivial, w64s hlt hl]
      · simp only [impl_IsWord.l0, isLetter_eq, e1, Option.bind_some, decide_eq_true hp]
        rw [if_pos (by omega), if_pos (by omega), if_pos (by omega), if_pos trivial, w64s hlt hl]
    · have e : decide (WordFrom l i) = false := by
        refine decide_eq_false fun h => hp (h.1 _ ?_)
        rw [ed]; exact List.mem_cons_self
      rw [e]
      refine ⟨Ev.step (f := fun _ => some false) (fun k => ?_) (Ev.now _), Ev.step (f := fun _ => some false) (fun k => ?_) (Ev.now _)⟩
      · simp only [spec_IsWord.l0, l2Letter_eq, e1, Option.bind_some, decide_eq_false hp]
        rw [if_pos (by omega), if_pos (by omega)]; rfl
      · simp only [impl_IsWord.l0, isLetter_eq, e1, Option.bind_some, decide_eq_false hp]
        rw [if_pos (by omega), if_pos (by omega), if_pos (by omega)]; rfl
theorem isWord_ev (l : List Int) (hl : l.length ≤ 1048576) : Ev (fun k => spec_IsWord.f k l) (decide (WordP l)) ∧ Ev (fun k => impl_IsWord.f k l) (decide (WordP l)) := by
  have := isWord_l l (by omega) l.length 0 (by omega)
  have e : decide (WordFrom l 0) = decide (WordP l) := by rw [decide_eq_decide]; rfl
  rw [e] at this
  exact this

/-! copyOf -/
theorem copyOf_eq (l : List Int) (hl : l.length ≤ 1048576) : impl_copyOf.f l = some l := by
  unfold impl_copyOf.f
  simp only [Option.bind_some, List.nil_append, List.length_nil, Nat.zero_add]
  rw [if_pos (by omega)]

/-! turn -/
/-- The list from index k on, around. -/
def turnL (l : List Int) (k : Int) : List Int := if l.length = 0 then [] else l.drop (k % (l.length : Int)).toNat ++ l.take (k % (l.length : Int)).toNat
theorem turnL_length (l : List Int) (k : Int) : (turnL l k).length = l.length := by
  unfold turnL
  split
  · simp_all
  · simp only [List.length_append, List.length_drop, List.length_take]
    have := Int.emod_nonneg k (b := (l.length : Int)) (by omega)
    have := Int.emod_lt_of_pos k (b := (l.length : Int)) (by omega)
    omega
theorem tmod_turn (k : Int) (n : Nat) (hn : 0 < n) (h : n ≤ 1048576) : (if Int.tmod k n < 0 then wrap64 (Int.tmod k n + n) else Int.tmod k n) = k % (n : Int) := by
  have hb : -(n : Int) < Int.tmod k n ∧ Int.tmod k n < n := by
    constructor
    · have := Int.lt_tmod_of_pos k (show (0 : Int) < n by omega); omega
    · exact Int.tmod_lt_of_pos k (by omega)
  have he := Int.tmod_eq_emod (a := k) (b := (n : Int))
  have h1 := Int.emod_nonneg k (b := (n : Int)) (by omega)
  have h2 := Int.emod_lt_of_pos k (b := (n : Int)) (by omega)
  have hna : ((n : Int).natAbs : Int) = n := by omega
  split
  · rw [w64 (by omega) (by omega), he]
    split
    · rename_i hlt hc
      rw [he, if_pos hc] at hlt
      omega
    · rename_i hlt hc
      rw [he, if_neg hc] at hlt
      omega
  · rename_i hlt
    rw [he] at hlt ⊢
    split
    · omega
    · rename_i hc
      rw [if_neg hc] at hlt
      omega
theorem turn_eq (l : List Int) (hl : l.length ≤ 1048576) (k : Int) : spec_l2Turn.f l k = some (turnL l k) ∧ impl_turn.f l k = some (turnL l k) := by
  unfold spec_l2Turn.f impl_turn.f turnL
  by_cases h0 : l.length = 0
  · simp [h0]
  have hn : ¬ (l.length : Int) = 0 := by omega
  have ht := tmod_turn k l.length (by omega) hl
  have h1 := Int.emod_nonneg k (b := (l.length : Int)) (by omega)
  have h2 := Int.emod_lt_of_pos k (b := (l.length : Int)) (by omega)
  have hdl : (l.drop (k % (l.length : Int)).toNat).length < 17592186044416 := by simp; omega
  have hdl2 : (l.drop (k % (l.length : Int)).toNat).length ≤ 1048576 := by simp; omega
  have hal : (l.drop (k % (l.length : Int)).toNat).length + (l.take (k % (l.length : Int)).toNat).length < 17592186044416 := by simp; omega
  have h3 : (k % (l.length : Int)) ≤ (l.length : Int) := by omega
  simp only [h0, hn, if_false]
  constructor
  · by_cases hlt : Int.tmod k l.length < 0
    · simp only [hlt, if_true] at ht ⊢
      simp only [ht, Option.bind_some, List.nil_append, List.length_nil, Nat.zero_add, h1, h3, hdl, hal, if_true]
    · simp only [hlt, if_false] at ht ⊢
      simp only [ht, Option.bind_some, List.nil_append, List.length_nil, Nat.zero_add, h1, h3, hdl, hal, if_true]
  · have hm : impl_mod.f k l.length = some (k % (l.length : Int)) := by
      unfold impl_mod.f
      rw [if_neg hn]
      by_cases hlt : Int.tmod k l.length < 0
      · rw [if_pos hlt] at ht ⊢; rw [ht]
      · rw [if_neg hlt] at ht ⊢; rw [ht]
    simp only [hm, Option.bind_some, h1, h3, if_true, copyOf_eq _ hdl2, hal]

/-! turnWord -/
theorem turnWord_ev (l : List Int) (k : Int) (hl : l.length ≤ 1048576) : ∃ r : List Int, r.length ≤ 1048576 ∧ Ev (fun n => spec_TurnWord.f n l k) r ∧ Ev (fun n => impl_TurnWord.f n l k) r ∧ (WordP l → r = turnL l k) ∧ (¬ WordP l → r = []) := by
  obtain ⟨e1, e2⟩ := isWord_ev l hl
  unfold spec_TurnWord.f impl_TurnWord.f
  by_cases h : WordP l
  · rw [decide_eq_true h] at e1 e2
    obtain ⟨h1, h2⟩ := turn_eq l hl k
    refine ⟨turnL l k, by rw [turnL_length]; omega, Ev.bind e1 ?_, Ev.bind e2 ?_, fun _ => rfl, fun hn => absurd h hn⟩
    · simp only [if_true, h1, Option.bind_some]; exact Ev.now _
    · simp only [if_true, h2, Option.bind_some]; exact Ev.now _
  · rw [decide_eq_false h] at e1 e2
    exact ⟨[], by simp, Ev.bind e1 (Ev.now _), Ev.bind e2 (Ev.now _), fun hh => absurd hh h, fun _ => rfl⟩

/-! law.FnExactTurnWord -/
theorem FnExactTurnWord : laws_FnExactTurnWord.Pure := by
  intro l k h1 h2 h3 h4
  by_cases hb : (l.length : Int) > 1048576
  · exact ⟨0, by unfold laws_FnExactTurnWord.f; rw [if_pos hb]⟩
  refine Ev.rounds ?_
  obtain ⟨r, hr, e1, e2, -, -⟩ := turnWord_ev l k (by omega)
  have hT := toIntS_ev l (by omega)
  have hE := eqIntS_same r (by omega)
  have hEl := eqIntS_same l (by omega)
  have hM := markIntS_ev r 1 (by omega) (by omega)
  have hMl := markIntS_ev l 1 (by omega) (by omega)
  have hH := heldIntS_ev r.length 1 (by omega) (by omega)
  have n1 : ¬ (1 + (r.length : Int) < 0) := by omega
  have n2 : ¬ (1 + (l.length : Int) < 0) := by omega
  have hj : Ev (fun n => laws_FnExactTurnWord.j0 n l k r r false) true := by
    refine Ev.shift ?_
    simp only [laws_FnExactTurnWord.j0, Bool.false_eq_true, if_false]
    refine Ev.bind hM (Ev.bind hH ?_)
    simp only [n1, if_false, if_true]
    refine Ev.bind hT (Ev.bind e2 (Ev.bind hE ?_))
    simp only [if_true]
    refine Ev.bind hH ?_
    simp only [n1, if_false, if_true]
    exact Ev.now _
  unfold laws_FnExactTurnWord.f
  simp only [if_neg hb]
  refine Ev.bind hT (Ev.bind e1 (Ev.bind hT (Ev.bind e2 (Ev.bind hE ?_))))
  simp only [if_true]
  refine Ev.bind hT (Ev.bind hEl ?_)
  simp only [if_true]
  refine Ev.bind hMl ?_
  simp only [n2, if_false]
  refine Ev.bind hE ?_
  simp only [Bool.not_true]
  exact hj

end Go.Proofs.Ytokbhekicjnglaa.Pure
