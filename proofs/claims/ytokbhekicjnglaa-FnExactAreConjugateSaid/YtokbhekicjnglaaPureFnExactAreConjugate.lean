/- AreConjugate of the program and AreConjugate of the reference answer the same for all arguments; the arguments are left as they were and share nothing with the results. Conditions: those that the printed statement itself names (lengths and numbers that fit). -/
import Derived.Test.YtokbhekicjnglaaWalkFnExactAreConjugate
import Derived.Test.YtokbhekicjnglaaCom
namespace Go.Proofs.Ytokbhekicjnglaa.Pure
open Classical Go.RowKit Go.Proofs.Ytokbhekicjnglaa.QFnExactAreConjugate Go.Proofs.YtokbhekicjnglaaW.PrintWords Go.Proofs.YtokbhekicjnglaaW.PrintLast Go.Proofs.Ytokbhekicjnglaa.Com

/-! toIntS -/
theorem toIntS_l (l : List Int) (hl : l.length ≤ 9223372036854775807) : ∀ (d i : Nat) (acc : List Int), i + d = l.length → acc.length = l.length → acc.take i = l.take i → Ev (fun k => laws_toIntS.l0 k l acc i) l := by
  intro d
  induction d with
  | zero =>
    intro i acc hi ha ht
    refine Ev.step (f := fun _ => some acc) (fun k => ?_) ?_
    · simp only [laws_toIntS.l0]; rw [if_neg (by omega)]
    · have e : acc = l := by
        have h1 := List.take_of_length_le (l := acc) (i := i) (by omega)
        have h2 := List.take_of_length_le (l := l) (i := i) (by omega)
        rw [← h1, ← h2, ht]
      rw [e]; exact Ev.now _
  | succ d ih =>
    intro i acc hi ha ht
    have hlt : i < l.length := by omega
    refine Ev.step (f := fun k => laws_toIntS.l0 k l (acc.set i l[i]) ((i + 1 : Nat) : Int)) (fun k => ?_) (ih (i + 1) (acc.set i l[i]) (by omega) (by simpa using ha) ?_)
    · simp only [laws_toIntS.l0]
      rw [if_pos (by omega), if_pos (by omega), if_pos (by omega), w64s hlt hl, rd_lt hlt, Int.toNat_natCast]
    · rw [List.take_succ_eq_append_getElem (by simp; omega), List.take_succ_eq_append_getElem hlt, List.take_set_of_le (Nat.le_refl i), ht]
      simp
theorem toIntS_ev (l : List Int) (hl : l.length ≤ 35184372088832) : Ev (fun k => laws_toIntS.f k l) l := by
  refine Ev.congr (f := fun k => laws_toIntS.l0 k l (List.replicate l.length 0) ((0 : Nat) : Int)) (fun k => ?_) (toIntS_l l (by omega) l.length 0 _ (by omega) (by simp) (by simp))
  unfold laws_toIntS.f
  rw [if_pos (by omega), if_pos (by omega), Int.toNat_natCast]; rfl

/-! eqIntS -/
theorem eqIntS_l (a b : List Int) (hn : a.length = b.length) (hl : a.length ≤ 9223372036854775807) : ∀ (d i : Nat), i + d = a.length → Ev (fun k => laws_eqIntS.l0 k a b i) (decide (a.drop i = b.drop i)) := by
  intro d
  induction d with
  | zero =>
    intro i hi
    refine Ev.step (f := fun _ => some true) (fun k => ?_) ?_
    · simp only [laws_eqIntS.l0]; rw [if_neg (by omega)]
    · rw [List.drop_of_length_le (by omega), List.drop_of_length_le (by omega)]; exact Ev.now _
  | succ d ih =>
    intro i hi
    have h1 : i < a.length := by omega
    have h2 : i < b.length := by omega
    have e1 : a.drop i = a[i] :: a.drop (i + 1) := List.drop_eq_getElem_cons h1
    have e2 : b.drop i = b[i] :: b.drop (i + 1) := List.drop_eq_getElem_cons h2
    by_cases he : a[i] = b[i]
    · refine Ev.step (f := fun k => laws_eqIntS.l0 k a b ((i + 1 : Nat) : Int)) (fun k => ?_) ?_
      · simp only [laws_eqIntS.l0]
        rw [if_pos (by omega), if_pos (by omega), if_pos (by omega), rd_lt h1, rd_lt h2, if_pos he, w64s h1 hl]
      · have hd : decide (a.drop i = b.drop i) = decide (a.drop (i + 1) = b.drop (i + 1)) := by
          rw [decide_eq_decide, e1, e2, he]; simp only [List.cons.injEq, true_and]
        rw [hd]; exact ih (i + 1) (by omega)
    · refine Ev.step (f := fun _ => some false) (fun k => ?_) ?_
      · simp only [laws_eqIntS.l0]
        rw [if_pos (by omega), if_pos (by omega), if_pos (by omega), rd_lt h1, rd_lt h2, if_neg he]
      · have hd : decide (a.drop i = b.drop i) = false := by
          refine decide_eq_false fun e => he ?_
          rw [e1, e2] at e
          exact (List.cons.inj e).1
        rw [hd]; exact Ev.now _
theorem eqIntS_ev (a b : List Int) (hl : a.length ≤ 9223372036854775807) : Ev (fun k => laws_eqIntS.f k a b) (decide (a = b)) := by
  by_cases hn : a.length = b.length
  · refine Ev.congr (f := fun k => laws_eqIntS.l0 k a b ((0 : Nat) : Int)) (fun k => ?_) (eqIntS_l a b hn hl a.length 0 (by omega))
    unfold laws_eqIntS.f; rw [if_pos (by omega)]; rfl
  · refine Ev.congr (f := fun _ => some false) (fun k => ?_) ?_
    · unfold laws_eqIntS.f; rw [if_neg (by omega)]
    · rw [decide_eq_false (fun e => hn (by rw [e]))]; exact Ev.now _
theorem eqIntS_same (a : List Int) (hl : a.length ≤ 9223372036854775807) : Ev (fun k => laws_eqIntS.f k a a) true := by simpa using eqIntS_ev a a hl

/-! evp -/
/-- From some number of rounds on. -/
def Evp (P : Nat → Prop) : Prop := ∃ K, ∀ k, K ≤ k → P k
theorem Evp.and {P Q : Nat → Prop} (h : Evp P) (g : Evp Q) : Evp (fun k => P k ∧ Q k) := by
  obtain ⟨K, hK⟩ := h
  obtain ⟨M, hM⟩ := g
  exact ⟨max K M, fun k hk => ⟨hK k (by omega), hM k (by omega)⟩⟩
theorem evp {α : Type} {g : Nat → Option α} {r : α} (h : Ev g r) : Evp (fun k => g k = some r) := h
theorem Evp.some {P : Nat → Prop} (h : Evp P) : ∃ k, P k := by obtain ⟨K, hK⟩ := h; exact ⟨K, hK K (Nat.le_refl _)⟩

/-! same -/
theorem same_l (a b : List Int) (hab : a.length = b.length) (hl : a.length ≤ 1048576) : ∀ (d i : Nat), i + d = a.length → Ev (fun k => spec_l2Same.l0 k a b i) (decide (a.drop i = b.drop i)) ∧ Ev (fun k => impl_sameInts.l0 k a b a.length i) (decide (a.drop i = b.drop i)) := by
  intro d
  induction d with
  | zero =>
    intro i hi
    have e : decide (a.drop i = b.drop i) = true := decide_eq_true (by rw [List.drop_of_length_le (by omega), List.drop_of_length_le (by omega)])
    rw [e]
    refine ⟨Ev.step (f := fun _ => some true) (fun k => ?_) (Ev.now _), Ev.step (f := fun _ => some true) (fun k => ?_) (Ev.now _)⟩
    · simp only [spec_l2Same.l0]; rw [if_neg (by omega)]
    · simp only [impl_sameInts.l0]; rw [if_neg (by omega)]
  | succ d ih =>
    intro i hi
    have hlt : i < a.length := by omega
    have hlt2 : i < b.length := by omega
    have ea : a.drop i = a[i] :: a.drop (i + 1) := List.drop_eq_getElem_cons hlt
    have eb : b.drop i = b[i] :: b.drop (i + 1) := List.drop_eq_getElem_cons hlt2
    by_cases h : a[i] = b[i]
    · obtain ⟨h1, h2⟩ := ih (i + 1) (by omega)
      have e : decide (a.drop i = b.drop i) = decide (a.drop (i + 1) = b.drop (i + 1)) := by
        rw [decide_eq_decide, ea, eb, h, List.cons.injEq]
        exact ⟨fun x => x.2, fun x => ⟨rfl, x⟩⟩
      rw [e]
      refine ⟨Ev.step (fun k => ?_) h1, Ev.step (fun k => ?_) h2⟩
      · simp only [spec_l2Same.l0, rd_lt hlt, rd_lt hlt2]
        rw [if_pos (by omega), if_pos (by omega), if_pos (by omega), if_pos h, w64s hlt (by omega)]
      · simp only [impl_sameInts.l0, rd_lt hlt, rd_lt hlt2]
        rw [if_pos (by omega), if_pos (by omega), if_pos (by omega), if_pos (by omega), if_pos h, w64s hlt (by omega)]
    · have e : decide (a.drop i = b.drop i) = false := decide_eq_false (by rw [ea, eb, List.cons.injEq]; exact fun x => h x.1)
      rw [e]
      refine ⟨Ev.step (f := fun _ => some false) (fun k => ?_) (Ev.now _), Ev.step (f := fun _ => some false) (fun k => ?_) (Ev.now _)⟩
      · simp only [spec_l2Same.l0, rd_lt hlt, rd_lt hlt2]
        rw [if_pos (by omega), if_pos (by omega), if_pos (by omega), if_neg h]
      · simp only [impl_sameInts.l0, rd_lt hlt, rd_lt hlt2]
        rw [if_pos (by omega), if_pos (by omega), if_pos (by omega), if_pos (by omega), if_neg h]
theorem same_ev (a b : List Int) (hl : a.length ≤ 1048576) : Ev (fun k => spec_l2Same.f k a b) (decide (a = b)) ∧ Ev (fun k => impl_sameInts.f k a b) (decide (a = b)) := by
  unfold spec_l2Same.f impl_sameInts.f
  by_cases h : a.length = b.length
  · have := same_l a b h hl a.length 0 (by omega)
    rw [List.drop_zero, List.drop_zero] at this
    exact ⟨Ev.congr (fun k => if_pos (by omega)) this.1, Ev.congr (fun k => if_pos (by omega)) this.2⟩
  · have e : decide (a = b) = false := decide_eq_false (fun x => h (by rw [x]))
    rw [e]
    constructor
    · refine Ev.congr (fun k => if_neg (by omega)) (Ev.now _)
    · refine Ev.congr (fun k => if_neg (by omega)) (Ev.now _)

/-! copyOf -/
theorem copyOf_eq (l : List Int) (hl : l.length ≤ 1048576) : impl_copyOf.f l = some l := by
  unfold impl_copyOf.f
  simp only [Option.bind_some, List.nil_append, List.length_nil, Nat.zero_add]
  rw [if_pos (by omega)]

/-! turnL -/
/-- The list from index k on, around. -/
def turnL (l : List Int) (k : Int) : List Int := if l.length = 0 then [] else l.drop (k % (l.length : Int)).toNat ++ l.take (k % (l.length : Int)).toNat
theorem turnL_length (l : List Int) (k : Int) : (turnL l k).length = l.length := by
  unfold turnL
  split
  · simp_all
  · simp only [List.length_append, List.length_drop, List.length_take]
    have := Int.emod_nonneg k (b := (l.length : Int)) (by omega)
    have := Int.emod_lt_of_pos k (b := (l.length : Int)) (by omega)
    omega
theorem tmod_turn (k : Int) (n : Nat) (hn : 0 < n) (h : n ≤ 1048576) : (if Int.tmod k n < 0 then wrap64 (Int.tmod k n + n) else Int.tmod k n) = k % (n : Int) := by
  have hb : -(n : Int) < Int.tmod k n ∧ Int.tmod k n < n := by
    constructor
    · have := Int.lt_tmod_of_pos k (show (0 : Int) < n by omega); omega
    · exact Int.tmod_lt_of_pos k (by omega)
  have he := Int.tmod_eq_emod (a := k) (b := (n : Int))
  have h1 := Int.emod_nonneg k (b := (n : Int)) (by omega)
  have h2 := Int.emod_lt_of_pos k (b := (n : Int)) (by omega)
  have hna : ((n : Int).natAbs : Int) = n := by omega
  split
  · rw [w64 (by omega) (by omega), he]
    split
    · rename_i hlt hc
      rw [he, if_pos hc] at hlt
      omega
    · rename_i hlt hc
      rw [he, if_neg hc] at hlt
      omega
  · rename_i hlt
    rw [he] at hlt ⊢
    split
    · omega
    · rename_i hc
      rw [if_neg hc] at hlt
      omega

/-! turn -/
theorem turn_eq (l : List Int) (hl : l.length ≤ 1048576) (k : Int) : spec_l2Turn.f l k = some (turnL l k) ∧ impl_turn.f l k = some (turnL l k) := by
  unfold spec_l2Turn.f impl_turn.f turnL
  by_cases h0 : l.length = 0
  · simp [h0]
  have hn : ¬ (l.length : Int) = 0 := by omega
  have ht := tmod_turn k l.length (by omega) hl
  have h1 := Int.emod_nonneg k (b := (l.length : Int)) (by omega)
  have h2 := Int.emod_lt_of_pos k (b := (l.length : Int)) (by omega)
  have hdl : (l.drop (k % (l.length : Int)).toNat).length < 17592186044416 := by simp; omega
  have hdl2 : (l.drop (k % (l.length : Int)).toNat).length ≤ 1048576 := by simp; omega
  have hal : (l.drop (k % (l.length : Int)).toNat).length + (l.take (k % (l.length : Int)).toNat).length < 17592186044416 := by simp; omega
  have h3 : (k % (l.length : Int)) ≤ (l.length : Int) := by omega
  simp only [h0, hn, if_false]
  constructor
  · by_cases hlt : Int.tmod k l.length < 0
    · simp only [hlt, if_true] at ht ⊢
      simp only [ht, Option.bind_some, List.nil_append, List.length_nil, Nat.zero_add, h1, h3, hdl, hal, if_true]
    · simp only [hlt, if_false] at ht ⊢
      simp only [ht, Option.bind_some, List.nil_append, List.length_nil, Nat.zero_add, h1, h3, hdl, hal, if_true]
  · have hm : impl_mod.f k l.length = some (k % (l.length : Int)) := by
      unfold impl_mod.f
      rw [if_neg hn]
      by_cases hlt : Int.tmod k l.length < 0
      · rw [if_pos hlt] at ht ⊢; rw [ht]
      · rw [if_neg hlt] at ht ⊢; rw [ht]
    simp only [hm, Option.bind_some, h1, h3, if_true, copyOf_eq _ hdl2, hal]

/-! push -/
/-- A letter behind a reduced list. -/
def push (acc : List Int) (x : Int) : List Int := if acc.getLast? = some (-x) then acc.dropLast else acc ++ [x]
def red (l : List Int) : List Int := l.foldl push []
theorem push_length (acc : List Int) (x : Int) : (push acc x).length ≤ acc.length + 1 := by
  unfold push
  split
  · rw [List.length_dropLast]; omega
  · simp
theorem push_mem {acc : List Int} {x y : Int} (h : y ∈ push acc x) : y ∈ acc ∨ y = x := by
  unfold push at h
  split at h
  · exact .inl (List.dropLast_subset _ h)
  · rcases List.mem_append.1 h with h | h
    · exact .inl h
    · exact .inr (by simpa using h)
theorem foldl_push_length (l acc : List Int) : (l.foldl push acc).length ≤ acc.length + l.length := by
  induction l generalizing acc with
  | nil => simp
  | cons x l ih =>
    have := ih (push acc x)
    have h2 := push_length acc x
    simp only [List.foldl_cons, List.length_cons]
    omega
theorem foldl_push_mem {l acc : List Int} {y : Int} (h : y ∈ l.foldl push acc) : y ∈ acc ∨ y ∈ l := by
  induction l generalizing acc with
  | nil => exact .inl h
  | cons x l ih =>
    rcases ih h with h1 | h1
    · rcases push_mem h1 with h2 | h2
      · exact .inl h2
      · exact .inr (by simp [h2])
    · exact .inr (List.mem_cons_of_mem _ h1)
theorem red_length (l : List Int) : (red l).length ≤ l.length := by have := foldl_push_length l []; simpa [red] using this
theorem red_mem {l : List Int} {y : Int} (h : y ∈ red l) : y ∈ l := by
  rcases foldl_push_mem h with h | h
  · simp at h
  · exact h
theorem getLast_rd {acc : List Int} (h : 0 < acc.length) : acc.getLast? = some (rd acc ((acc.length : Int) - 1)) := by
  rw [List.getLast?_eq_getElem?, show ((acc.length : Int) - 1) = ((acc.length - 1 : Nat) : Int) by omega, rd_lt (by omega), List.getElem?_eq_getElem (by omega)]

/-! within -/
theorem within_eq (a b c : Int) : impl_within.f a b c = some (decide (b ≤ a ∧ a ≤ c)) := by
  unfold impl_within.f
  split <;> simp <;> omega

/-! l1In -/
theorem l1In_eq (a b c : Int) : spec_l1In.f a b c = some (decide (b ≤ a ∧ a ≤ c)) := by
  unfold spec_l1In.f
  split <;> simp <;> omega

/-! letter -/
/-- A letter. -/
def LetP (x : Int) : Prop := x ≠ 0 ∧ -8 ≤ x ∧ x ≤ 8
theorem l2Letter_eq (x : Int) : spec_l2Letter.f x = some (decide (LetP x)) := by
  unfold spec_l2Letter.f
  simp only [l1In_eq, Option.bind_some]
  by_cases h : 1 ≤ x ∧ x ≤ 8
  · rw [decide_eq_true h, decide_eq_true (show LetP x from ⟨by omega, by omega, by omega⟩)]; rfl
  · rw [decide_eq_false h]
    simp only [Bool.false_eq_true, if_false]
    congr 1
    rw [decide_eq_decide]
    unfold LetP
    omega
theorem isLetter_eq (x : Int) : impl_isLetter.f x = some (decide (LetP x)) := by
  unfold impl_isLetter.f
  simp only [within_eq, Option.bind_some]
  split
  · rename_i h
    rw [decide_eq_false (fun hh : LetP x => hh.1 h)]
  · rename_i h
    congr 1
    rw [decide_eq_decide]
    unfold LetP
    omega

/-! neg -/
theorem LetP.neg {x : Int} (h : LetP x) : LetP (-x) := by unfold LetP at *; omega
theorem w64neg {x : Int} (h : LetP x) : wrap64 (-x) = -x := w64 (by unfold LetP at h; omega) (by unfold LetP at h; omega)

/-! isWord -/
/-- A word. -/
def WordP (l : List Int) : Prop := (∀ x ∈ l, LetP x) ∧ l.length ≤ 24
def WordFrom (l : List Int) (i : Nat) : Prop := (∀ x ∈ l.drop i, LetP x) ∧ l.length ≤ 24
theorem isWord_l (l : List Int) (hl : l.length ≤ 9223372036854775807) : ∀ (d i : Nat), i + d = l.length → Ev (fun k => spec_IsWord.l0 k l i) (decide (WordFrom l i)) ∧ Ev (fun k => impl_IsWord.l0 k l l l.length i) (decide (WordFrom l i)) := by
  intro d
  induction d with
  | zero =>
    intro i hi
    have e : decide (WordFrom l i) = decide ((l.length : Int) ≤ 24) := by
      rw [decide_eq_decide]; unfold WordFrom; rw [List.drop_of_length_le (by omega)]
      simp
      omega
    rw [e]
    refine ⟨Ev.step (f := fun _ => some (decide ((l.length : Int) ≤ 24))) (fun k => ?_) (Ev.now _), Ev.step (f := fun _ => some (decide ((l.length : Int) ≤ 24))) (fun k => ?_) (Ev.now _)⟩
    · simp only [spec_IsWord.l0]; rw [if_neg (by omega)]
    · simp only [impl_IsWord.l0]; rw [if_neg (by omega)]
  | succ d ih =>
    intro i hi
    have hlt : i < l.length := by omega
    have e1 := rd_lt hlt
    have ed : l.drop i = l[i] :: l.drop (i + 1) := List.drop_eq_getElem_cons hlt
    by_cases hp : LetP l[i]
    · have e : decide (WordFrom l i) = decide (WordFrom l (i + 1)) := by
        rw [decide_eq_decide]; unfold WordFrom; rw [ed]
        simp only [List.mem_cons, forall_eq_or_imp, hp, true_and]
      rw [e]
      obtain ⟨h1, h2⟩ := ih (i + 1) (by omega)
      refine ⟨Ev.step (fun k => ?_) h1, Ev.step (fun k => ?_) h2⟩
      · simp only [spec_IsWord.l0, l2Letter_eq, e1, Option.bind_some, decide_eq_true hp]
        rw [if_pos (by omega), if_pos (by omega), if_pos trivial, w64s hlt hl]
      · simp only [impl_IsWord.l0, isLetter_eq, e1, Option.bind_some, decide_eq_true hp]
        rw [if_pos (by omega), if_pos (by omega), if_pos (by omega), if_pos trivial, w64s hlt hl]
    · have e : decide (WordFrom l i) = false := by
        refine decide_eq_false fun h => hp (h.1 _ ?_)
        rw [ed]; exact List.mem_cons_self
      rw [e]
      refine ⟨Ev.step (f := fun _ => some false) (fun k => ?_) (Ev.now _), Ev.step (f := fun _ => some false) (fun k => ?_) (Ev.now _)⟩
      · simp only [spec_IsWord.l0, l2Letter_eq, e1, Option.bind_some, decide_eq_false hp]
        rw [if_pos (by omega), if_pos (by omega)]; rfl
      · simp only [impl_IsWord.l0, isLetter_eq, e1, Option.bind_some, decide_eq_false hp]
        rw [if_pos (by omega), if_pos (by omega), if_pos (by omega)]; rfl
theorem isWord_ev (l : List Int) (hl : l.length ≤ 1048576) : Ev (fun k => spec_IsWord.f k l) (decide (WordP l)) ∧ Ev (fun k => impl_IsWord.f k l) (decide (WordP l)) := by
  have := isWord_l l (by omega) l.length 0 (by omega)
  have e : decide (WordFrom l 0) = decide (WordP l) := by rw [decide_eq_decide]; rfl
  rw [e] at this
  exact this

/-! reduce -/
theorem reduceS_l (l : List Int) (hl : l.length ≤ 1048576) (hp : ∀ x ∈ l, LetP x) : ∀ (d i : Nat) (acc : List Int), i + d = l.length → acc.length ≤ i → Ev (fun k => spec_l2Reduce.l0 k l acc i) ((l.drop i).foldl push acc) ∧ Ev (fun k => impl_reduce.l0 k acc l l.length i) ((l.drop i).foldl push acc) := by
  intro d
  induction d with
  | zero =>
    intro i acc hi ha
    rw [List.drop_of_length_le (by omega)]
    refine ⟨Ev.step (f := fun _ => some acc) (fun k => ?_) (Ev.now _), Ev.step (f := fun _ => some acc) (fun k => ?_) (Ev.now _)⟩
    · simp only [spec_l2Reduce.l0]; rw [if_neg (by omega)]
    · simp only [impl_reduce.l0]; rw [if_neg (by omega)]
  | succ d ih =>
    intro i acc hi ha
    have hlt : i < l.length := by omega
    have ed : l.drop i = l[i] :: l.drop (i + 1) := List.drop_eq_getElem_cons hlt
    have hn := w64neg (hp l[i] (List.getElem_mem hlt))
    have hpl := push_length acc l[i]
    obtain ⟨h1, h2⟩ := ih (i + 1) (push acc l[i]) (by omega) (by omega)
    rw [ed, List.foldl_cons]
    have hw : wrap64 ((acc.length : Int) - 1) = (acc.length : Int) - 1 := w64 (by omega) (by omega)
    have hll : acc.length < 17592186044416 := by omega
    rcases Nat.eq_zero_or_pos acc.length with h0 | h0
    · have hpe : push acc l[i] = acc ++ [l[i]] := by
        unfold push
        rw [List.length_eq_zero_iff.1 h0]
        simp
      rw [hpe] at h1 h2 ⊢
      refine ⟨Ev.step (fun k => ?_) h1, Ev.step (fun k => ?_) h2⟩
      · simp only [spec_l2Reduce.l0, rd_lt hlt]
        rw [if_pos (by omega), if_neg (by omega), if_pos (by omega), if_pos hll, w64s hlt (by omega)]
      · simp only [impl_reduce.l0, rd_lt hlt]
        rw [if_pos (by omega), if_pos (by omega), if_pos (by omega), if_neg (by omega), if_pos hll, w64s hlt (by omega)]
    · have hg := getLast_rd h0
      by_cases he : rd acc ((acc.length : Int) - 1) = -l[i]
      · have hpe : push acc l[i] = acc.take (acc.length - 1) := by
          unfold push
          rw [hg, he, if_pos rfl, List.dropLast_eq_take]
        rw [hpe] at h1 h2 ⊢
        have ht : ((acc.length : Int) - 1).toNat = acc.length - 1 := by omega
        refine ⟨Ev.step (fun k => ?_) h1, Ev.step (fun k => ?_) h2⟩
        · simp only [spec_l2Reduce.l0, rd_lt hlt, hn, hw, he, ht]
          rw [if_pos (by omega), if_pos (by omega), if_pos (by omega), if_pos (by omega), if_pos (by omega), if_pos trivial, if_pos (by omega), w64s hlt (by omega)]
        · simp only [impl_reduce.l0, rd_lt hlt, hn, hw, he, ht]
          rw [if_pos (by omega), if_pos (by omega), if_pos (by omega), if_pos (by omega), if_pos (by omega), if_pos (by omega), if_pos trivial, if_pos (by omega), w64s hlt (by omega)]
      · have hpe : push acc l[i] = acc ++ [l[i]] := by
          unfold push
          rw [hg, if_neg (by simpa using he)]
        rw [hpe] at h1 h2 ⊢
        refine ⟨Ev.step (fun k => ?_) h1, Ev.step (fun k => ?_) h2⟩
        · simp only [spec_l2Reduce.l0, rd_lt hlt, hn, hw, he]
          rw [if_pos (by omega), if_pos (by omega), if_pos (by omega), if_pos (by omega), if_pos (by omega), if_neg (by simp), if_pos hll, w64s hlt (by omega)]
        · simp only [impl_reduce.l0, rd_lt hlt, hn, hw, he]
          rw [if_pos (by omega), if_pos (by omega), if_pos (by omega), if_pos (by omega), if_pos (by omega), if_pos (by omega), if_neg (by simp), if_pos hll, w64s hlt (by omega)]
theorem reduce_ev (l : List Int) (hl : l.length ≤ 1048576) (hp : ∀ x ∈ l, LetP x) : Ev (fun k => spec_l2Reduce.f k l) (red l) ∧ Ev (fun k => impl_reduce.f k l) (red l) := by
  have := reduceS_l l hl hp l.length 0 [] (by omega) (by simp)
  simpa [spec_l2Reduce.f, impl_reduce.f, red] using this

/-! core -/
/-- A word without inverse neighbours and ends. -/
def coreW (l : List Int) : List Int := coreL (red l).length (red l)
theorem coreW_length (l : List Int) : (coreW l).length ≤ l.length := Nat.le_trans (coreL_len _ _) (red_length l)
theorem core_ev (l : List Int) (hl : l.length ≤ 1048576) (hw : WordP l) : Ev (fun k => spec_l2Core.f k l) (coreW l) ∧ Ev (fun k => impl_CoreWord.f k l) (coreW l) := by
  obtain ⟨h1, h2⟩ := reduce_ev l hl hw.1
  obtain ⟨_, e2⟩ := isWord_ev l hl
  rw [decide_eq_true hw] at e2
  have hr := red_length l
  unfold spec_l2Core.f impl_CoreWord.f
  refine ⟨Ev.bind h1 ?_, Ev.bind e2 ?_⟩
  · rw [if_pos (by omega)]; exact Ev.now _
  · refine Ev.congr (fun k => if_pos rfl) ?_
    refine Ev.bind h2 ?_
    rw [if_pos (by omega)]; exact Ev.now _
theorem coreI_ev (l : List Int) (hl : l.length ≤ 1048576) (hw : ¬ WordP l) : Ev (fun k => impl_CoreWord.f k l) [] := by
  obtain ⟨_, e2⟩ := isWord_ev l hl
  rw [decide_eq_false hw] at e2
  unfold impl_CoreWord.f
  refine Ev.bind e2 ?_
  exact Ev.congr (fun k => if_neg Bool.false_ne_true) (Ev.now _)

/-! conj -/
/-- One list is the other, turned. -/
def conjP (a b : List Int) : Prop := (∃ j : Nat, j < a.length ∧ turnL a j = b) ∨ (a.length = 0 ∧ b.length = 0)
def conjFrom (a b : List Int) (i : Nat) : Prop := ∃ j : Nat, i ≤ j ∧ j < a.length ∧ turnL a j = b
theorem conjFrom_end (a b : List Int) (i : Nat) (h : a.length ≤ i) : ¬ conjFrom a b i := fun ⟨j, h1, h2, _⟩ => by omega
theorem conjFrom_hit (a b : List Int) (i : Nat) (h : i < a.length) (e : turnL a i = b) : conjFrom a b i := ⟨i, Nat.le_refl _, h, e⟩
theorem conjFrom_next (a b : List Int) (i : Nat) (e : turnL a i ≠ b) : conjFrom a b i ↔ conjFrom a b (i + 1) := by
  constructor
  · rintro ⟨j, h1, h2, h3⟩
    refine ⟨j, ?_, h2, h3⟩
    by_cases he : i = j
    · subst he; exact (e h3).elim
    · omega
  · rintro ⟨j, h1, h2, h3⟩
    exact ⟨j, by omega, h2, h3⟩
theorem conj_l (a b : List Int) (hl : a.length ≤ 1048576) : ∀ (d i : Nat), i + d = a.length → Ev (fun k => spec_AreConjugate.l0 k a b i) (decide (conjFrom a b i ∨ a.length = 0 ∧ b.length = 0)) ∧ (a.length ≠ 0 → Ev (fun k => impl_AreConjugate.l0 k a b a.length i) (decide (conjFrom a b i))) := by
  intro d
  induction d with
  | zero =>
    intro i hi
    have hn := conjFrom_end a b i (by omega)
    have e1 : decide (conjFrom a b i ∨ a.length = 0 ∧ b.length = 0) = decide (a.length = 0 ∧ b.length = 0) := by rw [decide_eq_decide]; exact ⟨fun x => x.resolve_left hn, .inr⟩
    rw [e1, decide_eq_false hn]
    refine ⟨Ev.step (f := fun _ => some (decide (a.length = 0 ∧ b.length = 0))) (fun k => ?_) (Ev.now _), fun h0 => Ev.step (f := fun _ => some false) (fun k => ?_) (Ev.now _)⟩
    · simp only [spec_AreConjugate.l0]; rw [if_neg (by omega)]
    · simp only [impl_AreConjugate.l0]; rw [if_neg (by omega)]
  | succ d ih =>
    intro i hi
    have hlt : i < a.length := by omega
    obtain ⟨t1, t2⟩ := turn_eq a hl (i : Int)
    obtain ⟨s1, s2⟩ := same_ev (turnL a i) b (by rw [turnL_length]; exact hl)
    by_cases h : turnL a i = b
    · have hh := conjFrom_hit a b i hlt h
      rw [decide_eq_true h] at s1 s2
      rw [decide_eq_true hh, decide_eq_true (show conjFrom a b i ∨ a.length = 0 ∧ b.length = 0 from .inl hh)]
      refine ⟨Ev.step (f := fun k => (spec_l2Same.f k (turnL a i) b).bind fun s => if s = true then some true else spec_AreConjugate.l0 k a b (wrap64 (i + 1))) (fun k => ?_) (Ev.bind s1 ?_), fun _ => Ev.step (f := fun k => (impl_sameInts.f k (turnL a i) b).bind fun s => if s = true then some true else impl_AreConjugate.l0 k a b a.length (wrap64 (i + 1))) (fun k => ?_) (Ev.bind s2 ?_)⟩
      · simp only [spec_AreConjugate.l0, t1, Option.bind_some]; rw [if_pos (by omega)]
      · exact Ev.congr (fun k => if_pos rfl) (Ev.now _)
      · simp only [impl_AreConjugate.l0, t2, Option.bind_some]; rw [if_pos (by omega)]
      · exact Ev.congr (fun k => if_pos rfl) (Ev.now _)
    · have hn := conjFrom_next a b i h
      obtain ⟨h1, h2⟩ := ih (i + 1) (by omega)
      rw [decide_eq_false h] at s1 s2
      have e1 : decide (conjFrom a b i ∨ a.length = 0 ∧ b.length = 0) = decide (conjFrom a b (i + 1) ∨ a.length = 0 ∧ b.length = 0) := by rw [decide_eq_decide, hn]
      have e2 : decide (conjFrom a b i) = decide (conjFrom a b (i + 1)) := by rw [decide_eq_decide, hn]
      rw [e1, e2]
      refine ⟨Ev.step (f := fun k => (spec_l2Same.f k (turnL a i) b).bind fun s => if s = true then some true else spec_AreConjugate.l0 k a b (wrap64 (i + 1))) (fun k => ?_) (Ev.bind s1 ?_), fun h0 => Ev.step (f := fun k => (impl_sameInts.f k (turnL a i) b).bind fun s => if s = true then some true else impl_AreConjugate.l0 k a b a.length (wrap64 (i + 1))) (fun k => ?_) (Ev.bind s2 ?_)⟩
      · simp only [spec_AreConjugate.l0, t1, Option.bind_some]; rw [if_pos (by omega)]
      · refine Ev.congr (fun k => if_neg Bool.false_ne_true) ?_
        rw [w64s hlt (by omega)]; exact h1
      · simp only [impl_AreConjugate.l0, t2, Option.bind_some]; rw [if_pos (by omega)]
      · refine Ev.congr (fun k => if_neg Bool.false_ne_true) ?_
        rw [w64s hlt (by omega)]; exact h2 h0
theorem conj_from0 (a b : List Int) : (conjFrom a b 0 ∨ a.length = 0 ∧ b.length = 0) ↔ conjP a b := by
  unfold conjP conjFrom
  constructor
  · rintro (⟨j, _, h2, h3⟩ | h)
    · exact .inl ⟨j, h2, h3⟩
    · exact .inr h
  · rintro (⟨j, h2, h3⟩ | h)
    · exact .inl ⟨j, Nat.zero_le _, h2, h3⟩
    · exact .inr h
theorem conjS_ev (a b : List Int) (hl : a.length ≤ 1048576) : Ev (fun k => spec_AreConjugate.l0 k a b 0) (decide (conjP a b)) := by
  have h := (conj_l a b hl a.length 0 (by omega)).1
  have e : decide (conjFrom a b 0 ∨ a.length = 0 ∧ b.length = 0) = decide (conjP a b) := by rw [decide_eq_decide]; exact conj_from0 a b
  rw [e] at h
  exact h
theorem conjI_ev (a b : List Int) (hl : a.length ≤ 1048576) (hab : a.length = b.length) : Ev (fun k => impl_AreConjugate.l0 k a b (if (a.length : Int) < 1 then 1 else (a.length : Int)) 0) (decide (conjP a b)) := by
  by_cases h0 : a.length = 0
  · have ha : a = [] := List.length_eq_zero_iff.1 h0
    have hb : b = [] := List.length_eq_zero_iff.1 (by omega)
    subst ha hb
    rw [decide_eq_true (show conjP [] [] from .inr ⟨rfl, rfl⟩)]
    rw [if_pos (by simp)]
    obtain ⟨_, t2⟩ := turn_eq [] (by simp) 0
    obtain ⟨_, s2⟩ := same_ev (turnL [] 0) [] (by rw [turnL_length]; simp)
    rw [decide_eq_true (show turnL [] 0 = [] from rfl)] at s2
    refine Ev.step (f := fun k => (impl_sameInts.f k (turnL [] 0) []).bind fun s => if s = true then some true else impl_AreConjugate.l0 k [] [] 1 (wrap64 (0 + 1))) (fun k => ?_) (Ev.bind s2 ?_)
    · simp only [impl_AreConjugate.l0, t2, Option.bind_some]; rw [if_pos (by omega)]
    · exact Ev.congr (fun k => if_pos rfl) (Ev.now _)
  · rw [if_neg (by omega)]
    have h := (conj_l a b hl a.length 0 (by omega)).2 h0
    have e : decide (conjFrom a b 0) = decide (conjP a b) := by
      rw [decide_eq_decide, ← conj_from0]
      exact ⟨.inl, fun x => x.resolve_right (fun y => h0 y.1)⟩
    rw [e] at h
    exact h
theorem conj_len {a b : List Int} (h : conjP a b) : a.length = b.length := by
  rcases h with ⟨j, _, h⟩ | ⟨h1, h2⟩
  · rw [← h, turnL_length]
  · omega
theorem areConjugate_ev (v w : List Int) (hv : v.length ≤ 1048576) (hw : w.length ≤ 1048576) : ∃ o : Bool, Ev (fun k => spec_AreConjugate.f k v w) o ∧ Ev (fun k => impl_AreConjugate.f k v w) o ∧ (WordP v → WordP w → o = decide (conjP (coreW v) (coreW w))) := by
  obtain ⟨a1, a2⟩ := isWord_ev v hv
  obtain ⟨b1, b2⟩ := isWord_ev w hw
  unfold spec_AreConjugate.f impl_AreConjugate.f
  by_cases h1 : WordP v
  case neg =>
    rw [decide_eq_false h1] at a1 a2
    exact ⟨false, Ev.bind a1 (by exact Ev.congr (fun k => if_neg Bool.false_ne_true) (Ev.now _)), Ev.bind a2 (by exact Ev.congr (fun k => if_neg Bool.false_ne_true) (Ev.now _)), fun h _ => (h1 h).elim⟩
  rw [decide_eq_true h1] at a1 a2
  by_cases h2 : WordP w
  case neg =>
    rw [decide_eq_false h2] at b1 b2
    refine ⟨false, Ev.bind a1 ?_, Ev.bind a2 ?_, fun _ h => (h2 h).elim⟩
    · refine Ev.congr (fun k => if_pos rfl) ?_; exact Ev.bind b1 (by exact Ev.congr (fun k => if_neg Bool.false_ne_true) (Ev.now _))
    · refine Ev.congr (fun k => if_pos rfl) ?_; exact Ev.bind b2 (by exact Ev.congr (fun k => if_neg Bool.false_ne_true) (Ev.now _))
  rw [decide_eq_true h2] at b1 b2
  obtain ⟨c1, c2⟩ := core_ev v hv h1
  obtain ⟨d1, d2⟩ := core_ev w hw h2
  have hcl := coreW_length v
  refine ⟨decide (conjP (coreW v) (coreW w)), Ev.bind a1 ?_, Ev.bind a2 ?_, fun _ _ => rfl⟩
  · refine Ev.congr (fun k => if_pos rfl) ?_
    refine Ev.bind b1 ?_
    refine Ev.congr (fun k => if_pos rfl) ?_
    exact Ev.bind c1 (Ev.bind d1 (conjS_ev _ _ (by omega)))
  · refine Ev.congr (fun k => if_pos rfl) ?_
    refine Ev.bind b2 ?_
    refine Ev.congr (fun k => if_pos rfl) ?_
    refine Ev.bind c2 (Ev.bind d2 ?_)
    by_cases hab : (coreW v).length = (coreW w).length
    · exact Ev.congr (fun k => if_pos hab) (conjI_ev _ _ (by omega) hab)
    · rw [decide_eq_false (fun h => hab (conj_len h))]
      exact Ev.congr (fun k => if_neg hab) (Ev.now _)

/-! law.FnExactAreConjugate -/
theorem FnExactAreConjugate (l : List Int) (_h1 : l.length ≤ maxLen) (_h2 : ∀ n ∈ l, (Lit.int .i64 n).wf = true) (m : List Int) (_h3 : m.length ≤ maxLen) (_h4 : ∀ n ∈ m, (Lit.int .i64 n).wf = true) : ∃ k, laws_FnExactAreConjugate.f k l m = some true := by
  by_cases hb : (l.length : Int) > 1048576
  · exact ⟨0, by unfold laws_FnExactAreConjugate.f; rw [if_pos (.inl hb)]⟩
  by_cases hc : (m.length : Int) > 1048576
  · exact ⟨0, by unfold laws_FnExactAreConjugate.f; rw [if_pos (.inr (.inl hc))]⟩
  obtain ⟨o, e1, e2, _⟩ := areConjugate_ev l m (by omega) (by omega)
  obtain ⟨k, q1, q2, q3, q4, q5, q6⟩ := ((evp (toIntS_ev l (by omega))).and ((evp (toIntS_ev m (by omega))).and ((evp e1).and ((evp e2).and ((evp (eqIntS_same l (by omega))).and (evp (eqIntS_same m (by omega)))))))).some
  exact ⟨k, by unfold laws_FnExactAreConjugate.f; rw [if_pos (.inr (.inr ⟨o, q1, q2, q3, q4, q5, q6⟩))]⟩

end Go.Proofs.Ytokbhekicjnglaa.Pure
