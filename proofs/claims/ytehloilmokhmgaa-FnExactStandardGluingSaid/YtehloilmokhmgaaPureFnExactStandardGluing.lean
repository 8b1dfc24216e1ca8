/- StandardGluing of the program and StandardGluing of the reference answer the same for every surface; the results of two calls share no memory. Conditions: those that the printed statement itself names (lengths and numbers that fit). -/
import Derived.Test.YtehloilmokhmgaaWalkFnExactStandardGluing
import Derived.Test.YtehloilmokhmgaaCom
namespace Go.Proofs.Ytehloilmokhmgaa.Pure
open Classical Go.RowKit Go.Proofs.Ytehloilmokhmgaa.QFnExactStandardGluing Go.Proofs.YtehloilmokhmgaaW.PrintWords Go.Proofs.YtehloilmokhmgaaW.PrintLast Go.Proofs.Ytehloilmokhmgaa.Com

/-! eqIntS -/
theorem eqIntS_l (a b : List Int) (hn : a.length = b.length) (hl : a.length ≤ 9223372036854775807) : ∀ (d i : Nat), i + d = a.length → Ev (fun k => laws_eqIntS.l0 k a b i) (decide (a.drop i = b.drop i)) := by
  intro d
  induction d with
  | zero =>
    intro i hi
    refine Ev.step (f := fun _ => some true) (fun k => ?_) ?_
    · simp only [laws_eqIntS.l0]; rw [if_neg (by omega)]
    · rw [List.drop_of_length_le (by omega), List.drop_of_length_le (by omega)]; exact Ev.now _
  | succ d ih =>
    intro i hi
    have h1 : i < a.length := by omega
    have h2 : i < b.length := by omega
    have e1 : a.drop i = a[i] :: a.drop (i + 1) := List.drop_eq_getElem_cons h1
    have e2 : b.drop i = b[i] :: b.drop (i + 1) := List.drop_eq_getElem_cons h2
    by_cases he : a[i] = b[i]
    · refine Ev.step (f := fun k => laws_eqIntS.l0 k a b ((i + 1 : Nat) : Int)) (fun k => ?_) ?_
      · simp only [laws_eqIntS.l0]
        rw [if_pos (by omega), if_pos (by omega), if_pos (by omega), rd_lt h1, rd_lt h2, if_pos he, w64s h1 hl]
      · have hd : decide (a.drop i = b.drop i) = decide (a.drop (i + 1) = b.drop (i + 1)) := by
          rw [decide_eq_decide, e1, e2, he]; simp only [List.cons.injEq, true_and]
        rw [hd]; exact ih (i + 1) (by omega)
    · refine Ev.step (f := fun _ => some false) (fun k => ?_) ?_
      · simp only [laws_eqIntS.l0]
        rw [if_pos (by omega), if_pos (by omega), if_pos (by omega), rd_lt h1, rd_lt h2, if_neg he]
      · have hd : decide (a.drop i = b.drop i) = false := by
          refine decide_eq_false fun e => he ?_
          rw [e1, e2] at e
          exact (List.cons.inj e).1
        rw [hd]; exact Ev.now _
theorem eqIntS_ev (a b : List Int) (hl : a.length ≤ 9223372036854775807) : Ev (fun k => laws_eqIntS.f k a b) (decide (a = b)) := by
  by_cases hn : a.length = b.length
  · refine Ev.congr (f := fun k => laws_eqIntS.l0 k a b ((0 : Nat) : Int)) (fun k => ?_) (eqIntS_l a b hn hl a.length 0 (by omega))
    unfold laws_eqIntS.f; rw [if_pos (by omega)]; rfl
  · refine Ev.congr (f := fun _ => some false) (fun k => ?_) ?_
    · unfold laws_eqIntS.f; rw [if_neg (by omega)]
    · rw [decide_eq_false (fun e => hn (by rw [e]))]; exact Ev.now _
theorem eqIntS_same (a : List Int) (hl : a.length ≤ 9223372036854775807) : Ev (fun k => laws_eqIntS.f k a a) true := by simpa using eqIntS_ev a a hl

/-! rdL -/
theorem rdL_lt {l : List (List Int)} {i : Nat} (h : i < l.length) : rd_L1 l (i : Int) = l[i] := by
  simp [rd_L1, List.getD_eq_getElem?_getD, h]
theorem rdL_nat (l : List (List Int)) (i : Nat) : rd_L1 l (i : Int) = l.getD i [] := rfl
/-- Rows and numbers together. -/
def bulk (l : List (List Int)) : Nat := l.length + (l.map List.length).sum
theorem sum_drop_lt {l : List (List Int)} {i : Nat} (h : i < l.length) : ((l.drop i).map List.length).sum = l[i].length + ((l.drop (i + 1)).map List.length).sum := by
  rw [List.drop_eq_getElem_cons h, List.map_cons, List.sum_cons]
theorem len_le_sum {l : List (List Int)} {x : List Int} (h : x ∈ l) : x.length ≤ (l.map List.length).sum := by
  induction l with
  | nil => simp at h
  | cons y l ih =>
    rw [List.map_cons, List.sum_cons]
    rcases List.mem_cons.1 h with rfl | h
    · omega
    · have := ih h; omega

/-! eqIntSS -/
theorem eqIntSS_l (a b : List (List Int)) (hn : a.length = b.length) (hl : a.length ≤ 9223372036854775807) (hx : ∀ x ∈ a, x.length ≤ 9223372036854775807) : ∀ (d i : Nat), i + d = a.length → Ev (fun k => laws_eqIntSS.l0 k a b i) (decide (a.drop i = b.drop i)) := by
  intro d
  induction d with
  | zero =>
    intro i hi
    refine Ev.step (f := fun _ => some true) (fun k => ?_) ?_
    · simp only [laws_eqIntSS.l0]; rw [if_neg (by omega)]
    · rw [List.drop_of_length_le (by omega), List.drop_of_length_le (by omega), decide_eq_true rfl]; exact Ev.now _
  | succ d ih =>
    intro i hi
    have h1 : i < a.length := by omega
    have h2 : i < b.length := by omega
    have e1 : a.drop i = a[i] :: a.drop (i + 1) := List.drop_eq_getElem_cons h1
    have e2 : b.drop i = b[i] :: b.drop (i + 1) := List.drop_eq_getElem_cons h2
    have hq := eqIntS_ev a[i] b[i] (hx _ (List.getElem_mem h1))
    refine Ev.step (f := fun k => (laws_eqIntS.f k a[i] b[i]).bind fun t => if t = true then laws_eqIntSS.l0 k a b ((i + 1 : Nat) : Int) else some false) (fun k => ?_) (Ev.bind hq ?_)
    · simp only [laws_eqIntSS.l0, rdL_lt h1, rdL_lt h2]
      rw [if_pos (by omega), if_pos (by omega), if_pos (by omega), w64s h1 hl]
    · by_cases he : a[i] = b[i]
      · have hd : decide (a.drop i = b.drop i) = decide (a.drop (i + 1) = b.drop (i + 1)) := by
          rw [decide_eq_decide, e1, e2, he]; simp only [List.cons.injEq, true_and]
        rw [hd, decide_eq_true he]
        simp only [if_true]
        exact ih (i + 1) (by omega)
      · have hd : decide (a.drop i = b.drop i) = false := by
          refine decide_eq_false fun e => he ?_
          rw [e1, e2] at e
          exact (List.cons.inj e).1
        rw [hd, decide_eq_false he]; exact Ev.now _
theorem eqIntSS_ev (a b : List (List Int)) (hl : a.length ≤ 9223372036854775807) (hx : ∀ x ∈ a, x.length ≤ 9223372036854775807) : Ev (fun k => laws_eqIntSS.f k a b) (decide (a = b)) := by
  by_cases hn : a.length = b.length
  · refine Ev.congr (f := fun k => laws_eqIntSS.l0 k a b ((0 : Nat) : Int)) (fun k => ?_) (eqIntSS_l a b hn hl hx a.length 0 (by omega))
    unfold laws_eqIntSS.f; rw [if_pos (by omega)]; rfl
  · refine Ev.congr (f := fun _ => some false) (fun k => ?_) ?_
    · unfold laws_eqIntSS.f; rw [if_neg (by omega)]
    · rw [decide_eq_false (fun e => hn (by rw [e]))]; exact Ev.now _
theorem eqIntSS_same (a : List (List Int)) (hl : bulk a ≤ 1048576) : Ev (fun k => laws_eqIntSS.f k a a) true := by
  have := eqIntSS_ev a a (by unfold bulk at hl; omega) (fun x hx => by have := len_le_sum hx; unfold bulk at hl; omega)
  rwa [decide_eq_true rfl] at this

/-! markIntS -/
theorem markIntS_l (n : Nat) (m : Int) (hm : 0 ≤ m) (hb : m + n ≤ 9223372036854775807) : ∀ (d i : Nat) (acc : List Int), i + d = n → acc.length = n → acc.take i = (from_ m n).take i → Ev (fun k => laws_markIntS.l0 k acc (m + i) i) (m + n, from_ m n) := by
  intro d
  induction d with
  | zero =>
    intro i acc hi ha ht
    refine Ev.step (f := fun _ => some (m + i, acc)) (fun k => ?_) ?_
    · simp only [laws_markIntS.l0]; rw [if_neg (by omega)]
    · have e : acc = from_ m n := by
        have h1 := List.take_of_length_le (l := acc) (i := i) (by omega)
        have h2 := List.take_of_length_le (l := from_ m n) (i := i) (by rw [from_length]; omega)
        rw [← h1, ← h2, ht]
      rw [e, show i = n by omega]; exact Ev.now _
  | succ d ih =>
    intro i acc hi ha ht
    have hlt : i < n := by omega
    have := ih (i + 1) (acc.set i (m + i)) (by omega) (by simpa using ha) (by
      rw [List.take_succ_eq_append_getElem (by simp; omega), List.take_succ_eq_append_getElem (by rw [from_length]; exact hlt), List.take_set_of_le (Nat.le_refl i), ht, from_get m n i hlt]
      simp)
    refine Ev.step (f := fun k => laws_markIntS.l0 k (acc.set i (m + i)) (m + ((i + 1 : Nat) : Int)) ((i + 1 : Nat) : Int)) (fun k => ?_) this
    simp only [laws_markIntS.l0]
    rw [if_pos (by omega), if_pos (by omega), w64 (by omega) (by omega), w64 (by omega) (by omega), Int.toNat_natCast, show m + (i : Int) + 1 = m + ((i + 1 : Nat) : Int) by omega, show (i : Int) + 1 = ((i + 1 : Nat) : Int) by omega]
theorem markIntS_ev (l : List Int) (m : Int) (hm : 0 ≤ m) (hb : m + l.length ≤ 9223372036854775807) : Ev (fun k => laws_markIntS.f k l m) (m + l.length, from_ m l.length) := by
  have := markIntS_l l.length m hm hb l.length 0 l (by omega) rfl (by simp)
  simpa [laws_markIntS.f] using this

/-! markIntSS -/
/-- Rows of marks, one behind the other. -/
def rowsFrom (m : Int) : List (List Int) → List (List Int)
  | [] => []
  | x :: t => from_ m x.length :: rowsFrom (m + x.length) t
theorem rowsFrom_length (m : Int) (l : List (List Int)) : (rowsFrom m l).length = l.length := by
  induction l generalizing m with
  | nil => rfl
  | cons x t ih => simp [rowsFrom, ih]
theorem rdL_mid (a : List (List Int)) (x : List Int) (t : List (List Int)) : rd_L1 (a ++ x :: t) (a.length : Int) = x := by
  rw [rdL_lt (by simp)]; simp
theorem set_mid {α : Type} (a : List α) (x y : α) (t : List α) : (a ++ x :: t).set a.length y = (a ++ [y]) ++ t := by simp
theorem markIntSS_l : ∀ (t a : List (List Int)) (m : Int), 0 ≤ m → m + (t.map List.length).sum ≤ 9223372036854775807 → a.length + t.length ≤ 1048576 → Ev (fun k => laws_markIntSS.l0 k (a ++ t) m a.length) (m + (t.map List.length).sum, a ++ rowsFrom m t) := by
  intro t
  induction t with
  | nil =>
    intro a m h0 hb hl
    refine Ev.step (f := fun _ => some (m, a ++ [])) (fun k => ?_) ?_
    · simp only [laws_markIntSS.l0]; rw [if_neg (by simp)]
    · simpa [rowsFrom] using Ev.now (m, a)
  | cons x t ih =>
    intro a m h0 hb hl
    simp only [List.map_cons, List.sum_cons, List.length_cons] at hb hl
    have hM := markIntS_ev x m h0 (by omega)
    have := ih (a ++ [from_ m x.length]) (m + x.length) (by omega) (by omega) (by simp; omega)
    refine Ev.step (f := fun k => (laws_markIntS.f k x m).bind fun bt => laws_markIntSS.l0 k ((a ++ [bt.2]) ++ t) bt.1 ((a.length + 1 : Nat) : Int)) (fun k => ?_) (Ev.bind hM ?_)
    · simp only [laws_markIntSS.l0, rdL_mid, Int.toNat_natCast, set_mid]
      rw [if_pos (by simp; omega), if_pos (by omega), w64s (n := a.length + t.length + 1) (by omega) (by omega)]
    · simp only [List.map_cons, List.sum_cons, rowsFrom]
      simp only [List.length_append, List.length_singleton, List.append_assoc, List.singleton_append] at this
      rw [show m + ((x.length + (t.map List.length).sum : Nat) : Int) = m + (x.length : Int) + ((t.map List.length).sum : Nat) by omega]
      simpa using this
theorem markIntSS_ev (l : List (List Int)) (hl : bulk l ≤ 1048576) : Ev (fun k => laws_markIntSS.f k l 1) (1 + ((l.map List.length).sum : Int), rowsFrom 1 l) := by
  unfold bulk at hl
  exact markIntSS_l l [] 1 (by omega) (by omega) (by simp; omega)

/-! heldIntS -/
theorem heldIntS_l (n : Nat) (m : Int) (hm : 0 ≤ m) (hb : m + n ≤ 9223372036854775807) : ∀ (d i : Nat), i + d = n → Ev (fun k => laws_heldIntS.l0 k (from_ m n) (m + i) i) (m + n) := by
  intro d
  induction d with
  | zero =>
    intro i hi
    refine Ev.step (f := fun _ => some (m + i)) (fun k => ?_) ?_
    · simp only [laws_heldIntS.l0]; rw [if_neg (by rw [from_length]; omega)]
    · rw [show i = n by omega]; exact Ev.now _
  | succ d ih =>
    intro i hi
    have hlt : i < n := by omega
    refine Ev.step (f := fun k => laws_heldIntS.l0 k (from_ m n) (m + ((i + 1 : Nat) : Int)) ((i + 1 : Nat) : Int)) (fun k => ?_) (ih (i + 1) (by omega))
    simp only [laws_heldIntS.l0]
    rw [if_pos (by rw [from_length]; omega), if_pos (by omega), rd_lt (by rw [from_length]; omega), from_get m n i hlt, if_pos rfl, w64 (by omega) (by omega), w64 (by omega) (by omega), show m + (i : Int) + 1 = m + ((i + 1 : Nat) : Int) by omega, show (i : Int) + 1 = ((i + 1 : Nat) : Int) by omega]
theorem heldIntS_ev (n : Nat) (m : Int) (hm : 0 ≤ m) (hb : m + n ≤ 9223372036854775807) : Ev (fun k => laws_heldIntS.f k (from_ m n) m) (m + n) := by
  have := heldIntS_l n m hm hb n 0 (by omega)
  simpa [laws_heldIntS.f] using this

/-! heldIntSS -/
theorem heldIntSS_l : ∀ (t a : List (List Int)) (m : Int), 0 ≤ m → m + (t.map List.length).sum ≤ 9223372036854775807 → a.length + t.length ≤ 1048576 → Ev (fun k => laws_heldIntSS.l0 k (a ++ rowsFrom m t) m a.length) (m + (t.map List.length).sum) := by
  intro t
  induction t with
  | nil =>
    intro a m h0 hb hl
    refine Ev.step (f := fun _ => some m) (fun k => ?_) ?_
    · simp only [laws_heldIntSS.l0]; rw [if_neg (by simp [rowsFrom])]
    · simpa using Ev.now m
  | cons x t ih =>
    intro a m h0 hb hl
    simp only [List.map_cons, List.sum_cons, List.length_cons] at hb hl
    have hM := heldIntS_ev x.length m h0 (by omega)
    have := ih (a ++ [from_ m x.length]) (m + x.length) (by omega) (by omega) (by simp; omega)
    have hn : ¬ (m + (x.length : Int) < 0) := by omega
    refine Ev.step (f := fun k => (laws_heldIntS.f k (from_ m x.length) m).bind fun t1 => if t1 < 0 then some (-1) else laws_heldIntSS.l0 k ((a ++ [from_ m x.length]) ++ rowsFrom (m + x.length) t) t1 ((a.length + 1 : Nat) : Int)) (fun k => ?_) (Ev.bind hM ?_)
    · simp only [laws_heldIntSS.l0, rowsFrom, rdL_mid, List.append_assoc, List.singleton_append]
      rw [if_pos (by simp; omega), if_pos (by omega), w64s (n := a.length + t.length + 1) (by omega) (by omega)]
    · simp only [List.map_cons, List.sum_cons, hn, if_false]
      simp only [List.length_append, List.length_singleton] at this
      rw [show m + ((x.length + (t.map List.length).sum : Nat) : Int) = m + (x.length : Int) + ((t.map List.length).sum : Nat) by omega]
      exact this
theorem heldIntSS_ev (l : List (List Int)) (hl : bulk l ≤ 1048576) : Ev (fun k => laws_heldIntSS.f k (rowsFrom 1 l) 1) (1 + ((l.map List.length).sum : Int)) := by
  unfold bulk at hl
  exact heldIntSS_l l [] 1 (by omega) (by omega) (by simp; omega)

/-! evp -/
/-- From some number of rounds on. -/
def Evp (P : Nat → Prop) : Prop := ∃ K, ∀ k, K ≤ k → P k
theorem Evp.and {P Q : Nat → Prop} (h : Evp P) (g : Evp Q) : Evp (fun k => P k ∧ Q k) := by
  obtain ⟨K, hK⟩ := h
  obtain ⟨M, hM⟩ := g
  exact ⟨max K M, fun k hk => ⟨hK k (by omega), hM k (by omega)⟩⟩
theorem evp {α : Type} {g : Nat → Option α} {r : α} (h : Ev g r) : Evp (fun k => g k = some r) := h
theorem Evp.some {P : Nat → Prop} (h : Evp P) : ∃ k, P k := by obtain ⟨K, hK⟩ := h; exact ⟨K, hK K (Nat.le_refl _)⟩

/-! within -/
theorem within_eq (a b c : Int) : impl_within.f a b c = some (decide (b ≤ a ∧ a ≤ c)) := by
  unfold impl_within.f
  split <;> simp <;> omega

/-! l1In -/
theorem l1In_eq (a b c : Int) : spec_l1In.f a b c = some (decide (b ≤ a ∧ a ≤ c)) := by
  unfold spec_l1In.f
  split <;> simp <;> omega

/-! isSurface -/
/-- Both tell a surface alike. -/
theorem isSurface_eq (a b c : Int) : ∃ o, spec_IsSurface.f a b c = some o ∧ impl_IsSurface.f a b c = some o ∧ (o = true ↔ (0 ≤ a ∧ a ≤ 20) ∧ (0 ≤ b ∧ b ≤ 20) ∧ (0 ≤ c ∧ c ≤ 20) ∧ (a = 0 ∨ b = 0)) := by
  unfold spec_IsSurface.f impl_IsSurface.f
  simp only [within_eq, l1In_eq, Option.bind_some]
  by_cases h1 : 0 ≤ a ∧ a ≤ 20
  case neg => exact ⟨false, by simp only [decide_eq_false h1]; rfl, by simp only [decide_eq_false h1]; rfl, by simp only [h1, Bool.false_eq_true, false_and]⟩
  by_cases h2 : 0 ≤ b ∧ b ≤ 20
  case neg => exact ⟨false, by simp only [decide_eq_true h1, decide_eq_false h2]; rfl, by simp only [decide_eq_true h1, decide_eq_false h2]; rfl, by simp only [h2, Bool.false_eq_true, false_and, and_false]⟩
  by_cases h3 : 0 ≤ c ∧ c ≤ 20
  case neg => exact ⟨false, by simp only [decide_eq_true h1, decide_eq_true h2, decide_eq_false h3]; rfl, by simp only [decide_eq_true h1, decide_eq_true h2, decide_eq_false h3]; rfl, by simp only [h3, Bool.false_eq_true, false_and, and_false]⟩
  simp only [decide_eq_true h1, decide_eq_true h2, decide_eq_true h3, if_true]
  by_cases h4 : a = 0
  · exact ⟨true, by rw [if_pos h4], by rw [if_pos h4], by simp only [true_iff]; exact ⟨h1, h2, h3, .inl h4⟩⟩
  · refine ⟨b == 0, by rw [if_neg h4], by rw [if_neg h4], ?_⟩
    rw [beq_iff_eq]
    exact ⟨fun h => ⟨h1, h2, h3, .inr h⟩, fun h => h.2.2.2.resolve_left h4⟩

/-! stdGlu -/
/-- The word that is handed back: never without letters. -/
def finW (w : List Int) : List Int := if w.length = 0 then [1, -1] else w
theorem finW_len (w : List Int) (h : w.length ≤ 20) : (finW w).length ≤ 20 := by
  unfold finW
  split
  · simp
  · exact h
noncomputable def finI (w : List Int) (x : Int) : List (List Int) × Bool := if x > 9 then ([], false) else if ((finW w).length : Int) > 20 then ([], false) else ([finW w], true)
theorem sg_2 (a b : Int) (c : Nat) (hc : c ≤ 20) : ∀ (d i : Nat) (w : List Int) (x : Nat), i + d = c → w.length ≤ 1000 - 3 * d → x ≤ 1000 - 2 * d → d ≤ 20 → ∃ v : List Int, v.length = w.length + 3 * d ∧ Ev (fun k => spec_StandardGluing.l2 k w x i a b c) ([finW v], true) ∧ Ev (fun k => impl_StandardGluing.l2 k w x c i) (finI v ((x + 2 * d : Nat) : Int)) := by
  intro d
  induction d with
  | zero =>
    intro i w x hi hw hx _
    refine ⟨w, rfl, Ev.step (f := fun _ => some ([finW w], true)) (fun k => ?_) (Ev.now _), Ev.step (f := fun _ => some (finI w ((x + 2 * 0 : Nat) : Int))) (fun k => ?_) (Ev.now _)⟩
    · simp only [spec_StandardGluing.l2]
      rw [if_neg (by omega)]
      unfold finW
      by_cases h : w.length = 0
      · rw [if_pos (by omega), if_pos h]
      · rw [if_neg (by omega), if_neg h]
    · simp only [impl_StandardGluing.l2]
      rw [if_neg (by omega)]
      rw [show ((x + 2 * 0 : Nat) : Int) = (x : Int) by omega]
      unfold finI finW
      by_cases h : w.length = 0
      · rw [if_pos (show (w.length : Int) = 0 by omega), if_pos h, Option.bind_some]
        by_cases h9 : (x : Int) > 9
        · simp only [if_pos h9]
        · simp only [if_neg h9]
          rw [if_neg (by simp), if_neg (by simp)]
      · rw [if_neg (show ¬ (w.length : Int) = 0 by omega), if_neg h]
        by_cases h9 : (x : Int) > 9
        · simp only [if_pos h9]
        · simp only [if_neg h9]
          by_cases h20 : (w.length : Int) > 20
          · simp only [if_pos h20]
          · simp only [if_neg h20]
  | succ d ih =>
    intro i w x hi hw hx hd
    obtain ⟨v, h1, h2, h3⟩ := ih (i + 1) (w ++ [(x : Int), wrap64 ((x : Int) + 1), wrap64 (-(x : Int))]) (x + 2) (by omega) (by rw [List.length_append]; simp only [List.length_cons, List.length_nil]; omega) (by omega) (by omega)
    rw [List.length_append] at h1
    simp only [List.length_cons, List.length_nil] at h1
    refine ⟨v, by omega, Ev.step (fun k => ?_) h2, Ev.step (fun k => ?_) (by rw [show x + 2 * (d + 1) = x + 2 + 2 * d by omega]; exact h3)⟩
    · simp only [spec_StandardGluing.l2, Option.bind_some]
      rw [if_pos (by omega), if_pos (by simp only [List.length_cons, List.length_nil]; omega), w64 (x := (x : Int) + 2) (by omega) (by omega), w64 (x := (i : Int) + 1) (by omega) (by omega)]
      rfl
    · simp only [impl_StandardGluing.l2, Option.bind_some]
      rw [if_pos (by omega), if_pos (by simp only [List.length_cons, List.length_nil]; omega), w64 (x := (x : Int) + 2) (by omega) (by omega), w64 (x := (i : Int) + 1) (by omega) (by omega)]
      rfl
theorem sg_1 (a : Int) (b c : Nat) (hb : b ≤ 20) (hc : c ≤ 20) : ∀ (d i : Nat) (w : List Int) (x : Nat), i + d = b → w.length ≤ 500 - 2 * d → x ≤ 500 - d → d ≤ 20 → ∃ v : List Int, v.length = w.length + 2 * d + 3 * c ∧ Ev (fun k => spec_StandardGluing.l1 k w x i a b c) ([finW v], true) ∧ Ev (fun k => impl_StandardGluing.l1 k w x b i a b c) (finI v ((x + d + 2 * c : Nat) : Int)) := by
  intro d
  induction d with
  | zero =>
    intro i w x hi hw hx _
    obtain ⟨v, h1, h2, h3⟩ := sg_2 a b c hc c 0 w x (by omega) (by omega) (by omega) hc
    refine ⟨v, by omega, Ev.step (fun k => ?_) h2, Ev.step (fun k => ?_) h3⟩
    · simp only [spec_StandardGluing.l1]; rw [if_neg (by omega)]; rfl
    · simp only [impl_StandardGluing.l1]; rw [if_neg (by omega)]; rfl
  | succ d ih =>
    intro i w x hi hw hx hd
    obtain ⟨v, h1, h2, h3⟩ := ih (i + 1) (w ++ [(x : Int), (x : Int)]) (x + 1) (by omega) (by rw [List.length_append]; simp only [List.length_cons, List.length_nil]; omega) (by omega) (by omega)
    rw [List.length_append] at h1
    simp only [List.length_cons, List.length_nil] at h1
    refine ⟨v, by omega, Ev.step (fun k => ?_) h2, Ev.step (fun k => ?_) (by rw [show x + (d + 1) + 2 * c = x + 1 + d + 2 * c by omega]; exact h3)⟩
    · simp only [spec_StandardGluing.l1, Option.bind_some]
      rw [if_pos (by omega), if_pos (by simp only [List.length_cons, List.length_nil]; omega), w64 (x := (x : Int) + 1) (by omega) (by omega), w64 (x := (i : Int) + 1) (by omega) (by omega)]
      rfl
    · simp only [impl_StandardGluing.l1, Option.bind_some]
      rw [if_pos (by omega), if_pos (by simp only [List.length_cons, List.length_nil]; omega), w64 (x := (x : Int) + 1) (by omega) (by omega), w64 (x := (i : Int) + 1) (by omega) (by omega)]
      rfl
theorem sg_0 (a b c : Nat) (ha : a ≤ 20) (hb : b ≤ 20) (hc : c ≤ 20) : ∀ (d i : Nat) (w : List Int) (x : Nat), i + d = a → w.length ≤ 300 - 4 * d → x ≤ 300 - 2 * d → d ≤ 20 → ∃ v : List Int, v.length = w.length + 4 * d + 2 * b + 3 * c ∧ Ev (fun k => spec_StandardGluing.l0 k w x i a b c) ([finW v], true) ∧ Ev (fun k => impl_StandardGluing.l0 k w x a i a b c) (finI v ((x + 2 * d + b + 2 * c : Nat) : Int)) := by
  intro d
  induction d with
  | zero =>
    intro i w x hi hw hx _
    obtain ⟨v, h1, h2, h3⟩ := sg_1 a b c hb hc b 0 w x (by omega) (by omega) (by omega) hb
    refine ⟨v, by omega, Ev.step (fun k => ?_) h2, Ev.step (fun k => ?_) h3⟩
    · simp only [spec_StandardGluing.l0]; rw [if_neg (by omega)]; rfl
    · simp only [impl_StandardGluing.l0]; rw [if_neg (by omega)]; rfl
  | succ d ih =>
    intro i w x hi hw hx hd
    obtain ⟨v, h1, h2, h3⟩ := ih (i + 1) (w ++ [(x : Int), wrap64 ((x : Int) + 1), wrap64 (-(x : Int)), wrap64 ((wrap64 (-(x : Int))) - 1)]) (x + 2) (by omega) (by rw [List.length_append]; simp only [List.length_cons, List.length_nil]; omega) (by omega) (by omega)
    rw [List.length_append] at h1
    simp only [List.length_cons, List.length_nil] at h1
    refine ⟨v, by omega, Ev.step (fun k => ?_) h2, Ev.step (fun k => ?_) (by rw [show x + 2 * (d + 1) + b + 2 * c = x + 2 + 2 * d + b + 2 * c by omega]; exact h3)⟩
    · simp only [spec_StandardGluing.l0, Option.bind_some]
      rw [if_pos (by omega), if_pos (by simp only [List.length_cons, List.length_nil]; omega), w64 (x := (x : Int) + 2) (by omega) (by omega), w64 (x := (i : Int) + 1) (by omega) (by omega)]
      rfl
    · simp only [impl_StandardGluing.l0, Option.bind_some]
      rw [if_pos (by omega), if_pos (by simp only [List.length_cons, List.length_nil]; omega), w64 (x := (x : Int) + 2) (by omega) (by omega), w64 (x := (i : Int) + 1) (by omega) (by omega)]
      rfl
theorem stdGlu_ev (a b c : Int) : ∃ (r : List (List Int)) (o : Bool), bulk r ≤ 1048576 ∧ Ev (fun k => spec_StandardGluing.f k a b c) (r, o) ∧ Ev (fun k => impl_StandardGluing.f k a b c) (r, o) := by
  obtain ⟨s, e1, e2, hs⟩ := isSurface_eq a b c
  unfold spec_StandardGluing.f impl_StandardGluing.f
  rw [e1, e2]
  cases s with
  | false =>
    refine ⟨[], false, by unfold bulk; simp, Ev.some_bind (Ev.congr (fun k => if_neg Bool.false_ne_true) ?_), Ev.some_bind (Ev.congr (fun k => if_neg Bool.false_ne_true) (Ev.now _))⟩
    refine Ev.step (f := fun _ => some ([], false)) (fun k => ?_) (Ev.now _)
    simp only [spec_StandardGluing.j0]; rw [if_pos trivial]
  | true =>
    obtain ⟨ha, hb, hc, _⟩ := hs.1 rfl
    obtain ⟨A, rfl⟩ := Int.eq_ofNat_of_zero_le ha.1
    obtain ⟨B, rfl⟩ := Int.eq_ofNat_of_zero_le hb.1
    obtain ⟨C, rfl⟩ := Int.eq_ofNat_of_zero_le hc.1
    obtain ⟨v, h1, h2, h3⟩ := sg_0 A B C (by omega) (by omega) (by omega) A 0 [] 1 (by omega) (by simp only [List.length_nil]; omega) (by omega) (by omega)
    rw [List.length_nil] at h1
    have hw : wrap64 ((wrap64 ((wrap64 (2 * (A : Int))) + (B : Int))) + (wrap64 (2 * (C : Int)))) = ((2 * A + B + 2 * C : Nat) : Int) := by
      rw [w64 (x := 2 * (A : Int)) (by omega) (by omega), w64 (x := 2 * (C : Int)) (by omega) (by omega), w64 (x := 2 * (A : Int) + (B : Int)) (by omega) (by omega), w64 (by omega) (by omega)]
      omega
    rw [hw]
    by_cases h8 : 2 * A + B + 2 * C > 8
    · have hf : finI v ((1 + 2 * A + B + 2 * C : Nat) : Int) = ([], false) := if_pos (by omega)
      rw [hf] at h3
      refine ⟨[], false, by unfold bulk; simp, Ev.some_bind (Ev.congr (fun k => if_pos rfl) ?_), Ev.some_bind (Ev.congr (fun k => if_pos rfl) h3)⟩
      rw [decide_eq_true (show ((2 * A + B + 2 * C : Nat) : Int) > 8 by omega)]
      refine Ev.step (f := fun _ => some ([], false)) (fun k => ?_) (Ev.now _)
      simp only [spec_StandardGluing.j0]; rw [if_pos trivial]
    · have hl := finW_len v (by omega)
      have hf : finI v ((1 + 2 * A + B + 2 * C : Nat) : Int) = ([finW v], true) := (if_neg (by omega)).trans (if_neg (by omega))
      rw [hf] at h3
      refine ⟨[finW v], true, by unfold bulk; simp; omega, Ev.some_bind (Ev.congr (fun k => if_pos rfl) ?_), Ev.some_bind (Ev.congr (fun k => if_pos rfl) h3)⟩
      rw [decide_eq_false (show ¬ ((2 * A + B + 2 * C : Nat) : Int) > 8 by omega)]
      refine Ev.step (fun k => ?_) h2
      simp only [spec_StandardGluing.j0]; rw [if_neg Bool.false_ne_true]; rfl

/-! law.FnExactStandardGluing -/
theorem FnExactStandardGluing (a b c : Int) (_ : (Lit.int .i64 a).wf = true) (_ : (Lit.int .i64 b).wf = true) (_ : (Lit.int .i64 c).wf = true) : ∃ k, laws_FnExactStandardGluing.f k a b c = some true := by
  obtain ⟨r, o, hr, e1, e2⟩ := stdGlu_ev a b c
  obtain ⟨k, q1, q2, q3, q4, q5⟩ := ((evp e1).and ((evp e2).and ((evp (eqIntSS_same r hr)).and ((evp (markIntSS_ev r hr)).and (evp (heldIntSS_ev r hr)))))).some
  exact ⟨k, by unfold laws_FnExactStandardGluing.f; rw [if_pos ⟨r, o, _, _, by omega, rfl, q1, q2, q3, q4, q5⟩]⟩

end Go.Proofs.Ytehloilmokhmgaa.Pure
