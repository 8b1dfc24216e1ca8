/- OnePolygon of the program and OnePolygon of the reference answer the same for all arguments; the arguments are left as they were and share nothing with the results. Conditions: those that the printed statement itself names (lengths and numbers that fit). -/
import Derived.Test.YtlnddmkkgjlmbaaWalkFnExactOnePolygon
import Derived.Test.YtlnddmkkgjlmbaaCom
namespace Go.Proofs.Ytlnddmkkgjlmbaa.Pure
open Classical Go.RowKit Go.Proofs.Ytlnddmkkgjlmbaa.QFnExactOnePolygon Go.Proofs.YtlnddmkkgjlmbaaW.PrintWords Go.Proofs.YtlnddmkkgjlmbaaW.PrintLast Go.Proofs.Ytlnddmkkgjlmbaa.Com
theorem rdL_lt {l : List (List Int)} {i : Nat} (h : i < l.length) : rd_L1 l (i : Int) = l[i] := by
  simp [rd_L1, List.getD_eq_getElem?_getD, h]
def bulk (l : List (List Int)) : Nat := l.length + (l.map List.length).sum
theorem sum_drop_lt {l : List (List Int)} {i : Nat} (h : i < l.length) : ((l.drop i).map List.length).sum = l[i].length + ((l.drop (i + 1)).map List.length).sum := by
  rw [List.drop_eq_getElem_cons h, List.map_cons, List.sum_cons]
theorem len_le_sum {l : List (List Int)} {x : List Int} (h : x ∈ l) : x.length ≤ (l.map List.length).sum := by
  induction l with
  | nil => simp at h
  | cons y l ih =>
    rw [List.map_cons, List.sum_cons]
    rcases List.mem_cons.1 h with rfl | h
    · omega
    · have := ih h; omega
theorem szIntSS_l (l : List (List Int)) (hl : l.length ≤ 9223372036854775807) (hx : ∀ x ∈ l, x.length ≤ 9223372036854775807) : ∀ (d i : Nat) (left : Nat), i + d = l.length → left ≤ 1048576 → ∃ v : Int, Ev (fun k => laws_szIntSS.l0 k l left i) v ∧ (0 ≤ v → ((l.drop i).map List.length).sum ≤ left) := by
  intro d
  induction d with
  | zero =>
    intro i left hi hle
    refine ⟨left, Ev.step (f := fun _ => some (left : Int)) (fun k => ?_) (Ev.now _), fun _ => ?_⟩
    · simp only [laws_szIntSS.l0]; rw [if_neg (by omega)]
    · rw [List.drop_of_length_le (by omega)]; simp
  | succ d ih =>
    intro i left hi hle
    have hlt : i < l.length := by omega
    have hxl := hx l[i] (List.getElem_mem hlt)
    have hw : wrap64 ((left : Int) - (l[i].length : Int)) = (left : Int) - l[i].length := w64 (by omega) (by omega)
    by_cases hc : (left : Int) - (l[i].length : Int) < 0
    · refine ⟨-1, Ev.step (f := fun _ => some (-1 : Int)) (fun k => ?_) (Ev.now _), fun h => absurd h (by omega)⟩
      simp only [laws_szIntSS.l0, rdL_lt hlt, laws_szIntS.f, hw]
      rw [if_pos (by omega), if_pos (by omega), if_pos hc]
      simp
    · obtain ⟨v, h1, h2⟩ := ih (i + 1) (left - l[i].length) (by omega) (by omega)
      refine ⟨v, Ev.step (fun k => ?_) h1, fun h => ?_⟩
      · simp only [laws_szIntSS.l0, rdL_lt hlt, laws_szIntS.f, hw]
        rw [if_pos (by omega), if_pos (by omega), if_neg hc, Option.bind_some, if_neg hc, w64s hlt hl, show (left : Int) - (l[i].length : Int) = ((left - l[i].length : Nat) : Int) by omega]
      · have := h2 h
        rw [sum_drop_lt hlt]
        omega
theorem szIntSS_ev (l : List (List Int)) (hl : l.length ≤ 9223372036854775807) (hx : ∀ x ∈ l, x.length ≤ 9223372036854775807) : ∃ v : Int, Ev (fun k => laws_szIntSS.f k l 1048576) v ∧ (0 ≤ v → bulk l ≤ 1048576) := by
  have hw : wrap64 ((1048576 : Int) - (l.length : Int)) = (1048576 : Int) - l.length := w64 (by omega) (by omega)
  by_cases hc : (1048576 : Int) - (l.length : Int) < 0
  · refine ⟨-1, Ev.congr (f := fun _ => some (-1 : Int)) (fun k => ?_) (Ev.now _), fun h => absurd h (by omega)⟩
    unfold laws_szIntSS.f; rw [hw, if_pos hc]
  · obtain ⟨v, h1, h2⟩ := szIntSS_l l hl hx l.length 0 (1048576 - l.length) (by omega) (by omega)
    refine ⟨v, Ev.congr (fun k => ?_) h1, fun h => ?_⟩
    · unfold laws_szIntSS.f; rw [hw, if_neg hc, show (1048576 : Int) - (l.length : Int) = ((1048576 - l.length : Nat) : Int) by omega]; rfl
    · have := h2 h
      unfold bulk
      simp only [List.drop_zero] at this
      omega
theorem toIntS_l (l : List Int) (hl : l.length ≤ 9223372036854775807) : ∀ (d i : Nat) (acc : List Int), i + d = l.length → acc.length = l.length → acc.take i = l.take i → Ev (fun k => laws_toIntS.l0 k l acc i) l := by
  intro d
  induction d with
  | zero =>
    intro i acc hi ha ht
    refine Ev.step (f := fun _ => some acc) (fun k => ?_) ?_
    · simp only [laws_toIntS.l0]; rw [if_neg (by omega)]
    · have e : acc = l := by
        have h1 := List.take_of_length_le (l := acc) (i := i) (by omega)
        have h2 := List.take_of_length_le (l := l) (i := i) (by omega)
        rw [← h1, ← h2, ht]
      rw [e]; exact Ev.now _
  | succ d ih =>
    intro i acc hi ha ht
    have hlt : i < l.length := by omega
    refine Ev.step (f := fun k => laws_toIntS.l0 k l (acc.set i l[i]) ((i + 1 : Nat) : Int)) (fun k => ?_) (ih (i + 1) (acc.set i l[i]) (by omega) (by simpa using ha) ?_)
    · simp only [laws_toIntS.l0]
      rw [if_pos (by omega), if_pos (by omega), if_pos (by omega), w64s hlt hl, rd_lt hlt, Int.toNat_natCast]
    · rw [List.take_succ_eq_append_getElem (by simp; omega), List.take_succ_eq_append_getElem hlt, List.take_set_of_le (Nat.le_refl i), ht]
      simp
theorem toIntS_ev (l : List Int) (hl : l.length ≤ 35184372088832) : Ev (fun k => laws_toIntS.f k l) l := by
  refine Ev.congr (f := fun k => laws_toIntS.l0 k l (List.replicate l.length 0) ((0 : Nat) : Int)) (fun k => ?_) (toIntS_l l (by omega) l.length 0 _ (by omega) (by simp) (by simp))
  unfold laws_toIntS.f
  rw [if_pos (by omega), if_pos (by omega), Int.toNat_natCast]; rfl
theorem toIntSS_l (l : List (List Int)) (hl : bulk l ≤ 1048576) : ∀ (d i : Nat) (acc : List (List Int)), i + d = l.length → acc.length = l.length → acc.take i = l.take i → Ev (fun k => laws_toIntSS.l0 k l acc i) l := by
  intro d
  induction d with
  | zero =>
    intro i acc hi ha ht
    refine Ev.step (f := fun _ => some acc) (fun k => ?_) ?_
    · simp only [laws_toIntSS.l0]; rw [if_neg (by omega)]
    · have e : acc = l := by
        have h1 := List.take_of_length_le (l := acc) (i := i) (by omega)
        have h2 := List.take_of_length_le (l := l) (i := i) (by omega)
        rw [← h1, ← h2, ht]
      rw [e]; exact Ev.now _
  | succ d ih =>
    intro i acc hi ha ht
    have hlt : i < l.length := by omega
    have hll : l.length ≤ 1048576 := by unfold bulk at hl; omega
    have hxl : l[i].length ≤ 35184372088832 := by have := len_le_sum (List.getElem_mem hlt); unfold bulk at hl; omega
    refine Ev.step (f := fun k => (laws_toIntS.f k l[i]).bind fun t => laws_toIntSS.l0 k l (acc.set i t) ((i + 1 : Nat) : Int)) (fun k => ?_) (Ev.bind (toIntS_ev l[i] hxl) (ih (i + 1) (acc.set i l[i]) (by omega) (by simpa using ha) ?_))
    · simp only [laws_toIntSS.l0, rdL_lt hlt]
      rw [if_pos (by omega), if_pos (by omega), w64s hlt (by omega), Int.toNat_natCast]
      congr 1
      funext t
      rw [if_pos (by omega)]
    · rw [List.take_succ_eq_append_getElem (by simp; omega), List.take_succ_eq_append_getElem hlt, List.take_set_of_le (Nat.le_refl i), ht]
      simp
theorem toIntSS_ev (l : List (List Int)) (hl : bulk l ≤ 1048576) : Ev (fun k => laws_toIntSS.f k l) l := by
  have hll : l.length ≤ 1048576 := by unfold bulk at hl; omega
  refine Ev.congr (f := fun k => laws_toIntSS.l0 k l (List.replicate l.length []) ((0 : Nat) : Int)) (fun k => ?_) (toIntSS_l l hl l.length 0 _ (by omega) (by simp) (by simp))
  unfold laws_toIntSS.f
  rw [if_pos (by omega), if_pos (by omega), Int.toNat_natCast]; rfl
theorem eqIntS_l (a b : List Int) (hn : a.length = b.length) (hl : a.length ≤ 9223372036854775807) : ∀ (d i : Nat), i + d = a.length → Ev (fun k => laws_eqIntS.l0 k a b i) (decide (a.drop i = b.drop i)) := by
  intro d
  induction d with
  | zero =>
    intro i hi
    refine Ev.step (f := fun _ => some true) (fun k => ?_) ?_
    · simp only [laws_eqIntS.l0]; rw [if_neg (by omega)]
    · rw [List.drop_of_length_le (by omega), List.drop_of_length_le (by omega)]; exact Ev.now _
  | succ d ih =>
    intro i hi
    have h1 : i < a.length := by omega
    have h2 : i < b.length := by omega
    have e1 : a.drop i = a[i] :: a.drop (i + 1) := List.drop_eq_getElem_cons h1
    have e2 : b.drop i = b[i] :: b.drop (i + 1) := List.drop_eq_getElem_cons h2
    by_cases he : a[i] = b[i]
    · refine Ev.step (f := fun k => laws_eqIntS.l0 k a b ((i + 1 : Nat) : Int)) (fun k => ?_) ?_
      · simp only [laws_eqIntS.l0]
        rw [if_pos (by omega), if_pos (by omega), if_pos (by omega), rd_lt h1, rd_lt h2, if_pos he, w64s h1 hl]
      · have hd : decide (a.drop i = b.drop i) = decide (a.drop (i + 1) = b.drop (i + 1)) := by
          rw [decide_eq_decide, e1, e2, he]; simp only [List.cons.injEq, true_and]
        rw [hd]; exact ih (i + 1) (by omega)
    · refine Ev.step (f := fun _ => some false) (fun k => ?_) ?_
      · simp only [laws_eqIntS.l0]
        rw [if_pos (by omega), if_pos (by omega), if_pos (by omega), rd_lt h1, rd_lt h2, if_neg he]
      · have hd : decide (a.drop i = b.drop i) = false := by
          refine decide_eq_false fun e => he ?_
          rw [e1, e2] at e
          exact (List.cons.inj e).1
        rw [hd]; exact Ev.now _
theorem eqIntS_ev (a b : List Int) (hl : a.length ≤ 9223372036854775807) : Ev (fun k => laws_eqIntS.f k a b) (decide (a = b)) := by
  by_cases hn : a.length = b.length
  · refine Ev.congr (f := fun k => laws_eqIntS.l0 k a b ((0 : Nat) : Int)) (fun k => ?_) (eqIntS_l a b hn hl a.length 0 (by omega))
    unfold laws_eqIntS.f; rw [if_pos (by omega)]; rfl
  · refine Ev.congr (f := fun _ => some false) (fun k => ?_) ?_
    · unfold laws_eqIntS.f; rw [if_neg (by omega)]
    · rw [decide_eq_false (fun e => hn (by rw [e]))]; exact Ev.now _
theorem eqIntSS_l (a b : List (List Int)) (hn : a.length = b.length) (hl : a.length ≤ 9223372036854775807) (hx : ∀ x ∈ a, x.length ≤ 9223372036854775807) : ∀ (d i : Nat), i + d = a.length → Ev (fun k => laws_eqIntSS.l0 k a b i) (decide (a.drop i = b.drop i)) := by
  intro d
  induction d with
  | zero =>
    intro i hi
    refine Ev.step (f := fun _ => some true) (fun k => ?_) ?_
    · simp only [laws_eqIntSS.l0]; rw [if_neg (by omega)]
    · rw [List.drop_of_length_le (by omega), List.drop_of_length_le (by omega), decide_eq_true rfl]; exact Ev.now _
  | succ d ih =>
    intro i hi
    have h1 : i < a.length := by omega
    have h2 : i < b.length := by omega
    have e1 : a.drop i = a[i] :: a.drop (i + 1) := List.drop_eq_getElem_cons h1
    have e2 : b.drop i = b[i] :: b.drop (i + 1) := List.drop_eq_getElem_cons h2
    have hq := eqIntS_ev a[i] b[i] (hx _ (List.getElem_mem h1))
    refine Ev.step (f := fun k => (laws_eqIntS.f k a[i] b[i]).bind fun t => if t = true then laws_eqIntSS.l0 k a b ((i + 1 : Nat) : Int) else some false) (fun k => ?_) (Ev.bind hq ?_)
    · simp only [laws_eqIntSS.l0, rdL_lt h1, rdL_lt h2]
      rw [if_pos (by omega), if_pos (by omega), if_pos (by omega), w64s h1 hl]
    · by_cases he : a[i] = b[i]
      · have hd : decide (a.drop i = b.drop i) = decide (a.drop (i + 1) = b.drop (i + 1)) := by
          rw [decide_eq_decide, e1, e2, he]; simp only [List.cons.injEq, true_and]
        rw [hd, decide_eq_true he]
        simp only [if_true]
        exact ih (i + 1) (by omega)
      · have hd : decide (a.drop i = b.drop i) = false := by
          refine decide_eq_false fun e => he ?_
          rw [e1, e2] at e
          exact (List.cons.inj e).1
        rw [hd, decide_eq_false he]; exact Ev.now _
theorem eqIntSS_ev (a b : List (List Int)) (hl : a.length ≤ 9223372036854775807) (hx : ∀ x ∈ a, x.length ≤ 9223372036854775807) : Ev (fun k => laws_eqIntSS.f k a b) (decide (a = b)) := by
  by_cases hn : a.length = b.length
  · refine Ev.congr (f := fun k => laws_eqIntSS.l0 k a b ((0 : Nat) : Int)) (fun k => ?_) (eqIntSS_l a b hn hl hx a.length 0 (by omega))
    unfold laws_eqIntSS.f; rw [if_pos (by omega)]; rfl
  · refine Ev.congr (f := fun _ => some false) (fun k => ?_) ?_
    · unfold laws_eqIntSS.f; rw [if_neg (by omega)]
    · rw [decide_eq_false (fun e => hn (by rw [e]))]; exact Ev.now _
theorem eqIntSS_same (a : List (List Int)) (hl : bulk a ≤ 1048576) : Ev (fun k => laws_eqIntSS.f k a a) true := by
  have := eqIntSS_ev a a (by unfold bulk at hl; omega) (fun x hx => by have := len_le_sum hx; unfold bulk at hl; omega)
  rwa [decide_eq_true rfl] at this
theorem markIntS_l (n : Nat) (m : Int) (hm : 0 ≤ m) (hb : m + n ≤ 9223372036854775807) : ∀ (d i : Nat) (acc : List Int), i + d = n → acc.length = n → acc.take i = (from_ m n).take i → Ev (fun k => laws_markIntS.l0 k acc (m + i) i) (m + n, from_ m n) := by
  intro d
  induction d with
  | zero =>
    intro i acc hi ha ht
    refine Ev.step (f := fun _ => some (m + i, acc)) (fun k => ?_) ?_
    · simp only [laws_markIntS.l0]; rw [if_neg (by omega)]
    · have e : acc = from_ m n := by
        have h1 := List.take_of_length_le (l := acc) (i := i) (by omega)
        have h2 := List.take_of_length_le (l := from_ m n) (i := i) (by rw [from_length]; omega)
        rw [← h1, ← h2, ht]
      rw [e, show i = n by omega]; exact Ev.now _
  | succ d ih =>
    intro i acc hi ha ht
    have hlt : i < n := by omega
    have := ih (i + 1) (acc.set i (m + i)) (by omega) (by simpa using ha) (by
      rw [List.take_succ_eq_append_getElem (by simp; omega), List.take_succ_eq_append_getElem (by rw [from_length]; exact hlt), List.take_set_of_le (Nat.le_refl i), ht, from_get m n i hlt]
      simp)
    refine Ev.step (f := fun k => laws_markIntS.l0 k (acc.set i (m + i)) (m + ((i + 1 : Nat) : Int)) ((i + 1 : Nat) : Int)) (fun k => ?_) this
    simp only [laws_markIntS.l0]
    rw [if_pos (by omega), if_pos (by omega), w64 (by omega) (by omega), w64 (by omega) (by omega), Int.toNat_natCast, show m + (i : Int) + 1 = m + ((i + 1 : Nat) : Int) by omega, show (i : Int) + 1 = ((i + 1 : Nat) : Int) by omega]
theorem markIntS_ev (l : List Int) (m : Int) (hm : 0 ≤ m) (hb : m + l.length ≤ 9223372036854775807) : Ev (fun k => laws_markIntS.f k l m) (m + l.length, from_ m l.length) := by
  have := markIntS_l l.length m hm hb l.length 0 l (by omega) rfl (by simp)
  simpa [laws_markIntS.f] using this
def rowsFrom (m : Int) : List (List Int) → List (List Int)
  | [] => []
  | x :: t => from_ m x.length :: rowsFrom (m + x.length) t
theorem rdL_mid (a : List (List Int)) (x : List Int) (t : List (List Int)) : rd_L1 (a ++ x :: t) (a.length : Int) = x := by
  rw [rdL_lt (by simp)]; simp
theorem set_mid {α : Type} (a : List α) (x y : α) (t : List α) : (a ++ x :: t).set a.length y = (a ++ [y]) ++ t := by simp
theorem markIntSS_l : ∀ (t a : List (List Int)) (m : Int), 0 ≤ m → m + (t.map List.length).sum ≤ 9223372036854775807 → a.length + t.length ≤ 1048576 → Ev (fun k => laws_markIntSS.l0 k (a ++ t) m a.length) (m + (t.map List.length).sum, a ++ rowsFrom m t) := by
  intro t
  induction t with
  | nil =>
    intro a m h0 hb hl
    refine Ev.step (f := fun _ => some (m, a ++ [])) (fun k => ?_) ?_
    · simp only [laws_markIntSS.l0]; rw [if_neg (by simp)]
    · simpa [rowsFrom] using Ev.now (m, a)
  | cons x t ih =>
    intro a m h0 hb hl
    simp only [List.map_cons, List.sum_cons, List.length_cons] at hb hl
    have hM := markIntS_ev x m h0 (by omega)
    have := ih (a ++ [from_ m x.length]) (m + x.length) (by omega) (by omega) (by simp; omega)
    refine Ev.step (f := fun k => (laws_markIntS.f k x m).bind fun bt => laws_markIntSS.l0 k ((a ++ [bt.2]) ++ t) bt.1 ((a.length + 1 : Nat) : Int)) (fun k => ?_) (Ev.bind hM ?_)
    · simp only [laws_markIntSS.l0, rdL_mid, Int.toNat_natCast, set_mid]
      rw [if_pos (by simp; omega), if_pos (by omega), w64s (n := a.length + t.length + 1) (by omega) (by omega)]
    · simp only [List.map_cons, List.sum_cons, rowsFrom]
      simp only [List.length_append, List.length_singleton, List.append_assoc, List.singleton_append] at this
      rw [show m + ((x.length + (t.map List.length).sum : Nat) : Int) = m + (x.length : Int) + ((t.map List.length).sum : Nat) by omega]
      simpa using this
theorem markIntSS_ev (l : List (List Int)) (hl : bulk l ≤ 1048576) : Ev (fun k => laws_markIntSS.f k l 1) (1 + ((l.map List.length).sum : Int), rowsFrom 1 l) := by
  unfold bulk at hl
  exact markIntSS_l l [] 1 (by omega) (by omega) (by simp; omega)
theorem heldIntS_l (n : Nat) (m : Int) (hm : 0 ≤ m) (hb : m + n ≤ 9223372036854775807) : ∀ (d i : Nat), i + d = n → Ev (fun k => laws_heldIntS.l0 k (from_ m n) (m + i) i) (m + n) := by
  intro d
  induction d with
  | zero =>
    intro i hi
    refine Ev.step (f := fun _ => some (m + i)) (fun k => ?_) ?_
    · simp only [laws_heldIntS.l0]; rw [if_neg (by rw [from_length]; omega)]
    · rw [show i = n by omega]; exact Ev.now _
  | succ d ih =>
    intro i hi
    have hlt : i < n := by omega
    refine Ev.step (f := fun k => laws_heldIntS.l0 k (from_ m n) (m + ((i + 1 : Nat) : Int)) ((i + 1 : Nat) : Int)) (fun k => ?_) (ih (i + 1) (by omega))
    simp only [laws_heldIntS.l0]
    rw [if_pos (by rw [from_length]; omega), if_pos (by omega), rd_lt (by rw [from_length]; omega), from_get m n i hlt, if_pos rfl, w64 (by omega) (by omega), w64 (by omega) (by omega), show m + (i : Int) + 1 = m + ((i + 1 : Nat) : Int) by omega, show (i : Int) + 1 = ((i + 1 : Nat) : Int) by omega]
theorem heldIntS_ev (n : Nat) (m : Int) (hm : 0 ≤ m) (hb : m + n ≤ 9223372036854775807) : Ev (fun k => laws_heldIntS.f k (from_ m n) m) (m + n) := by
  have := heldIntS_l n m hm hb n 0 (by omega)
  simpa [laws_heldIntS.f] using this
theorem heldIntSS_l : ∀ (t a : List (List Int)) (m : Int), 0 ≤ m → m + (t.map List.length).sum ≤ 9223372036854775807 → a.length + t.length ≤ 1048576 → Ev (fun k => laws_heldIntSS.l0 k (a ++ rowsFrom m t) m a.length) (m + (t.map List.length).sum) := by
  intro t
  induction t with
  | nil =>
    intro a m h0 hb hl
    refine Ev.step (f := fun _ => some m) (fun k => ?_) ?_
    · simp only [laws_heldIntSS.l0]; rw [if_neg (by simp [rowsFrom])]
    · simpa using Ev.now m
  | cons x t ih =>
    intro a m h0 hb hl
    simp only [List.map_cons, List.sum_cons, List.length_cons] at hb hl
    have hM := heldIntS_ev x.length m h0 (by omega)
    have := ih (a ++ [from_ m x.length]) (m + x.length) (by omega) (by omega) (by simp; omega)
    have hn : ¬ (m + (x.length : Int) < 0) := by omega
    refine Ev.step (f := fun k => (laws_heldIntS.f k (from_ m x.length) m).bind fun t1 => if t1 < 0 then some (-1) else laws_heldIntSS.l0 k ((a ++ [from_ m x.length]) ++ rowsFrom (m + x.length) t) t1 ((a.length + 1 : Nat) : Int)) (fun k => ?_) (Ev.bind hM ?_)
    · simp only [laws_heldIntSS.l0, rowsFrom, rdL_mid, List.append_assoc, List.singleton_append]
      rw [if_pos (by simp; omega), if_pos (by omega), w64s (n := a.length + t.length + 1) (by omega) (by omega)]
    · simp only [List.map_cons, List.sum_cons, hn, if_false]
      simp only [List.length_append, List.length_singleton] at this
      rw [show m + ((x.length + (t.map List.length).sum : Nat) : Int) = m + (x.length : Int) + ((t.map List.length).sum : Nat) by omega]
      exact this
theorem heldIntSS_ev (l : List (List Int)) (hl : bulk l ≤ 1048576) : Ev (fun k => laws_heldIntSS.f k (rowsFrom 1 l) 1) (1 + ((l.map List.length).sum : Int)) := by
  unfold bulk at hl
  exact heldIntSS_l l [] 1 (by omega) (by omega) (by simp; omega)
def Evp (P : Nat → Prop) : Prop := ∃ K, ∀ k, K ≤ k → P k
theorem Evp.and {P Q : Nat → Prop} (h : Evp P) (g : Evp Q) : Evp (fun k => P k ∧ Q k) := by
  obtain ⟨K, hK⟩ := h
  obtain ⟨M, hM⟩ := g
  exact ⟨max K M, fun k hk => ⟨hK k (by omega), hM k (by omega)⟩⟩
theorem evp {α : Type} {g : Nat → Option α} {r : α} (h : Ev g r) : Evp (fun k => g k = some r) := h
theorem Evp.some {P : Nat → Prop} (h : Evp P) : ∃ k, P k := by obtain ⟨K, hK⟩ := h; exact ⟨K, hK K (Nat.le_refl _)⟩
def cnt (l : List Int) (y : Nat) : Nat := l.countP fun x => x.natAbs == y
theorem cnt_append (a b : List Int) (y : Nat) : cnt (a ++ b) y = cnt a y + cnt b y := List.countP_append
theorem cnt_one (x : Int) (y : Nat) : cnt [x] y = if x.natAbs = y then 1 else 0 := by
  unfold cnt
  rw [List.countP_cons, List.countP_nil]
  by_cases h : x.natAbs = y <;> simp [h]
theorem cnt_le (l : List Int) (y : Nat) : cnt l y ≤ l.length := List.countP_le_length
def usesL (l : List Int) : List Int := (List.range 9).map fun y => ((cnt l y : Nat) : Int)
theorem usesL_length (l : List Int) : (usesL l).length = 9 := by simp [usesL]
theorem usesL_rd (l : List Int) {y : Nat} (h : y < 9) : rd (usesL l) (y : Int) = (cnt l y : Int) := by
  rw [rd_lt (by rw [usesL_length]; exact h)]
  simp [usesL]
theorem usesL_nil : usesL [] = List.replicate 9 0 := by decide
theorem usesL_snoc (l : List Int) (x : Int) : (usesL l).set x.natAbs ((cnt l x.natAbs : Int) + 1) = usesL (l ++ [x]) := by
  refine List.ext_getElem (by simp [usesL_length]) fun y h1 h2 => ?_
  have hy : y < 9 := by rw [usesL_length] at h2; exact h2
  rw [List.getElem_set]
  have e1 : (usesL (l ++ [x]))[y] = ((cnt (l ++ [x]) y : Nat) : Int) := by simp [usesL]
  refine Eq.trans ?_ e1.symm
  rw [cnt_append, cnt_one]
  by_cases h : x.natAbs = y
  · subst h; rw [if_pos rfl, if_pos rfl]; omega
  · rw [if_neg h, if_neg h]; simp [usesL]
theorem flat_take_succ {g : List (List Int)} {p : Nat} (h : p < g.length) : (g.take (p + 1)).flatten = (g.take p).flatten ++ g[p] := by
  rw [List.take_succ_eq_append_getElem h, List.flatten_append, List.flatten_singleton]
theorem flat_len (g : List (List Int)) : g.flatten.length = (g.map List.length).sum := List.length_flatten
theorem flat_take_len (g : List (List Int)) (p : Nat) : ((g.take p).flatten).length ≤ g.flatten.length := by
  have : g.flatten = (g.take p).flatten ++ (g.drop p).flatten := by rw [← List.flatten_append, List.take_append_drop]
  rw [this, List.length_append]; omega
theorem bulk_flat {g : List (List Int)} (h : bulk g ≤ 1048576) : g.length ≤ 1048576 ∧ g.flatten.length ≤ 1048576 := by
  unfold bulk at h
  rw [flat_len]
  omega
theorem within_eq (a b c : Int) : impl_within.f a b c = some (decide (b ≤ a ∧ a ≤ c)) := by
  unfold impl_within.f
  split <;> simp <;> omega
theorem l1In_eq (a b c : Int) : spec_l1In.f a b c = some (decide (b ≤ a ∧ a ≤ c)) := by
  unfold spec_l1In.f
  split <;> simp <;> omega
def LetP (x : Int) : Prop := x ≠ 0 ∧ -8 ≤ x ∧ x ≤ 8
theorem l2Letter_eq (x : Int) : spec_l2Letter.f x = some (decide (LetP x)) := by
  unfold spec_l2Letter.f
  simp only [l1In_eq, Option.bind_some]
  by_cases h : 1 ≤ x ∧ x ≤ 8
  · rw [decide_eq_true h, decide_eq_true (show LetP x from ⟨by omega, by omega, by omega⟩)]; rfl
  · rw [decide_eq_false h]
    simp only [Bool.false_eq_true, if_false]
    congr 1
    rw [decide_eq_decide]
    unfold LetP
    omega
theorem isLetter_eq (x : Int) : impl_isLetter.f x = some (decide (LetP x)) := by
  unfold impl_isLetter.f
  simp only [within_eq, Option.bind_some]
  split
  · rename_i h
    rw [decide_eq_false (fun hh : LetP x => hh.1 h)]
  · rename_i h
    congr 1
    rw [decide_eq_decide]
    unfold LetP
    omega
theorem LetP.neg {x : Int} (h : LetP x) : LetP (-x) := by unfold LetP at *; omega
theorem w64neg {x : Int} (h : LetP x) : wrap64 (-x) = -x := w64 (by unfold LetP at h; omega) (by unfold LetP at h; omega)
theorem LetP.abs {x : Int} (h : LetP x) : 1 ≤ x.natAbs ∧ x.natAbs ≤ 8 := by unfold LetP at h; omega
theorem l3Abs_eq {x : Int} (h : LetP x) : spec_l3Abs.f x = some (x.natAbs : Int) := by
  unfold spec_l3Abs.f spec_l1Max.f
  rw [w64neg h]
  split <;> simp only [Option.bind_some, Option.some.injEq] <;> omega
def WordP (l : List Int) : Prop := (∀ x ∈ l, LetP x) ∧ l.length ≤ 24
def WordFrom (l : List Int) (i : Nat) : Prop := (∀ x ∈ l.drop i, LetP x) ∧ l.length ≤ 24
theorem isWord_l (l : List Int) (hl : l.length ≤ 9223372036854775807) : ∀ (d i : Nat), i + d = l.length → Ev (fun k => spec_IsWord.l0 k l i) (decide (WordFrom l i)) ∧ Ev (fun k => impl_IsWord.l0 k l l l.length i) (decide (WordFrom l i)) := by
  intro d
  induction d with
  | zero =>
    intro i hi
    have e : decide (WordFrom l i) = decide ((l.length : Int) ≤ 24) := by
      rw [decide_eq_decide]; unfold WordFrom; rw [List.drop_of_length_le (by omega)]
      simp
      omega
    rw [e]
    refine ⟨Ev.step (f := fun _ => some (decide ((l.length : Int) ≤ 24))) (fun k => ?_) (Ev.now _), Ev.step (f := fun _ => some (decide ((l.length : Int) ≤ 24))) (fun k => ?_) (Ev.now _)⟩
    · simp only [spec_IsWord.l0]; rw [if_neg (by omega)]
    · simp only [impl_IsWord.l0]; rw [if_neg (by omega)]
  | succ d ih =>
    intro i hi
    have hlt : i < l.length := by omega
    have e1 := rd_lt hlt
    have ed : l.drop i = l[i] :: l.drop (i + 1) := List.drop_eq_getElem_cons hlt
    by_cases hp : LetP l[i]
    · have e : decide (WordFrom l i) = decide (WordFrom l (i + 1)) := by
        rw [decide_eq_decide]; unfold WordFrom; rw [ed]
        simp only [List.mem_cons, forall_eq_or_imp, hp, true_and]
      rw [e]
      obtain ⟨h1, h2⟩ := ih (i + 1) (by omega)
      refine ⟨Ev.step (fun k => ?_) h1, Ev.step (fun k => ?_) h2⟩
      · simp only [spec_IsWord.l0, l2Letter_eq, e1, Option.bind_some, decide_eq_true hp]
        rw [if_pos (by omega), if_pos (by omega), if_pos trivial, w64s hlt hl]
      · simp only [impl_IsWord.l0, isLetter_eq, e1, Option.bind_some, decide_eq_true hp]
        rw [if_pos (by omega), if_pos (by omega), if_pos (by omega), if_pos trivial, w64s hlt hl]
    · have e : decide (WordFrom l i) = false := by
        refine decide_eq_false fun h => hp (h.1 _ ?_)
        rw [ed]; exact List.mem_cons_self
      rw [e]
      refine ⟨Ev.step (f := fun _ => some false) (fun k => ?_) (Ev.now _), Ev.step (f := fun _ => some false) (fun k => ?_) (Ev.now _)⟩
      · simp only [spec_IsWord.l0, l2Letter_eq, e1, Option.bind_some, decide_eq_false hp]
        rw [if_pos (by omega), if_pos (by omega)]; rfl
      · simp only [impl_IsWord.l0, isLetter_eq, e1, Option.bind_some, decide_eq_false hp]
        rw [if_pos (by omega), if_pos (by omega), if_pos (by omega)]; rfl
theorem isWord_ev (l : List Int) (hl : l.length ≤ 1048576) : Ev (fun k => spec_IsWord.f k l) (decide (WordP l)) ∧ Ev (fun k => impl_IsWord.f k l) (decide (WordP l)) := by
  have := isWord_l l (by omega) l.length 0 (by omega)
  have e : decide (WordFrom l 0) = decide (WordP l) := by rw [decide_eq_decide]; rfl
  rw [e] at this
  exact this
def GluP (g : List (List Int)) : Prop := (1 ≤ g.length ∧ g.length ≤ 4) ∧ (∀ p ∈ g, p ≠ [] ∧ WordP p) ∧ g.flatten.length ≤ 20 ∧ ∀ y, y < 9 → cnt g.flatten y ≤ 2
theorem GluP.let {g : List (List Int)} (h : GluP g) : ∀ p ∈ g, ∀ x ∈ p, LetP x := fun p hp => (h.2.1 p hp).2.1
def RowsP (g : List (List Int)) (p : Nat) : Prop := ∀ w ∈ g.drop p, w ≠ [] ∧ WordP w
theorem rowsP_succ {g : List (List Int)} {p : Nat} (h : p < g.length) : RowsP g p ↔ (g[p] ≠ [] ∧ WordP g[p]) ∧ RowsP g (p + 1) := by
  unfold RowsP
  rw [List.drop_eq_getElem_cons h]
  simp only [List.mem_cons, forall_eq_or_imp]
def Few (l : List Int) (i : Nat) : Prop := ∀ y, i ≤ y → y < 9 → cnt l y ≤ 2
theorem l5At_l (w : List Int) (hp : ∀ x ∈ w, LetP x) (hw : w.length ≤ 1048576) (y i : Nat) (hi : i < w.length) (hy : w[i].natAbs = y) : ∀ (d m : Nat), m + d = i → (∀ a, m ≤ a → a < i → ∀ h : a < w.length, w[a].natAbs ≠ y) → Ev (fun k => spec_l5At.l0 k w y m) (i : Int) := by
  intro d
  induction d with
  | zero =>
    intro m hm _
    obtain rfl : m = i := by omega
    have hx := l3Abs_eq (hp w[m] (List.getElem_mem hi))
    refine Ev.step (f := fun _ => some (m : Int)) (fun k => ?_) (Ev.now _)
    simp only [spec_l5At.l0, rd_lt hi, hx, Option.bind_some]
    rw [if_pos (by omega), if_pos (by omega), if_pos (by omega)]
  | succ d ih =>
    intro m hm hno
    have hlt : m < w.length := by omega
    have hx := l3Abs_eq (hp w[m] (List.getElem_mem hlt))
    have h1 := ih (m + 1) (by omega) (fun a h1 h2 h => hno a (by omega) h2 h)
    have hne := hno m (Nat.le_refl _) (by omega) hlt
    refine Ev.step (fun k => ?_) h1
    simp only [spec_l5At.l0, rd_lt hlt, hx, Option.bind_some]
    rw [if_pos (by omega), if_pos (by omega), if_neg (by omega), w64s hlt (by omega)]
theorem l5At_ev (w : List Int) (hp : ∀ x ∈ w, LetP x) (hw : w.length ≤ 1048576) (y i : Nat) (hi : i < w.length) (hy : w[i].natAbs = y) (hno : ∀ a, a < i → ∀ h : a < w.length, w[a].natAbs ≠ y) : Ev (fun k => spec_l5At.f k w y) (i : Int) :=
  l5At_l w hp hw y i hi hy i 0 (by omega) (fun a _ h => hno a h)
theorem size_eq {x : Int} (h : LetP x) : impl_size.f x = some (x.natAbs : Int) := by
  unfold impl_size.f
  rw [w64neg h]
  unfold mx
  congr 1
  omega
theorem bit_eq (b : Bool) : spec_l1Bit.f b = some (if b = true then 1 else 0) := by cases b <;> rfl
theorem l5Count_l (w : List Int) (hp : ∀ x ∈ w, LetP x) (hw : w.length ≤ 1048576) (y : Nat) : ∀ (d i : Nat), i + d = w.length → Ev (fun k => spec_l5Count.l0 k w y ((cnt (w.take i) y : Nat) : Int) i) ((cnt w y : Nat) : Int) := by
  intro d
  induction d with
  | zero =>
    intro i hi
    rw [List.take_of_length_le (by omega)]
    refine Ev.step (f := fun _ => some ((cnt w y : Nat) : Int)) (fun k => ?_) (Ev.now _)
    simp only [spec_l5Count.l0]; rw [if_neg (by omega)]
  | succ d ih =>
    intro i hi
    have hlt : i < w.length := by omega
    have hx := l3Abs_eq (hp w[i] (List.getElem_mem hlt))
    have h1 := ih (i + 1) (by omega)
    have hc := cnt_le (w.take i) y
    rw [List.length_take] at hc
    have e : ((cnt (w.take (i + 1)) y : Nat) : Int) = wrap64 (((cnt (w.take i) y : Nat) : Int) + (if (((w[i].natAbs : Nat) : Int) == (y : Int)) = true then 1 else 0)) := by
      rw [List.take_succ_eq_append_getElem hlt, cnt_append, cnt_one]
      by_cases h : w[i].natAbs = y
      · rw [if_pos h, if_pos (by simp only [beq_iff_eq]; omega), w64 (by omega) (by omega)]; omega
      · rw [if_neg h, if_neg (by simp only [beq_iff_eq]; omega), w64 (by omega) (by omega)]; omega
    rw [e] at h1
    refine Ev.step (fun k => ?_) h1
    simp only [spec_l5Count.l0, rd_lt hlt, hx, Option.bind_some, bit_eq]
    rw [if_pos (by omega), if_pos (by omega), w64s hlt (by omega)]
theorem l5Count_ev (w : List Int) (hp : ∀ x ∈ w, LetP x) (hw : w.length ≤ 1048576) (y : Nat) : Ev (fun k => spec_l5Count.f k w y) ((cnt w y : Nat) : Int) := by
  have := l5Count_l w hp hw y w.length 0 (by omega)
  simpa [spec_l5Count.f, cnt] using this
theorem Ev.pos {α : Type} {c : Prop} [Decidable c] {f g : Nat → Option α} {r : α} (hc : c) (h : Ev f r) : Ev (fun k => if c then f k else g k) r := Ev.congr (fun _ => if_pos hc) h
theorem Ev.neg {α : Type} {c : Prop} [Decidable c] {f g : Nat → Option α} {r : α} (hc : ¬ c) (h : Ev g r) : Ev (fun k => if c then f k else g k) r := Ev.congr (fun _ => if_neg hc) h
theorem gl_places {α : Type} (q : α → Bool) (z : α) (l : List α) : l.countP q = ((List.range l.length).filter fun i => q (l.getD i z)).length := by
  induction l with
  | nil => rfl
  | cons a l ih =>
    rw [List.length_cons, List.range_succ_eq_map, List.filter_cons, List.countP_cons, ih, List.filter_map]
    have e : ((fun i => q ((a :: l).getD i z)) ∘ Nat.succ) = fun i => q (l.getD i z) := by funext i; rfl
    have e0 : (a :: l).getD 0 z = a := rfl
    rw [e, e0]
    by_cases h : q a = true
    · rw [if_pos h, if_pos h, List.length_cons, List.length_map]
    · rw [if_neg h, if_neg h, List.length_map]; omega
def fRow (p : Int) (w : List Int) (y i : Nat) : List S60 := ((List.range i).filter fun m => decide ((w.getD m 0).natAbs = y)).map fun m : Nat => (⟨p, (m : Int)⟩ : S60)
theorem fRow_succ (p : Int) (w : List Int) (y i : Nat) : fRow p w y (i + 1) = fRow p w y i ++ if (w.getD i 0).natAbs = y then [(⟨p, (i : Int)⟩ : S60)] else [] := by
  unfold fRow
  rw [List.range_succ, List.filter_append, List.map_append]
  by_cases h : (w.getD i 0).natAbs = y
  · rw [if_pos h, List.filter_cons_of_pos (p := fun m => decide ((w.getD m 0).natAbs = y)) (decide_eq_true h)]; rfl
  · rw [if_neg h, List.filter_cons_of_neg (p := fun m => decide ((w.getD m 0).natAbs = y)) (by rw [decide_eq_true_eq]; exact h)]; rfl
theorem fRow_len (p : Int) (w : List Int) (y i : Nat) : (fRow p w y i).length ≤ i := by
  unfold fRow
  rw [List.length_map]
  have := List.length_filter_le (fun m => decide ((w.getD m 0).natAbs = y)) (List.range i)
  rwa [List.length_range] at this
theorem fRow_cnt (p : Int) (w : List Int) (y : Nat) : (fRow p w y w.length).length = cnt w y := by
  unfold fRow cnt
  rw [List.length_map, gl_places (fun x : Int => x.natAbs == y) 0 w]
  congr 1
theorem mem_fRow {p : Int} {w : List Int} {y i : Nat} {s : S60} : s ∈ fRow p w y i ↔ s.f0 = p ∧ ∃ m : Nat, m < i ∧ s.f1 = m ∧ (w.getD m 0).natAbs = y := by
  unfold fRow
  rw [List.mem_map]
  constructor
  · rintro ⟨m, hm, rfl⟩
    rw [List.mem_filter, List.mem_range, decide_eq_true_eq] at hm
    exact ⟨rfl, m, hm.1, rfl, hm.2⟩
  · rintro ⟨h1, m, h2, h3, h4⟩
    refine ⟨m, by rw [List.mem_filter, List.mem_range, decide_eq_true_eq]; exact ⟨h2, h4⟩, ?_⟩
    cases s
    simp only at h1 h3
    rw [h1, h3]
def fAll (g : List (List Int)) (y : Nat) : Nat → List S60
  | 0 => []
  | p + 1 => fAll g y p ++ fRow (p : Int) (g.getD p []) y (g.getD p []).length
theorem fAll_lt {g : List (List Int)} {y : Nat} : ∀ {p : Nat} {s : S60}, s ∈ fAll g y p → ∃ q m : Nat, q < p ∧ s.f0 = q ∧ s.f1 = m ∧ m < (g.getD q []).length ∧ ((g.getD q []).getD m 0).natAbs = y := by
  intro p
  induction p with
  | zero => intro s h; simp [fAll] at h
  | succ p ih =>
    intro s h
    rcases List.mem_append.1 h with h | h
    · obtain ⟨q, m, h1, h2⟩ := ih h
      exact ⟨q, m, by omega, h2⟩
    · obtain ⟨h1, m, h2, h3, h4⟩ := mem_fRow.1 h
      exact ⟨p, m, by omega, h1, h3, h2, h4⟩
theorem fAll_mem {g : List (List Int)} {y : Nat} : ∀ {p q m : Nat}, q < p → m < (g.getD q []).length → ((g.getD q []).getD m 0).natAbs = y → (⟨(q : Int), (m : Int)⟩ : S60) ∈ fAll g y p := by
  intro p
  induction p with
  | zero => intro q m h; omega
  | succ p ih =>
    intro q m hq hm hy
    show _ ∈ fAll g y p ++ _
    by_cases e : q = p
    · subst e; exact List.mem_append_right _ (mem_fRow.2 ⟨rfl, m, hm, rfl, hy⟩)
    · exact List.mem_append_left _ (ih (by omega) hm hy)
theorem fAll_sorted (g : List (List Int)) (y : Nat) : ∀ p, (fAll g y p).Pairwise (fun a b => a.f0 ≤ b.f0) := by
  intro p
  induction p with
  | zero => exact List.Pairwise.nil
  | succ p ih =>
    show (fAll g y p ++ _).Pairwise _
    rw [List.pairwise_append]
    refine ⟨ih, ?_, ?_⟩
    · refine List.pairwise_of_forall_mem_list fun a ha b hb => ?_
      rw [(mem_fRow.1 ha).1, (mem_fRow.1 hb).1]; exact Int.le_refl _
    · intro a ha b hb
      obtain ⟨q, _, h1, h2, _⟩ := fAll_lt ha
      rw [h2, (mem_fRow.1 hb).1]; omega
theorem fAll_cnt {g : List (List Int)} {y : Nat} : ∀ {p k : Nat}, k < p → (fAll g y p).countP (fun s => decide (s.f0 = (k : Int))) = cnt (g.getD k []) y := by
  intro p
  induction p with
  | zero => intro k h; omega
  | succ p ih =>
    intro k hk
    show (fAll g y p ++ _).countP _ = _
    rw [List.countP_append]
    by_cases e : k = p
    · subst e
      have h1 : (fAll g y k).countP (fun s => decide (s.f0 = (k : Int))) = 0 := by
        rw [List.countP_eq_zero]
        intro s hs
        obtain ⟨q, _, h1, h2, _⟩ := fAll_lt hs
        rw [decide_eq_true_eq, h2]; omega
      have h2 : (fRow (k : Int) (g.getD k []) y (g.getD k []).length).countP (fun s => decide (s.f0 = (k : Int))) = (fRow (k : Int) (g.getD k []) y (g.getD k []).length).length := by
        rw [List.countP_eq_length]
        intro s hs
        rw [decide_eq_true_eq]; exact (mem_fRow.1 hs).1
      rw [h1, h2, fRow_cnt, Nat.zero_add]
    · have h2 : (fRow (p : Int) (g.getD p []) y (g.getD p []).length).countP (fun s => decide (s.f0 = (k : Int))) = 0 := by
        rw [List.countP_eq_zero]
        intro s hs
        rw [decide_eq_true_eq, (mem_fRow.1 hs).1]; omega
      rw [h2, ih (by omega), Nat.add_zero]
theorem fAll_len {g : List (List Int)} {y : Nat} : ∀ {p : Nat}, p ≤ g.length → (fAll g y p).length = cnt (g.take p).flatten y := by
  intro p
  induction p with
  | zero => intro _; simp [fAll, cnt]
  | succ p ih =>
    intro hp
    have hlt : p < g.length := by omega
    rw [flat_take_succ hlt, cnt_append, ← ih (by omega)]
    show (fAll g y p ++ _).length = _
    rw [List.length_append, fRow_cnt, getD_lt hlt]
theorem foundI_row (g : List (List Int)) (hg : GluP g) (y : Nat) (p : Nat) (hp : p < g.length) (acc : List S60) (hacc : acc.length ≤ 1000) (r : List (List Int) × Bool)
    (h : Ev (fun k => impl_GluePolygons.l0 k g y (acc ++ fRow (p : Int) g[p] y g[p].length) g g.length ((p + 1 : Nat) : Int)) r) :
    ∀ (d i : Nat), i + d = g[p].length → Ev (fun k => impl_GluePolygons.l1 k g y (acc ++ fRow (p : Int) g[p] y i) p g g.length p g[p] g[p].length i) r := by
  have hl := hg.let g[p] (List.getElem_mem hp)
  have h4 := hg.1.2
  have h24 := (hg.2.1 g[p] (List.getElem_mem hp)).2.2
  intro d
  induction d with
  | zero =>
    intro i hi
    obtain rfl : i = g[p].length := by omega
    refine Ev.step (fun k => ?_) h
    simp only [impl_GluePolygons.l1]
    rw [if_neg (by omega), w64s hp (by omega)]
  | succ d ih =>
    intro i hi
    have hlt : i < g[p].length := by omega
    have hx := size_eq (hl g[p][i] (List.getElem_mem hlt))
    have h1 := ih (i + 1) (by omega)
    rw [fRow_succ, getD_lt hlt, ← List.append_assoc] at h1
    have hfl := fRow_len (p : Int) g[p] y i
    refine Ev.step (fun k => ?_) h1
    simp only [impl_GluePolygons.l1, rd_lt hlt, hx, Option.bind_some]
    rw [if_pos (by omega), if_pos (by omega), if_pos (by omega), w64s hlt (by omega)]
    by_cases hy : g[p][i].natAbs = y
    · rw [if_pos (by omega), if_pos hy, if_pos (by rw [List.length_append]; omega)]
    · rw [if_neg (by omega), if_neg hy, List.append_nil]
theorem foundI_l (g : List (List Int)) (hg : GluP g) (y : Nat) (r : List (List Int) × Bool) (h : Ev (fun k => impl_GluePolygons.l0 k g y (fAll g y g.length) g g.length g.length) r) :
    ∀ (d p : Nat), p + d = g.length → Ev (fun k => impl_GluePolygons.l0 k g y (fAll g y p) g g.length p) r := by
  intro d
  induction d with
  | zero =>
    intro p hp
    obtain rfl : p = g.length := by omega
    exact h
  | succ d ih =>
    intro p hp
    have hlt : p < g.length := by omega
    have h4 := hg.1.2
    have hlen : (fAll g y p).length ≤ 1000 := by
      rw [fAll_len (by omega)]
      have h1 := cnt_le (g.take p).flatten y
      have h2 := flat_take_len g p
      have := hg.2.2.1
      omega
    have h1 := ih (p + 1) (by omega)
    have e : fAll g y (p + 1) = fAll g y p ++ fRow (p : Int) g[p] y g[p].length := by
      show fAll g y p ++ _ = _
      rw [getD_lt hlt]
    rw [e] at h1
    have h2 := foundI_row g hg y p hlt (fAll g y p) hlen r h1 g[p].length 0 (by omega)
    have e0 : fRow (p : Int) g[p] y 0 = [] := rfl
    rw [e0, List.append_nil] at h2
    refine Ev.step (fun k => ?_) h2
    simp only [impl_GluePolygons.l0, rdL_lt hlt]
    rw [if_pos (by omega), if_pos (by omega), if_pos (by omega)]
    rfl
def stS (c : Nat → Nat) : Nat → Int × Int
  | 0 => (-1, -1)
  | k + 1 => if c k = 1 then (if (stS c k).1 < 0 then ((k : Int), (stS c k).2) else ((stS c k).1, (k : Int))) else stS c k
theorem stS_two {c : Nat → Nat} {p q : Nat} (hpq : p < q) (h : ∀ k, c k = 1 ↔ (k = p ∨ k = q)) : ∀ k, stS c k = (if p < k then (p : Int) else -1, if q < k then (q : Int) else -1) := by
  intro k
  induction k with
  | zero => rfl
  | succ k ih =>
    show (if c k = 1 then _ else _) = _
    by_cases hc : c k = 1
    · rw [if_pos hc, ih]
      rcases (h k).1 hc with rfl | rfl
      · have n1 : ¬ k < k := by omega
        have n2 : ¬ q < k := by omega
        have n3 : k < k + 1 := by omega
        have n4 : ¬ q < k + 1 := by omega
        simp only [n1, n2, n3, n4, if_true, if_false]
        rfl
      · have n1 : ¬ k < k := by omega
        have n2 : p < k := by omega
        have n3 : k < k + 1 := by omega
        have n4 : p < k + 1 := by omega
        have n5 : ¬ (p : Int) < 0 := by omega
        simp only [n1, n2, n3, n4, n5, if_true, if_false]
    · have hk : k ≠ p ∧ k ≠ q := ⟨fun e => hc ((h k).2 (.inl e)), fun e => hc ((h k).2 (.inr e))⟩
      rw [if_neg hc, ih]
      have e1 : (p < k ↔ p < k + 1) := by omega
      have e2 : (q < k ↔ q < k + 1) := by omega
      simp only [e1, e2]
theorem stS_few {c : Nat → Nat} {p : Nat} (h : ∀ k, c k = 1 → k = p) : ∀ k, (stS c k).2 = -1 ∧ ((stS c k).1 = -1 ∨ p < k) := by
  intro k
  induction k with
  | zero => exact ⟨rfl, .inl rfl⟩
  | succ k ih =>
    obtain ⟨i1, i2⟩ := ih
    show ((if c k = 1 then _ else _ : Int × Int)).2 = -1 ∧ ((if c k = 1 then _ else _ : Int × Int).1 = -1 ∨ _)
    by_cases hc : c k = 1
    · have := h k hc
      subst this
      rw [if_pos hc]
      have h3 : (stS c k).1 = -1 := i2.resolve_right (by omega)
      rw [if_pos (by omega)]
      exact ⟨i1, .inr (by omega)⟩
    · rw [if_neg hc]
      exact ⟨i1, i2.imp id (by omega)⟩
theorem foundS_l (g : List (List Int)) (hg : GluP g) (y : Nat) (r : List (List Int) × Bool) (h : Ev (fun k => spec_GluePolygons.l0 k g y (stS (fun k => cnt (g.getD k []) y) g.length).1 (stS (fun k => cnt (g.getD k []) y) g.length).2 g.length) r) :
    ∀ (d p : Nat), p + d = g.length → Ev (fun k => spec_GluePolygons.l0 k g y (stS (fun k => cnt (g.getD k []) y) p).1 (stS (fun k => cnt (g.getD k []) y) p).2 p) r := by
  intro d
  induction d with
  | zero =>
    intro p hp
    obtain rfl : p = g.length := by omega
    exact h
  | succ d ih =>
    intro p hp
    have hlt : p < g.length := by omega
    have h4 := hg.1.2
    have hl := hg.let g[p] (List.getElem_mem hlt)
    have h24 := (hg.2.1 g[p] (List.getElem_mem hlt)).2.2
    have hc := l5Count_ev g[p] hl (by omega) y
    have h1 := ih (p + 1) (by omega)
    have e : stS (fun k => cnt (g.getD k []) y) (p + 1) = if cnt g[p] y = 1 then (if (stS (fun k => cnt (g.getD k []) y) p).1 < 0 then ((p : Int), (stS (fun k => cnt (g.getD k []) y) p).2) else ((stS (fun k => cnt (g.getD k []) y) p).1, (p : Int))) else stS (fun k => cnt (g.getD k []) y) p := by
      show (if cnt (g.getD p []) y = 1 then _ else _) = _
      rw [getD_lt hlt]
    rw [e] at h1
    generalize stS (fun k => cnt (g.getD k []) y) p = s at *
    refine Ev.step (f := fun k => (spec_l5Count.f k g[p] y).bind fun t => if t = 1 then (if s.1 < 0 then spec_GluePolygons.l0 k g y p s.2 ((p + 1 : Nat) : Int) else spec_GluePolygons.l0 k g y s.1 p ((p + 1 : Nat) : Int)) else spec_GluePolygons.l0 k g y s.1 s.2 ((p + 1 : Nat) : Int)) (fun k => ?_) (Ev.bind hc ?_)
    · simp only [spec_GluePolygons.l0, rdL_lt hlt]
      rw [if_pos (by omega), if_pos (by omega), w64s hlt (by omega)]
    · by_cases h2 : cnt g[p] y = 1
      · rw [if_pos h2] at h1
        refine Ev.pos (by omega) ?_
        by_cases h3 : s.1 < 0
        · rw [if_pos h3] at h1
          exact Ev.pos h3 h1
        · rw [if_neg h3] at h1
          exact Ev.neg h3 h1
      · rw [if_neg h2] at h1
        exact Ev.neg (by omega) h1
theorem fewS_l (l : List Int) : ∀ (d i : Nat), i + d = 9 → Ev (fun k => spec_IsGluing.l1 k (usesL l) i) (decide (Few l i)) := by
  intro d
  induction d with
  | zero =>
    intro i hi
    rw [decide_eq_true (show Few l i from fun y h1 h2 => by omega)]
    refine Ev.step (f := fun _ => some true) (fun k => ?_) (Ev.now _)
    simp only [spec_IsGluing.l1, usesL_length]; rw [if_neg (by omega)]
  | succ d ih =>
    intro i hi
    by_cases hc : cnt l i ≤ 2
    · have e : Few l i ↔ Few l (i + 1) := ⟨fun h y h1 h2 => h y (by omega) h2, fun h y h1 h2 => by
        rcases Nat.eq_or_lt_of_le h1 with rfl | h3
        · exact hc
        · exact h y h3 h2⟩
      rw [decide_eq_decide.2 e]
      refine Ev.step (fun k => ?_) (ih (i + 1) (by omega))
      simp only [spec_IsGluing.l1, usesL_length, usesL_rd l (show i < 9 by omega)]
      rw [if_pos (by omega), if_pos (by omega), if_neg (by omega), w64s (show i < 9 by omega) (by omega)]
    · rw [decide_eq_false (show ¬ Few l i from fun h => hc (h i (Nat.le_refl _) (by omega)))]
      refine Ev.step (f := fun _ => some false) (fun k => ?_) (Ev.now _)
      simp only [spec_IsGluing.l1, usesL_length, usesL_rd l (show i < 9 by omega)]
      rw [if_pos (by omega), if_pos (by omega), if_pos (by omega)]
theorem usesS_row (g : List (List Int)) (hg : g.length ≤ 1048576) (p : Nat) (hp : p < g.length) (hl : ∀ x ∈ g[p], LetP x) (pre : List Int) (hb : pre.length + g[p].length ≤ 1048576) (r : List Int) (h : Ev (fun k => spec_l3Uses.l0 k g (usesL (pre ++ g[p])) ((p + 1 : Nat) : Int)) r) :
    ∀ (d i : Nat), i + d = g[p].length → Ev (fun k => spec_l3Uses.l1 k g (usesL (pre ++ g[p].take i)) p i) r := by
  intro d
  induction d with
  | zero =>
    intro i hi
    rw [List.take_of_length_le (by omega)]
    refine Ev.step (fun k => ?_) h
    simp only [spec_l3Uses.l1, rdL_lt hp]
    rw [if_pos (by omega), if_pos (by omega), if_neg (by omega), w64s hp (by omega)]
  | succ d ih =>
    intro i hi
    have hlt : i < g[p].length := by omega
    have hx := hl g[p][i] (List.getElem_mem hlt)
    have ha := hx.abs
    have hc := cnt_le (pre ++ g[p].take i) g[p][i].natAbs
    rw [List.length_append, List.length_take] at hc
    have hw : wrap64 ((cnt (pre ++ g[p].take i) g[p][i].natAbs : Int) + 1) = (cnt (pre ++ g[p].take i) g[p][i].natAbs : Int) + 1 := w64 (by omega) (by omega)
    have := ih (i + 1) (by omega)
    rw [List.take_succ_eq_append_getElem hlt, ← List.append_assoc, ← usesL_snoc] at this
    refine Ev.step (fun k => ?_) this
    simp only [spec_l3Uses.l1, rdL_lt hp, rd_lt hlt, l3Abs_eq hx, Option.bind_some, usesL_length]
    rw [if_pos (by omega), if_pos (by omega), if_pos (by omega), if_pos (by omega), if_pos (by omega), if_pos (by omega), if_pos (by omega), if_pos (by omega), usesL_rd _ (by omega), hw, w64s hlt (by omega), Int.toNat_natCast]
theorem usesS_l (g : List (List Int)) (hg : g.length ≤ 1048576) (hl : ∀ p ∈ g, ∀ x ∈ p, LetP x) (hb : g.flatten.length ≤ 1048576) : ∀ (d p : Nat), p + d = g.length → Ev (fun k => spec_l3Uses.l0 k g (usesL (g.take p).flatten) p) (usesL g.flatten) := by
  intro d
  induction d with
  | zero =>
    intro p hp
    rw [List.take_of_length_le (by omega)]
    refine Ev.step (f := fun _ => some (usesL g.flatten)) (fun k => ?_) (Ev.now _)
    simp only [spec_l3Uses.l0]; rw [if_neg (by omega)]
  | succ d ih =>
    intro p hp
    have hlt : p < g.length := by omega
    have h1 := ih (p + 1) (by omega)
    rw [flat_take_succ hlt] at h1
    have h2 := usesS_row g hg p hlt (hl _ (List.getElem_mem hlt)) (g.take p).flatten (by have := flat_take_len g (p + 1); rw [flat_take_succ hlt, List.length_append] at this; omega) _ h1 g[p].length 0 (by omega)
    rw [List.take_zero, List.append_nil] at h2
    refine Ev.step (fun k => ?_) h2
    simp only [spec_l3Uses.l0]; rw [if_pos (by omega)]; rfl
theorem usesS_ev (g : List (List Int)) (hg : g.length ≤ 1048576) (hl : ∀ p ∈ g, ∀ x ∈ p, LetP x) (hb : g.flatten.length ≤ 1048576) : Ev (fun k => spec_l3Uses.f k g) (usesL g.flatten) := by
  refine Ev.congr (fun k => ?_) (usesS_l g hg hl hb g.length 0 (by omega))
  unfold spec_l3Uses.f
  rw [if_pos (by omega), List.take_zero, List.flatten_nil, usesL_nil]; rfl
theorem isGluingS_l (g : List (List Int)) (hg : g.length ≤ 1048576) (hb : g.flatten.length ≤ 1048576) (r : Bool) (hr : RowsP g 0 → (Ev (fun k => spec_IsGluing.l0 k g (g.flatten.length : Nat) g.length) r)) : ∀ (d p : Nat), p + d = g.length → (RowsP g p ↔ RowsP g 0) → Ev (fun k => spec_IsGluing.l0 k g (((g.take p).flatten.length : Nat) : Int) p) (if RowsP g 0 then r else false) := by
  intro d
  induction d with
  | zero =>
    intro p hp hrow
    have h0 : RowsP g 0 := hrow.1 (by unfold RowsP; rw [List.drop_of_length_le (by omega)]; simp)
    rw [if_pos h0, List.take_of_length_le (by omega), show p = g.length by omega]
    exact hr h0
  | succ d ih =>
    intro p hp hrow
    have hlt : p < g.length := by omega
    have hs := rowsP_succ hlt
    have hxl : g[p].length ≤ 1048576 := by have := flat_take_len g (p + 1); rw [flat_take_succ hlt, List.length_append] at this; omega
    by_cases hz : g[p] = []
    · rw [if_neg (fun h0 => (hs.1 (hrow.2 h0)).1.1 hz)]
      refine Ev.step (f := fun _ => some false) (fun k => ?_) (Ev.now _)
      simp only [spec_IsGluing.l0, rdL_lt hlt, hz]
      rw [if_pos (by omega), if_pos (by omega), if_pos (by simp)]
    have hzl : 0 < g[p].length := List.length_pos_iff.2 hz
    have hw := (isWord_ev g[p] hxl).1
    refine Ev.step (f := fun k => (spec_IsWord.f k g[p]).bind fun t => if t = true then spec_IsGluing.l0 k g (wrap64 ((((g.take p).flatten.length : Nat) : Int) + (g[p].length : Int))) ((p + 1 : Nat) : Int) else some false) (fun k => ?_) (Ev.bind hw ?_)
    · simp only [spec_IsGluing.l0, rdL_lt hlt]
      rw [if_pos (by omega), if_pos (by omega), if_neg (by omega), w64s hlt (by omega)]
    · by_cases hwp : WordP g[p]
      · rw [decide_eq_true hwp]
        simp only [if_true]
        have h1 := ih (p + 1) (by omega) ⟨fun h => hrow.1 (hs.2 ⟨⟨hz, hwp⟩, h⟩), fun h => (hs.1 (hrow.2 h)).2⟩
        have hl : ((g.take (p + 1)).flatten.length : Nat) = (g.take p).flatten.length + g[p].length := by rw [flat_take_succ hlt, List.length_append]
        have hle := flat_take_len g (p + 1)
        have e : wrap64 ((((g.take p).flatten.length : Nat) : Int) + (g[p].length : Int)) = (((g.take (p + 1)).flatten.length : Nat) : Int) := by
          rw [w64 (by omega) (by omega)]; omega
        rw [e]
        exact h1
      · rw [decide_eq_false hwp, if_neg (fun h0 => hwp (hs.1 (hrow.2 h0)).1.2)]
        exact Ev.now _
theorem isGluingS_ev (g : List (List Int)) (hg : g.length ≤ 1048576) (hb : g.flatten.length ≤ 1048576) : Ev (fun k => spec_IsGluing.f k g) (decide (GluP g)) := by
  have hend : RowsP g 0 → Ev (fun k => spec_IsGluing.l0 k g (g.flatten.length : Nat) g.length) (decide (GluP g)) := by
    intro h0
    have h0' : ∀ p ∈ g, p ≠ [] ∧ WordP p := fun p hp => h0 p (by rw [List.drop_zero]; exact hp)
    by_cases hl : (1 : Int) ≤ g.length ∧ (g.length : Int) ≤ 4
    · by_cases h20 : (g.flatten.length : Int) > 20
      · rw [decide_eq_false (fun h : GluP g => by have := h.2.2.1; omega)]
        refine Ev.step (f := fun k => spec_IsGluing.j1 k g true) (fun k => ?_) (Ev.step (f := fun _ => some false) (fun k => ?_) (Ev.now _))
        · simp only [spec_IsGluing.l0, l1In_eq, Option.bind_some, decide_eq_true hl, decide_eq_true h20]; rw [if_neg (by omega), if_pos trivial]
        · simp only [spec_IsGluing.j1]; rw [if_pos trivial]
      · have e : Few g.flatten 0 ↔ GluP g := ⟨fun h => ⟨⟨by omega, by omega⟩, h0', by omega, fun y hy => h y (by omega) hy⟩, fun h y _ hy => h.2.2.2 y hy⟩
        rw [← decide_eq_decide.2 e]
        refine Ev.step (f := fun k => spec_IsGluing.j1 k g false) (fun k => ?_) (Ev.step (f := fun k => (spec_l3Uses.f k g).bind fun t => spec_IsGluing.l1 k t ((0 : Nat) : Int)) (fun k => ?_) (Ev.bind (usesS_ev g hg (fun p hp => (h0' p hp).2.1) hb) (fewS_l g.flatten 9 0 (by omega))))
        · simp only [spec_IsGluing.l0, l1In_eq, Option.bind_some, decide_eq_true hl, decide_eq_false h20]; rw [if_neg (by omega), if_pos trivial]
        · simp only [spec_IsGluing.j1]; rw [if_neg (by simp)]; rfl
    · rw [decide_eq_false (fun h : GluP g => hl ⟨by have := h.1.1; omega, by have := h.1.2; omega⟩)]
      refine Ev.step (f := fun k => spec_IsGluing.j1 k g true) (fun k => ?_) (Ev.step (f := fun _ => some false) (fun k => ?_) (Ev.now _))
      · simp only [spec_IsGluing.l0, l1In_eq, Option.bind_some, decide_eq_false hl]; rw [if_neg (by omega), if_neg (by simp)]
      · simp only [spec_IsGluing.j1]; rw [if_pos trivial]
  have h := isGluingS_l g hg hb _ hend g.length 0 (by omega) Iff.rfl
  have e : (if RowsP g 0 then decide (GluP g) else false) = decide (GluP g) := by
    split
    · rfl
    · rename_i hn
      rw [decide_eq_false (fun h : GluP g => hn (fun p hp => h.2.1 p (by rw [List.drop_zero] at hp; exact hp)))]
  rw [e] at h
  simpa [spec_IsGluing.f] using h
theorem fewI_l (l : List Int) : ∀ (d i : Nat), i + d = 9 → Ev (fun k => impl_IsGluing.l1 k (usesL l) 9 i) (decide (Few l i)) := by
  intro d
  induction d with
  | zero =>
    intro i hi
    rw [decide_eq_true (show Few l i from fun y h1 h2 => by omega)]
    refine Ev.step (f := fun _ => some true) (fun k => ?_) (Ev.now _)
    simp only [impl_IsGluing.l1]; rw [if_neg (by omega)]
  | succ d ih =>
    intro i hi
    by_cases hc : cnt l i ≤ 2
    · have e : Few l i ↔ Few l (i + 1) := ⟨fun h y h1 h2 => h y (by omega) h2, fun h y h1 h2 => by
        rcases Nat.eq_or_lt_of_le h1 with rfl | h3
        · exact hc
        · exact h y h3 h2⟩
      rw [decide_eq_decide.2 e]
      refine Ev.step (fun k => ?_) (ih (i + 1) (by omega))
      simp only [impl_IsGluing.l1, usesL_length, usesL_rd l (show i < 9 by omega)]
      rw [if_pos (by omega), if_pos (by omega), if_pos (by omega), if_neg (by omega), w64s (show i < 9 by omega) (by omega)]
    · rw [decide_eq_false (show ¬ Few l i from fun h => hc (h i (Nat.le_refl _) (by omega)))]
      refine Ev.step (f := fun _ => some false) (fun k => ?_) (Ev.now _)
      simp only [impl_IsGluing.l1, usesL_length, usesL_rd l (show i < 9 by omega)]
      rw [if_pos (by omega), if_pos (by omega), if_pos (by omega), if_pos (by omega)]
theorem usesI_row (g : List (List Int)) (hg : g.length ≤ 1048576) (p : Nat) (hp : p < g.length) (hl : ∀ x ∈ g[p], LetP x) (pre : List Int) (hb : pre.length + g[p].length ≤ 1048576) (r : List Int) (h : Ev (fun k => impl_letterCounts.l0 k (usesL (pre ++ g[p])) g g.length ((p + 1 : Nat) : Int)) r) :
    ∀ (d i : Nat), i + d = g[p].length → Ev (fun k => impl_letterCounts.l1 k (usesL (pre ++ g[p].take i)) g g.length p g[p] g[p].length i) r := by
  intro d
  induction d with
  | zero =>
    intro i hi
    rw [List.take_of_length_le (by omega)]
    refine Ev.step (fun k => ?_) h
    simp only [impl_letterCounts.l1]
    rw [if_neg (by omega), w64s hp (by omega)]
  | succ d ih =>
    intro i hi
    have hlt : i < g[p].length := by omega
    have hx := hl g[p][i] (List.getElem_mem hlt)
    have ha := hx.abs
    have hc := cnt_le (pre ++ g[p].take i) g[p][i].natAbs
    rw [List.length_append, List.length_take] at hc
    have hw : wrap64 ((cnt (pre ++ g[p].take i) g[p][i].natAbs : Int) + 1) = (cnt (pre ++ g[p].take i) g[p][i].natAbs : Int) + 1 := w64 (by omega) (by omega)
    have := ih (i + 1) (by omega)
    rw [List.take_succ_eq_append_getElem hlt, ← List.append_assoc, ← usesL_snoc] at this
    refine Ev.step (fun k => ?_) this
    simp only [impl_letterCounts.l1, rd_lt hlt, size_eq hx, Option.bind_some, usesL_length]
    rw [if_pos (by omega), if_pos (by omega), if_pos (by omega), if_pos (by omega), if_pos (by omega), usesL_rd _ (by omega), hw, w64s hlt (by omega), Int.toNat_natCast]
theorem usesI_l (g : List (List Int)) (hg : g.length ≤ 1048576) (hl : ∀ p ∈ g, ∀ x ∈ p, LetP x) (hb : g.flatten.length ≤ 1048576) : ∀ (d p : Nat), p + d = g.length → Ev (fun k => impl_letterCounts.l0 k (usesL (g.take p).flatten) g g.length p) (usesL g.flatten) := by
  intro d
  induction d with
  | zero =>
    intro p hp
    rw [List.take_of_length_le (by omega)]
    refine Ev.step (f := fun _ => some (usesL g.flatten)) (fun k => ?_) (Ev.now _)
    simp only [impl_letterCounts.l0]; rw [if_neg (by omega)]
  | succ d ih =>
    intro p hp
    have hlt : p < g.length := by omega
    have h1 := ih (p + 1) (by omega)
    rw [flat_take_succ hlt] at h1
    have h2 := usesI_row g hg p hlt (hl _ (List.getElem_mem hlt)) (g.take p).flatten (by have := flat_take_len g (p + 1); rw [flat_take_succ hlt, List.length_append] at this; omega) _ h1 g[p].length 0 (by omega)
    rw [List.take_zero, List.append_nil] at h2
    refine Ev.step (fun k => ?_) h2
    simp only [impl_letterCounts.l0, rdL_lt hlt]; rw [if_pos (by omega), if_pos (by omega), if_pos (by omega)]; rfl
theorem usesI_ev (g : List (List Int)) (hg : g.length ≤ 1048576) (hl : ∀ p ∈ g, ∀ x ∈ p, LetP x) (hb : g.flatten.length ≤ 1048576) : Ev (fun k => impl_letterCounts.f k g) (usesL g.flatten) := by
  refine Ev.congr (fun k => ?_) (usesI_l g hg hl hb g.length 0 (by omega))
  unfold impl_letterCounts.f
  rw [if_pos (by omega), List.take_zero, List.flatten_nil, usesL_nil]; rfl
theorem isGluingI_l (g : List (List Int)) (hg : g.length ≤ 1048576) (hb : g.flatten.length ≤ 1048576) (r : Bool) (hr : RowsP g 0 → (Ev (fun k => impl_IsGluing.l0 k g (g.flatten.length : Nat) g g.length g.length) r)) : ∀ (d p : Nat), p + d = g.length → (RowsP g p ↔ RowsP g 0) → Ev (fun k => impl_IsGluing.l0 k g (((g.take p).flatten.length : Nat) : Int) g g.length p) (if RowsP g 0 then r else false) := by
  intro d
  induction d with
  | zero =>
    intro p hp hrow
    have h0 : RowsP g 0 := hrow.1 (by unfold RowsP; rw [List.drop_of_length_le (by omega)]; simp)
    rw [if_pos h0, List.take_of_length_le (by omega), show p = g.length by omega]
    exact hr h0
  | succ d ih =>
    intro p hp hrow
    have hlt : p < g.length := by omega
    have hs := rowsP_succ hlt
    have hxl : g[p].length ≤ 1048576 := by have := flat_take_len g (p + 1); rw [flat_take_succ hlt, List.length_append] at this; omega
    by_cases hz : g[p] = []
    · rw [if_neg (fun h0 => (hs.1 (hrow.2 h0)).1.1 hz)]
      refine Ev.step (f := fun _ => some false) (fun k => ?_) (Ev.now _)
      simp only [impl_IsGluing.l0, rdL_lt hlt, hz]
      rw [if_pos (by omega), if_pos (by omega), if_pos (by omega), if_pos (by simp)]
    have hzl : 0 < g[p].length := List.length_pos_iff.2 hz
    have hw := (isWord_ev g[p] hxl).2
    refine Ev.step (f := fun k => (impl_IsWord.f k g[p]).bind fun t => if t = true then impl_IsGluing.l0 k g (wrap64 ((((g.take p).flatten.length : Nat) : Int) + (g[p].length : Int))) g g.length ((p + 1 : Nat) : Int) else some false) (fun k => ?_) (Ev.bind hw ?_)
    · simp only [impl_IsGluing.l0, rdL_lt hlt]
      rw [if_pos (by omega), if_pos (by omega), if_pos (by omega), if_neg (by omega), w64s hlt (by omega)]
    · by_cases hwp : WordP g[p]
      · rw [decide_eq_true hwp]
        simp only [if_true]
        have h1 := ih (p + 1) (by omega) ⟨fun h => hrow.1 (hs.2 ⟨⟨hz, hwp⟩, h⟩), fun h => (hs.1 (hrow.2 h)).2⟩
        have hl : ((g.take (p + 1)).flatten.length : Nat) = (g.take p).flatten.length + g[p].length := by rw [flat_take_succ hlt, List.length_append]
        have hle := flat_take_len g (p + 1)
        have e : wrap64 ((((g.take p).flatten.length : Nat) : Int) + (g[p].length : Int)) = (((g.take (p + 1)).flatten.length : Nat) : Int) := by
          rw [w64 (by omega) (by omega)]; omega
        rw [e]
        exact h1
      · rw [decide_eq_false hwp, if_neg (fun h0 => hwp (hs.1 (hrow.2 h0)).1.2)]
        exact Ev.now _
theorem isGluingI_ev (g : List (List Int)) (hg : g.length ≤ 1048576) (hb : g.flatten.length ≤ 1048576) : Ev (fun k => impl_IsGluing.f k g) (decide (GluP g)) := by
  unfold impl_IsGluing.f
  simp only [within_eq, Option.bind_some]
  by_cases hl : (1 : Int) ≤ g.length ∧ (g.length : Int) ≤ 4
  case neg =>
    rw [decide_eq_false hl, decide_eq_false (fun h : GluP g => hl ⟨by have := h.1.1; omega, by have := h.1.2; omega⟩)]
    exact Ev.now _
  rw [decide_eq_true hl]
  simp only [if_true]
  have hend : RowsP g 0 → Ev (fun k => impl_IsGluing.l0 k g (g.flatten.length : Nat) g g.length g.length) (decide (GluP g)) := by
    intro h0
    have h0' : ∀ p ∈ g, p ≠ [] ∧ WordP p := fun p hp => h0 p (by rw [List.drop_zero]; exact hp)
    by_cases h20 : (g.flatten.length : Int) > 20
    · rw [decide_eq_false (fun h : GluP g => by have := h.2.2.1; omega)]
      refine Ev.step (f := fun _ => some false) (fun k => ?_) (Ev.now _)
      simp only [impl_IsGluing.l0]; rw [if_neg (by omega), if_pos h20]
    · have e : Few g.flatten 0 ↔ GluP g := ⟨fun h => ⟨⟨by omega, by omega⟩, h0', by omega, fun y hy => h y (by omega) hy⟩, fun h y _ hy => h.2.2.2 y hy⟩
      rw [← decide_eq_decide.2 e]
      refine Ev.step (f := fun k => (impl_letterCounts.f k g).bind fun t => impl_IsGluing.l1 k t (t.length : Int) 0) (fun k => ?_) (Ev.bind (usesI_ev g hg (fun p hp => (h0' p hp).2.1) hb) ?_)
      · simp only [impl_IsGluing.l0]; rw [if_neg (by omega), if_neg h20]
      · simp only [usesL_length]
        exact fewI_l g.flatten 9 0 (by omega)
  have h := isGluingI_l g hg hb _ hend g.length 0 (by omega) Iff.rfl
  have e : (if RowsP g 0 then decide (GluP g) else false) = decide (GluP g) := by
    split
    · rfl
    · rename_i hn
      rw [decide_eq_false (fun h : GluP g => hn (fun p hp => h.2.1 p (by rw [List.drop_zero] at hp; exact hp)))]
  rw [e] at h
  simpa using h
noncomputable def moveM (h : List (List Int)) : List (List Int) × Bool := if GluP h then (h, true) else ([], false)
theorem moveM_bulk (h : List (List Int)) : bulk (moveM h).1 ≤ 1048576 := by
  unfold moveM
  by_cases hg : GluP h
  · rw [if_pos hg]
    obtain ⟨⟨_, g1⟩, _, g2, _⟩ := hg
    unfold bulk
    rw [flat_len] at g2
    dsimp only
    omega
  · rw [if_neg hg]; decide
theorem right_ev (h : List (List Int)) (h1 : h.length ≤ 1048576) (h2 : h.flatten.length ≤ 1048576) : Ev (fun k => spec_l5Right.f k h) (moveM h) := by
  unfold spec_l5Right.f moveM
  refine Ev.bind (isGluingS_ev h h1 h2) ?_
  by_cases hg : GluP h
  · rw [decide_eq_true hg, if_pos hg]; exact Ev.now _
  · rw [decide_eq_false hg, if_neg hg]; exact Ev.now _
theorem moved_ev (h : List (List Int)) (h1 : h.length ≤ 1048576) (h2 : h.flatten.length ≤ 1048576) : Ev (fun k => impl_moved.f k h) (moveM h) := by
  unfold impl_moved.f moveM
  refine Ev.bind (isGluingI_ev h h1 h2) ?_
  by_cases hg : GluP h
  · rw [decide_eq_true hg, if_pos hg]; exact Ev.now _
  · rw [decide_eq_false hg, if_neg hg]; exact Ev.now _
def invL (l : List Int) : List Int := (l.map (fun x => -x)).reverse
theorem invL_length (l : List Int) : (invL l).length = l.length := by simp [invL]
theorem inverse_l (l : List Int) (hl : l.length ≤ 1048576) (hp : ∀ x ∈ l, LetP x) : ∀ (i : Nat) (acc : List Int), i ≤ l.length → acc = invL (l.drop i) → Ev (fun k => spec_l2Inverse.l0 k l acc ((i : Int) - 1)) (invL l) ∧ Ev (fun k => impl_inverse.l0 k l acc ((i : Int) - 1)) (invL l) := by
  intro i
  induction i with
  | zero =>
    intro acc hi ha
    rw [List.drop_zero] at ha
    subst ha
    refine ⟨Ev.step (f := fun _ => some (invL l)) (fun k => ?_) (Ev.now _), Ev.step (f := fun _ => some (invL l)) (fun k => ?_) (Ev.now _)⟩
    · simp only [spec_l2Inverse.l0]; rw [if_neg (by omega)]
    · simp only [impl_inverse.l0]; rw [if_neg (by omega)]
  | succ i ih =>
    intro acc hi ha
    have hlt : i < l.length := by omega
    have e0 : ((i + 1 : Nat) : Int) - 1 = (i : Int) := by omega
    have ed : l.drop i = l[i] :: l.drop (i + 1) := List.drop_eq_getElem_cons hlt
    have hlen : acc.length < 17592186044416 := by rw [ha, invL_length, List.length_drop]; omega
    have hn := w64neg (hp l[i] (List.getElem_mem hlt))
    obtain ⟨h1, h2⟩ := ih (acc ++ [-l[i]]) (by omega) (by rw [ha, ed]; simp only [invL, List.map_cons, List.reverse_cons])
    rw [e0]
    refine ⟨Ev.step (fun k => ?_) h1, Ev.step (fun k => ?_) h2⟩
    · simp only [spec_l2Inverse.l0, rd_lt hlt, hn]
      rw [if_pos (by omega), if_pos (by omega), if_pos (by omega), if_pos hlen, w64 (by omega) (by omega)]
    · simp only [impl_inverse.l0, rd_lt hlt, hn]
      rw [if_pos (by omega), if_pos (by omega), if_pos (by omega), if_pos hlen, w64 (by omega) (by omega)]
theorem inverse_ev (l : List Int) (hl : l.length ≤ 1048576) (hp : ∀ x ∈ l, LetP x) : Ev (fun k => spec_l2Inverse.f k l) (invL l) ∧ Ev (fun k => impl_inverse.f k l) (invL l) := by
  have := inverse_l l hl hp l.length [] (Nat.le_refl _) (by simp [invL])
  have hw : wrap64 ((l.length : Int) - 1) = (l.length : Int) - 1 := w64 (by omega) (by omega)
  simpa [spec_l2Inverse.f, impl_inverse.f, hw] using this
theorem copyOf_eq (l : List Int) (hl : l.length ≤ 1048576) : impl_copyOf.f l = some l := by
  unfold impl_copyOf.f
  simp only [Option.bind_some, List.nil_append, List.length_nil, Nat.zero_add]
  rw [if_pos (by omega)]
def turnL (l : List Int) (k : Int) : List Int := if l.length = 0 then [] else l.drop (k % (l.length : Int)).toNat ++ l.take (k % (l.length : Int)).toNat
theorem turnL_length (l : List Int) (k : Int) : (turnL l k).length = l.length := by
  unfold turnL
  split
  · simp_all
  · simp only [List.length_append, List.length_drop, List.length_take]
    have := Int.emod_nonneg k (b := (l.length : Int)) (by omega)
    have := Int.emod_lt_of_pos k (b := (l.length : Int)) (by omega)
    omega
theorem tmod_turn (k : Int) (n : Nat) (hn : 0 < n) (h : n ≤ 1048576) : (if Int.tmod k n < 0 then wrap64 (Int.tmod k n + n) else Int.tmod k n) = k % (n : Int) := by
  have hb : -(n : Int) < Int.tmod k n ∧ Int.tmod k n < n := by
    constructor
    · have := Int.lt_tmod_of_pos k (show (0 : Int) < n by omega); omega
    · exact Int.tmod_lt_of_pos k (by omega)
  have he := Int.tmod_eq_emod (a := k) (b := (n : Int))
  have h1 := Int.emod_nonneg k (b := (n : Int)) (by omega)
  have h2 := Int.emod_lt_of_pos k (b := (n : Int)) (by omega)
  have hna : ((n : Int).natAbs : Int) = n := by omega
  split
  · rw [w64 (by omega) (by omega), he]
    split
    · rename_i hlt hc
      rw [he, if_pos hc] at hlt
      omega
    · rename_i hlt hc
      rw [he, if_neg hc] at hlt
      omega
  · rename_i hlt
    rw [he] at hlt ⊢
    split
    · omega
    · rename_i hc
      rw [if_neg hc] at hlt
      omega
theorem turnI_eq (l : List Int) (hl : l.length ≤ 1048576) (k : Int) : impl_turn.f l k = some (turnL l k) := by
  unfold impl_turn.f turnL
  by_cases h0 : l.length = 0
  · simp [h0]
  have hn : ¬ (l.length : Int) = 0 := by omega
  have ht := tmod_turn k l.length (by omega) hl
  have h1 := Int.emod_nonneg k (b := (l.length : Int)) (by omega)
  have h2 := Int.emod_lt_of_pos k (b := (l.length : Int)) (by omega)
  have hdl2 : (l.drop (k % (l.length : Int)).toNat).length ≤ 1048576 := by simp; omega
  have hal : (l.drop (k % (l.length : Int)).toNat).length + (l.take (k % (l.length : Int)).toNat).length < 17592186044416 := by simp; omega
  have h3 : (k % (l.length : Int)) ≤ (l.length : Int) := by omega
  simp only [h0, hn, if_false]
  have hm : impl_mod.f k l.length = some (k % (l.length : Int)) := by
    unfold impl_mod.f
    rw [if_neg hn]
    by_cases hlt : Int.tmod k l.length < 0
    · rw [if_pos hlt] at ht ⊢; rw [ht]
    · rw [if_neg hlt] at ht ⊢; rw [ht]
  simp only [hm, Option.bind_some, h1, h3, if_true, copyOf_eq _ hdl2, hal]
def wholeL (a : List Int) (i : Nat) (w : List Int) (t : Nat) : List Int := ((a.take i ++ w.drop (t + 1)) ++ w.take t) ++ a.drop (i + 1)
def outTo (g : List (List Int)) (p q : Nat) (w : List Int) : Nat → List (List Int)
  | 0 => []
  | k + 1 => outTo g p q w k ++ if k = p then [w] else if k = q then [] else [g.getD k []]
theorem outTo_p {g : List (List Int)} {p q : Nat} {w : List Int} {k : Nat} (h : k = p) : outTo g p q w (k + 1) = outTo g p q w k ++ [w] := by
  show _ ++ (if k = p then _ else _) = _
  rw [if_pos h]
theorem outTo_q {g : List (List Int)} {p q : Nat} {w : List Int} {k : Nat} (h : k ≠ p) (h' : k = q) : outTo g p q w (k + 1) = outTo g p q w k := by
  show _ ++ (if k = p then _ else _) = _
  rw [if_neg h, if_pos h', List.append_nil]
theorem outTo_o {g : List (List Int)} {p q : Nat} {w : List Int} {k : Nat} (h : k ≠ p) (h' : k ≠ q) (hk : k < g.length) : outTo g p q w (k + 1) = outTo g p q w k ++ [g[k]] := by
  show _ ++ (if k = p then _ else _) = _
  rw [if_neg h, if_neg h', getD_lt hk]
theorem outTo_len (g : List (List Int)) {p q : Nat} (w : List Int) (hpq : p ≠ q) : ∀ k, (outTo g p q w k).length + (if q < k then 1 else 0) = k := by
  intro k
  induction k with
  | zero => rfl
  | succ k ih =>
    show (outTo g p q w k ++ if k = p then _ else _).length + _ = _
    rw [List.length_append]
    by_cases h1 : k = p
    · rw [if_pos h1, List.length_singleton]
      have : (q < k ↔ q < k + 1) := by omega
      simp only [this] at ih
      omega
    · rw [if_neg h1]
      by_cases h2 : k = q
      · rw [if_pos h2, List.length_nil, if_pos (by omega)]
        rw [if_neg (by omega)] at ih
        omega
      · rw [if_neg h2, List.length_singleton]
        have : (q < k ↔ q < k + 1) := by omega
        simp only [this] at ih
        omega
theorem outTo_le (g : List (List Int)) {p q : Nat} (w : List Int) (hpq : p ≠ q) (k : Nat) : (outTo g p q w k).length ≤ k := by
  have := outTo_len g w hpq k
  omega
theorem outTo_mem {g : List (List Int)} {p q : Nat} {w : List Int} : ∀ {k : Nat}, p < k → w ∈ outTo g p q w k := by
  intro k
  induction k with
  | zero => intro h; omega
  | succ k ih =>
    intro h
    by_cases e : k = p
    · rw [outTo_p e]; exact List.mem_append_right _ (List.mem_singleton.2 rfl)
    · exact List.mem_append_left _ (ih (by omega))
theorem outTo_flat (g : List (List Int)) (p q : Nat) (w : List Int) : ∀ k, k ≤ g.length → (outTo g p q w k).flatten.length ≤ (g.take k).flatten.length + k * w.length := by
  intro k
  induction k with
  | zero => intro _; simp [outTo]
  | succ k ih =>
    intro hk
    have hlt : k < g.length := by omega
    have h1 := ih (by omega)
    rw [flat_take_succ hlt, List.length_append, Nat.succ_mul]
    by_cases e1 : k = p
    · rw [outTo_p e1, List.flatten_append, List.length_append, List.flatten_singleton]; omega
    · by_cases e2 : k = q
      · rw [outTo_q e1 e2]; omega
      · rw [outTo_o e1 e2 hlt, List.flatten_append, List.length_append, List.flatten_singleton]; omega
theorem outTo_small {g : List (List Int)} (hg : GluP g) {p q : Nat} {w : List Int} (hw : w.length ≤ 1000) (hpq : p ≠ q) : (outTo g p q w g.length).length ≤ 1048576 ∧ (outTo g p q w g.length).flatten.length ≤ 1048576 := by
  have h1 := outTo_le g w hpq g.length
  have h2 := outTo_flat g p q w g.length (Nat.le_refl _)
  rw [List.take_of_length_le (Nat.le_refl _)] at h2
  have h3 := hg.1.2
  have h4 := hg.2.2.1
  have h5 : g.length * w.length ≤ 4 * 1000 := Nat.mul_le_mul h3 hw
  omega
theorem turn_rest (w : List Int) (t : Nat) (ht : t < w.length) : (turnL w ((t + 1 : Nat) : Int)).take (w.length - 1) = w.drop (t + 1) ++ w.take t := by
  unfold turnL
  rw [if_neg (by omega)]
  by_cases h : t + 1 < w.length
  · have e : ((((t + 1 : Nat) : Int)) % (w.length : Int)).toNat = t + 1 := by
      rw [Int.emod_eq_of_lt (by omega) (by omega)]; omega
    rw [e, List.take_append, List.length_drop, List.take_of_length_le (by rw [List.length_drop]; omega), List.take_take, Nat.min_eq_left (by omega)]
    congr 2; omega
  · have e : ((((t + 1 : Nat) : Int)) % (w.length : Int)).toNat = 0 := by
      rw [show (((t + 1 : Nat) : Int)) = (w.length : Int) by omega, Int.emod_self]; rfl
    rw [e, List.drop_zero, List.take_zero, List.append_nil, List.drop_of_length_le (by omega), List.nil_append]
    congr 1; omega
theorem invL_get (w : List Int) (a : Nat) (h : a < (invL w).length) : (invL w)[a] = -(w[w.length - 1 - a]'(by rw [invL_length] at h; omega)) := by
  simp [invL]
theorem wholeL_len (a : List Int) (i : Nat) (w : List Int) (t : Nat) : (wholeL a i w t).length ≤ a.length + w.length := by
  unfold wholeL
  simp only [List.length_append, List.length_take, List.length_drop]
  omega
theorem glueS_l (g : List (List Int)) (hg : GluP g) (p q : Nat) (hpq : p ≠ q) (w : List Int) (hw : w.length ≤ 1000) : ∀ (d i : Nat), i + d = g.length → Ev (fun k => spec_GluePolygons.l1 k g p q w (outTo g p q w i) i) (moveM (outTo g p q w g.length)) := by
  intro d
  induction d with
  | zero =>
    intro i hi
    obtain rfl : i = g.length := by omega
    obtain ⟨s1, s2⟩ := outTo_small hg hw hpq
    refine Ev.shift ?_
    simp only [spec_GluePolygons.l1]
    exact Ev.neg (by omega) (Ev.bind (right_ev _ s1 s2) (Ev.now _))
  | succ d ih =>
    intro i hi
    have hlt : i < g.length := by omega
    have h4 := hg.1.2
    have h24 := (hg.2.1 g[i] (List.getElem_mem hlt)).2.2
    have h1 := ih (i + 1) (by omega)
    have hol := outTo_le g w hpq i
    by_cases e1 : i = p
    · rw [outTo_p e1] at h1
      refine Ev.step (fun k => ?_) h1
      simp only [spec_GluePolygons.l1, Option.bind_some, List.nil_append, List.length_nil, Nat.zero_add]
      rw [if_pos (by omega), if_pos (by omega), if_pos (by omega), if_pos (by omega), w64s hlt (by omega)]
    · by_cases e2 : i = q
      · rw [outTo_q e1 e2] at h1
        refine Ev.step (fun k => ?_) h1
        simp only [spec_GluePolygons.l1]
        rw [if_pos (by omega), if_neg (by omega), if_pos (by omega), w64s hlt (by omega)]
      · rw [outTo_o e1 e2 hlt] at h1
        refine Ev.step (fun k => ?_) h1
        simp only [spec_GluePolygons.l1, rdL_lt hlt, Option.bind_some, List.nil_append, List.length_nil, Nat.zero_add]
        rw [if_pos (by omega), if_neg (by omega), if_neg (by omega), if_pos (by omega), if_pos (by omega), if_pos (by omega), w64s hlt (by omega)]
theorem glueI_p (g : List (List Int)) (p q : Nat) (a : List Int) (i : Nat) (rest w : List Int) (hW : (a.take i ++ rest) ++ a.drop (i + 1) = w) (c1 : impl_copyOf.f (a.take i) = some (a.take i)) (hi : i < a.length) (hi9 : a.length ≤ 9223372036854775807) (m : Nat) (hlt : m < g.length) (hm9 : g.length ≤ 9223372036854775807) (A : List (List Int)) (R : List (List Int) × Bool)
    (z5 : (a.take i).length + rest.length < 17592186044416) (z6 : (a.take i ++ rest).length + (a.drop (i + 1)).length < 17592186044416) (y3 : A.length < 5864062014805) (e1 : m = p)
    (h1 : Ev (fun k => impl_GluePolygons.l2 k p q a i rest (A ++ [w]) g g.length ((m + 1 : Nat) : Int)) R) : Ev (fun k => impl_GluePolygons.l2 k p q a i rest A g g.length m) R := by
  have z2 : (i : Int) ≤ (a.length : Int) := Int.ofNat_le.2 (Nat.le_of_lt hi)
  have z4 : ((i + 1 : Nat) : Int) ≤ (a.length : Int) := Int.ofNat_le.2 hi
  have y1 : (m : Int) < (g.length : Int) := Int.ofNat_lt.2 hlt
  have y4 : (m : Int) = (p : Int) := congrArg _ e1
  have w1 : wrap64 ((i : Int) + 1) = ((i + 1 : Nat) : Int) := w64s hi hi9
  have w3 : wrap64 ((m : Int) + 1) = ((m + 1 : Nat) : Int) := w64s hlt hm9
  rw [← hW] at h1
  refine Ev.shift ?_
  simp only [impl_GluePolygons.l2, Int.toNat_natCast, c1, w1, w3, Option.bind_some]
  exact Ev.pos y1 (Ev.pos (Int.natCast_nonneg m) (Ev.pos y1 (Ev.pos y4 (Ev.pos (Int.natCast_nonneg i) (Ev.pos z2 (Ev.pos z5 (Ev.pos (Int.natCast_nonneg (i + 1)) (Ev.pos z4 (Ev.pos z6 (Ev.pos y3 h1))))))))))
theorem glueI_q (g : List (List Int)) (p q : Nat) (a : List Int) (i : Nat) (rest : List Int) (m : Nat) (hlt : m < g.length) (hm9 : g.length ≤ 9223372036854775807) (A : List (List Int)) (R : List (List Int) × Bool) (e1 : ¬ m = p) (e2 : m = q)
    (h1 : Ev (fun k => impl_GluePolygons.l2 k p q a i rest A g g.length ((m + 1 : Nat) : Int)) R) : Ev (fun k => impl_GluePolygons.l2 k p q a i rest A g g.length m) R := by
  have y1 : (m : Int) < (g.length : Int) := Int.ofNat_lt.2 hlt
  have y4 : ¬ (m : Int) = (p : Int) := by omega
  have y5 : (m : Int) = (q : Int) := congrArg _ e2
  have w3 : wrap64 ((m : Int) + 1) = ((m + 1 : Nat) : Int) := w64s hlt hm9
  refine Ev.shift ?_
  simp only [impl_GluePolygons.l2, w3]
  exact Ev.pos y1 (Ev.pos (Int.natCast_nonneg m) (Ev.pos y1 (Ev.neg y4 (Ev.pos y5 h1))))
theorem glueI_o (g : List (List Int)) (p q : Nat) (a : List Int) (i : Nat) (rest : List Int) (m : Nat) (hlt : m < g.length) (hm9 : g.length ≤ 9223372036854775807) (A : List (List Int)) (R : List (List Int) × Bool) (c2 : impl_copyOf.f g[m] = some g[m]) (y3 : A.length < 5864062014805) (e1 : ¬ m = p) (e2 : ¬ m = q)
    (h1 : Ev (fun k => impl_GluePolygons.l2 k p q a i rest (A ++ [g[m]]) g g.length ((m + 1 : Nat) : Int)) R) : Ev (fun k => impl_GluePolygons.l2 k p q a i rest A g g.length m) R := by
  have y1 : (m : Int) < (g.length : Int) := Int.ofNat_lt.2 hlt
  have y4 : ¬ (m : Int) = (p : Int) := by omega
  have y5 : ¬ (m : Int) = (q : Int) := by omega
  have w3 : wrap64 ((m : Int) + 1) = ((m + 1 : Nat) : Int) := w64s hlt hm9
  refine Ev.shift ?_
  simp only [impl_GluePolygons.l2]
  refine Ev.pos y1 (Ev.pos (Int.natCast_nonneg m) (Ev.pos y1 (Ev.neg y4 (Ev.neg y5 ?_))))
  simp only [rdL_lt hlt, c2, w3, Option.bind_some]
  exact Ev.pos y3 h1
theorem glueI_w (g : List (List Int)) (hg : GluP g) (p q : Nat) (hpq : p ≠ q) (a : List Int) (i : Nat) (hi : i < a.length) (ha : a.length ≤ 24) (rest : List Int) (hr : rest.length ≤ 24) (w : List Int) (hW : (a.take i ++ rest) ++ a.drop (i + 1) = w) (hw : w.length ≤ 1000) : ∀ (d m : Nat), m + d = g.length → Ev (fun k => impl_GluePolygons.l2 k p q a i rest (outTo g p q w m) g g.length m) (moveM (outTo g p q w g.length)) := by
  have z5 : (a.take i).length + rest.length < 17592186044416 := by rw [List.length_take]; omega
  have z6 : (a.take i ++ rest).length + (a.drop (i + 1)).length < 17592186044416 := by rw [List.length_append, List.length_take, List.length_drop]; omega
  have c1 := copyOf_eq (a.take i) (by rw [List.length_take]; omega)
  have hi9 : a.length ≤ 9223372036854775807 := Nat.le_trans ha (by decide)
  have hm9 : g.length ≤ 9223372036854775807 := Nat.le_trans hg.1.2 (by decide)
  intro d
  induction d with
  | zero =>
    intro m hm
    obtain rfl : m = g.length := hm
    obtain ⟨s1, s2⟩ := outTo_small hg hw hpq
    refine Ev.shift ?_
    simp only [impl_GluePolygons.l2]
    exact Ev.neg (Int.lt_irrefl _) (Ev.bind (moved_ev _ s1 s2) (Ev.now _))
  | succ d ih =>
    intro m hm
    have hlt : m < g.length := by omega
    have h1 := ih (m + 1) (by omega)
    have y3 : (outTo g p q w m).length < 5864062014805 := Nat.lt_of_le_of_lt (Nat.le_trans (outTo_le g w hpq m) (Nat.le_trans (Nat.le_of_lt hlt) hg.1.2)) (by decide)
    by_cases e1 : m = p
    · rw [outTo_p e1] at h1
      exact glueI_p g p q a i rest w hW c1 hi hi9 m hlt hm9 _ _ z5 z6 y3 e1 h1
    · by_cases e2 : m = q
      · rw [outTo_q e1 e2] at h1
        exact glueI_q g p q a i rest m hlt hm9 _ _ e1 e2 h1
      · rw [outTo_o e1 e2 hlt] at h1
        exact glueI_o g p q a i rest m hlt hm9 _ _ (copyOf_eq g[m] (Nat.le_trans (hg.2.1 g[m] (List.getElem_mem hlt)).2.2 (by decide))) y3 e1 e2 h1
theorem glueI_l (g : List (List Int)) (hg : GluP g) (p q : Nat) (hpq : p ≠ q) (a : List Int) (i : Nat) (hi : i < a.length) (ha : a.length ≤ 24) (rest : List Int) (hr : rest.length ≤ 24) : ∀ (d m : Nat), m + d = g.length → Ev (fun k => impl_GluePolygons.l2 k p q a i rest (outTo g p q ((a.take i ++ rest) ++ a.drop (i + 1)) m) g g.length m) (moveM (outTo g p q ((a.take i ++ rest) ++ a.drop (i + 1)) g.length)) :=
  glueI_w g hg p q hpq a i hi ha rest hr _ rfl (by simp only [List.length_append, List.length_take, List.length_drop]; omega)
theorem glueS_j2 (g : List (List Int)) (hg : GluP g) (p q : Nat) (hpq : p ≠ q) (hp : p < g.length) (o : List Int) (ho : ∀ x ∈ o, LetP x) (hol : o.length ≤ 24) (y i t : Nat) (hi : i < g[p].length) (ht : t < o.length) (hty : o[t].natAbs = y) (hno : ∀ a, a < t → ∀ h : a < o.length, o[a].natAbs ≠ y) : Ev (fun k => spec_GluePolygons.j2 k g y p q g[p] o i) (moveM (outTo g p q (wholeL g[p] i o t) g.length)) := by
  have ha := l5At_ev o ho (by omega) y t ht hty hno
  have h24 := (hg.2.1 g[p] (List.getElem_mem hp)).2.2
  have w1 : wrap64 ((i : Int) + 1) = ((i + 1 : Nat) : Int) := w64s hi (by omega)
  have w2 : wrap64 ((t : Int) + 1) = ((t + 1 : Nat) : Int) := w64s ht (by omega)
  have hwl := wholeL_len g[p] i o t
  have hl := glueS_l g hg p q hpq (wholeL g[p] i o t) (by omega) g.length 0 (by omega)
  refine Ev.shift ?_
  simp only [spec_GluePolygons.j2]
  refine Ev.bind ha ?_
  simp only [Option.bind_some, List.nil_append, List.length_nil, Nat.zero_add, w1, w2, Int.toNat_natCast]
  iterate 12
    refine Ev.pos (by first | omega | (simp only [List.length_append, List.length_take, List.length_drop, List.length_cons, List.length_nil, Int.toNat_natCast]; omega)) ?_
  by_cases hz : (wholeL g[p] i o t).length = 0
  · have e : moveM (outTo g p q (wholeL g[p] i o t) g.length) = ([], false) := by
      unfold moveM
      rw [if_neg fun h => (h.2.1 _ (outTo_mem hp)).1 (List.length_eq_zero_iff.1 hz)]
    rw [e]
    exact Ev.pos (show ((wholeL g[p] i o t).length : Int) = 0 by omega) (Ev.now _)
  · exact Ev.neg (show ¬ ((wholeL g[p] i o t).length : Int) = 0 by omega) hl
theorem glueI_j4 (g : List (List Int)) (hg : GluP g) (p q : Nat) (hpq : p ≠ q) (hp : p < g.length) (o : List Int) (hol : o.length ≤ 24) (i t : Nat) (hi : i < g[p].length) (ht : t < o.length) : Ev (fun k => impl_GluePolygons.j4 k g p q g[p] o i t) (moveM (outTo g p q (wholeL g[p] i o t) g.length)) := by
  have h24 := (hg.2.1 g[p] (List.getElem_mem hp)).2.2
  have w2 : wrap64 ((t : Int) + 1) = ((t + 1 : Nat) : Int) := w64s ht (by omega)
  have w3 : wrap64 ((o.length : Int) - 1) = ((o.length - 1 : Nat) : Int) := by rw [w64 (by omega) (by omega)]; omega
  have e : wholeL g[p] i o t = (g[p].take i ++ (o.drop (t + 1) ++ o.take t)) ++ g[p].drop (i + 1) := by unfold wholeL; simp only [List.append_assoc]
  have hl := glueI_l g hg p q hpq g[p] i hi h24 (o.drop (t + 1) ++ o.take t) (by simp only [List.length_append, List.length_take, List.length_drop]; omega) g.length 0 (by omega)
  rw [← e] at hl
  have ht2 := turnI_eq o (by omega) ((t + 1 : Nat) : Int)
  refine Ev.shift ?_
  simp only [impl_GluePolygons.j4, w2, ht2, Option.bind_some, turnL_length, w3, Int.toNat_natCast, turn_rest o t ht]
  iterate 2
    refine Ev.pos (by first | omega | (simp only [List.length_append, List.length_take, List.length_drop, List.length_cons, List.length_nil, Int.toNat_natCast]; omega)) ?_
  exact hl
def othL (a b : List Int) (i j : Nat) : List Int := if a.getD i 0 = b.getD j 0 then invL b else b
def othP (a b : List Int) (i j : Nat) : Nat := if a.getD i 0 = b.getD j 0 then b.length - 1 - j else j
theorem glueS_end (g : List (List Int)) (hg : GluP g) (p q : Nat) (hpq : p ≠ q) (hp : p < g.length) (hq : q < g.length) (y i j : Nat) (hi : i < g[p].length) (hj : j < g[q].length) (hiy : g[p][i].natAbs = y) (hjy : g[q][j].natAbs = y) (ui : ∀ m, ∀ h : m < g[p].length, g[p][m].natAbs = y → m = i) (uj : ∀ m, ∀ h : m < g[q].length, g[q][m].natAbs = y → m = j) : Ev (fun k => spec_GluePolygons.l0 k g y p q g.length) (moveM (outTo g p q (wholeL g[p] i (othL g[p] g[q] i j) (othP g[p] g[q] i j)) g.length)) := by
  have hlp := hg.let g[p] (List.getElem_mem hp)
  have hlq := hg.let g[q] (List.getElem_mem hq)
  have h24 := (hg.2.1 g[p] (List.getElem_mem hp)).2.2
  have h24' := (hg.2.1 g[q] (List.getElem_mem hq)).2.2
  have a1 := l5At_ev g[p] hlp (by omega) y i hi hiy (fun a h1 h2 h3 => by have := ui a h2 h3; omega)
  have a2 := l5At_ev g[q] hlq (by omega) y j hj hjy (fun a h1 h2 h3 => by have := uj a h2 h3; omega)
  refine Ev.shift ?_
  simp only [spec_GluePolygons.l0, rdL_lt hp, rdL_lt hq, Option.bind_some, List.nil_append, List.length_nil, Nat.zero_add]
  refine Ev.neg (by omega) (Ev.neg (by omega) ?_)
  iterate 5
    refine Ev.pos (by first | omega | (simp only [List.length_append, List.length_take, List.length_drop, List.length_cons, List.length_nil, Int.toNat_natCast]; omega)) ?_
  refine Ev.bind a1 (Ev.bind a2 ?_)
  iterate 4
    refine Ev.pos (by first | omega | (simp only [List.length_append, List.length_take, List.length_drop, List.length_cons, List.length_nil, Int.toNat_natCast]; omega)) ?_
  simp only [rd_lt hi, rd_lt hj]
  unfold othL othP
  rw [getD_lt hi, getD_lt hj]
  by_cases e : g[p][i] = g[q][j]
  · rw [if_pos e, if_pos e]
    refine Ev.pos e.symm (Ev.bind (inverse_ev g[q] (by omega) hlq).1 ?_)
    refine glueS_j2 g hg p q hpq hp (invL g[q]) ?_ (by rw [invL_length]; omega) y i _ hi (by rw [invL_length]; omega) ?_ ?_
    · intro x hx
      obtain ⟨z, hz, rfl⟩ := List.mem_map.1 (List.mem_reverse.1 hx)
      exact (hlq z hz).neg
    · rw [invL_get]
      have : g[q].length - 1 - (g[q].length - 1 - j) = j := by omega
      simp only [this, Int.natAbs_neg, hjy]
    · intro a h1 h2 h3
      rw [invL_get, Int.natAbs_neg] at h3
      have := uj _ _ h3
      rw [invL_length] at h2
      omega
  · rw [if_neg e, if_neg e]
    exact Ev.neg (fun h => e h.symm) (glueS_j2 g hg p q hpq hp g[q] hlq h24' y i j hi hj hjy (fun a h1 h2 h3 => by have := uj a h2 h3; omega))
theorem glueI_end (g : List (List Int)) (hg : GluP g) (p q : Nat) (hpq : p ≠ q) (hp : p < g.length) (hq : q < g.length) (y i j : Nat) (hi : i < g[p].length) (hj : j < g[q].length) : Ev (fun k => impl_GluePolygons.l0 k g y [(⟨(p : Int), (i : Int)⟩ : S60), ⟨(q : Int), (j : Int)⟩] g g.length g.length) (moveM (outTo g p q (wholeL g[p] i (othL g[p] g[q] i j) (othP g[p] g[q] i j)) g.length)) := by
  have hlq := hg.let g[q] (List.getElem_mem hq)
  have h24 := (hg.2.1 g[p] (List.getElem_mem hp)).2.2
  have h24' := (hg.2.1 g[q] (List.getElem_mem hq)).2.2
  have t0 : rd_T60 [(⟨(p : Int), (i : Int)⟩ : S60), ⟨(q : Int), (j : Int)⟩] 0 = ⟨(p : Int), (i : Int)⟩ := rfl
  have t1 : rd_T60 [(⟨(p : Int), (i : Int)⟩ : S60), ⟨(q : Int), (j : Int)⟩] 1 = ⟨(q : Int), (j : Int)⟩ := rfl
  have c1 := copyOf_eq g[p] (by omega)
  have c2 := copyOf_eq g[q] (by omega)
  have hne : ((p : Int) == (q : Int)) = false := by rw [beq_eq_false_iff_ne]; omega
  have w1 : wrap64 ((wrap64 ((g[q].length : Int) - 1)) - (j : Int)) = ((g[q].length - 1 - j : Nat) : Int) := by
    have w0 : wrap64 ((g[q].length : Int) - 1) = (g[q].length : Int) - 1 := w64 (by omega) (by omega)
    rw [w0, w64 (by omega) (by omega)]
    omega
  refine Ev.shift ?_
  simp only [impl_GluePolygons.l0, t0, t1, hne]
  refine Ev.neg (by omega) ?_
  iterate 3
    refine Ev.pos (by first | omega | (simp only [List.length_append, List.length_take, List.length_drop, List.length_cons, List.length_nil, Int.toNat_natCast]; omega)) ?_
  refine Ev.shift ?_
  simp only [impl_GluePolygons.j3, Bool.false_eq_true, if_false, t0, t1, rdL_lt hp, rdL_lt hq, c1, c2, Option.bind_some, rd_lt hi, rd_lt hj]
  iterate 10
    refine Ev.pos (by first | omega | (simp only [List.length_append, List.length_take, List.length_drop, List.length_cons, List.length_nil, Int.toNat_natCast]; omega)) ?_
  unfold othL othP
  rw [getD_lt hi, getD_lt hj]
  by_cases e : g[p][i] = g[q][j]
  · rw [if_pos e, if_pos e]
    refine Ev.pos e (Ev.bind (inverse_ev g[q] (by omega) hlq).2 ?_)
    simp only [invL_length, w1]
    exact glueI_j4 g hg p q hpq hp (invL g[q]) (by rw [invL_length]; omega) i _ hi (by rw [invL_length]; omega)
  · rw [if_neg e, if_neg e]
    exact Ev.neg e (glueI_j4 g hg p q hpq hp g[q] h24' i j hi hj)
theorem glueI_no (g : List (List Int)) (y : Int) (F : List S60) (h : F.length = 2 → (rd_T60 F 0).f0 = (rd_T60 F 1).f0) : Ev (fun k => impl_GluePolygons.l0 k g y F g g.length g.length) (([] : List (List Int)), false) := by
  have hj : Ev (fun k => impl_GluePolygons.j3 k g F true) (([] : List (List Int)), false) := by
    refine Ev.shift ?_
    simp only [impl_GluePolygons.j3, if_true]
    exact Ev.now _
  refine Ev.shift ?_
  simp only [impl_GluePolygons.l0]
  refine Ev.neg (by omega) ?_
  by_cases h2 : F.length = 2
  · simp only [h h2, beq_self_eq_true]
    exact Ev.pos (by omega) (Ev.pos (by omega) (Ev.pos (by omega) hj))
  · exact Ev.neg (by omega) hj
theorem glueS_no (g : List (List Int)) (y a b : Int) (h : b = -1) : Ev (fun k => spec_GluePolygons.l0 k g y a b g.length) (([] : List (List Int)), false) := by
  refine Ev.shift ?_
  simp only [spec_GluePolygons.l0]
  exact Ev.neg (by omega) (Ev.pos (by omega) (Ev.now _))
theorem gluePolygons_in (g : List (List Int)) (hg : GluP g) (y : Nat) (hy : y < 9) : ∃ R : List (List Int) × Bool, bulk R.1 ≤ 1048576 ∧ (R.2 = true → GluP R.1 ∧ R.1.length < g.length) ∧ Ev (fun k => spec_GluePolygons.l0 k g y (-1) (-1) 0) R ∧ Ev (fun k => impl_GluePolygons.l0 k g y [] g g.length 0) R := by
  have hfew := hg.2.2.2 y hy
  have hlen : (fAll g y g.length).length = cnt g.flatten y := by
    rw [fAll_len (Nat.le_refl _), List.take_of_length_le (Nat.le_refl _)]
  have hc : ∀ k, k < g.length → (fAll g y g.length).countP (fun s => decide (s.f0 = (k : Int))) = cnt (g.getD k []) y := fun k hk => fAll_cnt hk
  have hc0 : ∀ k, ¬ k < g.length → cnt (g.getD k []) y = 0 := by
    intro k hk
    rw [List.getD_eq_getElem?_getD, List.getElem?_eq_none (by omega)]; rfl
  have hsor := fAll_sorted g y g.length
  have hmem : ∀ s : S60, s ∈ fAll g y g.length → ∃ q m : Nat, q < g.length ∧ s.f0 = q ∧ s.f1 = m ∧ m < (g.getD q []).length ∧ ((g.getD q []).getD m 0).natAbs = y := fun s h => fAll_lt h
  have hin : ∀ q m : Nat, q < g.length → m < (g.getD q []).length → ((g.getD q []).getD m 0).natAbs = y → (⟨(q : Int), (m : Int)⟩ : S60) ∈ fAll g y g.length := fun q m h1 h2 h3 => fAll_mem h1 h2 h3
  have hS : ∀ r, Ev (fun k => spec_GluePolygons.l0 k g y (stS (fun k => cnt (g.getD k []) y) g.length).1 (stS (fun k => cnt (g.getD k []) y) g.length).2 g.length) r → Ev (fun k => spec_GluePolygons.l0 k g y (-1) (-1) 0) r := fun r h => foundS_l g hg y r h g.length 0 (by omega)
  have hI : ∀ r, Ev (fun k => impl_GluePolygons.l0 k g y (fAll g y g.length) g g.length g.length) r → Ev (fun k => impl_GluePolygons.l0 k g y [] g g.length 0) r := fun r h => foundI_l g hg y r h g.length 0 (by omega)
  generalize hF : fAll g y g.length = F at *
  have hno : (F.length = 2 → (rd_T60 F 0).f0 = (rd_T60 F 1).f0) → (∃ p, ∀ k, cnt (g.getD k []) y = 1 → k = p) → ∃ R : List (List Int) × Bool, bulk R.1 ≤ 1048576 ∧ (R.2 = true → GluP R.1 ∧ R.1.length < g.length) ∧ Ev (fun k => spec_GluePolygons.l0 k g y (-1) (-1) 0) R ∧ Ev (fun k => impl_GluePolygons.l0 k g y [] g g.length 0) R := by
    rintro h1 ⟨p, h2⟩
    refine ⟨([], false), by decide, fun h => (by cases h), hS _ (glueS_no g y _ _ (stS_few h2 g.length).1), hI _ (glueI_no g y F h1)⟩
  match F, hlen, hc, hsor, hmem, hin, hI, hno with
  | [], hlen, hc, hsor, hmem, hin, hI, hno =>
    refine hno (fun h => by simp at h) ⟨0, fun k hk => ?_⟩
    by_cases h : k < g.length
    · have h1 := hc k h
      rw [hk] at h1
      cases h1
    · have := hc0 k h; omega
  | [s], hlen, hc, hsor, hmem, hin, hI, hno =>
    obtain ⟨a, m, ha, hsa, hsm, -⟩ := hmem s (List.mem_singleton.2 rfl)
    refine hno (fun h => by simp at h) ⟨a, fun k hk => ?_⟩
    by_cases h : k < g.length
    · have h1 := hc k h
      rw [List.countP_singleton, hk] at h1
      by_cases h2 : s.f0 = (k : Int)
      · omega
      · rw [decide_eq_false h2] at h1; simp at h1
    · have := hc0 k h; omega
  | [s, t], hlen, hc, hsor, hmem, hin, hI, hno =>
    obtain ⟨p, i, hp, hsp, hsi, hil, hiy⟩ := hmem s (by simp)
    obtain ⟨q, j, hq, htq, htj, hjl, hjy⟩ := hmem t (by simp)
    rw [getD_lt hp] at hil hiy
    rw [getD_lt hq] at hjl hjy
    rw [getD_lt hil] at hiy
    rw [getD_lt hjl] at hjy
    have hcc : ∀ k, k < g.length → cnt (g.getD k []) y = (if s.f0 = (k : Int) then 1 else 0) + (if t.f0 = (k : Int) then 1 else 0) := by
      intro k hk
      rw [← hc k hk, List.countP_cons, List.countP_cons, List.countP_nil]
      by_cases h1 : s.f0 = (k : Int) <;> by_cases h2 : t.f0 = (k : Int) <;> simp [h1, h2]
    by_cases hpq : p = q
    · refine hno (fun _ => ?_) ⟨0, fun k hk => ?_⟩
      · show s.f0 = t.f0
        omega
      · by_cases h : k < g.length
        · have := hcc k h
          rw [hsp, htq, hpq] at this
          split at this <;> omega
        · have := hc0 k h; omega
    · have hle : s.f0 ≤ t.f0 := (List.pairwise_cons.1 hsor).1 t (by simp)
      have hlt : p < q := by omega
      have hs : s = ⟨(p : Int), (i : Int)⟩ := by cases s; simp only at hsp hsi; rw [hsp, hsi]
      have ht : t = ⟨(q : Int), (j : Int)⟩ := by cases t; simp only at htq htj; rw [htq, htj]
      subst hs ht
      have hone : ∀ k, cnt (g.getD k []) y = 1 ↔ (k = p ∨ k = q) := by
        intro k
        by_cases h : k < g.length
        · rw [hcc k h]
          by_cases h1 : k = p
          · subst h1
            rw [if_pos rfl, if_neg (show ¬ ((q : Int) = (k : Int)) by omega)]; simp
          · by_cases h2 : k = q
            · subst h2
              rw [if_pos rfl, if_neg (show ¬ ((p : Int) = (k : Int)) by omega)]; simp
            · rw [if_neg (show ¬ ((p : Int) = (k : Int)) by omega), if_neg (show ¬ ((q : Int) = (k : Int)) by omega)]; simp [h1, h2]
        · rw [hc0 k h]; constructor <;> intro h' <;> omega
      have hst := stS_two hlt hone g.length
      rw [if_pos hp, if_pos hq] at hst
      have ui : ∀ m, ∀ h : m < g[p].length, g[p][m].natAbs = y → m = i := by
        intro m h h'
        have := hin p m hp (by rw [getD_lt hp]; exact h) (by rw [getD_lt hp, getD_lt h]; exact h')
        rcases List.mem_cons.1 this with e | e
        · injection e with e1 e2; omega
        · rw [List.mem_singleton] at e; injection e with e1 e2; omega
      have uj : ∀ m, ∀ h : m < g[q].length, g[q][m].natAbs = y → m = j := by
        intro m h h'
        have := hin q m hq (by rw [getD_lt hq]; exact h) (by rw [getD_lt hq, getD_lt h]; exact h')
        rcases List.mem_cons.1 this with e | e
        · injection e with e1 e2; omega
        · rw [List.mem_singleton] at e; injection e with e1 e2; omega
      refine ⟨_, moveM_bulk _, fun h => ?_, hS _ ?_, hI _ (glueI_end g hg p q hpq hp hq y i j hil hjl)⟩
      · unfold moveM at h ⊢
        by_cases hh : GluP (outTo g p q (wholeL g[p] i (othL g[p] g[q] i j) (othP g[p] g[q] i j)) g.length)
        · rw [if_pos hh]
          refine ⟨hh, ?_⟩
          have := outTo_len g (wholeL g[p] i (othL g[p] g[q] i j) (othP g[p] g[q] i j)) hpq g.length
          rw [if_pos hq] at this
          show (outTo _ _ _ _ _).length < _
          omega
        · rw [if_neg hh] at h; cases h
      · rw [hst]
        exact glueS_end g hg p q hpq hp hq y i j hil hjl hiy hjy ui uj
  | s :: t :: u :: l, hlen, hc, hsor, hmem, hin, hI, hno =>
    exfalso
    simp only [List.length_cons] at hlen
    omega
theorem gluePolygons_val (g : List (List Int)) (hb : bulk g ≤ 1048576) (x : Int) : ∃ R : List (List Int) × Bool, bulk R.1 ≤ 1048576 ∧ (R.2 = true → GluP R.1 ∧ R.1.length < g.length) ∧ Ev (fun k => spec_GluePolygons.f k g x) R ∧ Ev (fun k => impl_GluePolygons.f k g x) R := by
  obtain ⟨hl1, hl2⟩ := bulk_flat hb
  have e1 := isGluingS_ev g hl1 hl2
  have e2 := isGluingI_ev g hl1 hl2
  have hno1 : Ev (fun n => spec_GluePolygons.j0 n g x true) (([] : List (List Int)), false) := by
    refine Ev.shift ?_; simp only [spec_GluePolygons.j0, if_true]; exact Ev.now _
  have hno2 : Ev (fun n => impl_GluePolygons.j0 n g x true) (([] : List (List Int)), false) := by
    refine Ev.shift ?_; simp only [impl_GluePolygons.j0, if_true]; exact Ev.now _
  unfold spec_GluePolygons.f impl_GluePolygons.f
  by_cases h : GluP g
  case neg =>
    rw [decide_eq_false h] at e1 e2
    refine ⟨([], false), by decide, fun h => (by cases h), Ev.bind e1 ?_, Ev.bind e2 ?_⟩
    · exact Ev.neg (by decide) hno1
    · exact Ev.neg (by decide) hno2
  rw [decide_eq_true h] at e1 e2
  by_cases hx : 1 ≤ x ∧ x ≤ 8
  case neg =>
    refine ⟨([], false), by decide, fun h => (by cases h), Ev.bind e1 (Ev.pos rfl ?_), Ev.bind e2 (Ev.pos rfl ?_)⟩
    · simp only [l1In_eq, decide_eq_false hx, Option.bind_some, Bool.not_false]; exact hno1
    · simp only [within_eq, decide_eq_false hx, Option.bind_some, Bool.not_false]; exact hno2
  obtain ⟨y, rfl⟩ := Int.eq_ofNat_of_zero_le (show 0 ≤ x by omega)
  obtain ⟨R, r1, r2, r3, r4⟩ := gluePolygons_in g h y (by omega)
  refine ⟨R, r1, r2, Ev.bind e1 (Ev.pos rfl ?_), Ev.bind e2 (Ev.pos rfl ?_)⟩
  · simp only [l1In_eq, decide_eq_true hx, Option.bind_some, Bool.not_true]
    refine Ev.shift ?_; simp only [spec_GluePolygons.j0, Bool.false_eq_true, if_false]; exact r3
  · simp only [within_eq, decide_eq_true hx, Option.bind_some, Bool.not_true]
    refine Ev.shift ?_; simp only [impl_GluePolygons.j0, Bool.false_eq_true, if_false]; exact r4
theorem l5Copy_l (g : List (List Int)) (hl : bulk g ≤ 1048576) : ∀ (d i : Nat), i + d = g.length → Ev (fun k => spec_l5Copy.l0 k g (g.take i) i) g ∧ Ev (fun k => impl_copyRows.l0 k (g.take i) g g.length i) g := by
  have hgl : g.length ≤ 1048576 := by unfold bulk at hl; omega
  intro d
  induction d with
  | zero =>
    intro i hi
    have ht : g.take i = g := List.take_of_length_le (by omega)
    rw [ht]
    refine ⟨Ev.step (f := fun _ => some g) (fun k => ?_) (Ev.now _), Ev.step (f := fun _ => some g) (fun k => ?_) (Ev.now _)⟩
    · simp only [spec_l5Copy.l0]; rw [if_neg (by omega)]
    · simp only [impl_copyRows.l0]; rw [if_neg (by omega)]
  | succ d ih =>
    intro i hi
    have hlt : i < g.length := by omega
    obtain ⟨h1, h2⟩ := ih (i + 1) (by omega)
    rw [List.take_succ_eq_append_getElem hlt] at h1 h2
    have hb : g[i].length ≤ 1048576 := by have := len_le_sum (List.getElem_mem hlt); unfold bulk at hl; omega
    have htl : (g.take i).length = i := by rw [List.length_take]; omega
    refine ⟨Ev.step (fun k => ?_) h1, Ev.step (fun k => ?_) h2⟩
    · simp only [spec_l5Copy.l0, rdL_lt hlt, Option.bind_some, List.nil_append, List.length_nil, Nat.zero_add]
      rw [if_pos (by omega), if_pos (by omega), if_pos (by omega), if_pos (by omega), w64s hlt (by omega)]
    · simp only [impl_copyRows.l0, rdL_lt hlt, copyOf_eq _ hb, Option.bind_some]
      rw [if_pos (by omega), if_pos (by omega), if_pos (by omega), if_pos (by omega), w64s hlt (by omega)]
theorem l5Copy_ev (g : List (List Int)) (hl : bulk g ≤ 1048576) : Ev (fun k => spec_l5Copy.f k g) g ∧ Ev (fun k => impl_copyRows.f k g) g := l5Copy_l g hl g.length 0 (by omega)
theorem gluP_bulk {g : List (List Int)} (h : GluP g) : bulk g ≤ 1048576 := by
  obtain ⟨⟨_, g1⟩, _, g2, _⟩ := h
  unfold bulk
  rw [flat_len] at g2
  omega
theorem onePoly_l : ∀ (n : Nat) (g : List (List Int)), GluP g → g.length ≤ n → ∀ (d x : Nat), x + d = 9 → 1 ≤ x → ∃ V : List (List Int) × Bool, bulk V.1 ≤ 1048576 ∧ Ev (fun k => spec_OnePolygon.l0 k g x) V ∧ Ev (fun k => impl_OnePolygon.l1 k g false x) V := by
  intro n
  induction n with
  | zero =>
    intro g hg hn
    have := hg.1.1
    omega
  | succ n ihn =>
    intro g hg hn d
    induction d with
    | zero =>
      intro x hx _
      obtain rfl : x = 9 := by omega
      have h1 := hg.1.1
      have hS : ∀ V, (if (g.length : Int) = 1 then some (g, true) else some ((([] : List (List Int))), false)) = some V → Ev (fun k => spec_OnePolygon.l0 k g ((9 : Nat) : Int)) V := by
        intro V hV
        refine Ev.shift ?_
        simp only [spec_OnePolygon.l0]
        refine Ev.neg (by decide) ?_
        rw [hV]
        exact Ev.now _
      have hI : ∀ V, (if (g.length : Int) > 1 then some ((([] : List (List Int))), false) else some (g, true)) = some V → Ev (fun k => impl_OnePolygon.l1 k g false ((9 : Nat) : Int)) V := by
        intro V hV
        refine Ev.shift ?_
        simp only [impl_OnePolygon.l1]
        refine Ev.neg (by decide) ?_
        refine Ev.shift ?_
        simp only [impl_OnePolygon.j2, Bool.false_eq_true, if_false]
        refine Ev.shift ?_
        simp only [impl_OnePolygon.l0, Bool.false_eq_true, if_false]
        rw [hV]
        exact Ev.now _
      by_cases h : g.length = 1
      · exact ⟨(g, true), gluP_bulk hg, hS _ (if_pos (by omega)), hI _ (if_neg (by omega))⟩
      · exact ⟨([], false), by decide, hS _ (if_neg (by omega)), hI _ (if_pos (by omega))⟩
    | succ d ihd =>
      intro x hx h1
      obtain ⟨R, r1, r2, r3, r4⟩ := gluePolygons_val g (gluP_bulk hg) x
      have hx8 : (x : Int) ≤ 8 := by omega
      have w1 : wrap64 ((x : Int) + 1) = ((x + 1 : Nat) : Int) := w64s (n := 9) (by omega) (by omega)
      have hstart : ∀ V, Ev (fun k => (impl_GluePolygons.f k g (x : Int)).bind fun bt403 => (if bt403.2 = true then (impl_OnePolygon.l1 k bt403.1 true (wrap64 ((x : Int) + 1))) else (impl_OnePolygon.l1 k g false (wrap64 ((x : Int) + 1))))) V → Ev (fun k => impl_OnePolygon.l1 k g false (x : Int)) V := by
        intro V hV
        refine Ev.shift ?_
        simp only [impl_OnePolygon.l1]
        refine Ev.pos hx8 ?_
        refine Ev.shift ?_
        simp only [impl_OnePolygon.j2, Bool.not_false, if_true]
        exact hV
      have hstartS : ∀ V, Ev (fun k => (spec_GluePolygons.f k g (x : Int)).bind fun bt268 => (if bt268.2 = true then (spec_OnePolygon.l0 k bt268.1 (0 + 1)) else (spec_OnePolygon.l0 k g (wrap64 ((x : Int) + 1))))) V → Ev (fun k => spec_OnePolygon.l0 k g (x : Int)) V := by
        intro V hV
        refine Ev.shift ?_
        simp only [spec_OnePolygon.l0]
        exact Ev.pos hx8 hV
      by_cases hR : R.2 = true
      · obtain ⟨q1, q2⟩ := r2 hR
        obtain ⟨V, v1, v2, v3⟩ := ihn R.1 q1 (by omega) 8 1 rfl (Nat.le_refl _)
        refine ⟨V, v1, hstartS V (Ev.bind r3 (Ev.pos hR v2)), hstart V (Ev.bind r4 (Ev.pos hR ?_))⟩
        have hj : Ev (fun k => impl_OnePolygon.j2 k R.1 true ((x + 1 : Nat) : Int) false) V := by
          refine Ev.shift ?_
          simp only [impl_OnePolygon.j2, Bool.false_eq_true, if_false]
          refine Ev.shift ?_
          simp only [impl_OnePolygon.l0, if_true]
          exact v3
        rw [w1]
        refine Ev.shift ?_
        simp only [impl_OnePolygon.l1, Bool.not_true]
        by_cases h9 : ((x + 1 : Nat) : Int) ≤ 8
        · exact Ev.pos h9 hj
        · exact Ev.neg h9 hj
      · obtain ⟨V, v1, v2, v3⟩ := ihd (x + 1) (by omega) (by omega)
        rw [← w1] at v2 v3
        exact ⟨V, v1, hstartS V (Ev.bind r3 (Ev.neg hR v2)), hstart V (Ev.bind r4 (Ev.neg hR v3))⟩
theorem onePolygon_ev (g : List (List Int)) (hb : bulk g ≤ 1048576) : ∃ (r : List (List Int)) (o : Bool), bulk r ≤ 1048576 ∧ Ev (fun k => spec_OnePolygon.f k g) (r, o) ∧ Ev (fun k => impl_OnePolygon.f k g) (r, o) := by
  obtain ⟨hl1, hl2⟩ := bulk_flat hb
  have e1 := isGluingS_ev g hl1 hl2
  have e2 := isGluingI_ev g hl1 hl2
  obtain ⟨c1, c2⟩ := l5Copy_ev g hb
  unfold spec_OnePolygon.f impl_OnePolygon.f
  by_cases h : GluP g
  · rw [decide_eq_true h] at e1 e2
    obtain ⟨V, v1, v2, v3⟩ := onePoly_l g.length g h (Nat.le_refl _) 8 1 rfl (Nat.le_refl _)
    refine ⟨V.1, V.2, v1, Ev.bind e1 (Ev.pos rfl (Ev.bind c1 v2)), Ev.bind e2 (Ev.pos rfl (Ev.bind c2 ?_))⟩
    refine Ev.shift ?_
    simp only [impl_OnePolygon.l0, if_true]
    exact v3
  · rw [decide_eq_false h] at e1 e2
    exact ⟨[], false, by decide, Ev.bind e1 (Ev.neg (by decide) (Ev.now _)), Ev.bind e2 (Ev.neg (by decide) (Ev.now _))⟩
theorem FnExactOnePolygon (l : List (List Int)) (h1 : l.length ≤ maxLen) (h2 : ∀ x ∈ l, x.length ≤ maxLen ∧ ∀ n ∈ x, (Lit.int .i64 n).wf = true) : ∃ k, laws_FnExactOnePolygon.f k l = some true := by
  unfold maxLen at h1 h2
  obtain ⟨v, hv, hb⟩ := szIntSS_ev l (by omega) (fun x hx => by have := (h2 x hx).1; omega)
  by_cases hn : v < 0
  · obtain ⟨k, hk⟩ := (evp hv).some
    exact ⟨k, by unfold laws_FnExactOnePolygon.f; rw [if_pos ⟨v, hk, .inl hn⟩]⟩
  have hbl := hb (by omega)
  obtain ⟨r, o, hr, e1, e2⟩ := onePolygon_ev l hbl
  obtain ⟨k, q1, q2, q3, q4, q5, q6, q7, q8, q9⟩ := ((evp hv).and ((evp (toIntSS_ev l hbl)).and ((evp e1).and ((evp e2).and ((evp (eqIntSS_same r hr)).and ((evp (eqIntSS_same l hbl)).and ((evp (markIntSS_ev l hbl)).and ((evp (markIntSS_ev r hr)).and (evp (heldIntSS_ev r hr)))))))))).some
  exact ⟨k, by unfold laws_FnExactOnePolygon.f; rw [if_pos ⟨v, q1, .inr ⟨by omega, r, o, _, _, _, _, by omega, by omega, q2, q3, q4, q5, q6, q7, q8, q9⟩⟩]⟩
end Go.Proofs.Ytlnddmkkgjlmbaa.Pure
