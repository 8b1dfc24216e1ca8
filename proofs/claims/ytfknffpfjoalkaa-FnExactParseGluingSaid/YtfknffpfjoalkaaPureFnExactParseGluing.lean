/- ParseGluing of the program and ParseGluing of the reference answer the same for every string; the result shares nothing with that of another call. Conditions: those that the printed statement itself names (lengths and numbers that fit). -/
import Derived.Test.YtfknffpfjoalkaaWalkFnExactParseGluing
import Derived.Test.YtfknffpfjoalkaaCom
namespace Go.Proofs.Ytfknffpfjoalkaa.Pure
open Classical Go.RowKit Go.Proofs.Ytfknffpfjoalkaa.QFnExactParseGluing Go.Proofs.YtfknffpfjoalkaaW.PrintWords Go.Proofs.YtfknffpfjoalkaaW.PrintLast Go.Proofs.Ytfknffpfjoalkaa.Com

/-! eqIntS -/
theorem eqIntS_l (a b : List Int) (hn : a.length = b.length) (hl : a.length ≤ 9223372036854775807) : ∀ (d i : Nat), i + d = a.length → Ev (fun k => laws_eqIntS.l0 k a b i) (decide (a.drop i = b.drop i)) := by
  intro d
  induction d with
  | zero =>
    intro i hi
    refine Ev.step (f := fun _ => some true) (fun k => ?_) ?_
    · simp only [laws_eqIntS.l0]; rw [if_neg (by omega)]
    · rw [List.drop_of_length_le (by omega), List.drop_of_length_le (by omega)]; exact Ev.now _
  | succ d ih =>
    intro i hi
    have h1 : i < a.length := by omega
    have h2 : i < b.length := by omega
    have e1 : a.drop i = a[i] :: a.drop (i + 1) := List.drop_eq_getElem_cons h1
    have e2 : b.drop i = b[i] :: b.drop (i + 1) := List.drop_eq_getElem_cons h2
    by_cases he : a[i] = b[i]
    · refine Ev.step (f := fun k => laws_eqIntS.l0 k a b ((i + 1 : Nat) : Int)) (fun k => ?_) ?_
      · simp only [laws_eqIntS.l0]
        rw [if_pos (by omega), if_pos (by omega), if_pos (by omega), rd_lt h1, rd_lt h2, if_pos he, w64s h1 hl]
      · have hd : decide (a.drop i = b.drop i) = decide (a.drop (i + 1) = b.drop (i + 1)) := by
          rw [decide_eq_decide, e1, e2, he]; simp only [List.cons.injEq, true_and]
        rw [hd]; exact ih (i + 1) (by omega)
    · refine Ev.step (f := fun _ => some false) (fun k => ?_) ?_
      · simp only [laws_eqIntS.l0]
        rw [if_pos (by omega), if_pos (by omega), if_pos (by omega), rd_lt h1, rd_lt h2, if_neg he]
      · have hd : decide (a.drop i = b.drop i) = false := by
          refine decide_eq_false fun e => he ?_
          rw [e1, e2] at e
          exact (List.cons.inj e).1
        rw [hd]; exact Ev.now _
theorem eqIntS_ev (a b : List Int) (hl : a.length ≤ 9223372036854775807) : Ev (fun k => laws_eqIntS.f k a b) (decide (a = b)) := by
  by_cases hn : a.length = b.length
  · refine Ev.congr (f := fun k => laws_eqIntS.l0 k a b ((0 : Nat) : Int)) (fun k => ?_) (eqIntS_l a b hn hl a.length 0 (by omega))
    unfold laws_eqIntS.f; rw [if_pos (by omega)]; rfl
  · refine Ev.congr (f := fun _ => some false) (fun k => ?_) ?_
    · unfold laws_eqIntS.f; rw [if_neg (by omega)]
    · rw [decide_eq_false (fun e => hn (by rw [e]))]; exact Ev.now _
theorem eqIntS_same (a : List Int) (hl : a.length ≤ 9223372036854775807) : Ev (fun k => laws_eqIntS.f k a a) true := by simpa using eqIntS_ev a a hl

/-! rdL -/
theorem rdL_lt {l : List (List Int)} {i : Nat} (h : i < l.length) : rd_L1 l (i : Int) = l[i] := by
  simp [rd_L1, List.getD_eq_getElem?_getD, h]
theorem rdL_nat (l : List (List Int)) (i : Nat) : rd_L1 l (i : Int) = l.getD i [] := rfl
/-- Rows and numbers together. -/
def bulk (l : List (List Int)) : Nat := l.length + (l.map List.length).sum
theorem sum_drop_lt {l : List (List Int)} {i : Nat} (h : i < l.length) : ((l.drop i).map List.length).sum = l[i].length + ((l.drop (i + 1)).map List.length).sum := by
  rw [List.drop_eq_getElem_cons h, List.map_cons, List.sum_cons]
theorem len_le_sum {l : List (List Int)} {x : List Int} (h : x ∈ l) : x.length ≤ (l.map List.length).sum := by
  induction l with
  | nil => simp at h
  | cons y l ih =>
    rw [List.map_cons, List.sum_cons]
    rcases List.mem_cons.1 h with rfl | h
    · omega
    · have := ih h; omega

/-! eqIntSS -/
theorem eqIntSS_l (a b : List (List Int)) (hn : a.length = b.length) (hl : a.length ≤ 9223372036854775807) (hx : ∀ x ∈ a, x.length ≤ 9223372036854775807) : ∀ (d i : Nat), i + d = a.length → Ev (fun k => laws_eqIntSS.l0 k a b i) (decide (a.drop i = b.drop i)) := by
  intro d
  induction d with
  | zero =>
    intro i hi
    refine Ev.step (f := fun _ => some true) (fun k => ?_) ?_
    · simp only [laws_eqIntSS.l0]; rw [if_neg (by omega)]
    · rw [List.drop_of_length_le (by omega), List.drop_of_length_le (by omega), decide_eq_true rfl]; exact Ev.now _
  | succ d ih =>
    intro i hi
    have h1 : i < a.length := by omega
    have h2 : i < b.length := by omega
    have e1 : a.drop i = a[i] :: a.drop (i + 1) := List.drop_eq_getElem_cons h1
    have e2 : b.drop i = b[i] :: b.drop (i + 1) := List.drop_eq_getElem_cons h2
    have hq := eqIntS_ev a[i] b[i] (hx _ (List.getElem_mem h1))
    refine Ev.step (f := fun k => (laws_eqIntS.f k a[i] b[i]).bind fun t => if t = true then laws_eqIntSS.l0 k a b ((i + 1 : Nat) : Int) else some false) (fun k => ?_) (Ev.bind hq ?_)
    · simp only [laws_eqIntSS.l0, rdL_lt h1, rdL_lt h2]
      rw [if_pos (by omega), if_pos (by omega), if_pos (by omega), w64s h1 hl]
    · by_cases he : a[i] = b[i]
      · have hd : decide (a.drop i = b.drop i) = decide (a.drop (i + 1) = b.drop (i + 1)) := by
          rw [decide_eq_decide, e1, e2, he]; simp only [List.cons.injEq, true_and]
        rw [hd, decide_eq_true he]
        simp only [if_true]
        exact ih (i + 1) (by omega)
      · have hd : decide (a.drop i = b.drop i) = false := by
          refine decide_eq_false fun e => he ?_
          rw [e1, e2] at e
          exact (List.cons.inj e).1
        rw [hd, decide_eq_false he]; exact Ev.now _
theorem eqIntSS_ev (a b : List (List Int)) (hl : a.length ≤ 9223372036854775807) (hx : ∀ x ∈ a, x.length ≤ 9223372036854775807) : Ev (fun k => laws_eqIntSS.f k a b) (decide (a = b)) := by
  by_cases hn : a.length = b.length
  · refine Ev.congr (f := fun k => laws_eqIntSS.l0 k a b ((0 : Nat) : Int)) (fun k => ?_) (eqIntSS_l a b hn hl hx a.length 0 (by omega))
    unfold laws_eqIntSS.f; rw [if_pos (by omega)]; rfl
  · refine Ev.congr (f := fun _ => some false) (fun k => ?_) ?_
    · unfold laws_eqIntSS.f; rw [if_neg (by omega)]
    · rw [decide_eq_false (fun e => hn (by rw [e]))]; exact Ev.now _
theorem eqIntSS_same (a : List (List Int)) (hl : bulk a ≤ 1048576) : Ev (fun k => laws_eqIntSS.f k a a) true := by
  have := eqIntSS_ev a a (by unfold bulk at hl; omega) (fun x hx => by have := len_le_sum hx; unfold bulk at hl; omega)
  rwa [decide_eq_true rfl] at this

/-! markIntS -/
theorem markIntS_l (n : Nat) (m : Int) (hm : 0 ≤ m) (hb : m + n ≤ 9223372036854775807) : ∀ (d i : Nat) (acc : List Int), i + d = n → acc.length = n → acc.take i = (from_ m n).take i → Ev (fun k => laws_markIntS.l0 k acc (m + i) i) (m + n, from_ m n) := by
  intro d
  induction d with
  | zero =>
    intro i acc hi ha ht
    refine Ev.step (f := fun _ => some (m + i, acc)) (fun k => ?_) ?_
    · simp only [laws_markIntS.l0]; rw [if_neg (by omega)]
    · have e : acc = from_ m n := by
        have h1 := List.take_of_length_le (l := acc) (i := i) (by omega)
        have h2 := List.take_of_length_le (l := from_ m n) (i := i) (by rw [from_length]; omega)
        rw [← h1, ← h2, ht]
      rw [e, show i = n by omega]; exact Ev.now _
  | succ d ih =>
    intro i acc hi ha ht
    have hlt : i < n := by omega
    have := ih (i + 1) (acc.set i (m + i)) (by omega) (by simpa using ha) (by
      rw [List.take_succ_eq_append_getElem (by simp; omega), List.take_succ_eq_append_getElem (by rw [from_length]; exact hlt), List.take_set_of_le (Nat.le_refl i), ht, from_get m n i hlt]
      simp)
    refine Ev.step (f := fun k => laws_markIntS.l0 k (acc.set i (m + i)) (m + ((i + 1 : Nat) : Int)) ((i + 1 : Nat) : Int)) (fun k => ?_) this
    simp only [laws_markIntS.l0]
    rw [if_pos (by omega), if_pos (by omega), w64 (by omega) (by omega), w64 (by omega) (by omega), Int.toNat_natCast, show m + (i : Int) + 1 = m + ((i + 1 : Nat) : Int) by omega, show (i : Int) + 1 = ((i + 1 : Nat) : Int) by omega]
theorem markIntS_ev (l : List Int) (m : Int) (hm : 0 ≤ m) (hb : m + l.length ≤ 9223372036854775807) : Ev (fun k => laws_markIntS.f k l m) (m + l.length, from_ m l.length) := by
  have := markIntS_l l.length m hm hb l.length 0 l (by omega) rfl (by simp)
  simpa [laws_markIntS.f] using this

/-! markIntSS -/
/-- Rows of marks, one behind the other. -/
def rowsFrom (m : Int) : List (List Int) → List (List Int)
  | [] => []
  | x :: t => from_ m x.length :: rowsFrom (m + x.length) t
theorem rowsFrom_length (m : Int) (l : List (List Int)) : (rowsFrom m l).length = l.length := by
  induction l generalizing m with
  | nil => rfl
  | cons x t ih => simp [rowsFrom, ih]
theorem rdL_mid (a : List (List Int)) (x : List Int) (t : List (List Int)) : rd_L1 (a ++ x :: t) (a.length : Int) = x := by
  rw [rdL_lt (by simp)]; simp
theorem set_mid {α : Type} (a : List α) (x y : α) (t : List α) : (a ++ x :: t).set a.length y = (a ++ [y]) ++ t := by simp
theorem markIntSS_l : ∀ (t a : List (List Int)) (m : Int), 0 ≤ m → m + (t.map List.length).sum ≤ 9223372036854775807 → a.length + t.length ≤ 1048576 → Ev (fun k => laws_markIntSS.l0 k (a ++ t) m a.length) (m + (t.map List.length).sum, a ++ rowsFrom m t) := by
  intro t
  induction t with
  | nil =>
    intro a m h0 hb hl
    refine Ev.step (f := fun _ => some (m, a ++ [])) (fun k => ?_) ?_
    · simp only [laws_markIntSS.l0]; rw [if_neg (by simp)]
    · simpa [rowsFrom] using Ev.now (m, a)
  | cons x t ih =>
    intro a m h0 hb hl
    simp only [List.map_cons, List.sum_cons, List.length_cons] at hb hl
    have hM := markIntS_ev x m h0 (by omega)
    have := ih (a ++ [from_ m x.length]) (m + x.length) (by omega) (by omega) (by simp; omega)
    refine Ev.step (f := fun k => (laws_markIntS.f k x m).bind fun bt => laws_markIntSS.l0 k ((a ++ [bt.2]) ++ t) bt.1 ((a.length + 1 : Nat) : Int)) (fun k => ?_) (Ev.bind hM ?_)
    · simp only [laws_markIntSS.l0, rdL_mid, Int.toNat_natCast, set_mid]
      rw [if_pos (by simp; omega), if_pos (by omega), w64s (n := a.length + t.length + 1) (by omega) (by omega)]
    · simp only [List.map_cons, List.sum_cons, rowsFrom]
      simp only [List.length_append, List.length_singleton, List.append_assoc, List.singleton_append] at this
      rw [show m + ((x.length + (t.map List.length).sum : Nat) : Int) = m + (x.length : Int) + ((t.map List.length).sum : Nat) by omega]
      simpa using this
theorem markIntSS_ev (l : List (List Int)) (hl : bulk l ≤ 1048576) : Ev (fun k => laws_markIntSS.f k l 1) (1 + ((l.map List.length).sum : Int), rowsFrom 1 l) := by
  unfold bulk at hl
  exact markIntSS_l l [] 1 (by omega) (by omega) (by simp; omega)

/-! heldIntS -/
theorem heldIntS_l (n : Nat) (m : Int) (hm : 0 ≤ m) (hb : m + n ≤ 9223372036854775807) : ∀ (d i : Nat), i + d = n → Ev (fun k => laws_heldIntS.l0 k (from_ m n) (m + i) i) (m + n) := by
  intro d
  induction d with
  | zero =>
    intro i hi
    refine Ev.step (f := fun _ => some (m + i)) (fun k => ?_) ?_
    · simp only [laws_heldIntS.l0]; rw [if_neg (by rw [from_length]; omega)]
    · rw [show i = n by omega]; exact Ev.now _
  | succ d ih =>
    intro i hi
    have hlt : i < n := by omega
    refine Ev.step (f := fun k => laws_heldIntS.l0 k (from_ m n) (m + ((i + 1 : Nat) : Int)) ((i + 1 : Nat) : Int)) (fun k => ?_) (ih (i + 1) (by omega))
    simp only [laws_heldIntS.l0]
    rw [if_pos (by rw [from_length]; omega), if_pos (by omega), rd_lt (by rw [from_length]; omega), from_get m n i hlt, if_pos rfl, w64 (by omega) (by omega), w64 (by omega) (by omega), show m + (i : Int) + 1 = m + ((i + 1 : Nat) : Int) by omega, show (i : Int) + 1 = ((i + 1 : Nat) : Int) by omega]
theorem heldIntS_ev (n : Nat) (m : Int) (hm : 0 ≤ m) (hb : m + n ≤ 9223372036854775807) : Ev (fun k => laws_heldIntS.f k (from_ m n) m) (m + n) := by
  have := heldIntS_l n m hm hb n 0 (by omega)
  simpa [laws_heldIntS.f] using this

/-! heldIntSS -/
theorem heldIntSS_l : ∀ (t a : List (List Int)) (m : Int), 0 ≤ m → m + (t.map List.length).sum ≤ 9223372036854775807 → a.length + t.length ≤ 1048576 → Ev (fun k => laws_heldIntSS.l0 k (a ++ rowsFrom m t) m a.length) (m + (t.map List.length).sum) := by
  intro t
  induction t with
  | nil =>
    intro a m h0 hb hl
    refine Ev.step (f := fun _ => some m) (fun k => ?_) ?_
    · simp only [laws_heldIntSS.l0]; rw [if_neg (by simp [rowsFrom])]
    · simpa using Ev.now m
  | cons x t ih =>
    intro a m h0 hb hl
    simp only [List.map_cons, List.sum_cons, List.length_cons] at hb hl
    have hM := heldIntS_ev x.length m h0 (by omega)
    have := ih (a ++ [from_ m x.length]) (m + x.length) (by omega) (by omega) (by simp; omega)
    have hn : ¬ (m + (x.length : Int) < 0) := by omega
    refine Ev.step (f := fun k => (laws_heldIntS.f k (from_ m x.length) m).bind fun t1 => if t1 < 0 then some (-1) else laws_heldIntSS.l0 k ((a ++ [from_ m x.length]) ++ rowsFrom (m + x.length) t) t1 ((a.length + 1 : Nat) : Int)) (fun k => ?_) (Ev.bind hM ?_)
    · simp only [laws_heldIntSS.l0, rowsFrom, rdL_mid, List.append_assoc, List.singleton_append]
      rw [if_pos (by simp; omega), if_pos (by omega), w64s (n := a.length + t.length + 1) (by omega) (by omega)]
    · simp only [List.map_cons, List.sum_cons, hn, if_false]
      simp only [List.length_append, List.length_singleton] at this
      rw [show m + ((x.length + (t.map List.length).sum : Nat) : Int) = m + (x.length : Int) + ((t.map List.length).sum : Nat) by omega]
      exact this
theorem heldIntSS_ev (l : List (List Int)) (hl : bulk l ≤ 1048576) : Ev (fun k => laws_heldIntSS.f k (rowsFrom 1 l) 1) (1 + ((l.map List.length).sum : Int)) := by
  unfold bulk at hl
  exact heldIntSS_l l [] 1 (by omega) (by omega) (by simp; omega)

/-! evp -/
/-- From some number of rounds on. -/
def Evp (P : Nat → Prop) : Prop := ∃ K, ∀ k, K ≤ k → P k
theorem Evp.and {P Q : Nat → Prop} (h : Evp P) (g : Evp Q) : Evp (fun k => P k ∧ Q k) := by
  obtain ⟨K, hK⟩ := h
  obtain ⟨M, hM⟩ := g
  exact ⟨max K M, fun k hk => ⟨hK k (by omega), hM k (by omega)⟩⟩
theorem evp {α : Type} {g : Nat → Option α} {r : α} (h : Ev g r) : Evp (fun k => g k = some r) := h
theorem Evp.some {P : Nat → Prop} (h : Evp P) : ∃ k, P k := by obtain ⟨K, hK⟩ := h; exact ⟨K, hK K (Nat.le_refl _)⟩

/-! parseWord -/
/-- The letter of a byte. -/
def letOf (c : Int) : Option Int := if 97 ≤ c ∧ c ≤ 104 then some (c - 96) else if 65 ≤ c ∧ c ≤ 72 then some (-(c - 64)) else none
/-- What is read of bytes from i on, behind letters that have been read. -/
def pw (s : ByteArray) : Nat → Nat → List Int → List Int × Bool
  | 0, _, acc => if acc.length = 0 then ([], false) else if acc.length > 24 then ([], false) else (acc, true)
  | d + 1, i, acc => match letOf (bt s i) with
    | none => ([], false)
    | some x => pw s d (i + 1) (acc ++ [x])
theorem pw_length (s : ByteArray) : ∀ (d i : Nat) (acc : List Int), (pw s d i acc).1.length ≤ 24 := by
  intro d
  induction d with
  | zero => intro i acc; unfold pw; split <;> (try split) <;> simp <;> omega
  | succ d ih =>
    intro i acc
    unfold pw
    split
    · simp
    · exact ih _ _
theorem parseWord_l (s : ByteArray) (hs : s.size ≤ 1048576) : ∀ (d i : Nat) (acc : List Int), i + d = s.size → acc.length = i → Ev (fun k => spec_ParseWord.l0 k s acc i) (pw s d i acc) ∧ Ev (fun k => impl_ParseWord.l0 k s acc s.size i) (pw s d i acc) := by
  intro d
  induction d with
  | zero =>
    intro i acc hi ha
    unfold pw
    have hl0 : s.toList = [] ↔ acc.length = 0 := by
      rw [tol_nil]
      omega
    by_cases h0 : acc.length = 0
    · rw [if_pos h0]
      refine ⟨Ev.step (f := fun _ => some (([] : List Int), false)) (fun k => ?_) (Ev.now _), Ev.step (f := fun _ => some (([] : List Int), false)) (fun k => ?_) (Ev.now _)⟩
      · simp only [spec_ParseWord.l0]; rw [if_neg (by omega), if_pos (by omega)]
      · simp only [impl_ParseWord.l0]; rw [if_neg (by omega), if_pos (hl0.2 h0)]
    · rw [if_neg h0]
      by_cases h24 : acc.length > 24
      · rw [if_pos h24]
        refine ⟨Ev.step (f := fun _ => some (([] : List Int), false)) (fun k => ?_) (Ev.now _), Ev.step (f := fun _ => some (([] : List Int), false)) (fun k => ?_) (Ev.now _)⟩
        · simp only [spec_ParseWord.l0]; rw [if_neg (by omega), if_neg (by omega), if_pos (by omega)]
        · simp only [impl_ParseWord.l0]; rw [if_neg (by omega), if_neg (fun h => h0 (hl0.1 h)), if_pos (by omega)]
      · rw [if_neg h24]
        refine ⟨Ev.step (f := fun _ => some (acc, true)) (fun k => ?_) (Ev.now _), Ev.step (f := fun _ => some (acc, true)) (fun k => ?_) (Ev.now _)⟩
        · simp only [spec_ParseWord.l0]; rw [if_neg (by omega), if_neg (by omega), if_neg (by omega)]
        · simp only [impl_ParseWord.l0]; rw [if_neg (by omega), if_neg (fun h => h0 (hl0.1 h)), if_neg (by omega)]
  | succ d ih =>
    intro i acc hi ha
    have hlt : (i : Int) < (s.size : Int) := by omega
    have hll : acc.length < 17592186044416 := by omega
    obtain ⟨c, hc⟩ : ∃ c, bt s i = c := ⟨_, rfl⟩
    have hcr := bt_range s i
    rw [hc] at hcr
    unfold pw
    rw [hc]
    have hw : ∀ z : Int, -1000 ≤ z → z ≤ 1000 → wrap64 z = z := fun z h1 h2 => w64 (by omega) (by omega)
    have hi0 : (0 : Int) ≤ (i : Int) := by omega
    by_cases h1 : 97 ≤ c ∧ c ≤ 104
    · have hl : letOf c = some (c - 96) := by unfold letOf; rw [if_pos h1]
      rw [hl]
      obtain ⟨g1, g2⟩ := ih (i + 1) (acc ++ [c - 96]) (by omega) (by simp [ha])
      constructor
      · refine Ev.step (f := fun k => spec_ParseWord.j1 k s acc i true) (fun k => ?_) (Ev.step (fun k => ?_) g1)
        · simp only [spec_ParseWord.l0, hc]
          rw [if_pos hlt, if_pos hi0, if_pos (show c ≥ 97 from h1.1), decide_eq_true h1.2]
        · simp only [spec_ParseWord.j1, hc]
          rw [if_pos trivial, if_pos hi0, if_pos hlt, if_pos hll, hw c (by omega) (by omega), hw (c - 97) (by omega) (by omega), hw (c - 97 + 1) (by omega) (by omega), w64s (show i < s.size by omega) (by omega), show c - 97 + 1 = c - 96 by omega]
      · refine Ev.step (f := fun k => impl_ParseWord.j1 k s acc c s.size i true) (fun k => ?_) (Ev.step (fun k => ?_) g2)
        · simp only [impl_ParseWord.l0, hc]
          rw [if_pos hlt, if_pos hi0, if_pos hlt, if_pos (show c ≥ 97 from h1.1), decide_eq_true (show c < 105 by omega)]
        · simp only [impl_ParseWord.j1]
          rw [if_pos trivial, if_pos hll, w64s (show i < s.size by omega) (by omega), show (c - 97) % 256 + 1 = c - 96 by omega]
    · have hd1 : (c ≥ 97 → decide (c ≤ 104) = false) ∧ (c ≥ 97 → decide (c < 105) = false) := ⟨fun h => decide_eq_false (by omega), fun h => decide_eq_false (by omega)⟩
      by_cases h2 : 65 ≤ c ∧ c ≤ 72
      · have hl : letOf c = some (-(c - 64)) := by unfold letOf; rw [if_neg h1, if_pos h2]
        rw [hl]
        obtain ⟨g1, g2⟩ := ih (i + 1) (acc ++ [-(c - 64)]) (by omega) (by simp [ha])
        constructor
        · refine Ev.step (f := fun k => spec_ParseWord.j1 k s acc i false) (fun k => ?_) (Ev.step (fun k => ?_) g1)
          · simp only [spec_ParseWord.l0, hc]
            rw [if_pos hlt, if_pos hi0, if_neg (show ¬ c ≥ 97 by omega)]
          · simp only [spec_ParseWord.j1, hc]
            rw [if_neg (by simp), if_pos hi0, if_pos hlt, if_pos (show c ≥ 65 by omega), if_pos (show c ≤ 72 by omega), if_pos hll, hw c (by omega) (by omega), hw (c - 65) (by omega) (by omega), hw (c - 65 + 1) (by omega) (by omega), hw (-(c - 65 + 1)) (by omega) (by omega), w64s (show i < s.size by omega) (by omega), show -(c - 65 + 1) = -(c - 64) by omega]
        · refine Ev.step (f := fun k => impl_ParseWord.j1 k s acc c s.size i false) (fun k => ?_) (Ev.step (fun k => ?_) g2)
          · simp only [impl_ParseWord.l0, hc]
            rw [if_pos hlt, if_pos hi0, if_pos hlt, if_neg (show ¬ c ≥ 97 by omega)]
          · simp only [impl_ParseWord.j1]
            rw [if_neg (by simp), if_pos (show c ≥ 65 by omega), if_pos (show c < 73 by omega), if_pos hll, w64s (show i < s.size by omega) (by omega), show -((c - 65) % 256) - 1 = -(c - 64) by omega]
      · have hl : letOf c = none := by unfold letOf; rw [if_neg h1, if_neg h2]
        rw [hl]
        constructor
        · have hj : Ev (fun k => spec_ParseWord.j1 k s acc i false) (([] : List Int), false) := by
            refine Ev.step (f := fun _ => some (([] : List Int), false)) (fun k => ?_) (Ev.now _)
            simp only [spec_ParseWord.j1, hc]
            rw [if_neg (by simp), if_pos hi0, if_pos hlt]
            split
            · rw [if_neg (by omega)]
            · rfl
          refine Ev.step (f := fun k => spec_ParseWord.j1 k s acc i false) (fun k => ?_) hj
          simp only [spec_ParseWord.l0, hc]
          rw [if_pos hlt, if_pos hi0]
          split
          · rename_i h97
            rw [hd1.1 h97]
          · rfl
        · have hj : Ev (fun k => impl_ParseWord.j1 k s acc c s.size i false) (([] : List Int), false) := by
            refine Ev.step (f := fun _ => some (([] : List Int), false)) (fun k => ?_) (Ev.now _)
            simp only [impl_ParseWord.j1]
            rw [if_neg (by simp)]
            split
            · rw [if_neg (by omega)]
            · rfl
          refine Ev.step (f := fun k => impl_ParseWord.j1 k s acc c s.size i false) (fun k => ?_) hj
          simp only [impl_ParseWord.l0, hc]
          rw [if_pos hlt, if_pos hi0, if_pos hlt]
          split
          · rename_i h97
            rw [hd1.2 h97]
          · rfl
/-- The word with a text. -/
def parseM (s : ByteArray) : List Int × Bool := if s.toList = ([45] : List UInt8) then ([], true) else pw s s.size 0 []
theorem parseWord_ev (s : ByteArray) (hs : s.size ≤ 1048576) : ∃ (r : List Int) (o : Bool), r.length ≤ 1048576 ∧ Ev (fun k => spec_ParseWord.f k s) (r, o) ∧ Ev (fun k => impl_ParseWord.f k s) (r, o) ∧ (r, o) = parseM s := by
  refine ⟨(parseM s).1, (parseM s).2, ?_, ?_, ?_, rfl⟩
  · unfold parseM
    split
    · simp
    · have := pw_length s s.size 0 []; omega
  · unfold spec_ParseWord.f parseM
    simp only [Option.bind_some]
    split
    · exact Ev.now _
    · exact (parseWord_l s hs s.size 0 [] (by omega) rfl).1
  · unfold impl_ParseWord.f parseM
    split
    · exact Ev.now _
    · exact (parseWord_l s hs s.size 0 [] (by omega) rfl).2

/-! splitByte -/
/-- The parts that begin at f, i bytes being read. -/
def parts (s : ByteArray) (b : Int) : Nat → Nat → Nat → List ByteArray
  | 0, i, f => [s.extract f i]
  | d + 1, i, f => if bt s i = b then s.extract f i :: parts s b d (i + 1) (i + 1) else parts s b d (i + 1) f
theorem parts_length (s : ByteArray) (b : Int) : ∀ d i f, (parts s b d i f).length ≤ d + 1 := by
  intro d
  induction d with
  | zero => intro i f; simp [parts]
  | succ d ih =>
    intro i f
    unfold parts
    split
    · have := ih (i + 1) (i + 1); simp only [List.length_cons]; omega
    · have := ih (i + 1) f; omega
theorem splitByte_l (s : ByteArray) (b : Int) (hs : s.size ≤ 1048576) : ∀ (d i f : Nat) (acc : List ByteArray), i + d = s.size → f ≤ i → acc.length ≤ i → Ev (fun k => spec_SplitByte.l0 k s b acc f i) (acc ++ parts s b d i f) ∧ Ev (fun k => impl_SplitByte.l0 k s b acc f s.size i) (acc ++ parts s b d i f) := by
  intro d
  induction d with
  | zero =>
    intro i f acc hi hf ha
    have hie : i = s.size := by omega
    constructor
    · refine Ev.step (f := fun k => spec_SplitByte.l0 k s b (acc ++ [s.extract f i]) ((i + 1 : Nat) : Int) ((i + 1 : Nat) : Int)) (fun k => ?_) (Ev.step (f := fun _ => some (acc ++ [s.extract f i])) (fun k => ?_) ?_)
      · simp only [spec_SplitByte.l0]
        rw [if_pos (by omega), if_pos (by omega), if_pos (by omega), if_pos (by omega), if_pos (by omega), w64s (n := i + 1) (by omega) (by omega), Int.toNat_natCast, Int.toNat_natCast]
      · simp only [spec_SplitByte.l0]; rw [if_neg (by omega)]
      · exact Ev.now _
    · refine Ev.step (f := fun _ => some (acc ++ [s.extract f i])) (fun k => ?_) (Ev.now _)
      simp only [impl_SplitByte.l0]
      rw [if_neg (by omega), if_pos (by omega), if_pos (by omega), if_pos (by omega), Int.toNat_natCast, ← hie]
  | succ d ih =>
    intro i f acc hi hf ha
    have hlt : (i : Int) < (s.size : Int) := by omega
    unfold parts
    by_cases hb : bt s i = b
    · rw [if_pos hb]
      obtain ⟨h1, h2⟩ := ih (i + 1) (i + 1) (acc ++ [s.extract f i]) (by omega) (by omega) (by simp; omega)
      rw [List.append_assoc, List.singleton_append] at h1 h2
      refine ⟨Ev.step (fun k => ?_) h1, Ev.step (fun k => ?_) h2⟩
      · simp only [spec_SplitByte.l0]
        rw [if_pos (by omega), if_neg (by omega), if_pos (by omega), if_pos hlt, if_pos hb, if_pos (by omega), if_pos (by omega), if_pos (by omega), w64s (n := i + 1) (by omega) (by omega), Int.toNat_natCast, Int.toNat_natCast]
      · simp only [impl_SplitByte.l0]
        rw [if_pos hlt, if_pos (by omega), if_pos hlt, if_pos hb, if_pos (by omega), if_pos (by omega), if_pos (by omega), if_pos (by omega), w64s (n := i + 1) (by omega) (by omega), Int.toNat_natCast, Int.toNat_natCast]
    · rw [if_neg hb]
      obtain ⟨h1, h2⟩ := ih (i + 1) f acc (by omega) (by omega) (by omega)
      refine ⟨Ev.step (fun k => ?_) h1, Ev.step (fun k => ?_) h2⟩
      · simp only [spec_SplitByte.l0]
        rw [if_pos (by omega), if_neg (by omega), if_pos (by omega), if_pos hlt, if_neg hb, w64s (n := i + 1) (by omega) (by omega)]
      · simp only [impl_SplitByte.l0]
        rw [if_pos hlt, if_pos (by omega), if_pos hlt, if_neg hb, w64s (n := i + 1) (by omega) (by omega)]
theorem splitByte_ev (s : ByteArray) (b : Int) (hs : s.size ≤ 1048576) : Ev (fun k => spec_SplitByte.f k s b) (parts s b s.size 0 0) ∧ Ev (fun k => impl_SplitByte.f k s b) (parts s b s.size 0 0) := by
  have := splitByte_l s b hs s.size 0 0 [] (by omega) (by omega) (by simp)
  simpa [spec_SplitByte.f, impl_SplitByte.f] using this

/-! within -/
theorem within_eq (a b c : Int) : impl_within.f a b c = some (decide (b ≤ a ∧ a ≤ c)) := by
  unfold impl_within.f
  split <;> simp <;> omega

/-! l1In -/
theorem l1In_eq (a b c : Int) : spec_l1In.f a b c = some (decide (b ≤ a ∧ a ≤ c)) := by
  unfold spec_l1In.f
  split <;> simp <;> omega

/-! letter -/
/-- A letter. -/
def LetP (x : Int) : Prop := x ≠ 0 ∧ -8 ≤ x ∧ x ≤ 8
theorem l2Letter_eq (x : Int) : spec_l2Letter.f x = some (decide (LetP x)) := by
  unfold spec_l2Letter.f
  simp only [l1In_eq, Option.bind_some]
  by_cases h : 1 ≤ x ∧ x ≤ 8
  · rw [decide_eq_true h, decide_eq_true (show LetP x from ⟨by omega, by omega, by omega⟩)]; rfl
  · rw [decide_eq_false h]
    simp only [Bool.false_eq_true, if_false]
    congr 1
    rw [decide_eq_decide]
    unfold LetP
    omega
theorem isLetter_eq (x : Int) : impl_isLetter.f x = some (decide (LetP x)) := by
  unfold impl_isLetter.f
  simp only [within_eq, Option.bind_some]
  split
  · rename_i h
    rw [decide_eq_false (fun hh : LetP x => hh.1 h)]
  · rename_i h
    congr 1
    rw [decide_eq_decide]
    unfold LetP
    omega

/-! isWord -/
/-- A word. -/
def WordP (l : List Int) : Prop := (∀ x ∈ l, LetP x) ∧ l.length ≤ 24
def WordFrom (l : List Int) (i : Nat) : Prop := (∀ x ∈ l.drop i, LetP x) ∧ l.length ≤ 24
theorem isWord_l (l : List Int) (hl : l.length ≤ 9223372036854775807) : ∀ (d i : Nat), i + d = l.length → Ev (fun k => spec_IsWord.l0 k l i) (decide (WordFrom l i)) ∧ Ev (fun k => impl_IsWord.l0 k l l l.length i) (decide (WordFrom l i)) := by
  intro d
  induction d with
  | zero =>
    intro i hi
    have e : decide (WordFrom l i) = decide ((l.length : Int) ≤ 24) := by
      rw [decide_eq_decide]; unfold WordFrom; rw [List.drop_of_length_le (by omega)]
      simp
      omega
    rw [e]
    refine ⟨Ev.step (f := fun _ => some (decide ((l.length : Int) ≤ 24))) (fun k => ?_) (Ev.now _), Ev.step (f := fun _ => some (decide ((l.length : Int) ≤ 24))) (fun k => ?_) (Ev.now _)⟩
    · simp only [spec_IsWord.l0]; rw [if_neg (by omega)]
    · simp only [impl_IsWord.l0]; rw [if_neg (by omega)]
  | succ d ih =>
    intro i hi
    have hlt : i < l.length := by omega
    have e1 := rd_lt hlt
    have ed : l.drop i = l[i] :: l.drop (i + 1) := List.drop_eq_getElem_cons hlt
    by_cases hp : LetP l[i]
    · have e : decide (WordFrom l i) = decide (WordFrom l (i + 1)) := by
        rw [decide_eq_decide]; unfold WordFrom; rw [ed]
        simp only [List.mem_cons, forall_eq_or_imp, hp, true_and]
      rw [e]
      obtain ⟨h1, h2⟩ := ih (i + 1) (by omega)
      refine ⟨Ev.step (fun k => ?_) h1, Ev.step (fun k => ?_) h2⟩
      · simp only [spec_IsWord.l0, l2Letter_eq, e1, Option.bind_some, decide_eq_true hp]
        rw [if_pos (by omega), if_pos (by omega), if_pos trivial, w64s hlt hl]
      · simp only [impl_IsWord.l0, isLetter_eq, e1, Option.bind_some, decide_eq_true hp]
        rw [if_pos (by omega), if_pos (by omega), if_pos (by omega), if_pos trivial, w64s hlt hl]
    · have e : decide (WordFrom l i) = false := by
        refine decide_eq_false fun h => hp (h.1 _ ?_)
        rw [ed]; exact List.mem_cons_self
      rw [e]
      refine ⟨Ev.step (f := fun _ => some false) (fun k => ?_) (Ev.now _), Ev.step (f := fun _ => some false) (fun k => ?_) (Ev.now _)⟩
      · simp only [spec_IsWord.l0, l2Letter_eq, e1, Option.bind_some, decide_eq_false hp]
        rw [if_pos (by omega), if_pos (by omega)]; rfl
      · simp only [impl_IsWord.l0, isLetter_eq, e1, Option.bind_some, decide_eq_false hp]
        rw [if_pos (by omega), if_pos (by omega), if_pos (by omega)]; rfl
theorem isWord_ev (l : List Int) (hl : l.length ≤ 1048576) : Ev (fun k => spec_IsWord.f k l) (decide (WordP l)) ∧ Ev (fun k => impl_IsWord.f k l) (decide (WordP l)) := by
  have := isWord_l l (by omega) l.length 0 (by omega)
  have e : decide (WordFrom l 0) = decide (WordP l) := by rw [decide_eq_decide]; rfl
  rw [e] at this
  exact this

/-! cnt -/
/-- How often a letter or its inverse occurs. -/
def cnt (l : List Int) (y : Nat) : Nat := l.countP fun x => x.natAbs == y
theorem cnt_append (a b : List Int) (y : Nat) : cnt (a ++ b) y = cnt a y + cnt b y := List.countP_append
theorem cnt_one (x : Int) (y : Nat) : cnt [x] y = if x.natAbs = y then 1 else 0 := by
  unfold cnt
  rw [List.countP_cons, List.countP_nil]
  by_cases h : x.natAbs = y <;> simp [h]
theorem cnt_le (l : List Int) (y : Nat) : cnt l y ≤ l.length := List.countP_le_length
def usesL (l : List Int) : List Int := (List.range 9).map fun y => ((cnt l y : Nat) : Int)
theorem usesL_length (l : List Int) : (usesL l).length = 9 := by simp [usesL]
theorem usesL_rd (l : List Int) {y : Nat} (h : y < 9) : rd (usesL l) (y : Int) = (cnt l y : Int) := by
  rw [rd_lt (by rw [usesL_length]; exact h)]
  simp [usesL]
theorem usesL_nil : usesL [] = List.replicate 9 0 := by decide
theorem usesL_snoc (l : List Int) (x : Int) : (usesL l).set x.natAbs ((cnt l x.natAbs : Int) + 1) = usesL (l ++ [x]) := by
  refine List.ext_getElem (by simp [usesL_length]) fun y h1 h2 => ?_
  have hy : y < 9 := by rw [usesL_length] at h2; exact h2
  rw [List.getElem_set]
  have e1 : (usesL (l ++ [x]))[y] = ((cnt (l ++ [x]) y : Nat) : Int) := by simp [usesL]
  refine Eq.trans ?_ e1.symm
  rw [cnt_append, cnt_one]
  by_cases h : x.natAbs = y
  · subst h; rw [if_pos rfl, if_pos rfl]; omega
  · rw [if_neg h, if_neg h]; simp [usesL]
theorem flat_take_succ {g : List (List Int)} {p : Nat} (h : p < g.length) : (g.take (p + 1)).flatten = (g.take p).flatten ++ g[p] := by
  rw [List.take_succ_eq_append_getElem h, List.flatten_append, List.flatten_singleton]
theorem flat_len (g : List (List Int)) : g.flatten.length = (g.map List.length).sum := List.length_flatten
theorem flat_take_len (g : List (List Int)) (p : Nat) : ((g.take p).flatten).length ≤ g.flatten.length := by
  have : g.flatten = (g.take p).flatten ++ (g.drop p).flatten := by rw [← List.flatten_append, List.take_append_drop]
  rw [this, List.length_append]; omega

/-! gluP -/
/-- A gluing. -/
def GluP (g : List (List Int)) : Prop := (1 ≤ g.length ∧ g.length ≤ 4) ∧ (∀ p ∈ g, p ≠ [] ∧ WordP p) ∧ g.flatten.length ≤ 20 ∧ ∀ y, y < 9 → cnt g.flatten y ≤ 2
theorem GluP.let {g : List (List Int)} (h : GluP g) : ∀ p ∈ g, ∀ x ∈ p, LetP x := fun p hp => (h.2.1 p hp).2.1
/-- Rows from p on are words that are not empty. -/
def RowsP (g : List (List Int)) (p : Nat) : Prop := ∀ w ∈ g.drop p, w ≠ [] ∧ WordP w
theorem rowsP_succ {g : List (List Int)} {p : Nat} (h : p < g.length) : RowsP g p ↔ (g[p] ≠ [] ∧ WordP g[p]) ∧ RowsP g (p + 1) := by
  unfold RowsP
  rw [List.drop_eq_getElem_cons h]
  simp only [List.mem_cons, forall_eq_or_imp]
def Few (l : List Int) (i : Nat) : Prop := ∀ y, i ≤ y → y < 9 → cnt l y ≤ 2

/-! fewS -/
theorem fewS_l (l : List Int) : ∀ (d i : Nat), i + d = 9 → Ev (fun k => spec_IsGluing.l1 k (usesL l) i) (decide (Few l i)) := by
  intro d
  induction d with
  | zero =>
    intro i hi
    rw [decide_eq_true (show Few l i from fun y h1 h2 => by omega)]
    refine Ev.step (f := fun _ => some true) (fun k => ?_) (Ev.now _)
    simp only [spec_IsGluing.l1, usesL_length]; rw [if_neg (by omega)]
  | succ d ih =>
    intro i hi
    by_cases hc : cnt l i ≤ 2
    · have e : Few l i ↔ Few l (i + 1) := ⟨fun h y h1 h2 => h y (by omega) h2, fun h y h1 h2 => by
        rcases Nat.eq_or_lt_of_le h1 with rfl | h3
        · exact hc
        · exact h y h3 h2⟩
      rw [decide_eq_decide.2 e]
      refine Ev.step (fun k => ?_) (ih (i + 1) (by omega))
      simp only [spec_IsGluing.l1, usesL_length, usesL_rd l (show i < 9 by omega)]
      rw [if_pos (by omega), if_pos (by omega), if_neg (by omega), w64s (show i < 9 by omega) (by omega)]
    · rw [decide_eq_false (show ¬ Few l i from fun h => hc (h i (Nat.le_refl _) (by omega)))]
      refine Ev.step (f := fun _ => some false) (fun k => ?_) (Ev.now _)
      simp only [spec_IsGluing.l1, usesL_length, usesL_rd l (show i < 9 by omega)]
      rw [if_pos (by omega), if_pos (by omega), if_pos (by omega)]

/-! neg -/
theorem LetP.neg {x : Int} (h : LetP x) : LetP (-x) := by unfold LetP at *; omega
theorem w64neg {x : Int} (h : LetP x) : wrap64 (-x) = -x := w64 (by unfold LetP at h; omega) (by unfold LetP at h; omega)

/-! abs -/
theorem LetP.abs {x : Int} (h : LetP x) : 1 ≤ x.natAbs ∧ x.natAbs ≤ 8 := by unfold LetP at h; omega
theorem l3Abs_eq {x : Int} (h : LetP x) : spec_l3Abs.f x = some (x.natAbs : Int) := by
  unfold spec_l3Abs.f spec_l1Max.f
  rw [w64neg h]
  split <;> simp only [Option.bind_some, Option.some.injEq] <;> omega

/-! usesS -/
theorem usesS_row (g : List (List Int)) (hg : g.length ≤ 1048576) (p : Nat) (hp : p < g.length) (hl : ∀ x ∈ g[p], LetP x) (pre : List Int) (hb : pre.length + g[p].length ≤ 1048576) (r : List Int) (h : Ev (fun k => spec_l3Uses.l0 k g (usesL (pre ++ g[p])) ((p + 1 : Nat) : Int)) r) :
    ∀ (d i : Nat), i + d = g[p].length → Ev (fun k => spec_l3Uses.l1 k g (usesL (pre ++ g[p].take i)) p i) r := by
  intro d
  induction d with
  | zero =>
    intro i hi
    rw [List.take_of_length_le (by omega)]
    refine Ev.step (fun k => ?_) h
    simp only [spec_l3Uses.l1, rdL_lt hp]
    rw [if_pos (by omega), if_pos (by omega), if_neg (by omega), w64s hp (by omega)]
  | succ d ih =>
    intro i hi
    have hlt : i < g[p].length := by omega
    have hx := hl g[p][i] (List.getElem_mem hlt)
    have ha := hx.abs
    have hc := cnt_le (pre ++ g[p].take i) g[p][i].natAbs
    rw [List.length_append, List.length_take] at hc
    have hw : wrap64 ((cnt (pre ++ g[p].take i) g[p][i].natAbs : Int) + 1) = (cnt (pre ++ g[p].take i) g[p][i].natAbs : Int) + 1 := w64 (by omega) (by omega)
    have := ih (i + 1) (by omega)
    rw [List.take_succ_eq_append_getElem hlt, ← List.append_assoc, ← usesL_snoc] at this
    refine Ev.step (fun k => ?_) this
    simp only [spec_l3Uses.l1, rdL_lt hp, rd_lt hlt, l3Abs_eq hx, Option.bind_some, usesL_length]
    rw [if_pos (by omega), if_pos (by omega), if_pos (by omega), if_pos (by omega), if_pos (by omega), if_pos (by omega), if_pos (by omega), if_pos (by omega), usesL_rd _ (by omega), hw, w64s hlt (by omega), Int.toNat_natCast]
theorem usesS_l (g : List (List Int)) (hg : g.length ≤ 1048576) (hl : ∀ p ∈ g, ∀ x ∈ p, LetP x) (hb : g.flatten.length ≤ 1048576) : ∀ (d p : Nat), p + d = g.length → Ev (fun k => spec_l3Uses.l0 k g (usesL (g.take p).flatten) p) (usesL g.flatten) := by
  intro d
  induction d with
  | zero =>
    intro p hp
    rw [List.take_of_length_le (by omega)]
    refine Ev.step (f := fun _ => some (usesL g.flatten)) (fun k => ?_) (Ev.now _)
    simp only [spec_l3Uses.l0]; rw [if_neg (by omega)]
  | succ d ih =>
    intro p hp
    have hlt : p < g.length := by omega
    have h1 := ih (p + 1) (by omega)
    rw [flat_take_succ hlt] at h1
    have h2 := usesS_row g hg p hlt (hl _ (List.getElem_mem hlt)) (g.take p).flatten (by have := flat_take_len g (p + 1); rw [flat_take_succ hlt, List.length_append] at this; omega) _ h1 g[p].length 0 (by omega)
    rw [List.take_zero, List.append_nil] at h2
    refine Ev.step (fun k => ?_) h2
    simp only [spec_l3Uses.l0]; rw [if_pos (by omega)]; rfl
theorem usesS_ev (g : List (List Int)) (hg : g.length ≤ 1048576) (hl : ∀ p ∈ g, ∀ x ∈ p, LetP x) (hb : g.flatten.length ≤ 1048576) : Ev (fun k => spec_l3Uses.f k g) (usesL g.flatten) := by
  refine Ev.congr (fun k => ?_) (usesS_l g hg hl hb g.length 0 (by omega))
  unfold spec_l3Uses.f
  rw [if_pos (by omega), List.take_zero, List.flatten_nil, usesL_nil]; rfl

/-! isGluingS -/
theorem isGluingS_l (g : List (List Int)) (hg : g.length ≤ 1048576) (hb : g.flatten.length ≤ 1048576) (r : Bool) (hr : RowsP g 0 → (Ev (fun k => spec_IsGluing.l0 k g (g.flatten.length : Nat) g.length) r)) : ∀ (d p : Nat), p + d = g.length → (RowsP g p ↔ RowsP g 0) → Ev (fun k => spec_IsGluing.l0 k g (((g.take p).flatten.length : Nat) : Int) p) (if RowsP g 0 then r else false) := by
  intro d
  induction d with
  | zero =>
    intro p hp hrow
    have h0 : RowsP g 0 := hrow.1 (by unfold RowsP; rw [List.drop_of_length_le (by omega)]; simp)
    rw [if_pos h0, List.take_of_length_le (by omega), show p = g.length by omega]
    exact hr h0
  | succ d ih =>
    intro p hp hrow
    have hlt : p < g.length := by omega
    have hs := rowsP_succ hlt
    have hxl : g[p].length ≤ 1048576 := by have := flat_take_len g (p + 1); rw [flat_take_succ hlt, List.length_append] at this; omega
    by_cases hz : g[p] = []
    · rw [if_neg (fun h0 => (hs.1 (hrow.2 h0)).1.1 hz)]
      refine Ev.step (f := fun _ => some false) (fun k => ?_) (Ev.now _)
      simp only [spec_IsGluing.l0, rdL_lt hlt, hz]
      rw [if_pos (by omega), if_pos (by omega), if_pos (by simp)]
    have hzl : 0 < g[p].length := List.length_pos_iff.2 hz
    have hw := (isWord_ev g[p] hxl).1
    refine Ev.step (f := fun k => (spec_IsWord.f k g[p]).bind fun t => if t = true then spec_IsGluing.l0 k g (wrap64 ((((g.take p).flatten.length : Nat) : Int) + (g[p].length : Int))) ((p + 1 : Nat) : Int) else some false) (fun k => ?_) (Ev.bind hw ?_)
    · simp only [spec_IsGluing.l0, rdL_lt hlt]
      rw [if_pos (by omega), if_pos (by omega), if_neg (by omega), w64s hlt (by omega)]
    · by_cases hwp : WordP g[p]
      · rw [decide_eq_true hwp]
        simp only [if_true]
        have h1 := ih (p + 1) (by omega) ⟨fun h => hrow.1 (hs.2 ⟨⟨hz, hwp⟩, h⟩), fun h => (hs.1 (hrow.2 h)).2⟩
        have hl : ((g.take (p + 1)).flatten.length : Nat) = (g.take p).flatten.length + g[p].length := by rw [flat_take_succ hlt, List.length_append]
        have hle := flat_take_len g (p + 1)
        have e : wrap64 ((((g.take p).flatten.length : Nat) : Int) + (g[p].length : Int)) = (((g.take (p + 1)).flatten.length : Nat) : Int) := by
          rw [w64 (by omega) (by omega)]; omega
        rw [e]
        exact h1
      · rw [decide_eq_false hwp, if_neg (fun h0 => hwp (hs.1 (hrow.2 h0)).1.2)]
        exact Ev.now _
theorem isGluingS_ev (g : List (List Int)) (hg : g.length ≤ 1048576) (hb : g.flatten.length ≤ 1048576) : Ev (fun k => spec_IsGluing.f k g) (decide (GluP g)) := by
  have hend : RowsP g 0 → Ev (fun k => spec_IsGluing.l0 k g (g.flatten.length : Nat) g.length) (decide (GluP g)) := by
    intro h0
    have h0' : ∀ p ∈ g, p ≠ [] ∧ WordP p := fun p hp => h0 p (by rw [List.drop_zero]; exact hp)
    by_cases hl : (1 : Int) ≤ g.length ∧ (g.length : Int) ≤ 4
    · by_cases h20 : (g.flatten.length : Int) > 20
      · rw [decide_eq_false (fun h : GluP g => by have := h.2.2.1; omega)]
        refine Ev.step (f := fun k => spec_IsGluing.j1 k g true) (fun k => ?_) (Ev.step (f := fun _ => some false) (fun k => ?_) (Ev.now _))
        · simp only [spec_IsGluing.l0, l1In_eq, Option.bind_some, decide_eq_true hl, decide_eq_true h20]; rw [if_neg (by omega), if_pos trivial]
        · simp only [spec_IsGluing.j1]; rw [if_pos trivial]
      · have e : Few g.flatten 0 ↔ GluP g := ⟨fun h => ⟨⟨by omega, by omega⟩, h0', by omega, fun y hy => h y (by omega) hy⟩, fun h y _ hy => h.2.2.2 y hy⟩
        rw [← decide_eq_decide.2 e]
        refine Ev.step (f := fun k => spec_IsGluing.j1 k g false) (fun k => ?_) (Ev.step (f := fun k => (spec_l3Uses.f k g).bind fun t => spec_IsGluing.l1 k t ((0 : Nat) : Int)) (fun k => ?_) (Ev.bind (usesS_ev g hg (fun p hp => (h0' p hp).2.1) hb) (fewS_l g.flatten 9 0 (by omega))))
        · simp only [spec_IsGluing.l0, l1In_eq, Option.bind_some, decide_eq_true hl, decide_eq_false h20]; rw [if_neg (by omega), if_pos trivial]
        · simp only [spec_IsGluing.j1]; rw [if_neg (by simp)]; rfl
    · rw [decide_eq_false (fun h : GluP g => hl ⟨by have := h.1.1; omega, by have := h.1.2; omega⟩)]
      refine Ev.step (f := fun k => spec_IsGluing.j1 k g true) (fun k => ?_) (Ev.step (f := fun _ => some false) (fun k => ?_) (Ev.now _))
      · simp only [spec_IsGluing.l0, l1In_eq, Option.bind_some, decide_eq_false hl]; rw [if_neg (by omega), if_neg (by simp)]
      · simp only [spec_IsGluing.j1]; rw [if_pos trivial]
  have h := isGluingS_l g hg hb _ hend g.length 0 (by omega) Iff.rfl
  have e : (if RowsP g 0 then decide (GluP g) else false) = decide (GluP g) := by
    split
    · rfl
    · rename_i hn
      rw [decide_eq_false (fun h : GluP g => hn (fun p hp => h.2.1 p (by rw [List.drop_zero] at hp; exact hp)))]
  rw [e] at h
  simpa [spec_IsGluing.f] using h

/-! fewI -/
theorem fewI_l (l : List Int) : ∀ (d i : Nat), i + d = 9 → Ev (fun k => impl_IsGluing.l1 k (usesL l) 9 i) (decide (Few l i)) := by
  intro d
  induction d with
  | zero =>
    intro i hi
    rw [decide_eq_true (show Few l i from fun y h1 h2 => by omega)]
    refine Ev.step (f := fun _ => some true) (fun k => ?_) (Ev.now _)
    simp only [impl_IsGluing.l1]; rw [if_neg (by omega)]
  | succ d ih =>
    intro i hi
    by_cases hc : cnt l i ≤ 2
    · have e : Few l i ↔ Few l (i + 1) := ⟨fun h y h1 h2 => h y (by omega) h2, fun h y h1 h2 => by
        rcases Nat.eq_or_lt_of_le h1 with rfl | h3
        · exact hc
        · exact h y h3 h2⟩
      rw [decide_eq_decide.2 e]
      refine Ev.step (fun k => ?_) (ih (i + 1) (by omega))
      simp only [impl_IsGluing.l1, usesL_length, usesL_rd l (show i < 9 by omega)]
      rw [if_pos (by omega), if_pos (by omega), if_pos (by omega), if_neg (by omega), w64s (show i < 9 by omega) (by omega)]
    · rw [decide_eq_false (show ¬ Few l i from fun h => hc (h i (Nat.le_refl _) (by omega)))]
      refine Ev.step (f := fun _ => some false) (fun k => ?_) (Ev.now _)
      simp only [impl_IsGluing.l1, usesL_length, usesL_rd l (show i < 9 by omega)]
      rw [if_pos (by omega), if_pos (by omega), if_pos (by omega), if_pos (by omega)]

/-! sizeI -/
theorem size_eq {x : Int} (h : LetP x) : impl_size.f x = some (x.natAbs : Int) := by
  unfold impl_size.f
  rw [w64neg h]
  unfold mx
  congr 1
  omega

/-! usesI -/
theorem usesI_row (g : List (List Int)) (hg : g.length ≤ 1048576) (p : Nat) (hp : p < g.length) (hl : ∀ x ∈ g[p], LetP x) (pre : List Int) (hb : pre.length + g[p].length ≤ 1048576) (r : List Int) (h : Ev (fun k => impl_letterCounts.l0 k (usesL (pre ++ g[p])) g g.length ((p + 1 : Nat) : Int)) r) :
    ∀ (d i : Nat), i + d = g[p].length → Ev (fun k => impl_letterCounts.l1 k (usesL (pre ++ g[p].take i)) g g.length p g[p] g[p].length i) r := by
  intro d
  induction d with
  | zero =>
    intro i hi
    rw [List.take_of_length_le (by omega)]
    refine Ev.step (fun k => ?_) h
    simp only [impl_letterCounts.l1]
    rw [if_neg (by omega), w64s hp (by omega)]
  | succ d ih =>
    intro i hi
    have hlt : i < g[p].length := by omega
    have hx := hl g[p][i] (List.getElem_mem hlt)
    have ha := hx.abs
    have hc := cnt_le (pre ++ g[p].take i) g[p][i].natAbs
    rw [List.length_append, List.length_take] at hc
    have hw : wrap64 ((cnt (pre ++ g[p].take i) g[p][i].natAbs : Int) + 1) = (cnt (pre ++ g[p].take i) g[p][i].natAbs : Int) + 1 := w64 (by omega) (by omega)
    have := ih (i + 1) (by omega)
    rw [List.take_succ_eq_append_getElem hlt, ← List.append_assoc, ← usesL_snoc] at this
    refine Ev.step (fun k => ?_) this
    simp only [impl_letterCounts.l1, rd_lt hlt, size_eq hx, Option.bind_some, usesL_length]
    rw [if_pos (by omega), if_pos (by omega), if_pos (by omega), if_pos (by omega), if_pos (by omega), usesL_rd _ (by omega), hw, w64s hlt (by omega), Int.toNat_natCast]
theorem usesI_l (g : List (List Int)) (hg : g.length ≤ 1048576) (hl : ∀ p ∈ g, ∀ x ∈ p, LetP x) (hb : g.flatten.length ≤ 1048576) : ∀ (d p : Nat), p + d = g.length → Ev (fun k => impl_letterCounts.l0 k (usesL (g.take p).flatten) g g.length p) (usesL g.flatten) := by
  intro d
  induction d with
  | zero =>
    intro p hp
    rw [List.take_of_length_le (by omega)]
    refine Ev.step (f := fun _ => some (usesL g.flatten)) (fun k => ?_) (Ev.now _)
    simp only [impl_letterCounts.l0]; rw [if_neg (by omega)]
  | succ d ih =>
    intro p hp
    have hlt : p < g.length := by omega
    have h1 := ih (p + 1) (by omega)
    rw [flat_take_succ hlt] at h1
    have h2 := usesI_row g hg p hlt (hl _ (List.getElem_mem hlt)) (g.take p).flatten (by have := flat_take_len g (p + 1); rw [flat_take_succ hlt, List.length_append] at this; omega) _ h1 g[p].length 0 (by omega)
    rw [List.take_zero, List.append_nil] at h2
    refine Ev.step (fun k => ?_) h2
    simp only [impl_letterCounts.l0, rdL_lt hlt]; rw [if_pos (by omega), if_pos (by omega), if_pos (by omega)]; rfl
theorem usesI_ev (g : List (List Int)) (hg : g.length ≤ 1048576) (hl : ∀ p ∈ g, ∀ x ∈ p, LetP x) (hb : g.flatten.length ≤ 1048576) : Ev (fun k => impl_letterCounts.f k g) (usesL g.flatten) := by
  refine Ev.congr (fun k => ?_) (usesI_l g hg hl hb g.length 0 (by omega))
  unfold impl_letterCounts.f
  rw [if_pos (by omega), List.take_zero, List.flatten_nil, usesL_nil]; rfl

/-! isGluingI -/
theorem isGluingI_l (g : List (List Int)) (hg : g.length ≤ 1048576) (hb : g.flatten.length ≤ 1048576) (r : Bool) (hr : RowsP g 0 → (Ev (fun k => impl_IsGluing.l0 k g (g.flatten.length : Nat) g g.length g.length) r)) : ∀ (d p : Nat), p + d = g.length → (RowsP g p ↔ RowsP g 0) → Ev (fun k => impl_IsGluing.l0 k g (((g.take p).flatten.length : Nat) : Int) g g.length p) (if RowsP g 0 then r else false) := by
  intro d
  induction d with
  | zero =>
    intro p hp hrow
    have h0 : RowsP g 0 := hrow.1 (by unfold RowsP; rw [List.drop_of_length_le (by omega)]; simp)
    rw [if_pos h0, List.take_of_length_le (by omega), show p = g.length by omega]
    exact hr h0
  | succ d ih =>
    intro p hp hrow
    have hlt : p < g.length := by omega
    have hs := rowsP_succ hlt
    have hxl : g[p].length ≤ 1048576 := by have := flat_take_len g (p + 1); rw [flat_take_succ hlt, List.length_append] at this; omega
    by_cases hz : g[p] = []
    · rw [if_neg (fun h0 => (hs.1 (hrow.2 h0)).1.1 hz)]
      refine Ev.step (f := fun _ => some false) (fun k => ?_) (Ev.now _)
      simp only [impl_IsGluing.l0, rdL_lt hlt, hz]
      rw [if_pos (by omega), if_pos (by omega), if_pos (by omega), if_pos (by simp)]
    have hzl : 0 < g[p].length := List.length_pos_iff.2 hz
    have hw := (isWord_ev g[p] hxl).2
    refine Ev.step (f := fun k => (impl_IsWord.f k g[p]).bind fun t => if t = true then impl_IsGluing.l0 k g (wrap64 ((((g.take p).flatten.length : Nat) : Int) + (g[p].length : Int))) g g.length ((p + 1 : Nat) : Int) else some false) (fun k => ?_) (Ev.bind hw ?_)
    · simp only [impl_IsGluing.l0, rdL_lt hlt]
      rw [if_pos (by omega), if_pos (by omega), if_pos (by omega), if_neg (by omega), w64s hlt (by omega)]
    · by_cases hwp : WordP g[p]
      · rw [decide_eq_true hwp]
        simp only [if_true]
        have h1 := ih (p + 1) (by omega) ⟨fun h => hrow.1 (hs.2 ⟨⟨hz, hwp⟩, h⟩), fun h => (hs.1 (hrow.2 h)).2⟩
        have hl : ((g.take (p + 1)).flatten.length : Nat) = (g.take p).flatten.length + g[p].length := by rw [flat_take_succ hlt, List.length_append]
        have hle := flat_take_len g (p + 1)
        have e : wrap64 ((((g.take p).flatten.length : Nat) : Int) + (g[p].length : Int)) = (((g.take (p + 1)).flatten.length : Nat) : Int) := by
          rw [w64 (by omega) (by omega)]; omega
        rw [e]
        exact h1
      · rw [decide_eq_false hwp, if_neg (fun h0 => hwp (hs.1 (hrow.2 h0)).1.2)]
        exact Ev.now _
theorem isGluingI_ev (g : List (List Int)) (hg : g.length ≤ 1048576) (hb : g.flatten.length ≤ 1048576) : Ev (fun k => impl_IsGluing.f k g) (decide (GluP g)) := by
  unfold impl_IsGluing.f
  simp only [within_eq, Option.bind_some]
  by_cases hl : (1 : Int) ≤ g.length ∧ (g.length : Int) ≤ 4
  case neg =>
    rw [decide_eq_false hl, decide_eq_false (fun h : GluP g => hl ⟨by have := h.1.1; omega, by have := h.1.2; omega⟩)]
    exact Ev.now _
  rw [decide_eq_true hl]
  simp only [if_true]
  have hend : RowsP g 0 → Ev (fun k => impl_IsGluing.l0 k g (g.flatten.length : Nat) g g.length g.length) (decide (GluP g)) := by
    intro h0
    have h0' : ∀ p ∈ g, p ≠ [] ∧ WordP p := fun p hp => h0 p (by rw [List.drop_zero]; exact hp)
    by_cases h20 : (g.flatten.length : Int) > 20
    · rw [decide_eq_false (fun h : GluP g => by have := h.2.2.1; omega)]
      refine Ev.step (f := fun _ => some false) (fun k => ?_) (Ev.now _)
      simp only [impl_IsGluing.l0]; rw [if_neg (by omega), if_pos h20]
    · have e : Few g.flatten 0 ↔ GluP g := ⟨fun h => ⟨⟨by omega, by omega⟩, h0', by omega, fun y hy => h y (by omega) hy⟩, fun h y _ hy => h.2.2.2 y hy⟩
      rw [← decide_eq_decide.2 e]
      refine Ev.step (f := fun k => (impl_letterCounts.f k g).bind fun t => impl_IsGluing.l1 k t (t.length : Int) 0) (fun k => ?_) (Ev.bind (usesI_ev g hg (fun p hp => (h0' p hp).2.1) hb) ?_)
      · simp only [impl_IsGluing.l0]; rw [if_neg (by omega), if_neg h20]
      · simp only [usesL_length]
        exact fewI_l g.flatten 9 0 (by omega)
  have h := isGluingI_l g hg hb _ hend g.length 0 (by omega) Iff.rfl
  have e : (if RowsP g 0 then decide (GluP g) else false) = decide (GluP g) := by
    split
    · rfl
    · rename_i hn
      rw [decide_eq_false (fun h : GluP g => hn (fun p hp => h.2.1 p (by rw [List.drop_zero] at hp; exact hp)))]
  rw [e] at h
  simpa using h

/-! bulkF -/
theorem bulk_flat {g : List (List Int)} (h : bulk g ≤ 1048576) : g.length ≤ 1048576 ∧ g.flatten.length ≤ 1048576 := by
  unfold bulk at h
  rw [flat_len]
  omega

/-! parseGl -/
theorem pw_true (s : ByteArray) : ∀ (d i : Nat) (acc : List Int), (pw s d i acc).2 = true → (pw s d i acc).1.length = acc.length + d ∧ 1 ≤ acc.length + d := by
  intro d
  induction d with
  | zero =>
    intro i acc h
    unfold pw at h ⊢
    by_cases h1 : acc.length = 0
    · rw [if_pos h1] at h; simp at h
    · rw [if_neg h1] at h ⊢
      by_cases h2 : acc.length > 24
      · rw [if_pos h2] at h; simp at h
      · rw [if_neg h2]; exact ⟨rfl, by omega⟩
  | succ d ih =>
    intro i acc h
    unfold pw at h ⊢
    split at h
    · simp at h
    · have := ih _ _ h
      simp only [List.length_append, List.length_singleton] at this ⊢
      omega
theorem parse_true {s : ByteArray} (h : (parseM s).2 = true) : 1 ≤ s.size ∧ (parseM s).1.length ≤ s.size ∧ ((parseM s).1 ≠ [] → (parseM s).1.length = s.size) := by
  unfold parseM at h ⊢
  by_cases hs : s.toList = ([45] : List UInt8)
  · rw [if_pos hs]
    have := tol_len s
    rw [hs] at this
    simp only [List.length_singleton] at this
    exact ⟨by omega, by simp, fun h => absurd rfl h⟩
  · rw [if_neg hs] at h ⊢
    have := pw_true s s.size 0 [] h
    simp only [List.length_nil, Nat.zero_add] at this
    exact ⟨this.2, by omega, fun _ => this.1⟩
/-- What both make of the parts, acc being read. -/
noncomputable def pgl : List ByteArray → List (List Int) → List (List Int) × Bool
  | [], acc => if GluP acc then (acc, true) else ([], false)
  | s :: t, acc => if (parseM s).2 = true then pgl t (acc ++ [(parseM s).1]) else ([], false)
theorem pgl_or : ∀ (t : List ByteArray) (acc : List (List Int)), pgl t acc = ([], false) ∨ (pgl t acc = (acc ++ t.map (fun s => (parseM s).1), true) ∧ (∀ s ∈ t, (parseM s).2 = true) ∧ GluP (acc ++ t.map fun s => (parseM s).1)) := by
  intro t
  induction t with
  | nil =>
    intro acc
    unfold pgl
    by_cases h : GluP acc
    · rw [if_pos h]; exact .inr ⟨by simp, by simp, by simpa using h⟩
    · rw [if_neg h]; exact .inl rfl
  | cons s t ih =>
    intro acc
    unfold pgl
    by_cases h : (parseM s).2 = true
    · rw [if_pos h]
      rcases ih (acc ++ [(parseM s).1]) with h1 | ⟨h1, h2, h3⟩
      · exact .inl h1
      · refine .inr ⟨by rw [h1]; simp, ?_, by simpa using h3⟩
        intro x hx
        rcases List.mem_cons.1 hx with rfl | hx
        · exact h
        · exact h2 x hx
    · rw [if_neg h]; exact .inl rfl
theorem pgl_empty (t : List ByteArray) (acc : List (List Int)) (h : [] ∈ acc) : pgl t acc = ([], false) := by
  rcases pgl_or t acc with h1 | ⟨_, _, h3⟩
  · exact h1
  · exact absurd rfl (h3.2.1 [] (List.mem_append_left _ h)).1
theorem parseGlI_l (P : List ByteArray) (hP : P.length ≤ 1048577) : ∀ (d i : Nat) (acc : List (List Int)) (C : Nat), i + d = P.length → acc.length ≤ C → acc.flatten.length ≤ C → C + ((P.drop i).map ByteArray.size).sum ≤ 1048576 → Ev (fun k => impl_ParseGluing.l0 k acc P P.length i) (pgl (P.drop i) acc) := by
  intro d
  induction d with
  | zero =>
    intro i acc C hi h1 h2 h3
    rw [List.drop_of_length_le (by omega)]
    have hI := isGluingI_ev acc (by omega) (by omega)
    refine Ev.step (f := fun k => (impl_IsGluing.f k acc).bind fun t => if t = true then some (acc, true) else some (([] : List (List Int)), false)) (fun k => ?_) (Ev.bind hI ?_)
    · simp only [impl_ParseGluing.l0]; rw [if_neg (by omega)]
    · unfold pgl
      by_cases hg : GluP acc
      · rw [decide_eq_true hg, if_pos hg]; exact Ev.now _
      · rw [decide_eq_false hg, if_neg hg]; exact Ev.now _
  | succ d ih =>
    intro i acc C hi h1 h2 h3
    have hlt : i < P.length := by omega
    have ed : P.drop i = P[i] :: P.drop (i + 1) := List.drop_eq_getElem_cons hlt
    rw [ed, List.map_cons, List.sum_cons] at h3
    obtain ⟨r, o, hr, _, e2, hM⟩ := parseWord_ev P[i] (by omega)
    have hM1 : (parseM P[i]).1 = r := by rw [← hM]
    have hM2 : (parseM P[i]).2 = o := by rw [← hM]
    refine Ev.step (f := fun k => (impl_ParseWord.f k P[i]).bind fun bt => if bt.2 = true then impl_ParseGluing.l0 k (acc ++ [bt.1]) P P.length ((i + 1 : Nat) : Int) else some (([] : List (List Int)), false)) (fun k => ?_) (Ev.bind e2 ?_)
    · simp only [impl_ParseGluing.l0, rdOf_lt hlt]
      rw [if_pos (by omega), if_pos (by omega), if_pos (by omega), w64s hlt (by omega)]
      congr 1
      funext bt
      rw [if_pos (show acc.length < 5864062014805 by omega)]
    · rw [ed]
      unfold pgl
      rw [hM1, hM2]
      by_cases ho : o = true
      · subst ho
        have hp := parse_true hM2
        rw [hM1] at hp
        simp only [if_true]
        exact ih (i + 1) (acc ++ [r]) (C + P[i].size) (by omega) (by simp; omega) (by rw [List.flatten_append, List.length_append]; simp only [List.flatten_cons, List.flatten_nil, List.append_nil]; omega) (by omega)
      · simp only [ho]; exact Ev.now _
theorem parseGlS_l (P : List ByteArray) (hP : P.length ≤ 1048577) : ∀ (d i : Nat) (acc : List (List Int)) (C : Nat), i + d = P.length → acc.length ≤ C → acc.flatten.length ≤ C → C + ((P.drop i).map ByteArray.size).sum ≤ 1048576 → Ev (fun k => spec_ParseGluing.l0 k acc P i) (pgl (P.drop i) acc) := by
  intro d
  induction d with
  | zero =>
    intro i acc C hi h1 h2 h3
    rw [List.drop_of_length_le (by omega)]
    have hI := isGluingS_ev acc (by omega) (by omega)
    refine Ev.step (f := fun k => (spec_IsGluing.f k acc).bind fun t => if t = true then some (acc, true) else some (([] : List (List Int)), false)) (fun k => ?_) (Ev.bind hI ?_)
    · simp only [spec_ParseGluing.l0]; rw [if_neg (by omega)]
    · unfold pgl
      by_cases hg : GluP acc
      · rw [decide_eq_true hg, if_pos hg]; exact Ev.now _
      · rw [decide_eq_false hg, if_neg hg]; exact Ev.now _
  | succ d ih =>
    intro i acc C hi h1 h2 h3
    have hlt : i < P.length := by omega
    have ed : P.drop i = P[i] :: P.drop (i + 1) := List.drop_eq_getElem_cons hlt
    rw [ed, List.map_cons, List.sum_cons] at h3
    obtain ⟨r, o, hr, e1, _, hM⟩ := parseWord_ev P[i] (by omega)
    have hM1 : (parseM P[i]).1 = r := by rw [← hM]
    have hM2 : (parseM P[i]).2 = o := by rw [← hM]
    refine Ev.step (f := fun k => (spec_ParseWord.f k P[i]).bind fun bt => if bt.2 = true then (if (bt.1.length : Int) = 0 then some (([] : List (List Int)), false) else spec_ParseGluing.l0 k (acc ++ [bt.1]) P ((i + 1 : Nat) : Int)) else some (([] : List (List Int)), false)) (fun k => ?_) (Ev.bind e1 ?_)
    · simp only [spec_ParseGluing.l0, rdOf_lt hlt]
      rw [if_pos (by omega), if_pos (by omega), w64s hlt (by omega)]
      congr 1
      funext bt
      rw [if_pos (show acc.length < 5864062014805 by omega)]
    · rw [ed]
      unfold pgl
      rw [hM1, hM2]
      by_cases ho : o = true
      · subst ho
        have hp := parse_true hM2
        rw [hM1] at hp
        simp only [if_true]
        by_cases hz : r = []
        · subst hz
          rw [pgl_empty _ _ (by simp)]
          simp only [List.length_nil]
          exact Ev.now _
        · have : ¬ ((r.length : Int) = 0) := by have := List.length_pos_iff.2 hz; omega
          simp only [this, if_false]
          exact ih (i + 1) (acc ++ [r]) (C + P[i].size) (by omega) (by simp; omega) (by rw [List.flatten_append, List.length_append]; simp only [List.flatten_cons, List.flatten_nil, List.append_nil]; omega) (by omega)
      · simp only [ho]; exact Ev.now _
theorem parts_sum (s : ByteArray) (b : Int) : ∀ (d i f : Nat), i + d = s.size → f ≤ i → ((parts s b d i f).map ByteArray.size).sum + (parts s b d i f).length + f = s.size + 1 := by
  intro d
  induction d with
  | zero => intro i f hi hf; simp [parts, ByteArray.size_extract]; omega
  | succ d ih =>
    intro i f hi hf
    unfold parts
    split
    · have := ih (i + 1) (i + 1) (by omega) (by omega)
      simp only [List.map_cons, List.sum_cons, List.length_cons, ByteArray.size_extract]
      omega
    · exact ih (i + 1) f (by omega) (by omega)
theorem sum_map_le {t : List ByteArray} (h : ∀ s ∈ t, (parseM s).2 = true) (hne : ∀ s ∈ t, (parseM s).1 ≠ []) : (t.map ByteArray.size).sum = (t.map fun s => (parseM s).1).flatten.length := by
  induction t with
  | nil => rfl
  | cons s t ih =>
    simp only [List.map_cons, List.sum_cons, List.flatten_cons, List.length_append]
    rw [ih (fun x hx => h x (List.mem_cons_of_mem _ hx)) (fun x hx => hne x (List.mem_cons_of_mem _ hx)), (parse_true (h s List.mem_cons_self)).2.2 (hne s List.mem_cons_self)]
theorem parseGluing_ev (s : ByteArray) (hs : s.size ≤ 1048576) : ∃ (r : List (List Int)) (o : Bool), bulk r ≤ 1048576 ∧ Ev (fun k => spec_ParseGluing.f k s) (r, o) ∧ Ev (fun k => impl_ParseGluing.f k s) (r, o) ∧ (r, o) = pgl (parts s 32 s.size 0 0) [] := by
  obtain ⟨e1, e2⟩ := splitByte_ev s 32 hs
  have hsum := parts_sum s 32 s.size 0 0 (by omega) (by omega)
  have hlen := parts_length s 32 s.size 0 0
  generalize parts s 32 s.size 0 0 = P at *
  have hor := pgl_or P []
  have i1 := parseGlS_l P (by omega) P.length 0 [] 0 (by omega) (by simp) (by simp)
  have i2 := parseGlI_l P (by omega) P.length 0 [] 0 (by omega) (by simp) (by simp)
  simp only [List.drop_zero, Nat.zero_add] at i1 i2
  by_cases h0 : P = []
  · subst h0
    simp only [List.map_nil, List.sum_nil, List.length_nil] at hsum
    omega
  have hpos := List.length_pos_iff.2 h0
  replace i1 := i1 (by omega)
  replace i2 := i2 (by omega)
  have hb : bulk (pgl P []).1 ≤ 1048576 := by
    rcases hor with h1 | ⟨h1, h2, h3⟩
    · rw [h1]; decide
    · rw [h1]
      obtain ⟨⟨_, g1⟩, _, g2, _⟩ := h3
      unfold bulk
      rw [flat_len] at g2
      dsimp only
      omega
  refine ⟨(pgl P []).1, (pgl P []).2, hb, ?_, ?_, rfl⟩
  · unfold spec_ParseGluing.f
    exact Ev.bind e1 i1
  · unfold impl_ParseGluing.f
    by_cases hl : (s.size : Int) > 24
    · have : pgl P [] = ([], false) := by
        rcases hor with h1 | ⟨h1, h2, h3⟩
        · exact h1
        · exfalso
          obtain ⟨⟨_, g1⟩, gn, g2, _⟩ := h3
          simp only [List.nil_append] at g1 g2 gn
          have := sum_map_le h2 (fun x hx => (gn _ (List.mem_map.2 ⟨x, hx, rfl⟩)).1)
          rw [List.length_map] at g1
          omega
      simp only [hl, if_true, this]
      exact Ev.now _
    · simp only [hl, if_false]
      exact Ev.bind e2 i2

/-! law.FnExactParseGluing -/
theorem FnExactParseGluing (a0 : ByteArray) (w0 : a0.size ≤ 140737488351232) : ∃ k, laws_FnExactParseGluing.f k a0 = some true := by
  by_cases hb : (a0.size : Int) > 1048576
  · exact ⟨0, by unfold laws_FnExactParseGluing.f; rw [if_pos (.inl hb)]⟩
  obtain ⟨r, o, hr, e1, e2, -⟩ := parseGluing_ev a0 (by omega)
  obtain ⟨k, q1, q2, q3, q4, q5⟩ := ((evp e1).and ((evp e2).and ((evp (eqIntSS_same r hr)).and ((evp (markIntSS_ev r hr)).and (evp (heldIntSS_ev r hr)))))).some
  exact ⟨k, by unfold laws_FnExactParseGluing.f; rw [if_pos (.inr ⟨r, o, _, _, by omega, q1, q2, q3, q4, q5⟩)]⟩

end Go.Proofs.Ytfknffpfjoalkaa.Pure
