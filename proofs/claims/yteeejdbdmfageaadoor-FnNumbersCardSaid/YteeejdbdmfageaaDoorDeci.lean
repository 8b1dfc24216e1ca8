/- Decimal numerals in plain words: what a numeral is read as. No program in this text. -/
import Derived.Lib.AtoiTie
import Derived.Lib.ItoaMem
namespace Go.Proofs.YteeejdbdmfageaaDoor.Deci
open Go.Lib

theorem decFrom_snoc : ∀ (l : List UInt8) (acc v : Nat) (c : UInt8) (d : Nat), decFrom acc l = some v → digitVal c = some d → decFrom acc (l ++ [c]) = some (v * 10 + d)
  | [], acc, v, c, d, h, hc => by
    simp only [decFrom, Option.some.injEq] at h
    subst h
    simp only [List.nil_append, decFrom, hc]
  | b :: r, acc, v, c, d, h, hc => by
    simp only [List.cons_append, decFrom] at h ⊢
    cases hb : digitVal b with
    | none => rw [hb] at h; cases h
    | some e =>
      rw [hb] at h
      exact decFrom_snoc r _ v c d h hc

theorem digitVal_of (d : Nat) (h : d < 10) : digitVal (UInt8.ofNat (48 + d)) = some d := by
  have e : (UInt8.ofNat (48 + d)).toNat = 48 + d := by simp; omega
  unfold digitVal
  rw [e, if_pos (by omega)]
  congr 1
  omega

theorem decFrom_digits : ∀ u : Nat, decFrom 0 (decDigits u) = some u := by
  intro u
  induction u using Nat.strongRecOn with
  | _ u ih =>
    by_cases h : u < 10
    · rw [decDigits_one h]
      have := decFrom_snoc [] 0 0 _ u rfl (digitVal_of u h)
      simpa using this
    · rw [decDigits, dif_neg h]
      have := decFrom_snoc (decDigits (u / 10)) 0 (u / 10) _ (u % 10) (ih (u / 10) (by omega)) (digitVal_of (u % 10) (by omega))
      rw [this]
      congr 1
      omega

theorem decDigits_ne (u : Nat) : decDigits u ≠ [] := by
  intro h
  have := decDigits_length u
  have h2 := nDigits_pos u
  rw [h] at this
  simp at this
  omega

theorem decNat_digits (u : Nat) : decNat (decDigits u) = some u := by
  unfold decNat
  have h := decDigits_ne u
  cases hd : decDigits u with
  | nil => exact absurd hd h
  | cons c r =>
    rw [← hd]
    simp only [hd, List.isEmpty_cons, Bool.false_eq_true, if_false]
    rw [← hd]
    exact decFrom_digits u

/-- The first of a row that is read as digits is a digit. -/
theorem decFrom_head {c : UInt8} {r : List UInt8} {acc v : Nat} (h : decFrom acc (c :: r) = some v) : 48 ≤ c.toNat ∧ c.toNat ≤ 57 := by
  simp only [decFrom] at h
  unfold digitVal at h
  by_cases hc : 48 ≤ c.toNat ∧ c.toNat ≤ 57
  · exact hc
  · rw [if_neg hc] at h; cases h

theorem decDigits_head {u : Nat} {c : UInt8} {r : List UInt8} (h : decDigits u = c :: r) : 48 ≤ c.toNat ∧ c.toNat ≤ 57 :=
  decFrom_head (v := u) (acc := 0) (by rw [← h]; exact decFrom_digits u)

theorem decFrom_lt : ∀ (l : List UInt8) (acc v k : Nat), acc < 10 ^ k → decFrom acc l = some v → v < 10 ^ (l.length + k)
  | [], acc, v, k, ha, h => by
    simp only [decFrom, Option.some.injEq] at h
    subst h
    simpa using ha
  | c :: r, acc, v, k, ha, h => by
    have hc := decFrom_head h
    simp only [decFrom] at h
    have e : digitVal c = some (c.toNat - 48) := by unfold digitVal; rw [if_pos hc]
    rw [e] at h
    have := decFrom_lt r (acc * 10 + (c.toNat - 48)) v (k + 1) (by rw [Nat.pow_succ]; omega) h
    rw [List.length_cons, show r.length + 1 + k = r.length + (k + 1) by omega]
    exact this

/-- The numeral of a number, read. -/
theorem atoi_itoa (n : Int) : atoi (itoa n) = some n := by
  unfold itoa
  by_cases h : n < 0
  · rw [if_pos h]
    unfold atoi
    simp only [beq_self_eq_true, if_true, decNat_digits, Option.map_some]
    congr 1
    omega
  · rw [if_neg h]
    cases hd : decDigits n.toNat with
    | nil => exact absurd hd (decDigits_ne _)
    | cons c r =>
      have hc := decDigits_head hd
      unfold atoi
      have h1 : (c == 45) = false := by
        rw [beq_eq_false_iff_ne]; intro e; subst e; revert hc; decide
      have h2 : (c == 43) = false := by
        rw [beq_eq_false_iff_ne]; intro e; subst e; revert hc; decide
      simp only [h1, h2, Bool.false_eq_true, if_false]
      rw [← hd, decNat_digits]
      simp only [Option.map_some]
      congr 1
      omega

theorem nDigits_le {k u : Nat} (hk : 1 ≤ k) (h : u < 10 ^ k) : nDigits u ≤ k := by
  induction k generalizing u with
  | zero => omega
  | succ k ih =>
    by_cases h1 : u < 10
    · rw [nDigits_small h1]; omega
    · rw [nDigits_big h1]
      by_cases hk0 : k = 0
      · subst hk0; simp at h; omega
      · have := ih (u := u / 10) (by omega) (by rw [Nat.pow_succ] at h; omega)
        omega

theorem itoa_length {n : Int} {k : Nat} (hk : 1 ≤ k) (h : n.natAbs < 10 ^ k) : (itoa n).length ≤ k + 1 := by
  unfold itoa
  split
  · rw [List.length_cons, decDigits_length]
    have := nDigits_le hk h
    omega
  · rw [decDigits_length]
    have := nDigits_le (u := n.toNat) hk (by omega)
    omega

theorem atoiAll_itoa (n : Int) (h : n.natAbs < 10 ^ 17) : atoiAll (itoa n) = .ok n := by
  rw [atoiAll_short _ (by have := itoa_length (by decide) h; omega), atoi_itoa]
  rfl

theorem itoa_inj {n m : Int} (h : itoa n = itoa m) : n = m := by
  have := congrArg atoi h
  rw [atoi_itoa, atoi_itoa] at this
  exact Option.some.inj this

/-! ### What both readers answer -/
/-- A text is the numeral of a number from a to b. -/
def IsNum (l : List UInt8) (a b n : Int) : Prop := a ≤ n ∧ n ≤ b ∧ l = itoa n
/-- The program's reader, in plain words. -/
def readI (l : List UInt8) (a b : Int) : Int × Bool :=
  if l.length > 20 then (0, false)
  else match atoiAll l with
    | .ok n => if a ≤ n ∧ n ≤ b ∧ itoa n = l then (n, true) else (0, false)
    | _ => (0, false)
theorem readI_yes {l : List UInt8} {a b n : Int} (ha : -10 ^ 12 < a) (hb : b < 10 ^ 12) (h : IsNum l a b n) : readI l a b = (n, true) := by
  obtain ⟨h1, h2, rfl⟩ := h
  have hn : n.natAbs < 10 ^ 12 := by omega
  have hl := itoa_length (n := n) (k := 12) (by decide) hn
  unfold readI
  rw [if_neg (by omega), atoiAll_itoa n (Nat.lt_trans hn (by decide))]
  show (if a ≤ n ∧ n ≤ b ∧ itoa n = itoa n then (n, true) else (0, false)) = _
  rw [if_pos ⟨h1, h2, rfl⟩]
theorem readI_no {l : List UInt8} {a b : Int} (h : ¬ ∃ n, IsNum l a b n) : readI l a b = (0, false) := by
  unfold readI
  by_cases hl : l.length > 20
  · rw [if_pos hl]
  rw [if_neg hl]
  rcases atoiAll l with n | _ | _
  · show (if a ≤ n ∧ n ≤ b ∧ itoa n = l then (n, true) else (0, false)) = _
    rw [if_neg]
    rintro ⟨h1, h2, h3⟩
    exact h ⟨n, h1, h2, h3.symm⟩
  · rfl
  · rfl

/-- The reference's reader, in plain words: the sign is cut off; at least one digit, at most 'most'; the numeral of what is read is the text. -/
def readS (l : List UInt8) (most : Nat) : Int × Bool :=
  let t := if l.head? = some 45 then l.tail else l
  if t.length < 1 ∨ most < t.length then (0, false)
  else match decFrom 0 t with
    | none => (0, false)
    | some u =>
      let n : Int := if l.head? = some 45 then -(u : Int) else u
      if itoa n = l then (n, true) else (0, false)

theorem itoa_head_neg {n : Int} (h : n < 0) : (itoa n).head? = some 45 ∧ (itoa n).tail = decDigits n.natAbs := by
  unfold itoa; rw [if_pos h]; exact ⟨rfl, rfl⟩
theorem itoa_head_pos {n : Int} (h : ¬ n < 0) : ¬ (itoa n).head? = some 45 := by
  unfold itoa; rw [if_neg h]
  cases hd : decDigits n.toNat with
  | nil => exact absurd hd (decDigits_ne _)
  | cons c r =>
    have hc := decDigits_head hd
    intro e
    simp only [List.head?_cons, Option.some.injEq] at e
    subst e; revert hc; decide

theorem readS_yes {l : List UInt8} {most : Nat} {n : Int} (hm : 1 ≤ most) (h : IsNum l (-(10 ^ most : Nat) + 1) ((10 ^ most : Nat) - 1) n) : readS l most = (n, true) := by
  obtain ⟨h1, h2, rfl⟩ := h
  have hn : n.natAbs < 10 ^ most := by omega
  unfold readS
  by_cases h0 : n < 0
  · obtain ⟨e1, e2⟩ := itoa_head_neg h0
    have hl := nDigits_le hm hn
    have hp := nDigits_pos n.natAbs
    simp only [e1, if_true, e2]
    rw [if_neg (by rw [decDigits_length]; omega), decFrom_digits]
    show (if itoa (-(n.natAbs : Int)) = itoa n then (-(n.natAbs : Int), true) else (0, false)) = _
    have e : -(n.natAbs : Int) = n := by omega
    rw [e, if_pos rfl]
  · have e1 := itoa_head_pos h0
    have e3 : itoa n = decDigits n.natAbs := by unfold itoa; rw [if_neg h0]; congr 1; omega
    have hl := nDigits_le hm hn
    have hp := nDigits_pos n.natAbs
    simp only [e1, if_false]
    rw [if_neg (by rw [e3, decDigits_length]; omega)]
    rw [show decFrom 0 (itoa n) = some n.natAbs by rw [e3]; exact decFrom_digits _]
    show (if itoa ((n.natAbs : Int)) = itoa n then ((n.natAbs : Int), true) else (0, false)) = _
    have e : (n.natAbs : Int) = n := by omega
    rw [e, if_pos rfl]

theorem readS_no {l : List UInt8} {most : Nat} (h : ¬ ∃ n, IsNum l (-(10 ^ most : Nat) + 1) ((10 ^ most : Nat) - 1) n) : readS l most = (0, false) := by
  unfold readS
  generalize ht : (if l.head? = some 45 then l.tail else l) = t
  show (if t.length < 1 ∨ most < t.length then ((0 : Int), false) else _) = _
  by_cases hl : t.length < 1 ∨ most < t.length
  · rw [if_pos hl]
  rw [if_neg hl]
  cases hd : decFrom 0 t with
  | none => rfl
  | some u =>
    have hu := decFrom_lt t 0 u 0 (by decide) hd
    rw [Nat.add_zero] at hu
    have hu2 : u < 10 ^ most := Nat.lt_of_lt_of_le hu (Nat.pow_le_pow_right (by decide) (by omega))
    show (if itoa (if l.head? = some 45 then -(u : Int) else u) = l then ((if l.head? = some 45 then -(u : Int) else u), true) else (0, false)) = _
    rw [if_neg]
    intro e
    refine h ⟨(if l.head? = some 45 then -(u : Int) else u), ?_, ?_, e.symm⟩ <;> split <;> omega

/-- Both readers answer alike. -/
theorem read_both (l : List UInt8) (most : Nat) (hm : 1 ≤ most) (hm2 : most ≤ 12) : readS l most = readI l (-(10 ^ most : Nat) + 1) ((10 ^ most : Nat) - 1) := by
  have hp : (10 : Nat) ^ most ≤ 10 ^ 12 := Nat.pow_le_pow_right (by decide) hm2
  by_cases h : ∃ n, IsNum l (-(10 ^ most : Nat) + 1) ((10 ^ most : Nat) - 1) n
  · obtain ⟨n, hn⟩ := h
    rw [readS_yes hm hn, readI_yes (by omega) (by omega) hn]
  · rw [readS_no h, readI_no h]

/-- What is read is the number whose numeral the text is. -/
theorem readI_true {l : List UInt8} {a b n : Int} (h : readI l a b = (n, true)) : IsNum l a b n := by
  unfold readI at h
  split at h
  · cases h
  · split at h
    · split at h
      · rename_i m _ hm
        cases h
        exact ⟨hm.1, hm.2.1, hm.2.2.symm⟩
      · cases h
    · cases h
theorem readI_false {l : List UInt8} {a b : Int} {n : Int} (ha : -10 ^ 12 < a) (hb : b < 10 ^ 12) (h : readI l a b = (n, false)) : ¬ ∃ n, IsNum l a b n := by
  rintro ⟨m, hm⟩
  rw [readI_yes ha hb hm] at h
  cases h
/-- Read without a sign: from 0 on. -/
theorem readI_nat (l : List UInt8) (b : Int) (hb0 : 0 ≤ b) (hb : b < 10 ^ 12) : readI l 0 b = if (readI l (-b) b).2 = true ∧ 0 ≤ (readI l (-b) b).1 then readI l (-b) b else (0, false) := by
  by_cases h : ∃ n, IsNum l (-b) b n
  · obtain ⟨n, hn⟩ := h
    rw [readI_yes (by omega) hb hn]
    by_cases h0 : 0 ≤ n
    · rw [if_pos ⟨rfl, h0⟩, readI_yes (by omega) hb ⟨h0, hn.2.1, hn.2.2⟩]
    · rw [if_neg (by simp; omega)]
      apply readI_no
      rintro ⟨m, hm⟩
      have := itoa_inj (hm.2.2.symm.trans hn.2.2)
      have := hm.1
      omega
  · rw [readI_no h, if_neg (by simp)]
    apply readI_no
    rintro ⟨m, hm⟩
    exact h ⟨m, by have := hm.1; omega, hm.2.1, hm.2.2⟩
end Go.Proofs.YteeejdbdmfageaaDoor.Deci
