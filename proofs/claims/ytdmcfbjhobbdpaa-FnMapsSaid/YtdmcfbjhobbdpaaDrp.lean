/- What is left of a list of darts when an edge is taken out: plain lists and numbers. Conditions: the list is a permutation of at most 24 darts. -/
import Derived.Test.YtdmcfbjhobbdpaaPrt
namespace Go.Proofs.Ytdmcfbjhobbdpaa.Joi
open Go.Proofs.Ytdmcfbjhobbdpaa.Kl Go.Proofs.YtdmcfbjhobbdpaaW.PrintWords
def nmN (a k : Nat) : Nat := (List.range k).countP (fun d => decide (d / 2 ≠ a))
theorem nmN_succ (a k : Nat) : nmN a (k + 1) = nmN a k + if k / 2 ≠ a then 1 else 0 := by
  unfold nmN
  rw [List.range_succ, List.countP_append, List.countP_cons, List.countP_nil, Nat.zero_add]
  by_cases h : k / 2 = a <;> simp [h]
theorem nmN_le (a k : Nat) : nmN a k ≤ k := by
  have := List.countP_le_length (p := fun d => decide (d / 2 ≠ a)) (l := List.range k)
  rw [List.length_range] at this
  exact this
theorem nmN_eq (a : Nat) : ∀ k, (k ≤ 2 * a → nmN a k = k) ∧ (k = 2 * a + 1 → nmN a k = 2 * a) ∧ (2 * a + 2 ≤ k → nmN a k + 2 = k) := by
  intro k
  induction k with
  | zero => simp [nmN]
  | succ k ih =>
    rw [nmN_succ]
    obtain ⟨i1, i2, i3⟩ := ih
    by_cases h : k / 2 = a
    · rw [if_neg (fun e => e h)]
      refine ⟨fun h1 => ?_, fun h1 => ?_, fun h1 => ?_⟩ <;> rcases (show k = 2 * a ∨ k = 2 * a + 1 by omega) with e | e
      all_goals first | (have := i1 (by omega); omega) | (have := i2 (by omega); omega) | omega
    · rw [if_pos h]
      refine ⟨fun h1 => ?_, fun h1 => ?_, fun h1 => ?_⟩ <;> rcases (show k < 2 * a ∨ 2 * a + 2 ≤ k by omega) with e | e
      all_goals first | (have := i1 (by omega); omega) | (have := i3 (by omega); omega) | omega
def PermOk (l : List Int) : Prop := MapOk l ∧ ∀ i j : Nat, i < l.length → j < l.length → rd l i = rd l j → i = j
def nx (l : List Int) (d : Nat) : Nat := (rd l d).toNat
theorem nx_lt {l : List Int} (h : MapOk l) {d : Nat} (hd : d < l.length) : nx l d < l.length ∧ rd l d = (nx l d : Int) := by
  obtain ⟨e, h1, h2⟩ := h.2.2 d hd
  unfold nx
  rw [h2, Int.toNat_natCast]
  exact ⟨h1, rfl⟩
theorem nx_inj {l : List Int} (h : PermOk l) {i j : Nat} (hi : i < l.length) (hj : j < l.length) (e : nx l i = nx l j) : i = j := h.2 i j hi hj (by rw [(nx_lt h.1 hi).2, (nx_lt h.1 hj).2, e])
def flN (l : List Int) (a d : Nat) : Nat := if nx l d / 2 ≠ a then nx l d else if nx l (nx l d) / 2 ≠ a then nx l (nx l d) else nx l (nx l (nx l d))
def fol (l : List Int) (a : Nat) : Nat → Nat → Nat → Prop
  | 0, i, r => i = r ∧ i / 2 ≠ a
  | n + 1, i, r => i / 2 = a ∧ fol l a n (nx l i) r
theorem flN_fol {l : List Int} (h : PermOk l) {a d : Nat} (hd : d < l.length) (hg : d / 2 ≠ a) : ∃ n, n ≤ 2 ∧ fol l a n (nx l d) (flN l a d) := by
  unfold flN
  have h1 := (nx_lt h.1 hd).1
  have h2 := (nx_lt h.1 h1).1
  by_cases c1 : nx l d / 2 ≠ a
  · rw [if_pos c1]; exact ⟨0, by omega, rfl, c1⟩
  · rw [if_neg c1]
    by_cases c2 : nx l (nx l d) / 2 ≠ a
    · rw [if_pos c2]; exact ⟨1, by omega, by omega, rfl, c2⟩
    · rw [if_neg c2]
      refine ⟨2, by omega, by omega, by omega, rfl, fun c3 => ?_⟩
      have e1 : nx l (nx l d) ≠ nx l d := fun e => hg (by have := nx_inj h h1 hd e; omega)
      have e2 : nx l (nx l (nx l d)) ≠ nx l d := fun e => hg (by have := nx_inj h h2 hd e; omega)
      have e3 : nx l (nx l (nx l d)) ≠ nx l (nx l d) := fun e => e1 (nx_inj h h2 h1 e)
      omega
theorem fol_lt {l : List Int} (h : MapOk l) {a n i r : Nat} (hi : i < l.length) (hf : fol l a n i r) : r < l.length ∧ r / 2 ≠ a := by
  induction n generalizing i with
  | zero => obtain ⟨rfl, h2⟩ := hf; exact ⟨hi, h2⟩
  | succ n ih => exact ih (nx_lt h hi).1 hf.2
def dropTo (l : List Int) (a k : Nat) : List Int := ((List.range k).filter (fun d => decide (d / 2 ≠ a))).map fun d => ((nmN a (flN l a d) : Nat) : Int)
theorem dropTo_pos (l : List Int) {a k : Nat} (h : k / 2 ≠ a) : dropTo l a (k + 1) = dropTo l a k ++ [((nmN a (flN l a k) : Nat) : Int)] := by
  unfold dropTo
  rw [List.range_succ, List.filter_append, List.map_append]
  simp [h]
theorem dropTo_neg (l : List Int) {a k : Nat} (h : k / 2 = a) : dropTo l a (k + 1) = dropTo l a k := by
  unfold dropTo
  rw [List.range_succ, List.filter_append, List.map_append]
  simp [h]
theorem dropTo_len (l : List Int) (a k : Nat) : (dropTo l a k).length ≤ k := by
  unfold dropTo
  rw [List.length_map]
  have := List.length_filter_le (fun d => decide (d / 2 ≠ a)) (List.range k)
  rw [List.length_range] at this
  exact this
def numsTo (a n k : Nat) : List Int := (List.range n).map fun d => if d < k ∧ d / 2 ≠ a then ((nmN a d : Nat) : Int) else 0
theorem numsTo_len (a n k : Nat) : (numsTo a n k).length = n := by simp [numsTo]
theorem numsTo_zero (a n : Nat) : numsTo a n 0 = List.replicate n 0 := by
  refine List.ext_getElem (by simp [numsTo]) fun i h1 h2 => ?_
  simp [numsTo]
theorem numsTo_pos {a n k : Nat} (h : k / 2 ≠ a) : numsTo a n (k + 1) = (numsTo a n k).set k ((nmN a k : Nat) : Int) := by
  refine List.ext_getElem (by simp [numsTo]) fun i h1 h2 => ?_
  simp only [numsTo, List.getElem_map, List.getElem_range, List.getElem_set]
  by_cases e : k = i
  · subst e; simp [h]
  · rw [if_neg e]
    have : (i < k + 1 ∧ i / 2 ≠ a) ↔ (i < k ∧ i / 2 ≠ a) := by omega
    simp only [this]
theorem numsTo_neg {a n k : Nat} (h : k / 2 = a) : numsTo a n (k + 1) = numsTo a n k := by
  refine List.ext_getElem (by simp [numsTo]) fun i h1 h2 => ?_
  simp only [numsTo, List.getElem_map, List.getElem_range]
  have : (i < k + 1 ∧ i / 2 ≠ a) ↔ (i < k ∧ i / 2 ≠ a) := by
    constructor
    · rintro ⟨h1, h2⟩; exact ⟨by rcases Nat.lt_or_eq_of_le (Nat.lt_succ_iff.1 h1) with h3 | h3; exact h3; exact absurd (by rw [h3]; exact h) h2, h2⟩
    · rintro ⟨h1, h2⟩; exact ⟨by omega, h2⟩
  simp only [this]
theorem numsTo_rd {a n d : Nat} (hd : d < n) (h : d / 2 ≠ a) : rd (numsTo a n n) (d : Int) = ((nmN a d : Nat) : Int) := by
  simp [rd, numsTo, List.getD_eq_getElem?_getD, hd, h]
end Go.Proofs.Ytdmcfbjhobbdpaa.Joi
