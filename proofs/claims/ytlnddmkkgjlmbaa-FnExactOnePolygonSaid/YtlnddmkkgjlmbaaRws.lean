/- How a slice of slices of whole numbers, and a struct of three whole numbers, that came in are read: for the rows of this seat's laws. -/
import Derived.Test.YtlnddmkkgjlmbaaCom
import Derived.Deep.Matrix
import Derived.Lib.SmallJoins
import Derived.SliceStrings
namespace Go.Proofs.Ytlnddmkkgjlmbaa.Rws
open Go.ChangeShapes Go.WideShapes Go.ChangeAt Go.RowKit Go.Proofs.YtlnddmkkgjlmbaaW.PrintWords Go.Proofs.Ytlnddmkkgjlmbaa.Com Go.Deep
variable {H : Type} {enc : TypeId × Value → H} {P : Program} {w : World} {base : Nat} {held : Bool}
theorem row_reads {k : IntKind} {A : Option Addr} {L C : Nat} {Z : List Int} (hl : L ≤ C) (hm : C ≤ maxLen) (hz : Z.length = C)
    (hc : ∀ a', A = some a' → ∀ c, c < C → w.cell? (a'.add c) = some (.int k (Z.getD c 0))) (hn : A = none → C = 0) : (Kd.int k).C w A (Z.take L).length (Z.take L) := by
  have hL : (Z.take L).length = L := by rw [List.length_take]; omega
  refine ⟨rfl, by rw [hL]; simp only [maxLen] at hm; omega, fun hp => ?_⟩
  rw [hL] at hp
  cases A with
  | none => have := hn rfl; omega
  | some a' =>
    refine ⟨a', rfl, fun j p hj => ⟨[.int k p], rfl, rfl, fun i u hu => ?_⟩⟩
    have hjl : j < L := by have := (List.getElem?_eq_some_iff.1 hj).1; omega
    have hi : i = 0 := by
      have := (List.getElem?_eq_some_iff.1 hu).1
      simp at this
      exact this
    subst hi
    have hu' : Value.int k p = u := by simpa using hu
    have hz1 : Z.getD j 0 = p := by
      rw [List.getElem?_take_of_lt hjl] at hj
      rw [List.getD_eq_getElem?_getD, hj]; rfl
    have := hc a' rfl j (by omega)
    rw [hz1] at this
    rw [← hu']
    show w.cell? (a'.add (j * 1 + 0)) = _
    rw [Nat.mul_one, Nat.add_zero]
    exact this
theorem open_rows {t e q : TypeId} {k : IntKind} {v : Value} {d : DataW H} {ps : List MemPlace} {r : Reach} {b : Nat} (ht : P.underlying t = some (.slice e)) (he : P.underlying e = some (.slice q)) (hq : P.underlying q = some (.int k))
    (ce : P.cellsOf e = 1) (cq : P.cellsOf q = 1) (hv : Value.okWide P w r b t v) (h : DataW.Trod enc P w base (fun _ => true) held t v d ps) :
    ∃ (A : Option Addr) (cap : Nat) (l : List (List Int)), v = .slice A l.length cap ∧ l.length ≤ cap ∧ l.length ≤ maxLen ∧ (Kd.slice q (Kd.int k)).C w A l.length l ∧ ∀ x ∈ l, x.length ≤ maxLen ∧ ∀ n ∈ x, (Lit.int k n).wf = true := by
  obtain ⟨a0, len0, cap0, rfl⟩ := okWide_slice ht hv
  obtain ⟨fuel, hf⟩ := h
  rcases open_int_rows ht he hq ce cq hf with ⟨hcs, _⟩ | ⟨a, len, cap, A, L, C, Z, hcs, _, hl, hm, _, hrow⟩
  · simp [Value.cells] at hcs
    obtain ⟨rfl, rfl, rfl⟩ := hcs
    refine ⟨none, 0, [], rfl, Nat.le_refl _, Nat.zero_le _, ⟨rfl, by simp, fun hp => absurd hp (by simp)⟩, by simp⟩
  · simp [Value.cells] at hcs
    obtain ⟨rfl, rfl, rfl⟩ := hcs
    have hll : ((List.range len0).map fun r => (Z r).take (L r)).length = len0 := by simp
    refine ⟨some a, cap0, (List.range len0).map fun r => (Z r).take (L r), by rw [hll], by rw [hll]; exact hl, by rw [hll]; omega, ⟨rfl, ?_, fun _ => ⟨a, rfl, fun j p hj => ?_⟩⟩, ?_⟩
    · rw [hll]; simp only [maxLen] at hm; omega
    · have hjl : j < len0 := by have := (List.getElem?_eq_some_iff.1 hj).1; omega
      obtain ⟨hcell, h1, h2, h3, h4, h5, h6⟩ := hrow j (by omega)
      have hp : (Z j).take (L j) = p := by simpa [hjl] using hj
      subst hp
      have hL : ((Z j).take (L j)).length = L j := by rw [List.length_take]; omega
      refine ⟨[.slice (A j) (L j) (C j)], rfl, ⟨A j, C j, by rw [hL], by rw [hL]; exact h1, row_reads h1 h2 h3 (fun a' ha => (h6 a' ha).2) h5⟩, fun i u hu => ?_⟩
      have hi : i = 0 := by
        have := (List.getElem?_eq_some_iff.1 hu).1
        simp at this
        exact this
      subst hi
      have hu' : Value.slice (A j) (L j) (C j) = u := by simpa using hu
      rw [← hu']
      show w.cell? (a.add (j * 1 + 0)) = _
      rw [Nat.mul_one, Nat.add_zero]
      exact hcell
    · intro x hx
      obtain ⟨j, hj, rfl⟩ := List.mem_map.1 hx
      obtain ⟨hcell, h1, h2, h3, h4, h5, h6⟩ := hrow j (by have := List.mem_range.1 hj; omega)
      refine ⟨by rw [List.length_take]; omega, fun n hn => h4 n (List.mem_of_mem_take hn)⟩
end Go.Proofs.Ytlnddmkkgjlmbaa.Rws
