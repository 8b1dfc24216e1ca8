/- Gluings: letters that touch at a vertex, as classes (the circles of the boundary). Plain lists and numbers. -/
import Derived.Test.YtfknffpfjoalkaaVer
namespace Go.Proofs.Ytfknffpfjoalkaa.Joi
open Go.Proofs.Ytfknffpfjoalkaa.Kl Go.Proofs.YtfknffpfjoalkaaW.PrintWords
def Tch (g : List (List Int)) (ys : List Nat) (a b : Nat) : Prop := a < ys.length ∧ b < ys.length ∧ ∃ k l, k < 2 ∧ l < 2 ∧ EG (Sl g) (2 * ys.getD a 0 + k) (2 * ys.getD b 0 + l)
theorem tch_symm {g : List (List Int)} {ys : List Nat} {a b : Nat} (h : Tch g ys a b) : Tch g ys b a := by
  obtain ⟨h1, h2, k, l, hk, hl, h3⟩ := h
  exact ⟨h2, h1, l, k, hl, hk, .symm h3⟩
noncomputable def bordN (g : List (List Int)) (ys : List Nat) : Nat := K (EG (Tch g ys)) (List.range ys.length)
theorem bordN_le (g : List (List Int)) (ys : List Nat) : bordN g ys ≤ ys.length := by
  have := K_len (EG (Tch g ys)) (List.range ys.length)
  rwa [List.length_range] at this
def Occ (g : List (List Int)) (ys : List Nat) : Prop := ys.length ≤ 8 ∧ ∀ y ∈ ys, ∃ p i, Side g p i ∧ (ltr g p i).natAbs = y
theorem CInv.touch {g : List (List Int)} {ats xs : List Int} (h : CInv g ats xs (fun _ _ _ => True)) (hc : CorOk g) (hz : NZ g) {y z k l : Nat} (hk : k < 2) (hl : l < 2) (hy : ∃ p i, Side g p i ∧ (ltr g p i).natAbs = y) (hz' : ∃ p i, Side g p i ∧ (ltr g p i).natAbs = z) :
    ∃ a b : Nat, a < sidesN g ∧ b < sidesN g ∧ rd ats ((y * 2 + k : Nat) : Int) = (a : Int) ∧ rd ats ((z * 2 + l : Nat) : Int) = (b : Int) ∧ (EG (Sc g) a b ↔ EG (Sl g) (2 * y + k) (2 * z + l)) := by
  have hUF := h.done hc (fun _ _ _ _ _ => trivial)
  obtain ⟨h1, h2, R, h3, h4, h5⟩ := h
  have one : ∀ y k, k < 2 → (∃ p i, Side g p i ∧ (ltr g p i).natAbs = y) → ∃ p i, Side g p i ∧ (ltr g p i).natAbs = y ∧ rd ats ((y * 2 + k : Nat) : Int) = ((endC g p i k : Nat) : Int) := fun y k hk hy => by
    obtain ⟨p, i, hs, he⟩ := hy
    have := ltr_ok hc hs
    rcases h5 y k (by omega) hk with ⟨_, h7⟩ | ⟨q, j, g1, g2, g3, _⟩
    · exact (h7 p i hs trivial he).elim
    · exact ⟨q, j, g1, g2, g3⟩
  obtain ⟨p, i, s1, e1, r1⟩ := one y k hk hy
  obtain ⟨q, j, s2, e2, r2⟩ := one z l hl hz'
  exact ⟨_, _, endC_lt s1 k, endC_lt s2 l, r1, r2, (inc_iff hz ⟨p, i, k, s1, hk, rfl, by rw [e1]⟩ ⟨q, j, l, s2, hl, rfl, by rw [e2]⟩).symm⟩
end Go.Proofs.Ytfknffpfjoalkaa.Joi
