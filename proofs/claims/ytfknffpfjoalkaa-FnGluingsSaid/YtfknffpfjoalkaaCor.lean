/- Gluings: corners, ends of letters, and the classes of corners; plain lists and numbers. -/
import Derived.Test.YtfknffpfjoalkaaPrg
namespace Go.Proofs.Ytfknffpfjoalkaa.Joi
open Go.Proofs.Ytfknffpfjoalkaa.Kl Go.Proofs.YtfknffpfjoalkaaW.PrintWords
def row (g : List (List Int)) (p : Nat) : List Int := g.getD p []
def fst (g : List (List Int)) (p : Nat) : Nat := ((g.take p).map List.length).sum
theorem fst_zero (g : List (List Int)) : fst g 0 = 0 := rfl
theorem fst_succ {g : List (List Int)} {p : Nat} (h : p < g.length) : fst g (p + 1) = fst g p + (row g p).length := by
  unfold fst row
  rw [List.take_succ_eq_append_getElem h, List.map_append, List.sum_append]
  simp [List.getD_eq_getElem?_getD, h]
theorem fst_mono {g : List (List Int)} {p q : Nat} (hq : q ≤ g.length) (h : p ≤ q) : fst g p ≤ fst g q := by
  induction q with
  | zero => obtain rfl : p = 0 := by omega
            exact Nat.le_refl _
  | succ q ih =>
    rcases Nat.lt_or_eq_of_le h with h1 | rfl
    · have := ih (by omega) (by omega)
      rw [fst_succ (by omega)]; omega
    · exact Nat.le_refl _
def Side (g : List (List Int)) (p i : Nat) : Prop := p < g.length ∧ i < (row g p).length
def sidesN (g : List (List Int)) : Nat := fst g g.length
theorem side_lt {g : List (List Int)} {p i : Nat} (h : Side g p i) : fst g p + (row g p).length ≤ sidesN g := by
  rw [← fst_succ h.1]
  exact fst_mono (Nat.le_refl _) h.1
def ltr (g : List (List Int)) (p i : Nat) : Int := rd (row g p) (i : Int)
def cor (g : List (List Int)) (p i : Nat) : Nat := fst g p + i
def nxc (g : List (List Int)) (p i : Nat) : Nat := fst g p + (i + 1) % (row g p).length
def endC (g : List (List Int)) (p i k : Nat) : Nat := if (ltr g p i < 0) ↔ k = 1 then cor g p i else nxc g p i
theorem endC_lt {g : List (List Int)} {p i : Nat} (h : Side g p i) (k : Nat) : endC g p i k < sidesN g := by
  have h1 := side_lt h
  have h2 := h.2
  have h3 : (i + 1) % (row g p).length < (row g p).length := Nat.mod_lt _ (by omega)
  unfold endC cor nxc
  split <;> omega
def Sc (g : List (List Int)) (a b : Nat) : Prop := ∃ p i q j k, Side g p i ∧ Side g q j ∧ (ltr g p i).natAbs = (ltr g q j).natAbs ∧ k < 2 ∧ a = endC g p i k ∧ b = endC g q j k
noncomputable def vertsN (g : List (List Int)) : Nat := K (EG (Sc g)) (List.range (sidesN g))
def CorOk (g : List (List Int)) : Prop := g.length ≤ 4 ∧ (∀ p, p < g.length → 0 < (row g p).length ∧ (row g p).length ≤ 24 ∧ ∀ x ∈ row g p, -8 ≤ x ∧ x ≤ 8) ∧ sidesN g ≤ 96
theorem ltr_ok {g : List (List Int)} (h : CorOk g) {p i : Nat} (hs : Side g p i) : -8 ≤ ltr g p i ∧ ltr g p i ≤ 8 := by
  have := (h.2.1 p hs.1).2.2
  unfold ltr
  rw [Go.Proofs.Ytfknffpfjoalkaa.Com.rd_lt hs.2]
  exact this _ (List.getElem_mem hs.2)
def MetN (p i k : Nat) (q j l : Nat) : Prop := q < p ∨ q = p ∧ (j < i ∨ j = i ∧ l < k)
def CInv (g : List (List Int)) (ats xs : List Int) (D : Nat → Nat → Nat → Prop) : Prop :=
  xs.length = sidesN g ∧ ats.length = 18 ∧ ∃ R, UF xs R ∧ (∀ a b, R a b → EG (Sc g) a b) ∧ ∀ y k, y < 9 → k < 2 →
    (rd ats ((y * 2 + k : Nat) : Int) = -1 ∧ ∀ q j, Side g q j → D q j k → (ltr g q j).natAbs ≠ y) ∨
    (∃ p i, Side g p i ∧ (ltr g p i).natAbs = y ∧ rd ats ((y * 2 + k : Nat) : Int) = ((endC g p i k : Nat) : Int) ∧ ∀ q j, Side g q j → D q j k → (ltr g q j).natAbs = y → R (endC g p i k) (endC g q j k))
theorem CInv.weaken {g : List (List Int)} {ats xs : List Int} {D D' : Nat → Nat → Nat → Prop} (h : CInv g ats xs D) (hD : ∀ q j k, Side g q j → k < 2 → D' q j k → D q j k) : CInv g ats xs D' := by
  obtain ⟨h1, h2, R, h3, h4, h5⟩ := h
  refine ⟨h1, h2, R, h3, h4, fun y k hy hk => ?_⟩
  rcases h5 y k hy hk with ⟨h6, h7⟩ | ⟨p, i, h6, h7, h8, h9⟩
  · exact .inl ⟨h6, fun q j hs hd => h7 q j hs (hD q j k hs hk hd)⟩
  · exact .inr ⟨p, i, h6, h7, h8, fun q j hs hd => h9 q j hs (hD q j k hs hk hd)⟩
theorem CInv.start (g : List (List Int)) : CInv g (List.replicate 18 (-1)) (iota (sidesN g)) (fun _ _ _ => False) := by
  refine ⟨iota_length _, by simp, Eq, uf_iota _, fun a b e => by subst e; exact EG.refl a, fun y k hy hk => .inl ⟨?_, fun _ _ _ h => h.elim⟩⟩
  rw [Go.Proofs.Ytfknffpfjoalkaa.Com.rd_lt (by rw [List.length_replicate]; omega), List.getElem_replicate]
theorem CInv.root {g : List (List Int)} {ats xs : List Int} {D : Nat → Nat → Nat → Prop} (h : CInv g ats xs D) {c : Nat} (hc : c < sidesN g) : ∃ r, Kl.Reach xs c r := by
  obtain ⟨h1, _, R, h2, _⟩ := h
  exact h2.tot c (by omega)
theorem CInv.put {g : List (List Int)} {ats xs : List Int} {D : Nat → Nat → Nat → Prop} (h : CInv g ats xs D) {p i k y : Nat} (hs : Side g p i) (hk : k < 2) (hy : (ltr g p i).natAbs = y) (hy9 : y < 9) (hn : rd ats ((y * 2 + k : Nat) : Int) < 0) : CInv g (ats.set (y * 2 + k) ((endC g p i k : Nat) : Int)) xs D := by
  obtain ⟨h1, h2, R, h3, h4, h5⟩ := h
  refine ⟨h1, by rw [List.length_set, h2], R, h3, h4, fun z l hz hl => ?_⟩
  by_cases e : z = y ∧ l = k
  · obtain ⟨rfl, rfl⟩ := e
    rcases h5 z l hz hl with ⟨h6, h7⟩ | ⟨q, j, _, _, h8, _⟩
    · refine .inr ⟨p, i, hs, hy, ?_, fun q j hq hd e => (h7 q j hq hd e).elim⟩
      rw [Go.Proofs.Ytfknffpfjoalkaa.Com.rd_lt (by rw [List.length_set]; omega), List.getElem_set_self]
    · rw [h8] at hn; omega
  · have hne : y * 2 + k ≠ z * 2 + l := by omega
    have hr : rd (ats.set (y * 2 + k) ((endC g p i k : Nat) : Int)) ((z * 2 + l : Nat) : Int) = rd ats ((z * 2 + l : Nat) : Int) := by
      simp only [rd, List.getD_eq_getElem?_getD, Int.toNat_natCast]
      rw [List.getElem?_set_ne hne]
    rw [hr]
    exact h5 z l hz hl
theorem CInv.join {g : List (List Int)} {ats xs : List Int} {D : Nat → Nat → Nat → Prop} (h : CInv g ats xs D) {p i k y : Nat} (hs : Side g p i) (hk : k < 2) (hy : (ltr g p i).natAbs = y) (hy9 : y < 9) (hn : ¬ rd ats ((y * 2 + k : Nat) : Int) < 0) :
    ∃ c : Nat, c < sidesN g ∧ rd ats ((y * 2 + k : Nat) : Int) = (c : Int) ∧ ∀ ra rb, Kl.Reach xs c ra → Kl.Reach xs (endC g p i k) rb → CInv g ats (joinL xs ra rb) (fun q j l => D q j l ∨ (q = p ∧ j = i ∧ l = k)) := by
  obtain ⟨h1, h2, R, h3, h4, h5⟩ := h
  rcases h5 y k hy9 hk with ⟨h6, _⟩ | ⟨p0, i0, s0, y0, h6, h7⟩
  · rw [h6] at hn; omega
  refine ⟨endC g p0 i0 k, endC_lt s0 k, h6, fun ra rb hra hrb => ?_⟩
  have hE : EG (Sc g) (endC g p0 i0 k) (endC g p i k) := .base ⟨p0, i0, p, i, k, s0, hs, by rw [y0, hy], hk, rfl, rfl⟩
  refine ⟨by rw [joinL_length, h1], h2, mrg R (endC g p0 i0 k) (endC g p i k), uf_join h3 hra hrb, mrg_min (EG_eqv _) h4 hE, fun z l hz hl => ?_⟩
  rcases h5 z l hz hl with ⟨g1, g2⟩ | ⟨p1, i1, s1, y1, g1, g2⟩
  · refine .inl ⟨g1, fun q j hq hd => ?_⟩
    rcases hd with hd | ⟨rfl, rfl, rfl⟩
    · exact g2 q j hq hd
    · intro e
      rw [hy] at e
      subst e
      rw [g1] at hn; omega
  · refine .inr ⟨p1, i1, s1, y1, g1, fun q j hq hd e => ?_⟩
    rcases hd with hd | ⟨rfl, rfl, rfl⟩
    · exact mrg_of (g2 q j hq hd e)
    · obtain rfl : z = y := by rw [← e, hy]
      have : endC g p1 i1 l = endC g p0 i0 l := by rw [h6] at g1; exact (Int.ofNat.inj g1).symm
      rw [this]
      exact mrg_ab h3.eqv _ _
theorem CInv.done {g : List (List Int)} {ats xs : List Int} {D : Nat → Nat → Nat → Prop} (h : CInv g ats xs D) (hc : CorOk g) (hD : ∀ q j k, Side g q j → k < 2 → D q j k) : UF xs (EG (Sc g)) := by
  obtain ⟨h1, h2, R, h3, h4, h5⟩ := h
  refine h3.congr (EG_eqv _) fun a b _ _ => ⟨h4 a b, fun e => EG_min h3.eqv (fun a b hs => ?_) e⟩
  obtain ⟨p, i, q, j, k, s1, s2, he, hk, rfl, rfl⟩ := hs
  have hy : (ltr g p i).natAbs < 9 := by have := ltr_ok hc s1; omega
  rcases h5 _ k hy hk with ⟨_, h7⟩ | ⟨p0, i0, _, _, _, h9⟩
  · exact (h7 p i s1 (hD p i k s1 hk) rfl).elim
  · exact h3.eqv.trans (h3.eqv.symm (h9 p i s1 (hD p i k s1 hk) rfl)) (h9 q j s2 (hD q j k s2 hk) he.symm)
theorem met_k (p i k : Nat) (q j l : Nat) (h : MetN p i (k + 1) q j l) : MetN p i k q j l ∨ (q = p ∧ j = i ∧ l = k) := by unfold MetN at *; omega
theorem met_i (p i : Nat) (q j l : Nat) (hl : l < 2) (h : MetN p (i + 1) 0 q j l) : MetN p i 2 q j l := by unfold MetN at *; omega
theorem met_p {g : List (List Int)} (p : Nat) (q j l : Nat) (hs : Side g q j) (h : MetN (p + 1) 0 0 q j l) : MetN p (row g p).length 0 q j l := by
  have := hs.2
  unfold MetN at *
  by_cases e : q = p
  · subst e; omega
  · omega
theorem met_all {g : List (List Int)} (q j l : Nat) (hs : Side g q j) : MetN g.length 0 0 q j l := .inl hs.1
end Go.Proofs.Ytfknffpfjoalkaa.Joi
