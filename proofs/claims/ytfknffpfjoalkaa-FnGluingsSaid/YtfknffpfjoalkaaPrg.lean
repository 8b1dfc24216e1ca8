/- Gluings: which polygons hang together, as classes; plain lists and numbers. -/
import Derived.Test.YtfknffpfjoalkaaK3
import Derived.Test.YtfknffpfjoalkaaJoi
import Derived.Test.YtfknffpfjoalkaaPrt
namespace Go.Proofs.Ytfknffpfjoalkaa.Joi
open Go.Proofs.Ytfknffpfjoalkaa.Kl Go.Proofs.YtfknffpfjoalkaaW.PrintWords
inductive EG (S : Nat → Nat → Prop) : Nat → Nat → Prop
  | base {a b} : S a b → EG S a b
  | refl (a) : EG S a a
  | symm {a b} : EG S a b → EG S b a
  | trans {a b c} : EG S a b → EG S b c → EG S a c
theorem EG_eqv (S : Nat → Nat → Prop) : Eqv (EG S) := ⟨EG.refl, EG.symm, EG.trans⟩
theorem EG_min {S R : Nat → Nat → Prop} (hR : Eqv R) (h : ∀ a b, S a b → R a b) {a b : Nat} (e : EG S a b) : R a b := by
  induction e with
  | base h1 => exact h _ _ h1
  | refl a => exact hR.refl a
  | symm _ ih => exact hR.symm ih
  | trans _ _ i1 i2 => exact hR.trans i1 i2
def PInv (n : Nat) (S : Nat → Nat → Prop) (xs : List Int) (T : Nat → Nat → Prop) : Prop := xs.length = n ∧ ∃ R, UF xs R ∧ (∀ a b, R a b → EG S a b) ∧ ∀ a b, T a b → R a b
theorem PInv.start (n : Nat) (S : Nat → Nat → Prop) : PInv n S (iota n) (fun _ _ => False) := ⟨iota_length n, Eq, uf_iota n, fun a b e => by subst e; exact EG.refl a, fun _ _ h => h.elim⟩
theorem PInv.weaken {n : Nat} {S T T' : Nat → Nat → Prop} {xs : List Int} (h : PInv n S xs T) (hT : ∀ a b, T' a b → T a b) : PInv n S xs T' := by
  obtain ⟨h1, R, h2, h3, h4⟩ := h
  exact ⟨h1, R, h2, h3, fun a b hab => h4 a b (hT a b hab)⟩
theorem PInv.root {n : Nat} {S T : Nat → Nat → Prop} {xs : List Int} (h : PInv n S xs T) {p : Nat} (hp : p < n) : ∃ r, Kl.Reach xs p r := by
  obtain ⟨h1, R, h2, _⟩ := h
  exact h2.tot p (by omega)
theorem PInv.join {n : Nat} {S T : Nat → Nat → Prop} {xs : List Int} (h : PInv n S xs T) {p q ra rb : Nat} (hp : Kl.Reach xs p ra) (hq : Kl.Reach xs q rb) (hS : EG S p q) : PInv n S (joinL xs ra rb) (fun a b => T a b ∨ (a = p ∧ b = q)) := by
  obtain ⟨h1, R, h2, h3, h4⟩ := h
  refine ⟨by rw [joinL_length, h1], mrg R p q, uf_join h2 hp hq, mrg_min (EG_eqv S) h3 hS, fun a b hab => ?_⟩
  rcases hab with hab | ⟨rfl, rfl⟩
  · exact mrg_of (h4 a b hab)
  · exact mrg_ab h2.eqv a b
theorem PInv.hang {n : Nat} {S T : Nat → Nat → Prop} {xs : List Int} (h : PInv n S xs T) {p q ra rb : Nat} (hp : Kl.Reach xs p ra) (hq : Kl.Reach xs q rb) (hS : EG S p q) : PInv n S (xs.set ra (rb : Int)) (fun a b => T a b ∨ (a = p ∧ b = q)) := by
  obtain ⟨h1, R, h2, h3, h4⟩ := h
  refine ⟨by rw [List.length_set, h1], mrg R p q, h2.join hp hq, mrg_min (EG_eqv S) h3 hS, fun a b hab => ?_⟩
  rcases hab with hab | ⟨rfl, rfl⟩
  · exact mrg_of (h4 a b hab)
  · exact mrg_ab h2.eqv a b
theorem PInv.uf {n : Nat} {S T : Nat → Nat → Prop} {xs : List Int} (h : PInv n S xs T) (hT : ∀ a b, a < n → b < n → EG S a b → EG T a b) : UF xs (EG S) := by
  obtain ⟨h1, R, h2, h3, h4⟩ := h
  refine h2.congr (EG_eqv S) fun a b ha hb => ⟨h3 a b, fun e => ?_⟩
  exact EG_min h2.eqv h4 (hT a b (by omega) (by omega) e)
theorem PInv.count {n : Nat} {S T : Nat → Nat → Prop} {xs : List Int} (h : PInv n S xs T) (hT : ∀ a b, a < n → b < n → EG S a b → EG T a b) : ownsTo xs n = K (EG S) (List.range n) := by
  have := uf_count (h.uf hT)
  rwa [h.1] at this
theorem K_len (R : Nat → Nat → Prop) (l : List Nat) : K R l ≤ l.length := by
  induction l with
  | nil => simp [K]
  | cons a l ih => simp only [K, List.length_cons]; split <;> omega
def Sh (g : List (List Int)) (p q : Nat) : Prop := p < g.length ∧ q < g.length ∧ ∃ x ∈ g.getD p [], ∃ y ∈ g.getD q [], x.natAbs = y.natAbs
noncomputable def partsG (g : List (List Int)) : Nat := K (EG (Sh g)) (List.range g.length)
def GOk (g : List (List Int)) : Prop := g.length ≤ 4 ∧ ∀ p, p < g.length → (g.getD p []).length ≤ 24 ∧ ∀ x ∈ g.getD p [], -8 ≤ x ∧ x ≤ 8
theorem partsG_le (g : List (List Int)) : partsG g ≤ g.length := by
  have := K_len (EG (Sh g)) (List.range g.length)
  rwa [List.length_range] at this
theorem at_row {w : World} {A : Option Addr} {n : Nat} {xs : List (List Int)} (h : Kd.C (Kd.slice 3 (Kd.int .i64)) w A n xs) (i : Nat) (h1 : i < n) : ∃ ad A0 c0, A = some ad ∧ w.cell? (ad.add i) = some (.slice A0 (xs.getD i []).length c0) ∧ (xs.getD i []).length ≤ c0 ∧ (Kd.int .i64).C w A0 (xs.getD i []).length (xs.getD i []) := by
  obtain ⟨ad, c, e, _, hK, hc0⟩ := Kd.C_get h ([] : List Int) (i : Int) (by omega) (by omega)
  have hc : ∀ j u, c[j]? = some u → w.cell? (ad.add (((i : Nat) : Int).toNat * 1 + j)) = some u := hc0
  obtain ⟨A0, c0, rfl, l0, g0⟩ := hK
  exact ⟨ad, A0, c0, e, by have hq := hc 0 _ rfl; rwa [Nat.mul_one, Nat.add_zero, Int.toNat_natCast] at hq, l0, g0⟩
end Go.Proofs.Ytfknffpfjoalkaa.Joi
