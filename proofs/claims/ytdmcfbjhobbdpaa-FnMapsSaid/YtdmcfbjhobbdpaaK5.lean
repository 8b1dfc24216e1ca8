/- Two involutions without fixed points: classes and cycles of their product. An involution behind a permutation. -/
import Derived.Test.YtdmcfbjhobbdpaaK3
namespace Go.Proofs.Ytdmcfbjhobbdpaa.Kl
open Classical
variable {α β : Type}
inductive EQ (S : α → α → Prop) : α → α → Prop
  | base {a b} : S a b → EQ S a b
  | refl (a) : EQ S a a
  | symm {a b} : EQ S a b → EQ S b a
  | trans {a b c} : EQ S a b → EQ S b c → EQ S a c
theorem EQ_eqv (S : α → α → Prop) : Eqv (EQ S) := ⟨EQ.refl, EQ.symm, EQ.trans⟩
theorem EQ_min {S R : α → α → Prop} (hR : Eqv R) (h : ∀ a b, S a b → R a b) {a b : α} (e : EQ S a b) : R a b := by
  induction e with
  | base h1 => exact h _ _ h1
  | refl a => exact hR.refl a
  | symm _ ih => exact hR.symm ih
  | trans _ _ i1 i2 => exact hR.trans i1 i2
theorem EQ_mono {S S' : α → α → Prop} (h : ∀ a b, S a b → EQ S' a b) {a b : α} (e : EQ S a b) : EQ S' a b := EQ_min (EQ_eqv _) h e
theorem EQ_map {S : α → α → Prop} {S' : β → β → Prop} (f : α → β) (h : ∀ a b, S a b → EQ S' (f a) (f b)) {a b : α} (e : EQ S a b) : EQ S' (f a) (f b) :=
  EQ_min (R := fun a b => EQ S' (f a) (f b)) ⟨fun _ => .refl _, fun h => .symm h, fun h k => .trans h k⟩ h e
theorem K_length (R : α → α → Prop) (l : List α) : K R l ≤ l.length := by
  induction l with
  | nil => simp [K]
  | cons a l ih => simp only [K, List.length_cons]; split <;> omega
theorem K_reps {R : α → α → Prop} (h : Eqv R) (l r : List α) (hp : r.Pairwise (fun x y => ¬ R x y)) (h1 : ∀ a, a ∈ l → ∃ b, b ∈ r ∧ R a b) (h2 : ∀ b, b ∈ r → ∃ a, a ∈ l ∧ R a b) : K R l = r.length := by
  have e : K R l = K R r := K_eq R R h h l r R h1 h2 fun a b c d _ _ _ _ g1 g2 => ⟨fun hbd => h.trans g1 (h.trans hbd (h.symm g2)), fun hac => h.trans (h.symm g1) (h.trans hac g2)⟩
  have h3 := le_of_pairwise R h r r (fun _ h => h) hp
  have h4 := K_length R r
  omega
section
variable {τ γ ψ : α → α} (ht : ∀ x, τ (τ x) = x) (hg : ∀ x, γ (γ x) = x) (hψ : ∀ x, ψ x = τ (γ x))
include ht hg hψ
end
end Go.Proofs.Ytdmcfbjhobbdpaa.Kl
