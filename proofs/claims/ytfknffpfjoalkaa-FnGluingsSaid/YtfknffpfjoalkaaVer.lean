/- Gluings: classes of corners and classes of ends of letters are as many. Plain lists and numbers. -/
import Derived.Test.YtfknffpfjoalkaaCor
namespace Go.Proofs.Ytfknffpfjoalkaa.Joi
open Go.Proofs.Ytfknffpfjoalkaa.Kl Go.Proofs.YtfknffpfjoalkaaW.PrintWords
theorem bip_iff (G : Nat → Nat → Prop) {a e c f : Nat} (g1 : G a e) (g2 : G c f) : EG (fun e f => ∃ d, G d e ∧ G d f) e f ↔ EG (fun a b => ∃ e, G a e ∧ G b e) a c := by
 refine ⟨fun h => ?_, fun h => ?_⟩
 ·
  have hQ : Eqv (fun e f : Nat => e = f ∨ ((∃ a, G a e) ∧ (∃ c, G c f) ∧ ∀ a c, G a e → G c f → EG (fun a b => ∃ e, G a e ∧ G b e) a c)) := by
   refine ⟨fun e => .inl rfl, fun h => ?_, fun {x y z} h k => ?_⟩
   ·
    rcases h with h | ⟨x1, x2, x3⟩
    ·
     exact .inl h.symm
    ·
     exact .inr ⟨x2, x1, fun a c ha hc => .symm (x3 c a hc ha)⟩
   ·
    rcases h with rfl | ⟨x1, x2, x3⟩
    ·
     exact k
    ·
     rcases k with rfl | ⟨y1, y2, y3⟩
     ·
      exact .inr ⟨x1, x2, x3⟩
     ·
      obtain ⟨m, hm⟩ := x2
      exact .inr ⟨x1, y2, fun a c ha hc => .trans (x3 a m ha hm) (y3 m c hm hc)⟩
  rcases EG_min hQ (fun e f hb => by
   obtain ⟨d, hd1, hd2⟩ := hb
   exact .inr ⟨⟨d, hd1⟩, ⟨d, hd2⟩, fun a c ha hc => .trans (.base ⟨e, ha, hd1⟩) (.base ⟨f, hd2, hc⟩)⟩) h with rfl | ⟨_, _, h3⟩
  ·
   exact .base ⟨e, g1, g2⟩
  ·
   exact h3 a c g1 g2
 ·
  have hQ : Eqv (fun a c : Nat => a = c ∨ ((∃ e, G a e) ∧ (∃ f, G c f) ∧ ∀ e f, G a e → G c f → EG (fun e f => ∃ d, G d e ∧ G d f) e f)) := by
   refine ⟨fun e => .inl rfl, fun h => ?_, fun {x y z} h k => ?_⟩
   ·
    rcases h with h | ⟨x1, x2, x3⟩
    ·
     exact .inl h.symm
    ·
     exact .inr ⟨x2, x1, fun a c ha hc => .symm (x3 c a hc ha)⟩
   ·
    rcases h with rfl | ⟨x1, x2, x3⟩
    ·
     exact k
    ·
     rcases k with rfl | ⟨y1, y2, y3⟩
     ·
      exact .inr ⟨x1, x2, x3⟩
     ·
      obtain ⟨m, hm⟩ := x2
      exact .inr ⟨x1, y2, fun a c ha hc => .trans (x3 a m ha hm) (y3 m c hm hc)⟩
  rcases EG_min hQ (fun a c hb => by
   obtain ⟨d, hd1, hd2⟩ := hb
   exact .inr ⟨⟨d, hd1⟩, ⟨d, hd2⟩, fun e f he hf => .trans (.base ⟨a, he, hd1⟩) (.base ⟨c, hd2, hf⟩)⟩) h with rfl | ⟨_, _, h3⟩
  ·
   exact .base ⟨a, g1, g2⟩
  ·
   exact h3 e f g1 g2
theorem K_bip (G : Nat → Nat → Prop) (l l' : List Nat) (h1 : ∀ a, a ∈ l → ∃ e, e ∈ l' ∧ G a e) (h2 : ∀ e, e ∈ l' → ∃ a, a ∈ l ∧ G a e) :
  K (EG fun a b => ∃ e, G a e ∧ G b e) l = K (EG fun e f => ∃ d, G d e ∧ G d f) l' :=
 K_eq _ _ (EG_eqv _) (EG_eqv _) l l' G h1 h2 fun _ _ _ _ _ _ _ _ g1 g2 => bip_iff G g1 g2
theorem EG_congr {S S' : Nat → Nat → Prop} (h : ∀ a b, S a b → EG S' a b) (h' : ∀ a b, S' a b → EG S a b) (a b : Nat) : EG S a b ↔ EG S' a b := ⟨EG_min (EG_eqv _) h, EG_min (EG_eqv _) h'⟩
def NZ (g : List (List Int)) : Prop := ∀ p i, Side g p i → ltr g p i ≠ 0
def tailE (g : List (List Int)) (p i : Nat) : Nat := 2 * (ltr g p i).natAbs + if 0 < ltr g p i then 1 else 0
def headE (g : List (List Int)) (p i : Nat) : Nat := 2 * (ltr g p i).natAbs + if ltr g p i < 0 then 1 else 0
def Sl (g : List (List Int)) (e f : Nat) : Prop := ∃ p i, Side g p i ∧ e = tailE g p i ∧ f = headE g p ((i + 1) % (row g p).length)
def Inc (g : List (List Int)) (d e : Nat) : Prop := ∃ p i k, Side g p i ∧ k < 2 ∧ d = endC g p i k ∧ e = 2 * (ltr g p i).natAbs + k
theorem side_next {g : List (List Int)} {p i : Nat} (h : Side g p i) : Side g p ((i + 1) % (row g p).length) := ⟨h.1, Nat.mod_lt _ (by have := h.2; omega)⟩
theorem nxc_cor (g : List (List Int)) (p i : Nat) : nxc g p i = cor g p ((i + 1) % (row g p).length) := rfl
theorem inc_head {g : List (List Int)} {p i : Nat} (h : Side g p i) : Inc g (cor g p i) (headE g p i) := by
 unfold headE
 by_cases hx : ltr g p i < 0
 ·
  exact ⟨p, i, 1, h, by omega, by unfold endC; rw [if_pos (by simp [hx])], by rw [if_pos hx]⟩
 ·
  exact ⟨p, i, 0, h, by omega, by unfold endC; rw [if_pos (by simp [hx])], by rw [if_neg hx]⟩
theorem inc_tail {g : List (List Int)} (hz : NZ g) {p i : Nat} (h : Side g p i) : Inc g (nxc g p i) (tailE g p i) := by
 unfold tailE
 by_cases hx : 0 < ltr g p i
 ·
  exact ⟨p, i, 1, h, by omega, by unfold endC; rw [if_neg (by simp; omega)], by rw [if_pos hx]⟩
 ·
  have := hz p i h
  exact ⟨p, i, 0, h, by omega, by unfold endC; rw [if_neg (by simp; omega)], by rw [if_neg hx]⟩
theorem inc_cases {g : List (List Int)} (hz : NZ g) {d e : Nat} (h : Inc g d e) : ∃ p i, Side g p i ∧ ((d = cor g p i ∧ e = headE g p i) ∨ (d = nxc g p i ∧ e = tailE g p i)) := by
 obtain ⟨p, i, k, hs, hk, rfl, rfl⟩ := h
 have := hz p i hs
 refine ⟨p, i, hs, ?_⟩
 unfold endC headE tailE
 by_cases hx : ltr g p i < 0
 ·
  rcases (show k = 0 ∨ k = 1 by omega) with rfl | rfl
  ·
   right; rw [if_neg (by simp [hx]), if_neg (by omega)]; exact ⟨rfl, rfl⟩
  ·
   left; rw [if_pos (by simp [hx]), if_pos hx]; exact ⟨rfl, rfl⟩
 ·
  rcases (show k = 0 ∨ k = 1 by omega) with rfl | rfl
  ·
   left; rw [if_pos (by simp [hx]), if_neg hx]; exact ⟨rfl, rfl⟩
  ·
   right; rw [if_neg (by simp [hx]), if_pos (by omega)]; exact ⟨rfl, rfl⟩
theorem cor_inj {g : List (List Int)} {p i q j : Nat} (h : Side g p i) (k : Side g q j) (e : cor g p i = cor g q j) : p = q ∧ i = j := by
 have h2 := h.2
 have k2 := k.2
 unfold cor at e
 rcases Nat.lt_trichotomy p q with hpq | rfl | hpq
 ·
  have := fst_mono (g := g) (Nat.le_of_lt k.1) (show p + 1 ≤ q by omega)
  rw [fst_succ h.1] at this
  omega
 ·
  exact ⟨rfl, by omega⟩
 ·
  have := fst_mono (g := g) (Nat.le_of_lt h.1) (show q + 1 ≤ p by omega)
  rw [fst_succ k.1] at this
  omega
theorem cor_all {g : List (List Int)} : ∀ m, m ≤ g.length → ∀ d, d < fst g m → ∃ p i, Side g p i ∧ d = cor g p i := by
 intro m
 induction m with
 | zero => intro _ d hd; rw [fst_zero] at hd; omega
 | succ m ih =>
  intro hm d hd
  rw [fst_succ (by omega)] at hd
  by_cases h : d < fst g m
  ·
   exact ih (by omega) d h
  ·
   exact ⟨m, d - fst g m, ⟨by omega, by omega⟩, by unfold cor; omega⟩
theorem mod_inj {n i j : Nat} (hi : i < n) (hj : j < n) (e : (i + 1) % n = (j + 1) % n) : i = j := by
 by_cases h1 : i + 1 < n
 ·
  rw [Nat.mod_eq_of_lt h1] at e
  by_cases h2 : j + 1 < n
  ·
   rw [Nat.mod_eq_of_lt h2] at e; omega
  ·
   have h3 : j + 1 = n := by omega
   rw [h3, Nat.mod_self] at e; omega
 ·
  have h3 : i + 1 = n := by omega
  rw [h3, Nat.mod_self] at e
  by_cases h2 : j + 1 < n
  ·
   rw [Nat.mod_eq_of_lt h2] at e; omega
  ·
   omega
theorem sl_inc {g : List (List Int)} (hz : NZ g) {d e f : Nat} (h : Inc g d e) (k : Inc g d f) : EG (Sl g) e f := by
 obtain ⟨p, i, hs, h⟩ := inc_cases hz h
 obtain ⟨q, j, ht, k⟩ := inc_cases hz k
 rcases h with ⟨rfl, rfl⟩ | ⟨rfl, rfl⟩
 ·
  rcases k with ⟨k1, rfl⟩ | ⟨k1, rfl⟩
  ·
   obtain ⟨rfl, rfl⟩ := cor_inj hs ht k1
   exact .refl _
  ·
   rw [nxc_cor] at k1
   obtain ⟨rfl, rfl⟩ := cor_inj hs (side_next ht) k1
   exact .symm (.base ⟨p, j, ht, rfl, rfl⟩)
 ·
  rw [nxc_cor] at k
  rcases k with ⟨k1, rfl⟩ | ⟨k1, rfl⟩
  ·
   obtain ⟨rfl, rfl⟩ := cor_inj (side_next hs) ht k1
   exact .base ⟨p, i, hs, rfl, rfl⟩
  ·
   rw [nxc_cor] at k1
   obtain ⟨rfl, h2⟩ := cor_inj (side_next hs) (side_next ht) k1
   obtain rfl := mod_inj hs.2 ht.2 h2
   exact .refl _
theorem sc_inc (g : List (List Int)) (a b : Nat) : EG (Sc g) a b ↔ EG (fun a b => ∃ e, Inc g a e ∧ Inc g b e) a b :=
 EG_congr (fun a b h => by
   obtain ⟨p, i, q, j, k, hs, ht, he, hk, rfl, rfl⟩ := h
   exact .base ⟨_, ⟨p, i, k, hs, hk, rfl, rfl⟩, ⟨q, j, k, ht, hk, rfl, by rw [he]⟩⟩) (fun a b h => by
   obtain ⟨e, ⟨p, i, k, hs, hk, rfl, he⟩, ⟨q, j, m, ht, hm, rfl, hf⟩⟩ := h
   obtain rfl : k = m := by omega
   exact .base ⟨p, i, q, j, k, hs, ht, by omega, hk, rfl, rfl⟩) a b
theorem sl_iff {g : List (List Int)} (hz : NZ g) (e f : Nat) : EG (Sl g) e f ↔ EG (fun e f => ∃ d, Inc g d e ∧ Inc g d f) e f :=
 EG_congr (fun e f h => by
   obtain ⟨p, i, hs, rfl, rfl⟩ := h
   exact .base ⟨_, inc_tail hz hs, by rw [nxc_cor]; exact inc_head (side_next hs)⟩) (fun e f h => by
   obtain ⟨d, h1, h2⟩ := h
   exact sl_inc hz h1 h2) e f
theorem inc_iff {g : List (List Int)} (hz : NZ g) {a e c f : Nat} (g1 : Inc g a e) (g2 : Inc g c f) : EG (Sl g) e f ↔ EG (Sc g) a c := by
 rw [sl_iff hz, sc_inc, bip_iff (Inc g) g1 g2]
theorem verts_ends {g : List (List Int)} (hz : NZ g) (l : List Nat) (hl : ∀ e, e ∈ l ↔ ∃ d, Inc g d e) : K (EG (Sl g)) l = vertsN g := by
 have hlt : ∀ d e, Inc g d e → d < sidesN g := fun d e h => by obtain ⟨p, i, k, hs, _, rfl, _⟩ := h; exact endC_lt hs k
 have := K_bip (Inc g) (List.range (sidesN g)) l (fun a ha => by
  obtain ⟨p, i, hs, rfl⟩ := cor_all g.length (Nat.le_refl _) a (List.mem_range.1 ha)
  exact ⟨_, (hl _).2 ⟨_, inc_head hs⟩, inc_head hs⟩) (fun e he => by
  obtain ⟨d, hd⟩ := (hl e).1 he
  exact ⟨d, List.mem_range.2 (hlt d e hd), hd⟩)
 unfold vertsN
 rw [K_congr (EG (Sc g)) (EG fun a b => ∃ e, Inc g a e ∧ Inc g b e) (EG_eqv _) (EG_eqv _) _ (List.range (sidesN g)) (fun _ => Iff.rfl) (fun a b _ _ => EG_congr (fun a b h => by
   obtain ⟨p, i, q, j, k, hs, ht, he, hk, rfl, rfl⟩ := h
   exact .base ⟨_, ⟨p, i, k, hs, hk, rfl, rfl⟩, ⟨q, j, k, ht, hk, rfl, by rw [he]⟩⟩) (fun a b h => by
   obtain ⟨e, ⟨p, i, k, hs, hk, rfl, he⟩, ⟨q, j, m, ht, hm, rfl, hf⟩⟩ := h
   obtain rfl : k = m := by omega
   exact .base ⟨p, i, q, j, k, hs, ht, by omega, hk, rfl, rfl⟩) a b), this]
 exact K_congr _ _ (EG_eqv _) (EG_eqv _) l l (fun _ => Iff.rfl) (fun a b _ _ => EG_congr (fun e f h => by
   obtain ⟨p, i, hs, rfl, rfl⟩ := h
   exact .base ⟨_, inc_tail hz hs, by rw [nxc_cor]; exact inc_head (side_next hs)⟩) (fun e f h => by
   obtain ⟨d, h1, h2⟩ := h
   exact sl_inc hz h1 h2) a b)
theorem sl_in {g : List (List Int)} (hz : NZ g) {e f : Nat} (h : EG (Sl g) e f) : e = f ∨ ((∃ d, Inc g d e) ∧ ∃ d, Inc g d f) := by
 refine EG_min (R := fun e f => e = f ∨ ((∃ d, Inc g d e) ∧ ∃ d, Inc g d f)) ⟨fun _ => .inl rfl, fun h => ?_, fun h k => ?_⟩ (fun e f h => ?_) h
 ·
  rcases h with h | ⟨h1, h2⟩
  ·
   exact .inl h.symm
  ·
   exact .inr ⟨h2, h1⟩
 ·
  rcases h with rfl | ⟨h1, h2⟩
  ·
   exact k
  ·
   rcases k with rfl | ⟨k1, k2⟩
   ·
    exact .inr ⟨h1, h2⟩
   ·
    exact .inr ⟨h1, k2⟩
 ·
  obtain ⟨p, i, hs, rfl, rfl⟩ := h
  exact .inr ⟨⟨_, inc_tail hz hs⟩, ⟨_, inc_head (side_next hs)⟩⟩
end Go.Proofs.Ytfknffpfjoalkaa.Joi
