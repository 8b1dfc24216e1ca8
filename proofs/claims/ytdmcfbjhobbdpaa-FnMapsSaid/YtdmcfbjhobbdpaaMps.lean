/- Maps: vertices, faces and parts of a permutation of darts; what taking an edge out, putting one on an edge, the dual and the mirror do to them. Plain lists and numbers. -/
import Derived.Test.YtdmcfbjhobbdpaaDrp
import Derived.Test.YtdmcfbjhobbdpaaK7
namespace Go.Proofs.Ytdmcfbjhobbdpaa.Joi
open Classical Go.Proofs.Ytdmcfbjhobbdpaa.Kl Go.Proofs.YtdmcfbjhobbdpaaW.PrintWords
set_option linter.unusedSectionVars false
set_option linter.unusedVariables false
section
variable {α β : Type}
theorem EQ_on {S : α → α → Prop} {S' : β → β → Prop} {A : α → Prop} (f : α → β) (hA : ∀ a b, S a b → (A a ↔ A b)) (hf : ∀ a b, A a → S a b → EQ S' (f a) (f b)) {a b : α} (ha : A a) (h : EQ S a b) : A b ∧ EQ S' (f a) (f b) := by
  have hQ : Eqv (fun a b : α => (A a ↔ A b) ∧ (A a → EQ S' (f a) (f b))) :=
    ⟨fun _ => ⟨Iff.rfl, fun _ => .refl _⟩, fun ⟨h1, h2⟩ => ⟨h1.symm, fun hb => .symm (h2 (h1.2 hb))⟩, fun ⟨h1, h2⟩ ⟨g1, g2⟩ => ⟨h1.trans g1, fun ha => .trans (h2 ha) (g2 (h1.1 ha))⟩⟩
  have := EQ_min hQ (fun a b hS => ⟨hA a b hS, fun ha => hf a b ha hS⟩) h
  exact ⟨this.1.1 ha, this.2 ha⟩
theorem K_iso {S : α → α → Prop} {S' : β → β → Prop} {A : α → Prop} {B : β → Prop} (f : α → β) (g : β → α) (hA : ∀ a b, S a b → (A a ↔ A b)) (hB : ∀ a b, S' a b → (B a ↔ B b))
    (hf : ∀ a b, A a → S a b → EQ S' (f a) (f b)) (hg : ∀ u v, B u → S' u v → EQ S (g u) (g v)) (fB : ∀ a, A a → B (f a)) (gA : ∀ b, B b → A (g b)) (gf : ∀ a, A a → EQ S (g (f a)) a) (fg : ∀ b, B b → EQ S' (f (g b)) b)
    (l : List α) (l' : List β) (hl : ∀ a, a ∈ l ↔ A a) (hl' : ∀ b, b ∈ l' ↔ B b) : K (EQ S) l = K (EQ S') l' := by
  refine K_eq _ _ (EQ_eqv _) (EQ_eqv _) l l' (fun a b => EQ S' (f a) b) ?_ ?_ ?_
  · intro a ha; exact ⟨f a, (hl' _).2 (fB a ((hl a).1 ha)), .refl _⟩
  · intro b hb; exact ⟨g b, (hl _).2 (gA b ((hl' b).1 hb)), fg b ((hl' b).1 hb)⟩
  · intro a b c d ha hc hb hd h1 h2
    have ha' := (hl a).1 ha
    have hc' := (hl c).1 hc
    constructor
    · intro h
      have h3 : EQ S' (f a) (f c) := .trans h1 (.trans h (.symm h2))
      exact .trans (.symm (gf a ha')) (.trans (EQ_on g hB hg (fB a ha') h3).2 (gf c hc'))
    · intro h
      exact .trans (.symm h1) (.trans (EQ_on f hA hf ha' h).2 h2)
theorem cyc_EQ {σ : α → α} (h : Perm σ) (x y : α) : Cyc σ x y ↔ EQ (fun a b => b = σ a) x y :=
  ⟨fun k => cyc_min (S := EQ (fun a b => b = σ a)) (EQ_eqv _) (fun _ => .base rfl) x y k, EQ_min (cyc_eqv h) (by rintro a b rfl; exact cyc_step σ a)⟩
theorem K_cyc {σ : α → α} (h : Perm σ) (l : List α) : K (Cyc σ) l = K (EQ (fun a b => b = σ a)) l := K_congr _ _ (cyc_eqv h) (EQ_eqv _) l l (fun _ => Iff.rfl) fun a b _ _ => cyc_EQ h a b
end
def PerN (n : Nat) (σ : Nat → Nat) : Prop := (∀ x y, σ x = σ y → x = y) ∧ (∀ x, x < n → σ x < n) ∧ ∀ x, ¬ x < n → σ x = x
theorem PerN.perm {n : Nat} {σ : Nat → Nat} (h : PerN n σ) : Perm σ := perm_of_list h.1 (List.range n) (fun x hx => List.mem_range.2 (h.2.1 x (List.mem_range.1 hx))) (fun x hx => h.2.2 x (fun k => hx (List.mem_range.2 k)))
theorem PerN.comp {n : Nat} {σ τ : Nat → Nat} (h : PerN n σ) (k : PerN n τ) : PerN n (fun x => σ (τ x)) := ⟨fun x y e => k.1 _ _ (h.1 _ _ e), fun x hx => h.2.1 _ (k.2.1 x hx), fun x hx => by show σ (τ x) = x; rw [k.2.2 x hx, h.2.2 x hx]⟩
theorem PerN.pre {n : Nat} {σ : Nat → Nat} (h : PerN n σ) {x : Nat} (hx : x < n) : ∃ p, p < n ∧ σ p = x := by
  obtain ⟨k, hk, e⟩ := h.perm.per x
  obtain ⟨j, rfl⟩ : ∃ j, k = j + 1 := ⟨k - 1, by omega⟩
  refine ⟨it σ j x, ?_, e⟩
  by_cases hj : it σ j x < n
  · exact hj
  · have := h.2.2 _ hj
    have e' : σ (it σ j x) = x := e
    rw [this] at e'
    rw [e'] at hj
    exact absurd hx hj
theorem PerN.lt_iff {n : Nat} {σ : Nat → Nat} (h : PerN n σ) (x : Nat) : x < n ↔ σ x < n := by
  constructor
  · exact h.2.1 x
  · intro k
    by_cases hx : x < n
    · exact hx
    · rw [h.2.2 x hx] at k; exact k
def cutF (σ : Nat → Nat) (x d : Nat) : Nat := if d = x then x else if σ d = x then σ x else σ d
theorem cutF_sw {n : Nat} {σ : Nat → Nat} (h : PerN n σ) {x p : Nat} (hp : σ p = x) (d : Nat) : cutF σ x d = σ (sw p x d) := by
  unfold cutF
  by_cases h1 : d = x
  · subst h1; rw [if_pos rfl, sw_b, hp]
  · rw [if_neg h1]
    by_cases h2 : σ d = x
    · have : d = p := h.1 _ _ (h2.trans hp.symm)
      subst this
      rw [if_pos h2, sw_a]
    · have : d ≠ p := fun e => h2 (by rw [e, hp])
      rw [if_neg h2, sw_ne this h1]
theorem cutF_per {n : Nat} {σ : Nat → Nat} (h : PerN n σ) {x : Nat} (hx : x < n) : PerN n (cutF σ x) := by
  obtain ⟨p, hpn, hp⟩ := h.pre hx
  have e := cutF_sw h hp
  refine ⟨fun a b hab => ?_, fun a ha => ?_, fun a ha => ?_⟩
  · rw [e, e] at hab
    have := h.1 _ _ hab
    rw [← sw_sw p x a, this, sw_sw]
  · rw [e]
    refine h.2.1 _ ?_
    by_cases h1 : a = p
    · subst h1; rw [sw_a]; exact hx
    · by_cases h2 : a = x
      · subst h2; rw [sw_b]; exact hpn
      · rw [sw_ne h1 h2]; exact ha
  · rw [e, sw_ne (by omega) (by omega), h.2.2 a ha]
noncomputable def cK (n : Nat) (σ : Nat → Nat) : Nat := K (EQ (fun a b => b = σ a)) (List.range n)
noncomputable def fK (n : Nat) (σ ε : Nat → Nat) : Nat := K (EQ (fun a b => b = σ (ε a))) (List.range n)
noncomputable def pK (n : Nat) (σ ε : Nat → Nat) : Nat := K (EQ (fun a b => b = σ a ∨ b = ε a)) (List.range n)
theorem cut_le {n : Nat} {σ ε : Nat → Nat} (h : PerN n σ) (k : PerN n ε) (hε : ∀ x, ε (ε x) = x) {x : Nat} (hx : x < n) :
    2 * pK n (cutF σ x) ε + cK n σ + fK n σ ε ≤ 2 * pK n σ ε + cK n (cutF σ x) + fK n (cutF σ x) ε := by
  obtain ⟨p, hpn, hp⟩ := h.pre hx
  have e := cutF_sw h hp
  have h' := cutF_per h hx
  by_cases hpx : p = x
  · have : cutF σ x = σ := by
      funext d
      rw [e, hpx]
      by_cases hd : d = x
      · subst hd; rw [sw_a]
      · rw [sw_ne hd hd]
    rw [this]; omega
  · unfold cK fK pK
    rw [← K_cyc h.perm, ← K_cyc h'.perm, ← K_cyc (h.comp k).perm, ← K_cyc (h'.comp k).perm]
    have c1 := swap_split h.perm h'.perm hpx e (List.range n) (List.mem_range.2 hpn) (List.mem_range.2 hx) ⟨1, hp⟩
    -- faces
    have ef : ∀ d, cutF σ x (ε d) = σ (ε (sw (ε p) (ε x) d)) := fun d => by
      rw [e]
      congr 1
      by_cases h1 : d = ε p
      · subst h1; rw [hε, sw_a, sw_a, hε]
      · by_cases h2 : d = ε x
        · subst h2; rw [hε, sw_b, sw_b, hε]
        · rw [sw_ne h1 h2, sw_ne (fun q => h1 (by rw [← q, hε])) (fun q => h2 (by rw [← q, hε]))]
    have hne : ε p ≠ ε x := fun q => hpx (k.1 _ _ q)
    have m1 : ε p ∈ List.range n := List.mem_range.2 (k.2.1 p hpn)
    have m2 : ε x ∈ List.range n := List.mem_range.2 (k.2.1 x hx)
    -- parts: merged with the pair they are the old ones
    have hsub : ∀ a b, EQ (fun a b => b = σ a ∨ b = ε a) a b → mrg (EQ (fun a b => b = cutF σ x a ∨ b = ε a)) p x a b := by
      intro a b hab
      have hE := mrg_eqv (EQ_eqv (fun a b => b = cutF σ x a ∨ b = ε a)) p x
      refine EQ_min hE ?_ hab
      rintro a b (rfl | rfl)
      · have e2 : σ a = cutF σ x (sw p x a) := by rw [e, sw_sw]
        rw [e2]
        refine hE.trans ?_ (.inl (.base (.inl rfl)))
        by_cases h1 : a = p
        · subst h1; rw [sw_a]; exact mrg_ab (EQ_eqv _) _ _
        · by_cases h2 : a = x
          · subst h2; rw [sw_b]; exact hE.symm (mrg_ab (EQ_eqv _) _ _)
          · rw [sw_ne h1 h2]; exact hE.refl a
      · exact .inl (.base (.inr rfl))
    have hge : K (EQ (fun a b => b = cutF σ x a ∨ b = ε a)) (List.range n) ≤ K (mrg (EQ (fun a b => b = cutF σ x a ∨ b = ε a)) p x) (List.range n) + 1 := by
      by_cases hr : EQ (fun a b => b = cutF σ x a ∨ b = ε a) p x
      · rw [K_mrg_same (EQ_eqv _) hr]; omega
      · rw [K_mrg_apart (EQ_eqv _) hr (List.range n) (List.mem_range.2 hpn) (List.mem_range.2 hx)]; omega
    have hle : K (mrg (EQ (fun a b => b = cutF σ x a ∨ b = ε a)) p x) (List.range n) ≤ K (EQ (fun a b => b = σ a ∨ b = ε a)) (List.range n) :=
      K_le_of_imp _ _ (EQ_eqv _) (mrg_eqv (EQ_eqv _) p x) _ fun a b _ _ hab => hsub a b hab
    by_cases hc : Cyc (fun d => σ (ε d)) (ε p) (ε x)
    · have c2 := swap_split (h.comp k).perm (h'.comp k).perm hne ef (List.range n) m1 m2 hc
      omega
    · have c2 := swap_join (h.comp k).perm (h'.comp k).perm hne ef (List.range n) m1 m2 hc
      have hcyc : Cyc (fun d => cutF σ x (ε d)) (ε p) (ε x) := by
        have := swap_parts (h.comp k).perm (h'.comp k).perm hne ef
        by_cases q : Cyc (fun d => cutF σ x (ε d)) (ε p) (ε x)
        · exact q
        · exact absurd (this.2 q) hc
      have hpx2 : EQ (fun a b => b = cutF σ x a ∨ b = ε a) p x := by
        have h1 : EQ (fun a b => b = cutF σ x a ∨ b = ε a) (ε p) (ε x) := cyc_min (EQ_eqv _) (fun d => .trans (.base (.inr rfl)) (.base (.inl rfl))) _ _ hcyc
        exact .trans (.base (.inr rfl)) (.trans h1 (.symm (.base (.inr rfl))))
      rw [K_mrg_same (EQ_eqv _) hpx2] at hle
      omega
def sgL (l : List Int) (d : Nat) : Nat := if d < l.length then nx l d else d
def epN (n d : Nat) : Nat := if d < n then mtN d else d
theorem sgL_lt {l : List Int} {d : Nat} (h : d < l.length) : sgL l d = nx l d := if_pos h
theorem epN_lt {n d : Nat} (h : d < n) : epN n d = mtN d := if_pos h
theorem sgL_per {l : List Int} (h : PermOk l) : PerN l.length (sgL l) := by
  refine ⟨fun x y e => ?_, fun x hx => ?_, fun x hx => if_neg hx⟩
  · unfold sgL at e
    by_cases hx : x < l.length
    · by_cases hy : y < l.length
      · rw [if_pos hx, if_pos hy] at e; exact nx_inj h hx hy e
      · rw [if_pos hx, if_neg hy] at e; have := (nx_lt h.1 hx).1; omega
    · by_cases hy : y < l.length
      · rw [if_neg hx, if_pos hy] at e; have := (nx_lt h.1 hy).1; omega
      · rw [if_neg hx, if_neg hy] at e; exact e
  · rw [sgL_lt hx]; exact (nx_lt h.1 hx).1
theorem epN_ep {n : Nat} (hn : n % 2 = 0) (d : Nat) : epN n (epN n d) = d := by
  unfold epN mtN
  by_cases h : d < n
  · rw [if_pos h]
    by_cases h2 : d % 2 = 0
    · rw [if_pos h2, if_pos (by omega), if_neg (by omega)]; omega
    · rw [if_neg h2, if_pos (by omega), if_pos (by omega)]; omega
  · rw [if_neg h, if_neg h]
theorem epN_per {n : Nat} (hn : n % 2 = 0) : PerN n (epN n) := by
  refine ⟨fun x y e => by rw [← epN_ep hn x, e, epN_ep hn], fun x hx => ?_, fun x hx => if_neg hx⟩
  rw [epN_lt hx]; unfold mtN; split <;> omega
noncomputable def cL (l : List Int) : Nat := cK l.length (sgL l)
noncomputable def fL (l : List Int) : Nat := fK l.length (sgL l) (epN l.length)
noncomputable def pL (l : List Int) : Nat := pK l.length (sgL l) (epN l.length)
theorem partsN_eq {l : List Int} (h : MapOk l) : partsN l = pL l := by
  have hE : ∀ k, Eqv (relM l k) := by
    intro k
    induction k with
    | zero => exact ⟨fun _ => rfl, fun h => h.symm, fun h k => h.trans k⟩
    | succ k ih => exact mrg_eqv (mrg_eqv ih _ _) _ _
  have up : ∀ k x y, relM l k x y → relM l (k + 1) x y := fun k x y h => .inl (.inl h)
  have hs : ∀ d k, d < k → relM l k d (rd l d).toNat ∧ relM l k d (mtN d) := by
    intro d k
    induction k with
    | zero => intro h; omega
    | succ k ih =>
      intro hd
      by_cases e : d = k
      · subst e
        exact ⟨.inl (mrg_ab (hE d) _ _), mrg_ab (mrg_eqv (hE d) _ _) _ _⟩
      · have := ih (by omega)
        exact ⟨up k _ _ this.1, up k _ _ this.2⟩
  have hb : ∀ k, k ≤ l.length → ∀ x y, relM l k x y → EQ (fun a b => b = sgL l a ∨ b = epN l.length a) x y := by
    intro k
    induction k with
    | zero => intro _ x y e; cases e; exact .refl _
    | succ k ih =>
      intro hk
      refine mrg_min (EQ_eqv _) (mrg_min (EQ_eqv _) (ih (by omega)) ?_) ?_
      · exact .base (.inl (by rw [sgL_lt (by omega)]; rfl))
      · exact .base (.inr (by rw [epN_lt (by omega)]))
  unfold partsN pL pK
  refine K_congr _ _ (hE _) (EQ_eqv _) _ _ (fun _ => Iff.rfl) fun x y hx hy => ⟨hb _ (Nat.le_refl _) x y, fun h => ?_⟩
  have hQ : Eqv (relM l l.length) := hE _
  refine EQ_min hQ ?_ h
  rintro a b (rfl | rfl)
  · by_cases ha : a < l.length
    · rw [sgL_lt ha]; exact (hs a _ ha).1
    · unfold sgL; rw [if_neg ha]; exact hQ.refl a
  · by_cases ha : a < l.length
    · rw [epN_lt ha]; exact (hs a _ ha).2
    · unfold epN; rw [if_neg ha]; exact hQ.refl a
theorem genus_L {l : List Int} (h : PermOk l) : fL l + cL l ≤ 2 * pL l + l.length / 2 ∧ ∃ q, fL l + cL l + l.length / 2 = 2 * q := by
  have hp := sgL_per h
  have hn := h.1.2.1
  have he := epN_per hn
  obtain ⟨M, hM⟩ : ∃ M, M = (List.range (l.length / 2)).map (fun j => 2 * j) := ⟨_, rfl⟩
  have mem : ∀ x, x ∈ M ↔ x < l.length ∧ x % 2 = 0 := fun x => by
    rw [hM, List.mem_map]
    constructor
    · rintro ⟨j, hj, rfl⟩; rw [List.mem_range] at hj; omega
    · rintro ⟨h1, h2⟩; exact ⟨x / 2, List.mem_range.2 (by omega), by omega⟩
  have key := genus (φ := sgL l) (a := epN l.length) (epN_ep hn) hp.1 (List.range l.length) (fun x hx => List.mem_range.2 (hp.2.1 x (List.mem_range.1 hx))) (fun x hx => hp.2.2 x (fun k => hx (List.mem_range.2 k))) M ⟨?_, ?_⟩ ?_
  · rw [hM, List.length_map, List.length_range, K_cyc (hp.comp he).perm, K_cyc hp.perm] at key
    exact key
  · rw [hM, List.pairwise_map]
    refine List.nodup_range.imp_of_mem fun {a b} ha hb hne => ?_
    rw [List.mem_range] at ha hb
    refine ⟨by omega, ?_⟩
    rw [epN_lt (by omega)]
    unfold mtN
    rw [if_pos (by omega)]
    omega
  · intro x hx
    obtain ⟨h1, h2⟩ := (mem x).1 hx
    refine ⟨List.mem_range.2 h1, List.mem_range.2 (he.2.1 x h1), ?_⟩
    rw [epN_lt h1]; unfold mtN; rw [if_pos h2]; omega
  · intro x hx
    have hx' : x < l.length := by
      by_cases k : x < l.length
      · exact k
      · exact absurd (if_neg k) hx
    rw [mem, mem, epN_lt hx']
    unfold mtN
    split <;> omega
theorem dual_L {l r : List Int} (h : PermOk l) (hlen : r.length = l.length) (hr : ∀ d, d < l.length → nx r d = nx l (mtN d)) : cL r = fL l ∧ fL r = cL l ∧ pL r = pL l := by
  have hn := h.1.2.1
  have he := epN_per hn
  have e : sgL r = fun d => sgL l (epN l.length d) := by
    funext d
    by_cases hd : d < l.length
    · rw [sgL_lt (by omega), hr d hd, epN_lt hd, sgL_lt (by have := he.2.1 d hd; rwa [epN_lt hd] at this)]
    · unfold sgL epN; rw [if_neg (by omega), if_neg hd, if_neg hd]
  unfold cL fL pL cK fK pK
  rw [hlen, e]
  refine ⟨rfl, ?_, ?_⟩
  · congr 2
    funext a b
    show (b = sgL l (epN l.length (epN l.length a))) = (b = sgL l a)
    rw [epN_ep hn]
  · refine K_congr _ _ (EQ_eqv _) (EQ_eqv _) _ _ (fun _ => Iff.rfl) fun x y _ _ => ⟨EQ_mono ?_, EQ_mono ?_⟩
    · rintro a b (rfl | rfl)
      · exact .trans (.base (.inr rfl)) (.base (.inl rfl))
      · exact .base (.inr rfl)
    · rintro a b (rfl | rfl)
      · refine .trans (.base (.inr rfl)) (.base (.inl ?_))
        show sgL l a = sgL l (epN l.length (epN l.length a))
        rw [epN_ep hn]
      · exact .base (.inr rfl)
theorem mirror_L {l r : List Int} (h : PermOk l) (k : PermOk r) (hlen : r.length = l.length) (hr : ∀ d, d < l.length → nx r (nx l d) = d) : cL r = cL l ∧ fL r = fL l ∧ pL r = pL l := by
  have hn := h.1.2.1
  have he := epN_per hn
  have hp := sgL_per h
  have kp := sgL_per k
  rw [hlen] at kp
  have e1 : ∀ d, sgL r (sgL l d) = d := fun d => by
    by_cases hd : d < l.length
    · rw [sgL_lt hd, sgL_lt (by rw [hlen]; exact (nx_lt h.1 hd).1), hr d hd]
    · rw [hp.2.2 d hd, kp.2.2 d hd]
  have e2 : ∀ d, sgL l (sgL r d) = d := fun d => kp.1 _ _ (by rw [e1])
  unfold cL fL pL cK fK pK
  rw [hlen]
  refine ⟨?_, ?_, ?_⟩
  · refine K_congr _ _ (EQ_eqv _) (EQ_eqv _) _ _ (fun _ => Iff.rfl) fun x y _ _ => ⟨EQ_mono ?_, EQ_mono ?_⟩
    · rintro a b rfl; exact .symm (.base (e2 a).symm)
    · rintro a b rfl; exact .symm (.base (e1 a).symm)
  · refine K_iso (A := fun x => x < l.length) (B := fun x => x < l.length) (epN l.length) (epN l.length) ?_ ?_ ?_ ?_ (fun a ha => he.2.1 a ha) (fun a ha => he.2.1 a ha) (fun a _ => by rw [epN_ep hn]; exact .refl _) (fun a _ => by rw [epN_ep hn]; exact .refl _) _ _ (fun a => List.mem_range) (fun a => List.mem_range)
    · rintro a b rfl; exact (he.lt_iff a).trans (kp.lt_iff _)
    · rintro a b rfl; exact (he.lt_iff a).trans (hp.lt_iff _)
    · rintro a b _ rfl
      refine .symm (.base ?_)
      rw [epN_ep hn, e2]
    · rintro a b _ rfl
      refine .symm (.base ?_)
      rw [epN_ep hn, e1]
  · refine K_congr _ _ (EQ_eqv _) (EQ_eqv _) _ _ (fun _ => Iff.rfl) fun x y _ _ => ⟨EQ_mono ?_, EQ_mono ?_⟩
    · rintro a b (rfl | rfl)
      · exact .symm (.base (.inl (e2 a).symm))
      · exact .base (.inr rfl)
    · rintro a b (rfl | rfl)
      · exact .symm (.base (.inl (e1 a).symm))
      · exact .base (.inr rfl)
theorem mt_half (d : Nat) : mtN d / 2 = d / 2 := by unfold mtN; split <;> omega
theorem ep_half (n d : Nat) : epN n d / 2 = d / 2 := by unfold epN; split <;> first | rfl | exact mt_half d
theorem K_one {α : Type} {R : α → α → Prop} (h : Eqv R) (l : List α) (a : α) (ha : a ∈ l) (hl : ∀ b, b ∈ l → R b a) : K R l = 1 :=
  K_reps h l [a] (List.pairwise_singleton _ _) (fun b hb => ⟨a, by simp, hl b hb⟩) (fun b hb => by rw [List.mem_singleton] at hb; subst hb; exact ⟨b, ha, h.refl b⟩)
theorem dropTo_length {l : List Int} {a k : Nat} : (dropTo l a k).length = nmN a k := by
  induction k with
  | zero => rfl
  | succ k ih =>
    by_cases h : k / 2 = a
    · rw [dropTo_neg l h, ih, nmN_succ, if_neg (fun e => e h)]; omega
    · rw [dropTo_pos l h, List.length_append, ih, nmN_succ, if_pos h]; rfl
theorem dropTo_get {l : List Int} {a : Nat} : ∀ k d, d < k → d / 2 ≠ a → (dropTo l a k)[nmN a d]? = some ((nmN a (flN l a d) : Nat) : Int) := by
  intro k
  induction k with
  | zero => intro d h; omega
  | succ k ih =>
    intro d hd hda
    by_cases e : d = k
    · subst e
      have hlen : (dropTo l a d).length = nmN a d := dropTo_length
      rw [dropTo_pos l hda, List.getElem?_append_right (by omega), hlen, Nat.sub_self]
      rfl
    · have h1 := ih d (by omega) hda
      by_cases h : k / 2 = a
      · rw [dropTo_neg l h]; exact h1
      · rw [dropTo_pos l h, List.getElem?_append_left (List.getElem?_eq_some_iff.1 h1).1]; exact h1
theorem flN_lt {l : List Int} (h : PermOk l) {a d : Nat} (hd : d < l.length) (hg : d / 2 ≠ a) : flN l a d < l.length ∧ flN l a d / 2 ≠ a := by
  obtain ⟨n, _, hf⟩ := flN_fol h hd hg
  exact fol_lt h.1 (nx_lt h.1 hd).1 hf
theorem nm_inj {a d e : Nat} (hd : d / 2 ≠ a) (he : e / 2 ≠ a) (h : nmN a d = nmN a e) : d = e := by
  have h1 := nmN_eq a d
  have h2 := nmN_eq a e
  rcases (show d < 2 * a ∨ 2 * a + 2 ≤ d by omega) with c | c <;> rcases (show e < 2 * a ∨ 2 * a + 2 ≤ e by omega) with c' | c'
  · have := h1.1 (by omega); have := h2.1 (by omega); omega
  · have := h1.1 (by omega); have := h2.2.2 c'; omega
  · have := h1.2.2 c; have := h2.1 (by omega); omega
  · have := h1.2.2 c; have := h2.2.2 c'; omega
section
variable {l : List Int} (h : PermOk l) {a : Nat} (ha : 2 * a + 1 < l.length)
include h ha
theorem nm_lt {d : Nat} (hd : d < l.length) (hg : d / 2 ≠ a) : nmN a d < l.length - 2 := by
  have h1 := nmN_eq a d
  have hn := h.1.2.1
  rcases (show d < 2 * a ∨ 2 * a + 2 ≤ d by omega) with c | c
  · have := h1.1 (by omega); omega
  · have := h1.2.2 c; omega
theorem dropTo_all : (dropTo l a l.length).length = l.length - 2 := by
  rw [dropTo_length]
  have := (nmN_eq a l.length).2.2 (by omega)
  omega
theorem drop_nx {d : Nat} (hd : d < l.length) (hg : d / 2 ≠ a) : sgL (dropTo l a l.length) (nmN a d) = nmN a (flN l a d) := by
  have h1 := dropTo_get (l := l) l.length d hd hg
  obtain ⟨h2, h3⟩ := List.getElem?_eq_some_iff.1 h1
  rw [sgL_lt h2]
  unfold nx
  rw [Go.Proofs.Ytdmcfbjhobbdpaa.Com.rd_lt h2, h3]
  rfl
def bk (a j : Nat) : Nat := if j < 2 * a then j else j + 2
theorem bk_nm {d : Nat} (hg : d / 2 ≠ a) : bk a (nmN a d) = d := by
  have h1 := nmN_eq a d
  unfold bk
  rcases (show d < 2 * a ∨ 2 * a + 2 ≤ d by omega) with c | c
  · have := h1.1 (by omega); rw [if_pos (by omega)]; omega
  · have := h1.2.2 c; rw [if_neg (by omega)]; omega
theorem nm_bk (j : Nat) : nmN a (bk a j) = j ∧ bk a j / 2 ≠ a := by
  unfold bk
  by_cases c : j < 2 * a
  · rw [if_pos c]; exact ⟨(nmN_eq a j).1 (by omega), by omega⟩
  · rw [if_neg c]; have := (nmN_eq a (j + 2)).2.2 (by omega); exact ⟨by omega, by omega⟩
theorem bk_lt {j : Nat} (hj : j < l.length - 2) : bk a j < l.length := by unfold bk; split <;> omega
def cut2 (l : List Int) (a : Nat) : Nat → Nat := cutF (cutF (sgL l) (2 * a)) (2 * a + 1)
theorem cut2_per : PerN l.length (cut2 l a) := cutF_per (cutF_per (sgL_per h) (by omega)) ha
theorem cut2_x : cut2 l a (2 * a) = 2 * a ∧ cut2 l a (2 * a + 1) = 2 * a + 1 := by
  unfold cut2
  constructor
  · unfold cutF
    rw [if_neg (by omega), if_pos rfl, if_neg (by omega)]
  · unfold cutF; rw [if_pos rfl]
theorem cut2_fl {d : Nat} (hd : d < l.length) (hg : d / 2 ≠ a) : cut2 l a d = flN l a d := by
  have hp := sgL_per h
  have n1 : d ≠ 2 * a := by omega
  have n2 : d ≠ 2 * a + 1 := by omega
  have i1 := (nx_lt h.1 hd).1
  have hx : 2 * a < l.length := by omega
  have iy := (nx_lt h.1 ha).1
  have ix := (nx_lt h.1 hx).1
  have inj : ∀ u v, u < l.length → v < l.length → nx l u = nx l v → u = v := fun u v hu hv e => nx_inj h hu hv e
  have c1 : ∀ z, z < l.length → z ≠ 2 * a → cutF (sgL l) (2 * a) z = if nx l z = 2 * a then nx l (2 * a) else nx l z := fun z hz hne => by
    unfold cutF; rw [if_neg hne, sgL_lt hz, sgL_lt hx]
  unfold cut2
  show (if d = 2 * a + 1 then 2 * a + 1 else if cutF (sgL l) (2 * a) d = 2 * a + 1 then cutF (sgL l) (2 * a) (2 * a + 1) else cutF (sgL l) (2 * a) d) = _
  rw [if_neg n2, c1 d hd n1, c1 (2 * a + 1) ha (by omega)]
  unfold flN
  by_cases q1 : nx l d = 2 * a
  · rw [if_pos q1, if_neg (show ¬ nx l d / 2 ≠ a by omega), q1]
    have q0 : nx l (2 * a) ≠ 2 * a := fun e => n1 (inj _ _ hd hx (by omega))
    by_cases q2 : nx l (2 * a) = 2 * a + 1
    · have q3 : nx l (2 * a + 1) ≠ 2 * a := fun e => n2 (inj _ _ hd ha (by omega))
      rw [if_pos q2, if_neg q3, if_neg (by omega), q2]
    · rw [if_neg q2, if_pos (show nx l (2 * a) / 2 ≠ a by omega)]
  · rw [if_neg q1]
    by_cases q2 : nx l d = 2 * a + 1
    · rw [if_pos q2, if_neg (show ¬ nx l d / 2 ≠ a by omega), q2]
      have q0 : nx l (2 * a + 1) ≠ 2 * a + 1 := fun e => n2 (inj _ _ hd ha (by omega))
      by_cases q3 : nx l (2 * a + 1) = 2 * a
      · rw [if_pos q3, if_neg (by omega), q3]
      · rw [if_neg q3, if_pos (show nx l (2 * a + 1) / 2 ≠ a by omega)]
    · rw [if_neg q2, if_pos (show nx l d / 2 ≠ a by omega)]
theorem drop_ok : PermOk (dropTo l a l.length) := by
  have hlen := dropTo_all h ha
  have hn := h.1.2.1
  have e : ∀ j, j < l.length - 2 → rd (dropTo l a l.length) (j : Int) = ((nmN a (flN l a (bk a j)) : Nat) : Int) := fun j hj => by
    have h1 := dropTo_get (l := l) (a := a) l.length (bk a j) (bk_lt h ha hj) (nm_bk h ha j).2
    rw [(nm_bk h ha j).1] at h1
    obtain ⟨h2, h3⟩ := List.getElem?_eq_some_iff.1 h1
    rw [Go.Proofs.Ytdmcfbjhobbdpaa.Com.rd_lt h2, h3]
  refine ⟨⟨by rw [hlen]; have := h.1.1; omega, by rw [hlen]; omega, fun j hj => ?_⟩, fun i j hi hj hij => ?_⟩
  · rw [hlen] at hj ⊢
    have hf := flN_lt h (bk_lt h ha hj) (nm_bk h ha j).2
    exact ⟨_, nm_lt h ha hf.1 hf.2, e j hj⟩
  · rw [hlen] at hi hj
    rw [e i hi, e j hj] at hij
    have fi := flN_lt h (bk_lt h ha hi) (nm_bk h ha i).2
    have fj := flN_lt h (bk_lt h ha hj) (nm_bk h ha j).2
    have h1 := nm_inj fi.2 fj.2 (Int.ofNat.inj hij)
    rw [← cut2_fl h ha (bk_lt h ha hi) (nm_bk h ha i).2, ← cut2_fl h ha (bk_lt h ha hj) (nm_bk h ha j).2] at h1
    have := (cut2_per h ha).1 _ _ h1
    rw [← (nm_bk h ha i).1, this, (nm_bk h ha j).1]
theorem K_drop {S S' : Nat → Nat → Prop} (q : Nat) (hS : ∀ x y, S x y → (x < l.length ↔ y < l.length) ∧ (x / 2 = a ↔ y / 2 = a)) (hS' : ∀ u v, S' u v → (u < l.length - 2 ↔ v < l.length - 2))
    (hf : ∀ x y, x < l.length → x / 2 ≠ a → S x y → EQ S' (nmN a x) (nmN a y)) (hg : ∀ u v, u < l.length - 2 → S' u v → EQ S (bk a u) (bk a v))
    (hq : K (EQ S) ((List.range l.length).filter fun x => decide (x / 2 = a)) = q) : K (EQ S) (List.range l.length) = K (EQ S') (List.range (l.length - 2)) + q := by
  have hcl : ∀ x y, EQ S x y → (x / 2 = a ↔ y / 2 = a) := fun x y hxy => EQ_min (R := fun x y => (x / 2 = a ↔ y / 2 = a)) ⟨fun _ => Iff.rfl, fun h => h.symm, fun h k => h.trans k⟩ (fun x y hS1 => (hS x y hS1).2) hxy
  obtain ⟨S0, hS0⟩ : ∃ S0 : Nat → Prop, ∀ x, S0 x ↔ x / 2 = a := ⟨_, fun _ => Iff.rfl⟩
  rw [K_split (EQ_eqv S) S0 (fun x y hxy hx => (hS0 y).2 ((hcl x y hxy).1 ((hS0 x).1 hx)))]
  have e1 : K (EQ S) ((List.range l.length).filter fun x => decide (S0 x)) = q := by
    rw [← hq]
    refine K_congr _ _ (EQ_eqv S) (EQ_eqv S) _ _ (fun x => ?_) (fun _ _ _ _ => Iff.rfl)
    rw [List.mem_filter, List.mem_filter, decide_eq_true_eq, decide_eq_true_eq, hS0]
  have e2 : K (EQ S) ((List.range l.length).filter fun x => decide (¬ S0 x)) = K (EQ S') (List.range (l.length - 2)) := by
    refine K_iso (A := fun x => x < l.length ∧ x / 2 ≠ a) (B := fun j => j < l.length - 2) (nmN a) (bk a) ?_ hS' (fun x y hx => hf x y hx.1 hx.2) hg (fun x hx => nm_lt h ha hx.1 hx.2) (fun j hj => ⟨bk_lt h ha hj, (nm_bk h ha j).2⟩) (fun x hx => by rw [bk_nm h ha hx.2]; exact .refl _) (fun j _ => by rw [(nm_bk h ha j).1]; exact .refl _) _ _ ?_ (fun _ => List.mem_range)
    · intro x y hxy
      obtain ⟨h1, h2⟩ := hS x y hxy
      exact ⟨fun hx => ⟨h1.1 hx.1, fun e => hx.2 (h2.2 e)⟩, fun hy => ⟨h1.2 hy.1, fun e => hy.2 (h2.1 e)⟩⟩
    · intro x
      rw [List.mem_filter, List.mem_range, decide_eq_true_eq, hS0]
  omega
theorem ep_nm {d : Nat} (hd : d < l.length) (hg : d / 2 ≠ a) : epN (l.length - 2) (nmN a d) = nmN a (epN l.length d) := by
  have hn := h.1.2.1
  rw [epN_lt hd, epN_lt (nm_lt h ha hd hg)]
  have hm := mt_half d
  have h1 := nmN_eq a d
  have h2 := nmN_eq a (mtN d)
  rcases (show d < 2 * a ∨ 2 * a + 2 ≤ d by omega) with c | c
  · rw [h1.1 (by omega), h2.1 (by omega)]
  · have e1 := h1.2.2 c
    have e2 := h2.2.2 (by omega)
    have e3 : ∀ m, m + 2 = d → mtN m + 2 = mtN d := fun m hm2 => by
      unfold mtN
      by_cases q : m % 2 = 0
      · rw [if_pos q, if_pos (by omega)]; omega
      · rw [if_neg q, if_neg (by omega)]; omega
    have := e3 _ e1
    omega
theorem cut2_half {d : Nat} (hd : d < l.length) : cut2 l a d / 2 = a ↔ d / 2 = a := by
  by_cases hg : d / 2 = a
  · rcases (show d = 2 * a ∨ d = 2 * a + 1 by omega) with rfl | rfl
    · rw [(cut2_x h ha).1]
    · rw [(cut2_x h ha).2]
  · rw [cut2_fl h ha hd hg]
    exact ⟨fun e => absurd e (flN_lt h hd hg).2, fun e => absurd e hg⟩
theorem cut2_half' (d : Nat) : d / 2 = a ↔ cut2 l a d / 2 = a := by
  by_cases hd : d < l.length
  · exact (cut2_half h ha hd).symm
  · rw [(cut2_per h ha).2.2 d hd]
theorem edge_mem (x : Nat) : x ∈ (List.range l.length).filter (fun x => decide (x / 2 = a)) ↔ x = 2 * a ∨ x = 2 * a + 1 := by
  rw [List.mem_filter, List.mem_range, decide_eq_true_eq]
  omega
theorem cut_of {d : Nat} (hd : d < l.length) (hg : d / 2 ≠ a) : nmN a (cut2 l a d) = sgL (dropTo l a l.length) (nmN a d) := by rw [cut2_fl h ha hd hg, drop_nx h ha hd hg]
theorem ep_keep {d : Nat} (hd : d < l.length) (hg : d / 2 ≠ a) : epN l.length d < l.length ∧ epN l.length d / 2 ≠ a := ⟨(epN_per h.1.2.1).2.1 d hd, by rw [ep_half]; exact hg⟩
theorem drop_counts : cK l.length (cut2 l a) = cL (dropTo l a l.length) + 2 ∧ fK l.length (cut2 l a) (epN l.length) = fL (dropTo l a l.length) + 1 ∧ pK l.length (cut2 l a) (epN l.length) = pL (dropTo l a l.length) + 1 := by
  have hp := cut2_per h ha
  have he := epN_per h.1.2.1
  have hlen := dropTo_all h ha
  have hr := sgL_per (drop_ok h ha)
  have hn2 : (l.length - 2) % 2 = 0 := by have := h.1.2.1; omega
  have he2 := epN_per hn2
  rw [hlen] at hr
  obtain ⟨x1, x2⟩ := cut2_x h ha
  have ex : epN l.length (2 * a) = 2 * a + 1 := by rw [epN_lt (by omega)]; unfold mtN; rw [if_pos (by omega)]
  have ey : epN l.length (2 * a + 1) = 2 * a := by rw [epN_lt ha]; unfold mtN; rw [if_neg (by omega)]; omega
  have back : ∀ {v}, v < l.length - 2 → cut2 l a (bk a v) = bk a (sgL (dropTo l a l.length) v) := fun {v} hv => by
    have h1 := cut_of h ha (bk_lt h ha hv) (nm_bk h ha v).2
    rw [(nm_bk h ha v).1] at h1
    rw [← h1, bk_nm h ha (by rw [cut2_fl h ha (bk_lt h ha hv) (nm_bk h ha v).2]; exact (flN_lt h (bk_lt h ha hv) (nm_bk h ha v).2).2)]
  have backE : ∀ {v}, v < l.length - 2 → epN l.length (bk a v) = bk a (epN (l.length - 2) v) := fun {v} hv => by
    have h1 := ep_nm h ha (bk_lt h ha hv) (nm_bk h ha v).2
    rw [(nm_bk h ha v).1] at h1
    rw [h1, bk_nm h ha (ep_keep h ha (bk_lt h ha hv) (nm_bk h ha v).2).2]
  have u1 : cL (dropTo l a l.length) = K (EQ (fun x y => y = sgL (dropTo l a l.length) x)) (List.range (l.length - 2)) := by unfold cL cK; rw [hlen]
  have u2 : fL (dropTo l a l.length) = K (EQ (fun x y => y = sgL (dropTo l a l.length) (epN (l.length - 2) x))) (List.range (l.length - 2)) := by unfold fL fK; rw [hlen]
  have u3 : pL (dropTo l a l.length) = K (EQ (fun x y => y = sgL (dropTo l a l.length) x ∨ y = epN (l.length - 2) x)) (List.range (l.length - 2)) := by unfold pL pK; rw [hlen]
  rw [u1, u2, u3]
  unfold cK fK pK
  refine ⟨?_, ?_, ?_⟩
  · refine K_drop h ha 2 ?_ ?_ ?_ ?_ ?_
    · rintro x y rfl; exact ⟨hp.lt_iff x, cut2_half' h ha x⟩
    · rintro u v rfl; exact hr.lt_iff u
    · rintro x y hx hg rfl; exact .base (cut_of h ha hx hg)
    · rintro u v hu rfl; exact .base (back hu).symm
    · have hnot : ¬ EQ (fun x y => y = cut2 l a x) (2 * a) (2 * a + 1) := fun hE => by
        have hQ : Eqv (fun x y : Nat => (x = 2 * a ↔ y = 2 * a)) := ⟨fun _ => Iff.rfl, fun h => h.symm, fun h k => h.trans k⟩
        have := (EQ_min hQ (fun x y (e : y = cut2 l a x) => by
          subst e
          exact ⟨fun e => by rw [e, x1], fun e => hp.1 _ _ (e.trans x1.symm)⟩) hE).1 rfl
        omega
      have hl2 : ([2 * a, 2 * a + 1] : List Nat).length = 2 := rfl
      rw [← hl2]
      refine K_reps (EQ_eqv _) _ _ (by simp [hnot]) (fun x hx => ?_) (fun x hx => ?_)
      · rcases (edge_mem h ha x).1 hx with rfl | rfl
        · exact ⟨2 * a, by simp, .refl _⟩
        · exact ⟨2 * a + 1, by simp, .refl _⟩
      · simp only [List.mem_cons, List.not_mem_nil, or_false] at hx
        exact ⟨x, (edge_mem h ha x).2 hx, .refl _⟩
  · refine K_drop h ha 1 ?_ ?_ ?_ ?_ ?_
    · rintro x y rfl
      exact ⟨(he.lt_iff x).trans (hp.lt_iff _), by rw [← cut2_half' h ha, ep_half]⟩
    · rintro u v rfl; exact (he2.lt_iff u).trans (hr.lt_iff _)
    · rintro x y hx hg rfl
      obtain ⟨k1, k2⟩ := ep_keep h ha hx hg
      refine .base ?_
      rw [cut_of h ha k1 k2, ← ep_nm h ha hx hg]
    · rintro u v hu rfl
      refine .base ?_
      rw [backE hu, back (he2.2.1 u hu)]
    · refine K_one (EQ_eqv _) _ (2 * a) ((edge_mem h ha _).2 (.inl rfl)) fun x hx => ?_
      rcases (edge_mem h ha x).1 hx with rfl | rfl
      · exact .refl _
      · refine .base ?_
        rw [ey, x1]
  · refine K_drop h ha 1 ?_ ?_ ?_ ?_ ?_
    · rintro x y (rfl | rfl)
      · exact ⟨hp.lt_iff x, cut2_half' h ha x⟩
      · exact ⟨he.lt_iff x, by rw [ep_half]⟩
    · rintro u v (rfl | rfl)
      · exact hr.lt_iff u
      · exact he2.lt_iff u
    · rintro x y hx hg (rfl | rfl)
      · exact .base (.inl (cut_of h ha hx hg))
      · exact .base (.inr (ep_nm h ha hx hg).symm)
    · rintro u v hu (rfl | rfl)
      · exact .base (.inl (back hu).symm)
      · exact .base (.inr (backE hu).symm)
    · refine K_one (EQ_eqv _) _ (2 * a) ((edge_mem h ha _).2 (.inl rfl)) fun x hx => ?_
      rcases (edge_mem h ha x).1 hx with rfl | rfl
      · exact .refl _
      · exact .base (.inr ey.symm)
theorem drop_L : 2 * pL (dropTo l a l.length) + cL l + fL l ≤ 2 * pL l + cL (dropTo l a l.length) + fL (dropTo l a l.length) + 1 := by
  obtain ⟨e1, e2, e3⟩ := drop_counts h ha
  have hn := h.1.2.1
  have c1 := cut_le (sgL_per h) (epN_per hn) (epN_ep hn) (x := 2 * a) (by omega)
  have c2 := cut_le (cutF_per (sgL_per h) (show 2 * a < l.length by omega)) (epN_per hn) (epN_ep hn) (x := 2 * a + 1) ha
  have e4 : cutF (cutF (sgL l) (2 * a)) (2 * a + 1) = cut2 l a := rfl
  rw [e4] at c2
  have q1 : cL l = cK l.length (sgL l) := rfl
  have q2 : fL l = fK l.length (sgL l) (epN l.length) := rfl
  have q3 : pL l = pK l.length (sgL l) (epN l.length) := rfl
  omega
end
structure SubOk (l r : List Int) (d : Nat) : Prop where
  ok : PermOk l
  ok' : PermOk r
  len : r.length = l.length + 2
  dl : d < l.length
  odd : d % 2 = 1
  at_ : ∀ z, z < l.length → z ≠ d → nx r z = if nx l z = d then l.length + 1 else nx l z
  atd : nx r d = l.length
  atn : nx r l.length = d
  atm : nx r (l.length + 1) = if nx l d = d then l.length + 1 else nx l d
section
variable {l r : List Int} {d : Nat} (H : SubOk l r d)
include H
theorem SubOk.pos : PerN l.length (sgL l) ∧ PerN (l.length + 2) (sgL r) ∧ PerN l.length (epN l.length) ∧ PerN (l.length + 2) (epN (l.length + 2)) := by
  have h1 := sgL_per H.ok'
  rw [H.len] at h1
  exact ⟨sgL_per H.ok, h1, epN_per H.ok.1.2.1, epN_per (by have := H.ok.1.2.1; omega)⟩
theorem SubOk.s (z : Nat) (hz : z < l.length) (hne : z ≠ d) : sgL r z = if sgL l z = d then l.length + 1 else sgL l z := by
  rw [sgL_lt (by rw [H.len]; omega), H.at_ z hz hne, sgL_lt hz]
theorem SubOk.sd : sgL r d = l.length ∧ sgL r l.length = d ∧ sgL r (l.length + 1) = if sgL l d = d then l.length + 1 else sgL l d := by
  have := H.dl
  rw [sgL_lt (by rw [H.len]; omega), sgL_lt (by rw [H.len]; omega), sgL_lt (by rw [H.len]; omega), sgL_lt H.dl]
  exact ⟨H.atd, H.atn, H.atm⟩
theorem SubOk.e : (∀ z, z < l.length → epN (l.length + 2) z = epN l.length z) ∧ epN (l.length + 2) l.length = l.length + 1 ∧ epN (l.length + 2) (l.length + 1) = l.length := by
  have hn := H.ok.1.2.1
  refine ⟨fun z hz => by rw [epN_lt (by omega), epN_lt hz], ?_, ?_⟩
  · rw [epN_lt (by omega)]; unfold mtN; rw [if_pos hn]
  · rw [epN_lt (by omega)]; unfold mtN; rw [if_neg (by omega)]; omega
theorem SubOk.cyc : cL r = cL l + 1 := by
  obtain ⟨p1, p2, _, _⟩ := H.pos
  obtain ⟨s1, s2, s3⟩ := H.sd
  have hd := H.dl
  unfold cL cK
  obtain ⟨S0, hS0⟩ : ∃ S0 : Nat → Prop, ∀ x, S0 x ↔ (x = d ∨ x = l.length) := ⟨_, fun _ => Iff.rfl⟩
  rw [H.len, K_split (EQ_eqv (fun a b => b = sgL r a)) S0 (fun x y hxy hx => ?_)]
  rotate_left
  · rw [hS0] at hx ⊢
    have hQ : Eqv (fun x y : Nat => (x = d ∨ x = l.length) ↔ (y = d ∨ y = l.length)) := ⟨fun _ => Iff.rfl, fun h => h.symm, fun h k => h.trans k⟩
    refine (EQ_min hQ ?_ hxy).1 hx
    rintro x y rfl
    constructor
    · rintro (rfl | rfl)
      · exact .inr s1
      · exact .inl s2
    · rintro (e | e)
      · exact .inr (p2.1 _ _ (e.trans s2.symm))
      · exact .inl (p2.1 _ _ (e.trans s1.symm))
  have e1 : K (EQ (fun a b => b = sgL r a)) ((List.range (l.length + 2)).filter fun x => decide (S0 x)) = 1 := by
    refine K_one (EQ_eqv _) _ d (by rw [List.mem_filter, List.mem_range, decide_eq_true_eq, hS0]; exact ⟨by omega, .inl rfl⟩) fun x hx => ?_
    rw [List.mem_filter, List.mem_range, decide_eq_true_eq, hS0] at hx
    rcases hx.2 with rfl | rfl
    · exact .refl _
    · exact .base s2.symm
  have e2 : K (EQ (fun a b => b = sgL r a)) ((List.range (l.length + 2)).filter fun x => decide (¬ S0 x)) = K (EQ (fun a b => b = sgL l a)) (List.range l.length) := by
    refine K_iso (A := fun x => x < l.length + 2 ∧ ¬ (x = d ∨ x = l.length)) (B := fun j => j < l.length) (fun x => if x = l.length + 1 then d else x) (fun j => if j = d then l.length + 1 else j) ?_ ?_ ?_ ?_ ?_ ?_ ?_ ?_ _ _ ?_ (fun _ => List.mem_range)
    · rintro x y rfl
      have q : ∀ x, (x = d ∨ x = l.length) ↔ (sgL r x = d ∨ sgL r x = l.length) := fun x => by
        constructor
        · rintro (rfl | rfl)
          · exact .inr s1
          · exact .inl s2
        · rintro (e | e)
          · exact .inr (p2.1 _ _ (e.trans s2.symm))
          · exact .inl (p2.1 _ _ (e.trans s1.symm))
      exact ⟨fun hx => ⟨(p2.lt_iff x).1 hx.1, fun k => hx.2 ((q x).2 k)⟩, fun hy => ⟨(p2.lt_iff x).2 hy.1, fun k => hy.2 ((q x).1 k)⟩⟩
    · rintro x y rfl; exact p1.lt_iff x
    · rintro x y ⟨hx, hg⟩ rfl
      refine .base ?_
      by_cases e : x = l.length + 1
      · subst e
        rw [if_pos rfl, s3]
        by_cases q : sgL l d = d
        · rw [if_pos q, if_pos rfl]; exact q.symm
        · rw [if_neg q, if_neg (by have := p1.2.1 d hd; omega)]
      · have hxl : x < l.length := by omega
        rw [if_neg e, H.s x hxl (fun k => hg (.inl k))]
        by_cases q : sgL l x = d
        · rw [if_pos q, if_pos rfl]; exact q.symm
        · rw [if_neg q, if_neg (by have := p1.2.1 x hxl; omega)]
    · rintro x y hx rfl
      refine .base ?_
      show (if sgL l x = d then l.length + 1 else sgL l x) = sgL r (if x = d then l.length + 1 else x)
      by_cases e : x = d
      · subst e; rw [if_pos rfl, s3]
      · rw [if_neg e, H.s x hx e]
    · rintro x ⟨hx, hg⟩
      show (if x = l.length + 1 then d else x) < l.length
      split <;> omega
    · intro j hj
      show (if j = d then l.length + 1 else j) < l.length + 2 ∧ ¬ ((if j = d then l.length + 1 else j) = d ∨ (if j = d then l.length + 1 else j) = l.length)
      by_cases e : j = d
      · rw [if_pos e]; omega
      · rw [if_neg e]; omega
    · rintro x ⟨hx, hg⟩
      have : (if (if x = l.length + 1 then d else x) = d then l.length + 1 else (if x = l.length + 1 then d else x)) = x := by
        by_cases e : x = l.length + 1
        · rw [if_pos e, if_pos rfl]; exact e.symm
        · rw [if_neg e, if_neg (fun k => hg (.inl k))]
      rw [this]; exact .refl _
    · intro j hj
      have : (if (if j = d then l.length + 1 else j) = l.length + 1 then d else (if j = d then l.length + 1 else j)) = j := by
        by_cases e : j = d
        · rw [if_pos e, if_pos rfl]; exact e.symm
        · rw [if_neg e, if_neg (by omega)]
      rw [this]; exact .refl _
    · intro x
      rw [List.mem_filter, List.mem_range, decide_eq_true_eq, hS0]
  omega
theorem SubOk.face : fL r = fL l := by
  obtain ⟨p1, p2, q1, q2⟩ := H.pos
  obtain ⟨s1, s2, s3⟩ := H.sd
  obtain ⟨e1, e2, e3⟩ := H.e
  have hd := H.dl
  have hn := H.ok.1.2.1
  have ed : epN l.length d = d - 1 := by rw [epN_lt hd]; unfold mtN; rw [if_neg (by have := H.odd; omega)]
  have ec : epN l.length (d - 1) = d := by rw [← ed, epN_ep hn]
  unfold fL fK
  rw [H.len]
  have F : ∀ z, EQ (fun a b => b = sgL r (epN (l.length + 2) a)) z (sgL r (epN (l.length + 2) z)) := fun z => .base rfl
  have hc : d - 1 < l.length := by omega
  refine K_iso (A := fun x => x < l.length + 2) (B := fun j => j < l.length) (fun x => if x = l.length + 1 then d else if x = l.length then d - 1 else x) (fun j => j) ?_ ?_ ?_ ?_ ?_ ?_ ?_ ?_ _ _ (fun _ => List.mem_range) (fun _ => List.mem_range)
  · rintro x y rfl; exact (q2.lt_iff x).trans (p2.lt_iff _)
  · rintro x y rfl; exact (q1.lt_iff x).trans (p1.lt_iff _)
  · rintro x y hx rfl
    have tgt : ∀ w, w < l.length → w ≠ d → (if sgL r w = l.length + 1 then d else if sgL r w = l.length then d - 1 else sgL r w) = sgL l w := fun w hw hne => by
      rw [H.s w hw hne]
      have := p1.2.1 w hw
      by_cases q : sgL l w = d
      · rw [if_pos q, if_pos rfl]; exact q.symm
      · rw [if_neg q, if_neg (by omega), if_neg (by omega)]
    by_cases c1 : x = l.length + 1
    · subst c1
      rw [e3, s2]
      simp only [if_true]
      rw [if_neg (show ¬ d = l.length + 1 by omega), if_neg (show ¬ d = l.length by omega)]
      exact .refl _
    · by_cases c2 : x = l.length
      · subst c2
        rw [e2, s3]
        simp only [if_true]
        rw [if_neg (show ¬ l.length = l.length + 1 by omega)]
        refine .base ?_
        show _ = sgL l (epN l.length (d - 1))
        rw [ec]
        have := p1.2.1 d hd
        by_cases q : sgL l d = d
        · rw [if_pos q, if_pos rfl]; exact q.symm
        · rw [if_neg q, if_neg (by omega), if_neg (by omega)]
      · have hxl : x < l.length := by omega
        rw [e1 x hxl]
        simp only [c1, c2, if_false]
        by_cases c3 : x = d - 1
        · subst c3
          rw [ec, s1, if_neg (show ¬ l.length = l.length + 1 by omega), if_pos rfl]
          exact .refl _
        · refine .base ?_
          show _ = sgL l (epN l.length x)
          exact tgt _ (q1.2.1 x hxl) (fun k => c3 (by rw [← ed, ← k, epN_ep hn]))
  · rintro x y hx rfl
    show EQ (fun a b => b = sgL r (epN (l.length + 2) a)) x (sgL l (epN l.length x))
    have toD : EQ (fun a b => b = sgL r (epN (l.length + 2) a)) (l.length + 1) d := by have := F (l.length + 1); rwa [e3, s2] at this
    by_cases c3 : x = d - 1
    · subst c3
      rw [ec]
      have h1 : EQ (fun a b => b = sgL r (epN (l.length + 2) a)) (d - 1) l.length := by have := F (d - 1); rwa [e1 _ hc, ec, s1] at this
      have h2 := F l.length
      rw [e2, s3] at h2
      by_cases q : sgL l d = d
      · rw [if_pos q] at h2
        rw [q]
        exact .trans h1 (.trans h2 toD)
      · rw [if_neg q] at h2
        exact .trans h1 h2
    · have h1 := F x
      rw [e1 x hx, H.s _ (q1.2.1 x hx) (fun k => c3 (by rw [← ed, ← k, epN_ep hn]))] at h1
      by_cases q : sgL l (epN l.length x) = d
      · rw [if_pos q] at h1
        rw [q]
        exact .trans h1 toD
      · rw [if_neg q] at h1
        exact h1
  · intro x hx
    show (if x = l.length + 1 then d else if x = l.length then d - 1 else x) < l.length
    split
    · exact hd
    · split
      · exact hc
      · omega
  · intro j hj; show j < l.length + 2; omega
  · intro x hx
    show EQ _ (if x = l.length + 1 then d else if x = l.length then d - 1 else x) x
    by_cases c1 : x = l.length + 1
    · subst c1
      rw [if_pos rfl]
      have := F (l.length + 1)
      rw [e3, s2] at this
      exact .symm this
    · rw [if_neg c1]
      by_cases c2 : x = l.length
      · subst c2
        rw [if_pos rfl]
        have := F (d - 1)
        rw [e1 _ hc, ec, s1] at this
        exact this
      · rw [if_neg c2]; exact .refl _
  · intro j hj
    show EQ _ (if j = l.length + 1 then d else if j = l.length then d - 1 else j) j
    rw [if_neg (by omega), if_neg (by omega)]; exact .refl _
theorem SubOk.parts : pL r = pL l := by
  obtain ⟨p1, p2, q1, q2⟩ := H.pos
  obtain ⟨s1, s2, s3⟩ := H.sd
  obtain ⟨e1, e2, e3⟩ := H.e
  have hd := H.dl
  unfold pL pK
  rw [H.len]
  have F1 : ∀ z, EQ (fun a b => b = sgL r a ∨ b = epN (l.length + 2) a) z (sgL r z) := fun z => .base (.inl rfl)
  have F2 : ∀ z, EQ (fun a b => b = sgL r a ∨ b = epN (l.length + 2) a) z (epN (l.length + 2) z) := fun z => .base (.inr rfl)
  have dn : EQ (fun a b => b = sgL r a ∨ b = epN (l.length + 2) a) d l.length := by have := F1 d; rwa [s1] at this
  have nm : EQ (fun a b => b = sgL r a ∨ b = epN (l.length + 2) a) l.length (l.length + 1) := by have := F2 l.length; rwa [e2] at this
  refine K_iso (A := fun x => x < l.length + 2) (B := fun j => j < l.length) (fun x => if l.length ≤ x then d else x) (fun j => j) ?_ ?_ ?_ ?_ ?_ ?_ ?_ ?_ _ _ (fun _ => List.mem_range) (fun _ => List.mem_range)
  · rintro x y (rfl | rfl)
    · exact p2.lt_iff x
    · exact q2.lt_iff x
  · rintro x y (rfl | rfl)
    · exact p1.lt_iff x
    · exact q1.lt_iff x
  · rintro x y hx (rfl | rfl)
    · by_cases c1 : x = l.length + 1
      · subst c1
        rw [s3]
        simp only [show l.length ≤ l.length + 1 by omega, if_true]
        have := p1.2.1 d hd
        by_cases q : sgL l d = d
        · rw [if_pos q, if_pos (by omega)]; exact .refl _
        · rw [if_neg q, if_neg (by omega)]; exact .base (.inl rfl)
      · by_cases c2 : x = l.length
        · subst c2
          rw [s2]
          simp only [Nat.le_refl, if_true]
          rw [if_neg (by omega)]
          exact .refl _
        · have hxl : x < l.length := by omega
          simp only [show ¬ l.length ≤ x by omega, if_false]
          by_cases c3 : x = d
          · subst c3
            rw [s1, if_pos (Nat.le_refl _)]
            exact .refl _
          · rw [H.s x hxl c3]
            have := p1.2.1 x hxl
            refine .base (.inl ?_)
            by_cases q : sgL l x = d
            · rw [if_pos q, if_pos (by omega)]; exact q.symm
            · rw [if_neg q, if_neg (by omega)]
    · by_cases c1 : x = l.length + 1
      · subst c1
        rw [e3]
        simp only [show l.length ≤ l.length + 1 by omega, Nat.le_refl, if_true]
        exact .refl _
      · by_cases c2 : x = l.length
        · subst c2
          rw [e2]
          simp only [show l.length ≤ l.length + 1 by omega, Nat.le_refl, if_true]
          exact .refl _
        · have hxl : x < l.length := by omega
          simp only [show ¬ l.length ≤ x by omega, if_false]
          rw [e1 x hxl, if_neg (by have := q1.2.1 x hxl; omega)]
          exact .base (.inr rfl)
  · rintro x y hx (rfl | rfl)
    · show EQ _ x (sgL l x)
      by_cases c3 : x = d
      · subst c3
        have h3 := F1 (l.length + 1)
        rw [s3] at h3
        by_cases q : sgL l x = x
        · rw [q]; exact .refl _
        · rw [if_neg q] at h3
          exact .trans dn (.trans nm h3)
      · have h1 := F1 x
        rw [H.s x hx c3] at h1
        by_cases q : sgL l x = d
        · rw [if_pos q] at h1
          rw [q]
          exact .trans h1 (.trans (.symm nm) (.symm dn))
        · rw [if_neg q] at h1; exact h1
    · show EQ _ x (epN l.length x)
      have := F2 x
      rwa [e1 x hx] at this
  · intro x hx
    show (if l.length ≤ x then d else x) < l.length
    split <;> omega
  · intro j hj; show j < l.length + 2; omega
  · intro x hx
    show EQ _ (if l.length ≤ x then d else x) x
    by_cases c1 : x = l.length + 1
    · subst c1
      rw [if_pos (by omega)]
      exact .trans dn nm
    · by_cases c2 : x = l.length
      · subst c2; rw [if_pos (Nat.le_refl _)]; exact dn
      · rw [if_neg (by omega)]; exact .refl _
  · intro j hj
    show EQ _ (if l.length ≤ j then d else j) j
    rw [if_neg (by omega)]; exact .refl _
end
end Go.Proofs.Ytdmcfbjhobbdpaa.Joi
