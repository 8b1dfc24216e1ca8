/- Counting the classes of an equivalence relation over a list. -/
namespace Go.Proofs.Ytfknffpfjoalkaa.Kl
open Classical
variable {α : Type} {β : Type}
structure Eqv (R : α → α → Prop) : Prop where
 refl : ∀ x, R x x
 symm : ∀ {x y}, R x y → R y x
 trans : ∀ {x y z}, R x y → R y z → R x z
noncomputable def K (R : α → α → Prop) : List α → Nat
 | [] => 0
 | a :: l => (if ∃ b, b ∈ l ∧ R a b then 0 else 1) + K R l
theorem reps (R : α → α → Prop) (h : Eqv R) : ∀ l : List α, ∃ r : List α, (∀ a, a ∈ r → a ∈ l) ∧ r.Pairwise (fun x y => ¬ R x y) ∧ r.length = K R l ∧ ∀ a, a ∈ l → ∃ b, b ∈ r ∧ R a b := by
 intro l
 induction l with
 | nil => exact ⟨[], by simp, List.Pairwise.nil, rfl, by simp⟩
 | cons a l ih =>
  obtain ⟨r, h1, h2, h3, h4⟩ := ih
  by_cases hb : ∃ b, b ∈ l ∧ R a b
  ·
   refine ⟨r, fun x hx => List.mem_cons_of_mem _ (h1 x hx), h2, ?_, ?_⟩
   ·
    rw [K, if_pos hb, h3]; omega
   ·
    intro x hx
    rcases List.mem_cons.1 hx with rfl | hx
    ·
     obtain ⟨b, hb1, hb2⟩ := hb
     obtain ⟨c, hc1, hc2⟩ := h4 b hb1
     exact ⟨c, hc1, h.trans hb2 hc2⟩
    ·
     exact h4 x hx
  ·
   refine ⟨a :: r, ?_, ?_, ?_, ?_⟩
   ·
    intro x hx
    rcases List.mem_cons.1 hx with rfl | hx
    ·
     exact List.mem_cons_self
    ·
     exact List.mem_cons_of_mem _ (h1 x hx)
   ·
    refine List.Pairwise.cons (fun b hbr hab => hb ⟨b, h1 b hbr, hab⟩) h2
   ·
    rw [K, if_neg hb, List.length_cons, h3]; omega
   ·
    intro x hx
    rcases List.mem_cons.1 hx with rfl | hx
    ·
     exact ⟨x, List.mem_cons_self, h.refl x⟩
    ·
     obtain ⟨b, hb1, hb2⟩ := h4 x hx
     exact ⟨b, List.mem_cons_of_mem _ hb1, hb2⟩
theorem le_of_pairwise (R : α → α → Prop) (h : Eqv R) (l s : List α) (hs : ∀ a, a ∈ s → a ∈ l) (hp : s.Pairwise (fun x y => ¬ R x y)) : s.length ≤ K R l := by
 obtain ⟨r, h1, h2, h3, h4⟩ := reps R h l
 rw [← h3]
 have key : ∀ s : List α, (∀ a, a ∈ s → a ∈ l) → s.Pairwise (fun x y => ¬ R x y) → ∃ t : List α, t.length = s.length ∧ t.Nodup ∧ (∀ b, b ∈ t → b ∈ r ∧ ∃ a, a ∈ s ∧ R a b) := by
  intro s
  induction s with
  | nil => intro _ _; exact ⟨[], rfl, List.nodup_nil, by simp⟩
  | cons a s ih =>
   intro hs hp
   obtain ⟨t, ht1, ht2, ht3⟩ := ih (fun x hx => hs x (List.mem_cons_of_mem _ hx)) (List.pairwise_cons.1 hp).2
   obtain ⟨b, hb1, hb2⟩ := h4 a (hs a List.mem_cons_self)
   refine ⟨b :: t, by simp [ht1], ?_, ?_⟩
   ·
    refine List.nodup_cons.2 ⟨fun hbt => ?_, ht2⟩
    obtain ⟨_, c, hc1, hc2⟩ := ht3 b hbt
    exact (List.pairwise_cons.1 hp).1 c hc1 (h.trans hb2 (h.symm hc2))
   ·
    intro c hc
    rcases List.mem_cons.1 hc with rfl | hc
    ·
     exact ⟨hb1, a, List.mem_cons_self, hb2⟩
    ·
     obtain ⟨x1, x, x2, x3⟩ := ht3 c hc
     exact ⟨x1, x, List.mem_cons_of_mem _ x2, x3⟩
 obtain ⟨t, ht1, ht2, ht3⟩ := key s hs hp
 rw [← ht1]
 exact ht2.length_le_of_subset (fun b hb => (ht3 b hb).1)
theorem K_le (R : α → α → Prop) (R' : β → β → Prop) (h : Eqv R) (h' : Eqv R') (l : List α) (l' : List β) (G : α → β → Prop)
  (hG : ∀ a, a ∈ l → ∃ b, b ∈ l' ∧ G a b) (hi : ∀ a b c d, a ∈ l → c ∈ l → b ∈ l' → d ∈ l' → G a b → G c d → R' b d → R a c) : K R l ≤ K R' l' := by
 obtain ⟨r, h1, h2, h3, h4⟩ := reps R h l
 rw [← h3]
 have key : ∀ s : List α, (∀ a, a ∈ s → a ∈ l) → s.Pairwise (fun x y => ¬ R x y) → ∃ t : List β, t.length = s.length ∧ t.Pairwise (fun x y => ¬ R' x y) ∧ (∀ b, b ∈ t → b ∈ l' ∧ ∃ a, a ∈ s ∧ G a b) := by
  intro s
  induction s with
  | nil => intro _ _; exact ⟨[], rfl, List.Pairwise.nil, by simp⟩
  | cons a s ih =>
   intro hs hp
   obtain ⟨t, ht1, ht2, ht3⟩ := ih (fun x hx => hs x (List.mem_cons_of_mem _ hx)) (List.pairwise_cons.1 hp).2
   obtain ⟨b, hb1, hb2⟩ := hG a (hs a List.mem_cons_self)
   refine ⟨b :: t, by simp [ht1], ?_, ?_⟩
   ·
    refine List.pairwise_cons.2 ⟨fun d hd hbd => ?_, ht2⟩
    obtain ⟨hdl, c, hc1, hc2⟩ := ht3 d hd
    exact (List.pairwise_cons.1 hp).1 c hc1 (hi a b c d (hs a List.mem_cons_self) (hs c (List.mem_cons_of_mem _ hc1)) hb1 hdl hb2 hc2 hbd)
   ·
    intro c hc
    rcases List.mem_cons.1 hc with rfl | hc
    ·
     exact ⟨hb1, a, List.mem_cons_self, hb2⟩
    ·
     obtain ⟨x1, x, x2, x3⟩ := ht3 c hc
     exact ⟨x1, x, List.mem_cons_of_mem _ x2, x3⟩
 obtain ⟨t, ht1, ht2, ht3⟩ := key r h1 h2
 rw [← ht1]
 exact le_of_pairwise R' h' l' t (fun b hb => (ht3 b hb).1) ht2
theorem K_eq (R : α → α → Prop) (R' : β → β → Prop) (h : Eqv R) (h' : Eqv R') (l : List α) (l' : List β) (G : α → β → Prop)
  (hG : ∀ a, a ∈ l → ∃ b, b ∈ l' ∧ G a b) (hG' : ∀ b, b ∈ l' → ∃ a, a ∈ l ∧ G a b)
  (hi : ∀ a b c d, a ∈ l → c ∈ l → b ∈ l' → d ∈ l' → G a b → G c d → (R' b d ↔ R a c)) : K R l = K R' l' :=
 Nat.le_antisymm (K_le R R' h h' l l' G hG fun a b c d ha hc hb hd g1 g2 hr => (hi a b c d ha hc hb hd g1 g2).1 hr)
  (K_le R' R h' h l' l (fun b a => G a b) hG' fun b a d c hb hd ha hc g1 g2 hr => (hi a b c d ha hc hb hd g1 g2).2 hr)
theorem K_congr (R R' : α → α → Prop) (h : Eqv R) (h' : Eqv R') (l l' : List α) (hl : ∀ a, a ∈ l ↔ a ∈ l') (hR : ∀ a b, a ∈ l → b ∈ l → (R a b ↔ R' a b)) : K R l = K R' l' :=
 K_eq R R' h h' l l' Eq (fun a ha => ⟨a, (hl a).1 ha, rfl⟩) (fun a ha => ⟨a, (hl a).2 ha, rfl⟩) (by
  rintro a b c d ha hc hb hd rfl rfl
  exact (hR a c ha hc).symm)
def mrg (R : α → α → Prop) (a b : α) : α → α → Prop := fun x y => R x y ∨ (R x a ∧ R y b) ∨ (R x b ∧ R y a)
theorem mrg_eqv {R : α → α → Prop} (h : Eqv R) (a b : α) : Eqv (mrg R a b) := by
 refine ⟨fun x => .inl (h.refl x), ?_, ?_⟩
 ·
  intro x y hxy
  rcases hxy with hxy | ⟨h1, h2⟩ | ⟨h1, h2⟩
  ·
   exact .inl (h.symm hxy)
  ·
   exact .inr (.inr ⟨h2, h1⟩)
  ·
   exact .inr (.inl ⟨h2, h1⟩)
 ·
  intro x y z hxy hyz
  rcases hxy with hxy | ⟨h1, h2⟩ | ⟨h1, h2⟩ <;> rcases hyz with hyz | ⟨h3, h4⟩ | ⟨h3, h4⟩
  ·
   exact .inl (h.trans hxy hyz)
  ·
   exact .inr (.inl ⟨h.trans hxy h3, h4⟩)
  ·
   exact .inr (.inr ⟨h.trans hxy h3, h4⟩)
  ·
   exact .inr (.inl ⟨h1, h.trans (h.symm hyz) h2⟩)
  ·
   exact .inl (h.trans h1 (h.trans (h.symm h3) (h.trans h2 (h.symm h4))))
  ·
   exact .inl (h.trans h1 (h.symm h4))
  ·
   exact .inr (.inr ⟨h1, h.trans (h.symm hyz) h2⟩)
  ·
   exact .inl (h.trans h1 (h.symm h4))
  ·
   exact .inl (h.trans h1 (h.trans (h.symm h3) (h.trans h2 (h.symm h4))))
theorem mrg_of {R : α → α → Prop} {a b x y : α} (h : R x y) : mrg R a b x y := .inl h
theorem mrg_ab {R : α → α → Prop} (h : Eqv R) (a b : α) : mrg R a b a b := .inr (.inl ⟨h.refl a, h.refl b⟩)
theorem mrg_min {R S : α → α → Prop} (hS : Eqv S) (hR : ∀ x y, R x y → S x y) {a b : α} (hab : S a b) : ∀ x y, mrg R a b x y → S x y := by
 intro x y h
 rcases h with h | ⟨h1, h2⟩ | ⟨h1, h2⟩
 ·
  exact hR _ _ h
 ·
  exact hS.trans (hR _ _ h1) (hS.trans hab (hS.symm (hR _ _ h2)))
 ·
  exact hS.trans (hR _ _ h1) (hS.trans (hS.symm hab) (hS.symm (hR _ _ h2)))
theorem K_mrg_same {R : α → α → Prop} (h : Eqv R) {a b : α} (hab : R a b) (l : List α) : K (mrg R a b) l = K R l := by
 refine K_congr _ _ (mrg_eqv h a b) h l l (fun _ => Iff.rfl) fun x y _ _ => ⟨fun hm => mrg_min h (fun _ _ z => z) hab x y hm, mrg_of⟩
theorem K_mrg_apart {R : α → α → Prop} (h : Eqv R) {a b : α} (hab : ¬ R a b) (l : List α) (ha : a ∈ l) (hb : b ∈ l) : K R l = K (mrg R a b) l + 1 := by
 have hm := mrg_eqv h a b
 refine Nat.le_antisymm ?_ ?_
 ·
  obtain ⟨r, h1, h2, h3, h4⟩ := reps R h l
  obtain ⟨rb, hr1, hr2⟩ := h4 b hb
  have hle : (r.filter (fun x => ¬ R x rb)).length ≤ K (mrg R a b) l := by
   refine le_of_pairwise _ hm l _ (fun x hx => h1 x (List.mem_filter.1 hx).1) ?_
   have h2' : (r.filter (fun x => decide (¬ R x rb))).Pairwise (fun x y => ¬ R x y) := h2.filter _
   refine h2'.imp_of_mem ?_
   intro x y hx hy hxy hxy'
   have hx' : ¬ R x rb := by simpa using (List.mem_filter.1 hx).2
   have hy' : ¬ R y rb := by simpa using (List.mem_filter.1 hy).2
   rcases hxy' with hz | ⟨z1, z2⟩ | ⟨z1, z2⟩
   ·
    exact hxy hz
   ·
    exact hy' (h.trans z2 hr2)
   ·
    exact hx' (h.trans z1 hr2)
  have hone : r.length ≤ (r.filter (fun x => ¬ R x rb)).length + 1 := by
   clear h4 h3 h1 hle
   induction r with
   | nil => simp
   | cons c r ih =>
    rcases List.mem_cons.1 hr1 with rfl | hr1
    ·
     have : r.filter (fun x => ¬ R x rb) = r := by
      refine List.filter_eq_self.2 fun x hx => ?_
      have := (List.pairwise_cons.1 h2).1 x hx
      simp only [decide_eq_true_eq]
      exact fun hh => this (h.symm hh)
     rw [List.filter_cons]
     split
     ·
      rw [List.length_cons, List.length_cons, this]; omega
     ·
      rw [this]; simp
    ·
     have := ih (List.pairwise_cons.1 h2).2 hr1
     have hc : ¬ R c rb := (List.pairwise_cons.1 h2).1 rb hr1
     rw [List.filter_cons, if_pos (by simpa using hc)]
     simp only [List.length_cons]
     omega
  omega
 ·
  obtain ⟨r, h1, h2, h3, h4⟩ := reps _ hm l
  obtain ⟨c, hc1, hc2⟩ := h4 a ha
  -- a, b and all others
  have hle : (a :: b :: r.filter (fun x => ¬ mrg R a b x a)).length ≤ K R l := by
   refine le_of_pairwise R h l _ ?_ ?_
   ·
    intro x hx
    rcases List.mem_cons.1 hx with rfl | hx
    ·
     exact ha
    rcases List.mem_cons.1 hx with rfl | hx
    ·
     exact hb
    ·
     exact h1 x (List.mem_filter.1 hx).1
   ·
    have h2' : (r.filter (fun x => decide (¬ mrg R a b x a))).Pairwise (fun x y => ¬ mrg R a b x y) := h2.filter _
    refine List.pairwise_cons.2 ⟨?_, List.pairwise_cons.2 ⟨?_, h2'.imp fun hh hr => hh (.inl hr)⟩⟩
    ·
     intro x hx hax
     rcases List.mem_cons.1 hx with rfl | hx
     ·
      exact hab hax
     ·
      have : ¬ mrg R a b x a := by simpa using (List.mem_filter.1 hx).2
      exact this (.inl (h.symm hax))
    ·
     intro x hx hbx
     have : ¬ mrg R a b x a := by simpa using (List.mem_filter.1 hx).2
     exact this (.inr (.inr ⟨h.symm hbx, h.refl a⟩))
  have hone : r.length ≤ (r.filter (fun x => ¬ mrg R a b x a)).length + 1 := by
   have hca := hm.symm hc2
   clear h4 h3 h1 hle
   induction r with
   | nil => simp
   | cons d r ih =>
    rcases List.mem_cons.1 hc1 with rfl | hc1
    ·
     have : r.filter (fun x => ¬ mrg R a b x a) = r := by
      refine List.filter_eq_self.2 fun x hx => ?_
      have := (List.pairwise_cons.1 h2).1 x hx
      simp only [decide_eq_true_eq]
      exact fun hh => this (hm.trans hca (hm.symm hh))
     rw [List.filter_cons]
     split
     ·
      rw [List.length_cons, List.length_cons, this]; omega
     ·
      rw [this]; simp
    ·
     have := ih (List.pairwise_cons.1 h2).2 hc1
     have hd : ¬ mrg R a b d a := fun hh => (List.pairwise_cons.1 h2).1 c hc1 (hm.trans hh (hm.symm hca))
     rw [List.filter_cons, if_pos (by simpa using hd)]
     simp only [List.length_cons]
     omega
  simp only [List.length_cons] at hle
  omega
end Go.Proofs.Ytfknffpfjoalkaa.Kl
