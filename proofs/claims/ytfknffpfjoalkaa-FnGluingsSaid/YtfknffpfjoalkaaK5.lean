/- Two involutions without fixed points: classes and cycles of their product. An involution behind a permutation. -/
import Derived.Test.YtfknffpfjoalkaaK3
namespace Go.Proofs.Ytfknffpfjoalkaa.Kl
open Classical
variable {α β : Type}
inductive EQ (S : α → α → Prop) : α → α → Prop
 | base {a b} : S a b → EQ S a b
 | refl (a) : EQ S a a
 | symm {a b} : EQ S a b → EQ S b a
 | trans {a b c} : EQ S a b → EQ S b c → EQ S a c
theorem EQ_eqv (S : α → α → Prop) : Eqv (EQ S) := ⟨EQ.refl, EQ.symm, EQ.trans⟩
theorem EQ_min {S R : α → α → Prop} (hR : Eqv R) (h : ∀ a b, S a b → R a b) {a b : α} (e : EQ S a b) : R a b := by
 induction e with
 | base h1 => exact h _ _ h1
 | refl a => exact hR.refl a
 | symm _ ih => exact hR.symm ih
 | trans _ _ i1 i2 => exact hR.trans i1 i2
theorem EQ_mono {S S' : α → α → Prop} (h : ∀ a b, S a b → EQ S' a b) {a b : α} (e : EQ S a b) : EQ S' a b := EQ_min (EQ_eqv _) h e
theorem EQ_map {S : α → α → Prop} {S' : β → β → Prop} (f : α → β) (h : ∀ a b, S a b → EQ S' (f a) (f b)) {a b : α} (e : EQ S a b) : EQ S' (f a) (f b) :=
 EQ_min (R := fun a b => EQ S' (f a) (f b)) ⟨fun _ => .refl _, fun h => .symm h, fun h k => .trans h k⟩ h e
theorem K_length (R : α → α → Prop) (l : List α) : K R l ≤ l.length := by
 induction l with
 | nil => simp [K]
 | cons a l ih => simp only [K, List.length_cons]; split <;> omega
theorem K_reps {R : α → α → Prop} (h : Eqv R) (l r : List α) (hp : r.Pairwise (fun x y => ¬ R x y)) (h1 : ∀ a, a ∈ l → ∃ b, b ∈ r ∧ R a b) (h2 : ∀ b, b ∈ r → ∃ a, a ∈ l ∧ R a b) : K R l = r.length := by
 have e : K R l = K R r := K_eq R R h h l r R h1 h2 fun a b c d _ _ _ _ g1 g2 => ⟨fun hbd => h.trans g1 (h.trans hbd (h.symm g2)), fun hac => h.trans (h.symm g1) (h.trans hac g2)⟩
 have h3 := le_of_pairwise R h r r (fun _ h => h) hp
 have h4 := K_length R r
 omega
theorem K_cover {R : α → α → Prop} (h : Eqv R) (l r : List α) (h1 : ∀ a, a ∈ l → ∃ b, b ∈ r ∧ R a b) : K R l ≤ r.length := by
 have e : K R l ≤ K R r := K_le R R h h l r R h1 fun a b c d _ _ _ _ g1 g2 hbd => h.trans g1 (h.trans hbd (h.symm g2))
 have h4 := K_length R r
 omega
section
variable {τ γ ψ : α → α} (ht : ∀ x, τ (τ x) = x) (hg : ∀ x, γ (γ x) = x) (hψ : ∀ x, ψ x = τ (γ x))
include ht hg hψ
theorem inv_t (k : Nat) (x : α) : it ψ k (τ (it ψ k x)) = τ x := by
 induction k generalizing x with
 | zero => rfl
 | succ k ih =>
  rw [it_succ' ψ k (τ _)]
  show it ψ k (ψ (τ (ψ (it ψ k x)))) = τ x
  rw [hψ (τ _), hψ (it ψ k x), ht, hg]
  exact ih x
theorem inv_g (k : Nat) (x : α) : it ψ k (γ (it ψ k x)) = γ x := by
 induction k generalizing x with
 | zero => rfl
 | succ k ih =>
  rw [it_succ' ψ k (γ _)]
  show it ψ k (ψ (γ (ψ (it ψ k x)))) = γ x
  rw [hψ (γ _), hg, hψ (it ψ k x), ht]
  exact ih x
theorem two_cycles (hp : Perm ψ) (x : α) (h1 : ∀ z, Cyc ψ x z → τ z ≠ z) (h2 : ∀ z, Cyc ψ x z → γ z ≠ z) : ¬ Cyc ψ x (τ x) := by
 rintro ⟨n, hn⟩
 rcases Nat.mod_two_eq_zero_or_one n with h | h
 ·
  obtain ⟨j, rfl⟩ : ∃ j, n = j + j := ⟨n / 2, by omega⟩
  refine h1 (it ψ j x) ⟨j, rfl⟩ (it_inj hp j ?_)
  rw [inv_t ht hg hψ, ← hn, it_add]
 ·
  obtain ⟨j, rfl⟩ : ∃ j, n = (j + 1) + j := ⟨n / 2, by omega⟩
  refine h2 (it ψ j x) ⟨j, rfl⟩ ?_
  have e : τ (it ψ (j + 1) x) = it ψ j x := it_inj hp (j + 1) (by rw [inv_t ht hg hψ, ← hn, it_add])
  have e2 : τ (ψ (it ψ j x)) = it ψ j x := e
  rw [hψ, ht] at e2
  exact e2
theorem inv_cls (hp : Perm ψ) (x y : α) : EQ (fun a b => b = τ a ∨ b = γ a) x y ↔ Cyc ψ x y ∨ Cyc ψ x (τ y) := by
 have hE := cyc_eqv hp
 have tt : ∀ {x y}, Cyc ψ x y → Cyc ψ (τ x) (τ y) := fun {x y} h => by
  obtain ⟨k, rfl⟩ := h
  exact hE.symm ⟨k, inv_t ht hg hψ k x⟩
 have hQ : Eqv (fun x y => Cyc ψ x y ∨ Cyc ψ x (τ y)) := by
  refine ⟨fun x => .inl (hE.refl x), ?_, ?_⟩
  ·
   rintro x y (h | h)
   ·
    exact .inl (hE.symm h)
   ·
    have := tt (hE.symm h)
    rw [ht] at this
    exact .inr this
  ·
   rintro x y z (h | h) (k | k)
   ·
    exact .inl (hE.trans h k)
   ·
    exact .inr (hE.trans h k)
   ·
    exact .inr (hE.trans h (tt k))
   ·
    have := tt k
    rw [ht] at this
    exact .inl (hE.trans h this)
 constructor
 ·
  refine EQ_min hQ ?_
  rintro a b (rfl | rfl)
  ·
   exact .inr (by rw [ht]; exact hE.refl a)
  ·
   have : Cyc ψ a (ψ a) := cyc_step ψ a
   rw [hψ] at this
   exact .inr this
 ·
  have hc : ∀ x y, Cyc ψ x y → EQ (fun a b => b = τ a ∨ b = γ a) x y := cyc_min (EQ_eqv _) fun x => by
   rw [hψ]
   exact .trans (.base (.inr rfl)) (.base (.inl rfl))
  rintro (h | h)
  ·
   exact hc x y h
  ·
   exact .trans (hc x (τ y) h) (.symm (.base (.inl rfl)))
theorem K_inv (hp : Perm ψ) (l : List α) (hl : ∀ x, x ∈ l → τ x ∈ l ∧ γ x ∈ l) (h1 : ∀ z, z ∈ l → τ z ≠ z) (h2 : ∀ z, z ∈ l → γ z ≠ z) : K (Cyc ψ) l = 2 * K (EQ (fun a b => b = τ a ∨ b = γ a)) l := by
 have hE := cyc_eqv hp
 have hcl : ∀ x z, x ∈ l → Cyc ψ x z → z ∈ l := fun x z hx h => cyc_closed (S := fun z => z ∈ l) (fun z hz => by rw [hψ]; exact (hl _ (hl z hz).2).1) hx h
 obtain ⟨r, r1, r2, r3, r4⟩ := reps _ (EQ_eqv (fun a b => b = τ a ∨ b = γ a)) l
 rw [← r3]
 have : (r ++ r.map τ).length = 2 * r.length := by rw [List.length_append, List.length_map]; omega
 rw [← this]
 refine K_reps hE l _ ?_ ?_ ?_
 ·
  rw [List.pairwise_append]
  refine ⟨r2.imp fun h k => h ((inv_cls ht hg hψ hp _ _).2 (.inl k)), ?_, ?_⟩
  ·
   rw [List.pairwise_map]
   refine r2.imp fun {a b} h k => h ((inv_cls ht hg hψ hp _ _).2 (.inl ?_))
   obtain ⟨n, hn⟩ := k
   have := inv_t ht hg hψ n (τ a)
   rw [hn, ht, ht] at this
   exact hE.symm ⟨n, this⟩
  ·
   intro a ha b hb k
   obtain ⟨c, hc, rfl⟩ := List.mem_map.1 hb
   by_cases e : a = c
   ·
    subst e
    exact two_cycles ht hg hψ hp a (fun z hz => h1 z (hcl a z (r1 a ha) hz)) (fun z hz => h2 z (hcl a z (r1 a ha) hz)) k
   ·
    have hR : EQ (fun a b => b = τ a ∨ b = γ a) a c := (inv_cls ht hg hψ hp _ _).2 (.inr k)
    have key : ∀ (r : List α), r.Pairwise (fun x y => ¬ EQ (fun a b => b = τ a ∨ b = γ a) x y) → a ∈ r → c ∈ r → False := by
     intro r
     induction r with
     | nil => intro _ h _; cases h
     | cons q r ih =>
      intro hp' ha hc
      have hq := List.pairwise_cons.1 hp'
      rcases List.mem_cons.1 ha with e1 | ha'
      ·
       rcases List.mem_cons.1 hc with e2 | hc'
       ·
        exact e (e1.trans e2.symm)
       ·
        exact hq.1 c hc' (e1 ▸ hR)
      ·
       rcases List.mem_cons.1 hc with e2 | hc'
       ·
        exact hq.1 a ha' (e2 ▸ EQ.symm hR)
       ·
        exact ih hq.2 ha' hc'
    exact key r r2 ha hc
 ·
  intro a ha
  obtain ⟨b, hb, hR⟩ := r4 a ha
  rcases (inv_cls ht hg hψ hp _ _).1 hR with h | h
  ·
   exact ⟨b, List.mem_append_left _ hb, h⟩
  ·
   exact ⟨τ b, List.mem_append_right _ (List.mem_map_of_mem hb), h⟩
 ·
  intro b hb
  rcases List.mem_append.1 hb with hb | hb
  ·
   exact ⟨b, r1 b hb, hE.refl b⟩
  ·
   obtain ⟨c, hc, rfl⟩ := List.mem_map.1 hb
   exact ⟨τ c, (hl c (r1 c hc)).1, hE.refl _⟩
theorem two_fixed (hp : Perm ψ) (x : α) (hx : γ x = x) (h1 : ∀ z, Cyc ψ x z → τ z ≠ z) : ∃ y, y ≠ x ∧ γ y = y ∧ EQ (fun a b => b = τ a ∨ b = γ a) x y ∧ ∀ z, γ z = z → EQ (fun a b => b = τ a ∨ b = γ a) x z → z = x ∨ z = y := by
 have hE := cyc_eqv hp
 obtain ⟨L, hL, hit, hno⟩ := first_hit hp x x
 have hit' : it ψ L x = x := by rcases hit with h | h <;> exact h
 have hno' : ∀ i, 0 < i → i < L → it ψ i x ≠ x := fun i h1 h2 => (hno i h1 h2).1
 have htx : τ x = ψ x := by rw [hψ, hx]
 obtain ⟨m, rfl⟩ : ∃ m, L = m + m := by
  rcases Nat.mod_two_eq_zero_or_one L with h | h
  ·
   exact ⟨L / 2, by omega⟩
  ·
   exfalso
   obtain ⟨m, rfl⟩ : ∃ m, L = m + m + 1 := ⟨L / 2, by omega⟩
   refine h1 (it ψ (m + 1) x) ⟨_, rfl⟩ (it_inj hp (m + 1) ?_)
   rw [inv_t ht hg hψ, htx, ← it_add, show m + 1 + (m + 1) = 1 + (m + m + 1) by omega, it_add, hit']
   rfl
 have fix_of : ∀ j, it ψ (j + j) x = x → γ (it ψ j x) = it ψ j x := fun j hj => it_inj hp j (by rw [inv_g ht hg hψ, hx, ← it_add, hj])
 have of_fix : ∀ j, γ (it ψ j x) = it ψ j x → it ψ (j + j) x = x := fun j hj => by
  have := inv_g ht hg hψ j x
  rw [hj, hx, ← it_add] at this
  exact this
 refine ⟨it ψ m x, hno' m (by omega) (by omega), fix_of m hit', (inv_cls ht hg hψ hp _ _).2 (.inl ⟨m, rfl⟩), fun z hz hR => ?_⟩
 have hc : Cyc ψ x z := by
  rcases (inv_cls ht hg hψ hp _ _).1 hR with h | h
  ·
   exact h
  ·
   have e : τ z = ψ z := by rw [hψ, hz]
   rw [e] at h
   exact hE.trans h (hE.symm (cyc_step ψ z))
 obtain ⟨n, rfl⟩ := hc
 have hmod : it ψ (n % (m + m)) x = it ψ n x := by
  have key : ∀ q, it ψ (q * (m + m)) x = x := by
   intro q
   induction q with
   | zero => simp [it]
   | succ q ih => rw [Nat.succ_mul, it_add, hit', ih]
  conv => rhs; rw [← Nat.mod_add_div n (m + m), Nat.mul_comm, it_add, key]
 rw [← hmod] at hz ⊢
 have hlt : n % (m + m) < m + m := Nat.mod_lt _ hL
 have h2 := of_fix _ hz
 generalize n % (m + m) = j at *
 rcases Nat.eq_zero_or_pos j with rfl | h0
 ·
  exact .inl rfl
 ·
  refine .inr ?_
  rcases Nat.lt_trichotomy (j + j) (m + m) with h | h | h
  ·
   exact absurd h2 (hno' _ (by omega) h)
  ·
   rw [show j = m by omega]
  ·
   have h3 : it ψ (j + j - (m + m)) x = x := by
    have := it_add ψ (j + j - (m + m)) (m + m) x
    rw [show j + j - (m + m) + (m + m) = j + j by omega, h2, hit'] at this
    exact this.symm
   exact absurd h3 (hno' _ (by omega) (by omega))
end
theorem K_pairs {R : α → α → Prop} (h : Eqv R) : ∀ (n : Nat) (f : List α), f.length ≤ n → f.Nodup → (∀ x, x ∈ f → ∃ y, y ∈ f ∧ y ≠ x ∧ R x y ∧ ∀ z, z ∈ f → R x z → z = x ∨ z = y) → f.length = 2 * K R f := by
 intro n
 induction n with
 | zero => intro f hf _ _; have : f = [] := List.length_eq_zero_iff.1 (by omega); subst this; rfl
 | succ n ih =>
  intro f hf hd hp
  cases f with
  | nil => rfl
  | cons x t =>
   obtain ⟨y, hy, hyx, hxy, hz⟩ := hp x List.mem_cons_self
   have hyt : y ∈ t := by
    rcases List.mem_cons.1 hy with rfl | h
    ·
     exact absurd rfl hyx
    ·
     exact h
   obtain ⟨hxt, hdt⟩ := List.nodup_cons.1 hd
   have e1 : K R (x :: t) = K R t := by rw [K, if_pos ⟨y, hyt, hxy⟩]; omega
   have hde := hdt.erase y
   have hle : (t.erase y).length + 1 = t.length := by rw [List.length_erase_of_mem hyt]; have := List.length_pos_of_mem hyt; omega
   have e2 : K R t = K R (y :: t.erase y) := K_congr R R h h _ _ (fun a => by
    constructor
    ·
     intro ha
     by_cases e : a = y
     ·
      subst e; exact List.mem_cons_self
     ·
      exact List.mem_cons_of_mem _ ((List.mem_erase_of_ne e).2 ha)
    ·
     intro ha
     rcases List.mem_cons.1 ha with rfl | ha
     ·
      exact hyt
     ·
      exact List.mem_of_mem_erase ha) fun a b _ _ => Iff.rfl
   have hye : ∀ b, b ∈ t.erase y → b ≠ x ∧ b ≠ y ∧ b ∈ t := fun b hb => by
    have hbt := List.mem_of_mem_erase hb
    refine ⟨fun e => hxt (e ▸ hbt), fun e => ?_, hbt⟩
    subst e
    exact (List.Nodup.not_mem_erase hdt) hb
   have e3 : K R (y :: t.erase y) = 1 + K R (t.erase y) := by
    rw [K, if_neg]
    rintro ⟨b, hb, hR⟩
    obtain ⟨b1, b2, b3⟩ := hye b hb
    rcases hz b (List.mem_cons_of_mem _ b3) (h.trans hxy hR) with e | e
    ·
     exact b1 e
    ·
     exact b2 e
   have := ih (t.erase y) (by simp only [List.length_cons] at hf; omega) hde (fun a ha => by
    obtain ⟨a1, a2, a3⟩ := hye a ha
    obtain ⟨c, hc, c1, c2, c3⟩ := hp a (List.mem_cons_of_mem _ a3)
    have hcx : c ≠ x := fun e => by
     subst e
     rcases hz a (List.mem_cons_of_mem _ a3) (h.symm c2) with e | e
     ·
      exact a1 e
     ·
      exact a2 e
    have hcy : c ≠ y := fun e => by
     subst e
     rcases hz a (List.mem_cons_of_mem _ a3) (h.trans hxy (h.symm c2)) with e | e
     ·
      exact a1 e
     ·
      exact a2 e
    have hct : c ∈ t := by
     rcases List.mem_cons.1 hc with e | e
     ·
      exact absurd e hcx
     ·
      exact e
    refine ⟨c, (List.mem_erase_of_ne hcy).2 hct, c1, c2, fun z hz' hR => c3 z (List.mem_cons_of_mem _ (hye z hz').2.2) hR⟩)
   rw [List.length_cons, e1, e2, e3]
   omega
end Go.Proofs.Ytfknffpfjoalkaa.Kl
