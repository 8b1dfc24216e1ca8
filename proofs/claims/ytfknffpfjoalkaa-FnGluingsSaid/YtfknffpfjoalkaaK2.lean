/- Permutations: their cycles as classes, and what an exchange of two values does to them. -/
import Derived.Test.YtfknffpfjoalkaaK1
namespace Go.Proofs.Ytfknffpfjoalkaa.Kl
open Classical
variable {α : Type}
def it (σ : α → α) : Nat → α → α
 | 0, x => x
 | k + 1, x => σ (it σ k x)
theorem it_add (σ : α → α) (j k : Nat) (x : α) : it σ (j + k) x = it σ j (it σ k x) := by
 induction j with
 | zero => simp [it]
 | succ j ih => rw [Nat.succ_add]; simp only [it]; rw [ih]
theorem it_succ' (σ : α → α) (k : Nat) (x : α) : it σ (k + 1) x = it σ k (σ x) := it_add σ k 1 x
structure Perm (σ : α → α) : Prop where
 inj : ∀ x y, σ x = σ y → x = y
 per : ∀ x, ∃ k, 0 < k ∧ it σ k x = x
theorem it_inj {σ : α → α} (h : Perm σ) (k : Nat) {x y : α} (e : it σ k x = it σ k y) : x = y := by
 induction k with
 | zero => exact e
 | succ k ih => exact ih (h.inj _ _ e)
theorem perm_of_list {σ : α → α} (inj : ∀ x y, σ x = σ y → x = y) (l : List α) (hc : ∀ x, x ∈ l → σ x ∈ l) (ho : ∀ x, x ∉ l → σ x = x) : Perm σ := by
 refine ⟨inj, fun x => ?_⟩
 by_cases hx : x ∈ l
 ·
  have hmem : ∀ k, it σ k x ∈ l := by
   intro k
   induction k with
   | zero => exact hx
   | succ k ih => exact hc _ ih
  -- the first l.length + 1 iterates can't be all different
  by_cases hd : ((List.range (l.length + 1)).map (fun k => it σ k x)).Nodup
  ·
   exfalso
   have := hd.length_le_of_subset (l₂ := l) (by
    intro y hy
    obtain ⟨k, _, rfl⟩ := List.mem_map.1 hy
    exact hmem k)
   simp at this
   omega
  ·
   have : ∃ i j, i < j ∧ it σ i x = it σ j x := by
    by_cases hne : ∃ i j, i < j ∧ it σ i x = it σ j x
    ·
     exact hne
    ·
     exfalso
     refine hd ?_
     refine List.Pairwise.map _ (R := fun a b => a < b) ?_ ?_
     ·
      intro a b hab he
      exact hne ⟨a, b, hab, he⟩
     ·
      exact List.pairwise_lt_range
   obtain ⟨i, j, hij, he⟩ := this
   refine ⟨j - i, by omega, ?_⟩
   have hperm : ∀ (i : Nat) (u v : α), it σ i u = it σ i v → u = v := by
    intro i
    induction i with
    | zero => intro u v e; exact e
    | succ i ih => intro u v e; exact ih _ _ (inj _ _ e)
   refine hperm i _ _ ?_
   rw [← it_add]
   rw [show i + (j - i) = j by omega, he]
 ·
  exact ⟨1, by omega, ho x hx⟩
def Cyc (σ : α → α) (x y : α) : Prop := ∃ k, it σ k x = y
theorem cyc_refl (σ : α → α) (x : α) : Cyc σ x x := ⟨0, rfl⟩
theorem cyc_trans {σ : α → α} {x y z : α} (h : Cyc σ x y) (k : Cyc σ y z) : Cyc σ x z := by
 obtain ⟨i, rfl⟩ := h
 obtain ⟨j, rfl⟩ := k
 exact ⟨j + i, it_add σ j i x⟩
theorem cyc_step (σ : α → α) (x : α) : Cyc σ x (σ x) := ⟨1, rfl⟩
theorem cyc_back {σ : α → α} (h : Perm σ) (x : α) : Cyc σ (σ x) x := by
 obtain ⟨k, hk, e⟩ := h.per x
 refine ⟨k - 1, ?_⟩
 rw [← it_succ', show k - 1 + 1 = k by omega, e]
theorem cyc_symm {σ : α → α} (h : Perm σ) {x y : α} (hxy : Cyc σ x y) : Cyc σ y x := by
 obtain ⟨k, rfl⟩ := hxy
 induction k with
 | zero => exact cyc_refl _ _
 | succ k ih => exact cyc_trans (cyc_back h _) ih
theorem cyc_eqv {σ : α → α} (h : Perm σ) : Eqv (Cyc σ) := ⟨cyc_refl σ, fun a => cyc_symm h a, fun a b => cyc_trans a b⟩
theorem cyc_min {σ : α → α} {S : α → α → Prop} (hS : Eqv S) (h : ∀ x, S x (σ x)) : ∀ x y, Cyc σ x y → S x y := by
 rintro x y ⟨k, rfl⟩
 induction k with
 | zero => exact hS.refl _
 | succ k ih => exact hS.trans ih (h _)
noncomputable def sw (a b x : α) : α := if x = a then b else if x = b then a else x
theorem sw_a (a b : α) : sw a b a = b := by simp [sw]
theorem sw_b (a b : α) : sw a b b = a := by unfold sw; split <;> simp_all
theorem sw_ne {a b x : α} (h : x ≠ a) (h' : x ≠ b) : sw a b x = x := by simp [sw, h, h']
theorem sw_sw (a b x : α) : sw a b (sw a b x) = x := by
 by_cases h : x = a
 ·
  subst h; rw [sw_a, sw_b]
 ·
  by_cases h' : x = b
  ·
   subst h'; rw [sw_b, sw_a]
  ·
   rw [sw_ne h h', sw_ne h h']
theorem first_hit {σ : α → α} (h : Perm σ) (a b : α) : ∃ k, 0 < k ∧ (it σ k a = a ∨ it σ k a = b) ∧ ∀ i, 0 < i → i < k → it σ i a ≠ a ∧ it σ i a ≠ b := by
 have key : ∀ n, (∃ k, 0 < k ∧ k ≤ n ∧ (it σ k a = a ∨ it σ k a = b)) → ∃ k, 0 < k ∧ (it σ k a = a ∨ it σ k a = b) ∧ ∀ i, 0 < i → i < k → it σ i a ≠ a ∧ it σ i a ≠ b := by
  intro n
  induction n with
  | zero => rintro ⟨k, h1, h2, _⟩; omega
  | succ n ih =>
   intro hk
   by_cases hn : ∃ k, 0 < k ∧ k ≤ n ∧ (it σ k a = a ∨ it σ k a = b)
   ·
    exact ih hn
   ·
    obtain ⟨k, h1, h2, h3⟩ := hk
    refine ⟨k, h1, h3, fun i hi hik => ?_⟩
    constructor
    ·
     intro he; exact hn ⟨i, hi, by omega, .inl he⟩
    ·
     intro he; exact hn ⟨i, hi, by omega, .inr he⟩
 obtain ⟨k, h1, h2⟩ := h.per a
 exact key k ⟨k, h1, Nat.le_refl _, .inl h2⟩
theorem cyc_closed {σ : α → α} {S : α → Prop} (hS : ∀ x, S x → S (σ x)) {x y : α} (hx : S x) (h : Cyc σ x y) : S y := by
 obtain ⟨k, rfl⟩ := h
 induction k with
 | zero => exact hx
 | succ k ih => exact hS _ ih
theorem swap_parts {σ σ' : α → α} (h : Perm σ) (h' : Perm σ') {a b : α} (hab : a ≠ b) (e : ∀ x, σ' x = σ (sw a b x)) : Cyc σ a b ↔ ¬ Cyc σ' a b := by
 obtain ⟨k, hk, hit, hno⟩ := first_hit h a b
 have hb1 : σ' b = σ a := by rw [e, sw_b]
 -- from b on, σ' goes the way that σ goes from a on
 have hway : ∀ i, 0 < i → i ≤ k → it σ' i b = it σ i a := by
  intro i
  induction i with
  | zero => intro h0; omega
  | succ i ih =>
   intro _ hle
   rcases Nat.eq_zero_or_pos i with rfl | hi
   ·
    exact hb1
   ·
    have hw := ih hi (by omega)
    have hn := hno i hi (by omega)
    show σ' (it σ' i b) = σ (it σ i a)
    rw [hw, e, sw_ne hn.1 hn.2]
 rcases hit with hit | hit
 ·
  -- back at a: b lies elsewhere
  constructor
  ·
   intro hc
   exfalso
   have hcl : (∃ i, i < k ∧ b = it σ i a) := by
    refine cyc_closed (σ := σ) (S := fun x => ∃ i, i < k ∧ x = it σ i a) ?_ ⟨0, hk, rfl⟩ hc
    rintro x ⟨i, hi, rfl⟩
    rcases Nat.lt_or_ge (i + 1) k with h1 | h1
    ·
     exact ⟨i + 1, h1, rfl⟩
    ·
     refine ⟨0, hk, ?_⟩
     have : i + 1 = k := by omega
     show it σ (i + 1) a = a
     rw [this, hit]
   obtain ⟨i, hi, he⟩ := hcl
   rcases Nat.eq_zero_or_pos i with rfl | h0
   ·
    exact hab he.symm
   ·
    exact (hno i h0 hi).2 he.symm
  ·
   intro hn
   exfalso
   exact hn (cyc_symm h' ⟨k, by rw [hway k hk (Nat.le_refl _), hit]⟩)
 ·
  constructor
  ·
   intro _ hc
   have hcl : (∃ i, 0 < i ∧ i ≤ k ∧ a = it σ i a) := by
    refine cyc_closed (σ := σ') (S := fun x => ∃ i, 0 < i ∧ i ≤ k ∧ x = it σ i a) ?_ ⟨k, hk, Nat.le_refl _, hit.symm⟩ (cyc_symm h' hc)
    rintro x ⟨i, h0, hi, rfl⟩
    rcases Nat.lt_or_ge i k with h1 | h1
    ·
     refine ⟨i + 1, by omega, by omega, ?_⟩
     have hn := hno i h0 h1
     rw [e, sw_ne hn.1 hn.2]
     rfl
    ·
     refine ⟨1, by omega, by omega, ?_⟩
     have : i = k := by omega
     rw [this, hit, hb1]
     rfl
   obtain ⟨i, h0, hi, he⟩ := hcl
   rcases Nat.lt_or_ge i k with h1 | h1
   ·
    exact (hno i h0 h1).1 he.symm
   ·
    have : i = k := by omega
    rw [this, hit] at he
    exact hab he
  ·
   intro _
   exact ⟨k, hit⟩
theorem swap_mrg {σ σ' : α → α} (h : Perm σ) (h' : Perm σ') {a b : α} (e : ∀ x, σ' x = σ (sw a b x)) (x y : α) : mrg (Cyc σ) a b x y ↔ mrg (Cyc σ') a b x y := by
 have key : ∀ {σ σ' : α → α}, Perm σ → Perm σ' → (∀ x, σ' x = σ (sw a b x)) → ∀ x y, mrg (Cyc σ') a b x y → mrg (Cyc σ) a b x y := by
  intro σ σ' h h' e x y
  have hm := mrg_eqv (cyc_eqv h) a b
  refine mrg_min hm (cyc_min hm fun z => ?_) (mrg_ab (cyc_eqv h) a b) x y
  rw [e]
  by_cases hz : z = a
  ·
   subst hz
   rw [sw_a]
   exact hm.trans (mrg_ab (cyc_eqv h) z b) (.inl (cyc_step σ b))
  ·
   by_cases hz' : z = b
   ·
    subst hz'
    rw [sw_b]
    exact hm.trans (hm.symm (mrg_ab (cyc_eqv h) a z)) (.inl (cyc_step σ a))
   ·
    rw [sw_ne hz hz']
    exact .inl (cyc_step σ z)
 constructor
 ·
  refine key h' h (fun x => ?_) x y
  rw [e, sw_sw]
 ·
  exact key h h' e x y
theorem swap_join {σ σ' : α → α} (h : Perm σ) (h' : Perm σ') {a b : α} (hab : a ≠ b) (e : ∀ x, σ' x = σ (sw a b x)) (l : List α) (ha : a ∈ l) (hb : b ∈ l) (hc : ¬ Cyc σ a b) :
  K (Cyc σ) l = K (Cyc σ') l + 1 := by
 have hc' : Cyc σ' a b := by
  by_cases hh : Cyc σ' a b
  ·
   exact hh
  ·
   exact absurd ((swap_parts h h' hab e).2 hh) hc
 rw [K_mrg_apart (cyc_eqv h) hc l ha hb, ← K_mrg_same (cyc_eqv h') hc' l]
 congr 1
 exact K_congr _ _ (mrg_eqv (cyc_eqv h) a b) (mrg_eqv (cyc_eqv h') a b) l l (fun _ => Iff.rfl) fun x y _ _ => swap_mrg h h' e x y
theorem swap_split {σ σ' : α → α} (h : Perm σ) (h' : Perm σ') {a b : α} (hab : a ≠ b) (e : ∀ x, σ' x = σ (sw a b x)) (l : List α) (ha : a ∈ l) (hb : b ∈ l) (hc : Cyc σ a b) :
  K (Cyc σ') l = K (Cyc σ) l + 1 :=
 swap_join h' h hab (fun x => by rw [e, sw_sw]) l ha hb ((swap_parts h h' hab e).1 hc)
theorem swaps {f : Nat → α → α} (hp : ∀ k, Perm (f k)) (a b : Nat → α) (R : Nat → α → α → Prop) (hR : ∀ k, Eqv (R k)) (l : List α) (n : Nat)
  (hab : ∀ k, k < n → a k ≠ b k ∧ a k ∈ l ∧ b k ∈ l) (hf : ∀ k, k < n → ∀ x, f (k + 1) x = f k (sw (a k) (b k) x))
  (h0 : ∀ x y, R 0 x y ↔ Cyc (f 0) x y) (hs : ∀ k, k < n → ∀ x y, R (k + 1) x y ↔ mrg (R k) (a k) (b k) x y) :
  K (Cyc (f n)) l + K (Cyc (f 0)) l ≤ 2 * K (R n) l + n ∧ (∃ q, K (Cyc (f n)) l + K (Cyc (f 0)) l + n = 2 * q) ∧ ∀ x y, Cyc (f n) x y → R n x y := by
 induction n with
 | zero =>
  have he : K (R 0) l = K (Cyc (f 0)) l := K_congr _ _ (hR 0) (cyc_eqv (hp 0)) l l (fun _ => Iff.rfl) fun x y _ _ => h0 x y
  exact ⟨by omega, ⟨K (Cyc (f 0)) l, by omega⟩, fun x y h => (h0 x y).2 h⟩
 | succ n ih =>
  obtain ⟨h1, ⟨q, h2⟩, h3⟩ := ih (fun k hk => hab k (by omega)) (fun k hk => hf k (by omega)) (fun k hk => hs k (by omega))
  obtain ⟨hne, ha, hb⟩ := hab n (by omega)
  have hfn := hf n (by omega)
  have hsn := hs n (by omega)
  have he : K (R (n + 1)) l = K (mrg (R n) (a n) (b n)) l := K_congr _ _ (hR _) (mrg_eqv (hR n) _ _) l l (fun _ => Iff.rfl) fun x y _ _ => hsn x y
  have h3' : ∀ x y, Cyc (f (n + 1)) x y → R (n + 1) x y := by
   intro x y hc
   refine (hsn x y).2 ?_
   have hmf := (swap_mrg (hp n) (hp (n + 1)) hfn x y).2 (.inl hc)
   exact mrg_min (mrg_eqv (hR n) _ _) (fun u v huv => .inl (h3 u v huv)) (mrg_ab (hR n) _ _) x y hmf
  by_cases hc : Cyc (f n) (a n) (b n)
  ·
   have hk := swap_split (hp n) (hp (n + 1)) hne hfn l ha hb hc
   rw [K_mrg_same (hR n) (h3 _ _ hc)] at he
   exact ⟨by omega, ⟨q + 1, by omega⟩, h3'⟩
  ·
   have hk := swap_join (hp n) (hp (n + 1)) hne hfn l ha hb hc
   have hge : K (R n) l ≤ K (R (n + 1)) l + 1 := by
    rw [he]
    by_cases hr : R n (a n) (b n)
    ·
     rw [K_mrg_same (hR n) hr]; omega
    ·
     rw [K_mrg_apart (hR n) hr l ha hb]; omega
   exact ⟨by omega, ⟨q, by omega⟩, h3'⟩
end Go.Proofs.Ytfknffpfjoalkaa.Kl
