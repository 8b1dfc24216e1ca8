/- Polygons glued along sides: vertices, circles of the boundary, parts and sides as counts of classes. -/
import Derived.Test.YtfknffpfjoalkaaK6
namespace Go.Proofs.Ytfknffpfjoalkaa.Kl
open Classical
variable {α β : Type}
theorem K_split {R : α → α → Prop} (h : Eqv R) (S : α → Prop) (hS : ∀ x y, R x y → S x → S y) (l : List α) : K R l = K R (l.filter fun x => decide (S x)) + K R (l.filter fun x => decide (¬ S x)) := by
 obtain ⟨r, r1, r2, r3, r4⟩ := reps R h (l.filter fun x => decide (S x))
 obtain ⟨s, s1, s2, s3, s4⟩ := reps R h (l.filter fun x => decide (¬ S x))
 have m1 : ∀ x, x ∈ l.filter (fun x => decide (S x)) ↔ x ∈ l ∧ S x := fun x => by rw [List.mem_filter, decide_eq_true_eq]
 have m2 : ∀ x, x ∈ l.filter (fun x => decide (¬ S x)) ↔ x ∈ l ∧ ¬ S x := fun x => by rw [List.mem_filter, decide_eq_true_eq]
 rw [← r3, ← s3, ← List.length_append]
 refine K_reps h l _ ?_ ?_ ?_
 ·
  rw [List.pairwise_append]
  exact ⟨r2, s2, fun a ha b hb k => ((m2 b).1 (s1 b hb)).2 (hS a b k ((m1 a).1 (r1 a ha)).2)⟩
 ·
  intro a ha
  by_cases e : S a
  ·
   obtain ⟨b, hb, k⟩ := r4 a ((m1 a).2 ⟨ha, e⟩)
   exact ⟨b, List.mem_append_left _ hb, k⟩
  ·
   obtain ⟨b, hb, k⟩ := s4 a ((m2 a).2 ⟨ha, e⟩)
   exact ⟨b, List.mem_append_right _ hb, k⟩
 ·
  intro b hb
  rcases List.mem_append.1 hb with hb | hb
  ·
   exact ⟨b, ((m1 b).1 (r1 b hb)).1, h.refl b⟩
  ·
   exact ⟨b, ((m2 b).1 (s1 b hb)).1, h.refl b⟩
def both (l : List Nat) : List (Nat × Bool) := l.flatMap fun c => [(c, false), (c, true)]
theorem mem_both (l : List Nat) (d : Nat × Bool) : d ∈ both l ↔ d.1 ∈ l := by
 unfold both
 rw [List.mem_flatMap]
 constructor
 ·
  rintro ⟨c, hc, h⟩
  simp only [List.mem_cons, List.not_mem_nil, or_false] at h
  rcases h with rfl | rfl <;> exact hc
 ·
  intro h
  obtain ⟨c, b⟩ := d
  exact ⟨c, h, by cases b <;> simp⟩
theorem both_length (l : List Nat) : (both l).length = 2 * l.length := by
 induction l with
 | nil => rfl
 | cons a l ih => unfold both at *; simp only [List.flatMap_cons, List.length_append, ih, List.length_cons, List.length_nil]; omega
theorem both_nodup {l : List Nat} (h : l.Nodup) : (both l).Nodup := by
 induction l with
 | nil => exact List.nodup_nil
 | cons a l ih =>
  obtain ⟨h1, h2⟩ := List.nodup_cons.1 h
  have h3 := ih h2
  show ((a, false) :: (a, true) :: both l).Nodup
  rw [List.nodup_cons, List.nodup_cons]
  refine ⟨?_, ?_, h3⟩
  ·
   rw [List.mem_cons]
   rintro (e | e)
   ·
    simp at e
   ·
    exact h1 ((mem_both l _).1 e)
  ·
   intro e; exact h1 ((mem_both l _).1 e)
structure Glue (N : Nat) (nx pv pt : Nat → Nat) (x : Nat → Int) (pol fs : Nat → Nat) (F : Nat) : Prop where
 nx_pv : ∀ c, nx (pv c) = c
 pv_nx : ∀ c, pv (nx c) = c
 nx_lt : ∀ c, c < N → nx c < N
 nx_out : ∀ c, ¬ c < N → nx c = c
 pt_pt : ∀ c, pt (pt c) = c
 pt_lt : ∀ c, c < N → pt c < N
 pt_out : ∀ c, ¬ c < N → pt c = c
 pt_abs : ∀ c, c < N → (x (pt c)).natAbs = (x c).natAbs
 uniq : ∀ c d, c < N → d < N → (x c).natAbs = (x d).natAbs → d = c ∨ d = pt c
 pol_lt : ∀ c, c < N → pol c < F
 pol_nx : ∀ c, c < N → pol (nx c) = pol c
 fs_lt : ∀ q, q < F → fs q < N ∧ pol (fs q) = q
 cyc : ∀ c, c < N → Cyc nx (fs (pol c)) c
variable {N F : Nat} {nx pv pt pol fs : Nat → Nat} {x : Nat → Int}
def tau (nx pv : Nat → Nat) (d : Nat × Bool) : Nat × Bool := if d.2 = true then (nx d.1, false) else (pv d.1, true)
def gam (pt : Nat → Nat) (x : Nat → Int) (d : Nat × Bool) : Nat × Bool := if pt d.1 = d.1 then (d.1, !d.2) else (pt d.1, if x (pt d.1) = x d.1 then d.2 else !d.2)
def gamG (N : Nat) (pt : Nat → Nat) (x : Nat → Int) (d : Nat × Bool) : Nat × Bool := if pt d.1 = d.1 ∧ d.1 < N then d else gam pt x d
def phi (nx pv : Nat → Nat) (d : Nat × Bool) : Nat × Bool := if d.2 = true then (pv d.1, true) else (nx d.1, false)
def alp (pt : Nat → Nat) (x : Nat → Int) (d : Nat × Bool) : Nat × Bool := if pt d.1 = d.1 then d else (pt d.1, if x (pt d.1) = x d.1 then !d.2 else d.2)
noncomputable def vF (N : Nat) (nx pv pt : Nat → Nat) (x : Nat → Int) : Nat := K (EQ (fun d e => e = tau nx pv d ∨ e = gam pt x d)) (both (List.range N))
noncomputable def vG (N : Nat) (nx pv pt : Nat → Nat) (x : Nat → Int) : Nat := K (EQ (fun d e => e = tau nx pv d ∨ e = gamG N pt x d)) (both (List.range N))
def Shr (N : Nat) (pol : Nat → Nat) (x : Nat → Int) (p q : Nat) : Prop := ∃ c d, c < N ∧ d < N ∧ pol c = p ∧ pol d = q ∧ (x c).natAbs = (x d).natAbs
noncomputable def prt (N F : Nat) (pol : Nat → Nat) (x : Nat → Int) : Nat := K (EQ (Shr N pol x)) (List.range F)
def glued (N : Nat) (pt : Nat → Nat) : List Nat := (List.range N).filter fun c => decide (c < pt c)
def frees (N : Nat) (pt : Nat → Nat) : List Nat := (List.range N).filter fun c => decide (pt c = c)
theorem mem_glued (c : Nat) : c ∈ glued N pt ↔ c < N ∧ c < pt c := by unfold glued; rw [List.mem_filter, List.mem_range, decide_eq_true_eq]
theorem mem_frees (c : Nat) : c ∈ frees N pt ↔ c < N ∧ pt c = c := by unfold frees; rw [List.mem_filter, List.mem_range, decide_eq_true_eq]
theorem it_phi_f (k c : Nat) : it (phi nx pv) k (c, false) = (it nx k c, false) := by
 induction k with
 | zero => rfl
 | succ k ih => show phi nx pv (it (phi nx pv) k (c, false)) = _; rw [ih]; rfl
theorem it_phi_t (k c : Nat) : it (phi nx pv) k (c, true) = (it pv k c, true) := by
 induction k with
 | zero => rfl
 | succ k ih => show phi nx pv (it (phi nx pv) k (c, true)) = _; rw [ih]; rfl
set_option linter.unusedSectionVars false
section
variable (G : Glue N nx pv pt x pol fs F)
include G
theorem Glue.pv_lt (c : Nat) (h : c < N) : pv c < N := by
 by_cases h2 : pv c < N
 ·
  exact h2
 ·
  have := G.nx_out _ h2
  rw [G.nx_pv] at this
  rw [← this]; exact h
theorem Glue.pv_out (c : Nat) (h : ¬ c < N) : pv c = c := by
 have := G.pv_nx c
 rw [G.nx_out c h] at this
 exact this
theorem Glue.pol_pv (c : Nat) (h : c < N) : pol (pv c) = pol c := by
 have := G.pol_nx (pv c) (G.pv_lt c h)
 rw [G.nx_pv] at this
 exact this.symm
theorem Glue.tau_tau (d : Nat × Bool) : tau nx pv (tau nx pv d) = d := by
 obtain ⟨c, b⟩ := d
 cases b <;> simp [tau, G.nx_pv, G.pv_nx]
theorem Glue.gam_gam (d : Nat × Bool) : gam pt x (gam pt x d) = d := by
 obtain ⟨c, b⟩ := d
 unfold gam
 by_cases h : pt c = c
 ·
  simp [h]
 ·
  have h2 : ¬ pt (pt c) = pt c := by rw [G.pt_pt]; exact fun e => h e.symm
  simp only [h, if_false, h2]
  rw [G.pt_pt]
  by_cases e : x (pt c) = x c
  ·
   simp [e]
  ·
   have e2 : ¬ x c = x (pt c) := fun k => e k.symm
   simp [e, e2]
theorem Glue.gamG_gamG (d : Nat × Bool) : gamG N pt x (gamG N pt x d) = d := by
 unfold gamG
 by_cases h : pt d.1 = d.1 ∧ d.1 < N
 ·
  rw [if_pos h, if_pos h]
 ·
  rw [if_neg h, if_neg, G.gam_gam]
  unfold gam
  by_cases e : pt d.1 = d.1
  ·
   rw [if_pos e]; exact h
  ·
   rw [if_neg e]
   rintro ⟨k, _⟩
   rw [show ((pt d.1, if x (pt d.1) = x d.1 then d.2 else !d.2) : Nat × Bool).1 = pt d.1 from rfl, G.pt_pt] at k
   exact e k.symm
theorem Glue.alp_alp (d : Nat × Bool) : alp pt x (alp pt x d) = d := by
 obtain ⟨c, b⟩ := d
 unfold alp
 by_cases h : pt c = c
 ·
  simp [h]
 ·
  have h2 : ¬ pt (pt c) = pt c := by rw [G.pt_pt]; exact fun e => h e.symm
  simp only [h, if_false, h2]
  rw [G.pt_pt]
  by_cases e : x (pt c) = x c
  ·
   simp [e]
  ·
   have e2 : ¬ x c = x (pt c) := fun k => e k.symm
   simp [e, e2]
theorem Glue.phi_alp (d : Nat × Bool) : phi nx pv (alp pt x d) = tau nx pv (gam pt x d) := by
 obtain ⟨c, b⟩ := d
 unfold phi alp tau gam
 by_cases h : pt c = c
 ·
  cases b <;> simp [h]
 ·
  by_cases e : x (pt c) = x c <;> cases b <;> simp [h, e]
theorem Glue.phi_inj (d e : Nat × Bool) (h : phi nx pv d = phi nx pv e) : d = e := by
 obtain ⟨c, b⟩ := d
 obtain ⟨c', b'⟩ := e
 unfold phi at h
 cases b <;> cases b' <;> simp at h
 ·
  have := congrArg pv h; rw [G.pv_nx, G.pv_nx] at this; rw [this]
 ·
  have := congrArg nx h; rw [G.nx_pv, G.nx_pv] at this; rw [this]
theorem Glue.tau_inj (d e : Nat × Bool) (h : tau nx pv d = tau nx pv e) : d = e := by rw [← G.tau_tau d, h, G.tau_tau]
theorem Glue.gamG_inj (d e : Nat × Bool) (h : gamG N pt x d = gamG N pt x e) : d = e := by rw [← G.gamG_gamG d, h, G.gamG_gamG]
theorem Glue.phi_lt (d : Nat × Bool) (h : d.1 < N) : (phi nx pv d).1 < N := by
 unfold phi; split
 ·
  exact G.pv_lt _ h
 ·
  exact G.nx_lt _ h
theorem Glue.tau_lt (d : Nat × Bool) (h : d.1 < N) : (tau nx pv d).1 < N := by
 unfold tau; split
 ·
  exact G.nx_lt _ h
 ·
  exact G.pv_lt _ h
theorem Glue.gam_lt (d : Nat × Bool) (h : d.1 < N) : (gam pt x d).1 < N := by
 unfold gam; split
 ·
  exact h
 ·
  exact G.pt_lt _ h
theorem Glue.gamG_lt (d : Nat × Bool) (h : d.1 < N) : (gamG N pt x d).1 < N := by
 unfold gamG; split
 ·
  exact h
 ·
  exact G.gam_lt _ h
theorem Glue.alp_lt (d : Nat × Bool) (h : d.1 < N) : (alp pt x d).1 < N := by
 unfold alp; split
 ·
  exact h
 ·
  exact G.pt_lt _ h
theorem Glue.phi_out (d : Nat × Bool) (h : ¬ d.1 < N) : phi nx pv d = d := by
 obtain ⟨c, b⟩ := d
 unfold phi
 cases b <;> simp [G.nx_out c h, G.pv_out c h]
theorem Glue.alp_out (d : Nat × Bool) (h : ¬ d.1 < N) : alp pt x d = d := by
 unfold alp; rw [if_pos (G.pt_out _ h)]
theorem Glue.perm_phi : Perm (phi nx pv) := perm_of_list G.phi_inj (both (List.range N)) (fun d hd => by
 rw [mem_both, List.mem_range] at *; exact G.phi_lt d hd) (fun d hd => G.phi_out d (fun k => hd (by rw [mem_both, List.mem_range]; exact k)))
theorem Glue.perm_psi : Perm (fun d => tau nx pv (gam pt x d)) := by
 have : (fun d => tau nx pv (gam pt x d)) = fun d => phi nx pv (alp pt x d) := by funext d; rw [G.phi_alp]
 rw [this]
 refine perm_of_list (fun d e h => ?_) (both (List.range N)) (fun d hd => ?_) (fun d hd => ?_)
 ·
  have := G.phi_inj _ _ h
  rw [← G.alp_alp d, this, G.alp_alp]
 ·
  rw [mem_both, List.mem_range] at *; exact G.phi_lt _ (G.alp_lt d hd)
 ·
  have hd' : ¬ d.1 < N := fun k => hd (by rw [mem_both, List.mem_range]; exact k)
  show phi nx pv (alp pt x d) = d
  rw [G.alp_out d hd', G.phi_out d hd']
theorem Glue.gamG_out (d : Nat × Bool) (h : ¬ d.1 < N) : gamG N pt x d = (d.1, !d.2) := by
 unfold gamG gam; rw [if_neg (fun k => h k.2), if_pos (G.pt_out _ h)]
theorem Glue.perm_psiG : Perm (fun d => tau nx pv (gamG N pt x d)) := by
 refine perm_of_list (fun d e h => G.gamG_inj _ _ (G.tau_inj _ _ h)) (both (List.range N)) (fun d hd => ?_) (fun d hd => ?_)
 ·
  rw [mem_both, List.mem_range] at *; exact G.tau_lt _ (G.gamG_lt d hd)
 ·
  have hd' : ¬ d.1 < N := fun k => hd (by rw [mem_both, List.mem_range]; exact k)
  obtain ⟨c, b⟩ := d
  show tau nx pv (gamG N pt x (c, b)) = (c, b)
  rw [G.gamG_out _ hd']
  unfold tau
  cases b <;> simp [G.nx_out c hd', G.pv_out c hd']
theorem Glue.K_psi : K (Cyc (fun d => tau nx pv (gam pt x d))) (both (List.range N)) = 2 * vF N nx pv pt x := by
 refine K_inv G.tau_tau G.gam_gam (fun _ => rfl) G.perm_psi _ (fun d hd => ?_) (fun d _ => ?_) (fun d _ => ?_)
 ·
  rw [mem_both, List.mem_range] at hd
  rw [mem_both, mem_both, List.mem_range, List.mem_range]
  exact ⟨G.tau_lt d hd, G.gam_lt d hd⟩
 ·
  obtain ⟨c, b⟩ := d
  unfold tau
  cases b <;> simp
 ·
  obtain ⟨c, b⟩ := d
  unfold gam
  by_cases h : pt c = c
  ·
   cases b <;> simp [h]
  ·
   simp [h]
theorem Glue.it_pv (k c : Nat) : it pv k (it nx k c) = c := by
 induction k generalizing c with
 | zero => rfl
 | succ k ih =>
  rw [it_succ' pv k]
  show it pv k (pv (nx (it nx k c))) = c
  rw [G.pv_nx]; exact ih c
theorem Glue.cyc_phi (c : Nat) (b : Bool) (h : c < N) : Cyc (phi nx pv) (c, b) (fs (pol c), b) := by
 have hE := cyc_eqv G.perm_phi
 obtain ⟨k, hk⟩ := G.cyc c h
 cases b with
 | false => exact hE.symm ⟨k, by rw [it_phi_f, hk]⟩
 | true =>
  have := G.it_pv k (fs (pol c))
  rw [hk] at this
  exact ⟨k, by rw [it_phi_t, this]⟩
theorem Glue.phi_pol (d e : Nat × Bool) (hd : d.1 < N) (h : Cyc (phi nx pv) d e) : e.1 < N ∧ pol e.1 = pol d.1 ∧ e.2 = d.2 := by
 refine cyc_closed (S := fun e => e.1 < N ∧ pol e.1 = pol d.1 ∧ e.2 = d.2) ?_ ⟨hd, rfl, rfl⟩ h
 rintro ⟨c, b⟩ ⟨h1, h2, h3⟩
 refine ⟨G.phi_lt _ h1, ?_, ?_⟩
 ·
  unfold phi
  cases b
  ·
   simp only [Bool.false_eq_true, if_false]; rw [G.pol_nx c h1]; exact h2
  ·
   simp only [if_true]; rw [G.pol_pv c h1]; exact h2
 ·
  unfold phi
  cases b
  ·
   simpa using h3
  ·
   simpa using h3
theorem Glue.K_phi : K (Cyc (phi nx pv)) (both (List.range N)) = 2 * F := by
 have hE := cyc_eqv G.perm_phi
 have hlen : (both ((List.range F).map fs)).length = 2 * F := by rw [both_length, List.length_map, List.length_range]
 have hfi : ∀ a b, a < F → b < F → fs a = fs b → a = b := fun a b ha hb e => by
  have h1 := (G.fs_lt a ha).2; rw [e, (G.fs_lt b hb).2] at h1; exact h1.symm
 have hnd : ((List.range F).map fs).Nodup := by
  unfold List.Nodup
  rw [List.pairwise_map]
  refine (List.nodup_range (n := F)).imp_of_mem ?_
  intro a b ha hb h e
  exact h (hfi a b (List.mem_range.1 ha) (List.mem_range.1 hb) e)
 rw [← hlen]
 refine K_reps hE _ _ ?_ ?_ ?_
 ·
  refine (both_nodup hnd).imp_of_mem ?_
  rintro ⟨a, b⟩ ⟨c, e⟩ ha hc hne k
  rw [mem_both, List.mem_map] at ha hc
  obtain ⟨p, hp, h1⟩ := ha
  obtain ⟨q, hq, h2⟩ := hc
  rw [List.mem_range] at hp hq
  simp only at h1 h2
  subst h1 h2
  obtain ⟨h3, h4, h5⟩ := G.phi_pol _ _ (G.fs_lt p hp).1 k
  simp only at h3 h4 h5
  rw [(G.fs_lt p hp).2, (G.fs_lt q hq).2] at h4
  subst h4 h5
  exact hne rfl
 ·
  rintro ⟨c, b⟩ hd
  rw [mem_both, List.mem_range] at hd
  refine ⟨(fs (pol c), b), ?_, G.cyc_phi c b hd⟩
  rw [mem_both, List.mem_map]
  exact ⟨pol c, List.mem_range.2 (G.pol_lt c hd), rfl⟩
 ·
  rintro ⟨c, b⟩ hd
  rw [mem_both, List.mem_map] at hd
  obtain ⟨p, hp, h1⟩ := hd
  refine ⟨(c, b), ?_, hE.refl _⟩
  rw [mem_both, List.mem_range]
  simp only at h1
  subst h1
  exact (G.fs_lt p (List.mem_range.1 hp)).1
theorem Glue.turned {d e : Nat × Bool} (h : EQ (fun d e => e = phi nx pv d ∨ e = alp pt x d) d e) : EQ (fun d e => e = phi nx pv d ∨ e = alp pt x d) (d.1, !d.2) (e.1, !e.2) := by
 refine EQ_map (fun d : Nat × Bool => (d.1, !d.2)) ?_ h
 rintro ⟨c, b⟩ e (rfl | rfl)
 ·
  refine .symm (.base (.inl ?_))
  unfold phi
  cases b
  ·
   simp [G.pv_nx]
  ·
   simp [G.nx_pv]
 ·
  refine .base (.inr ?_)
  unfold alp
  by_cases h : pt c = c
  ·
   simp [h]
  ·
   by_cases e : x (pt c) = x c <;> cases b <;> simp [h, e]
theorem Glue.parts_le : K (EQ (fun d e => e = phi nx pv d ∨ e = alp pt x d)) (both (List.range N)) ≤ 2 * prt N F pol x := by
 obtain ⟨r, r1, r2, r3, r4⟩ := reps _ (EQ_eqv (Shr N pol x)) (List.range F)
 unfold prt
 rw [← r3]
 have hlen : (both (r.map fs)).length = 2 * r.length := by rw [both_length, List.length_map]
 rw [← hlen]
 have one : ∀ c d b, c < N → d < N → pol c = pol d → EQ (fun d e => e = phi nx pv d ∨ e = alp pt x d) (c, b) (d, b) := fun c d b hc hd e => by
  have h1 := G.cyc_phi c b hc
  have h2 := G.cyc_phi d b hd
  rw [e] at h1
  have h3 := (cyc_eqv G.perm_phi).trans h1 ((cyc_eqv G.perm_phi).symm h2)
  exact cyc_min (EQ_eqv _) (fun z => .base (.inl rfl)) _ _ h3
 have hT : Eqv (fun p q => p = q ∨ (p < F ∧ q < F ∧ ∀ c d, c < N → d < N → pol c = p → pol d = q → ∀ b, ∃ b', EQ (fun d e => e = phi nx pv d ∨ e = alp pt x d) (c, b) (d, b'))) := by
  refine ⟨fun p => .inl rfl, ?_, ?_⟩
  ·
   rintro p q (rfl | ⟨h1, h2, h3⟩)
   ·
    exact .inl rfl
   ·
    refine .inr ⟨h2, h1, fun c d hc hd e1 e2 b => ?_⟩
    obtain ⟨b1, k1⟩ := h3 d c hd hc e2 e1 false
    by_cases e : b = b1
    ·
     subst e; exact ⟨false, .symm k1⟩
    ·
     have k2 := G.turned k1
     have e' : b = !b1 := by cases b <;> cases b1 <;> simp_all
     subst e'
     exact ⟨true, .symm k2⟩
  ·
   rintro p q s (rfl | ⟨h1, h2, h3⟩) (rfl | ⟨k1, k2, k3⟩)
   ·
    exact .inl rfl
   ·
    exact .inr ⟨k1, k2, k3⟩
   ·
    exact .inr ⟨h1, h2, h3⟩
   ·
    refine .inr ⟨h1, k2, fun c d hc hd e1 e2 b => ?_⟩
    obtain ⟨f1, f2⟩ := G.fs_lt q h2
    obtain ⟨b1, g1⟩ := h3 c (fs q) hc f1 e1 f2 b
    obtain ⟨b2, g2⟩ := k3 (fs q) d f1 hd f2 e2 b1
    exact ⟨b2, .trans g1 g2⟩
 have hS : ∀ p q, EQ (Shr N pol x) p q → (p = q ∨ (p < F ∧ q < F ∧ ∀ c d, c < N → d < N → pol c = p → pol d = q → ∀ b, ∃ b', EQ (fun d e => e = phi nx pv d ∨ e = alp pt x d) (c, b) (d, b'))) := fun p q h => by
  refine EQ_min hT ?_ h
  rintro p q ⟨u, v, hu, hv, rfl, rfl, huv⟩
  refine .inr ⟨G.pol_lt u hu, G.pol_lt v hv, fun c d hc hd e1 e2 b => ?_⟩
  have k1 := one c u b hc hu e1
  rcases G.uniq u v hu hv huv with e | e
  ·
   subst e
   exact ⟨b, .trans k1 (one v d b hv hd e2.symm)⟩
  ·
   by_cases h0 : pt u = u
   ·
    rw [h0] at e
    subst e
    exact ⟨b, .trans k1 (one v d b hv hd e2.symm)⟩
   ·
    subst e
    have k2 : EQ (fun d e => e = phi nx pv d ∨ e = alp pt x d) (u, b) (alp pt x (u, b)) := .base (.inr rfl)
    unfold alp at k2
    simp only [h0, if_false] at k2
    exact ⟨_, .trans k1 (.trans k2 (one _ d _ hv hd e2.symm))⟩
 refine K_cover (EQ_eqv _) _ _ ?_
 rintro ⟨c, b⟩ hd
 rw [mem_both, List.mem_range] at hd
 obtain ⟨q, hq, hR⟩ := r4 (pol c) (List.mem_range.2 (G.pol_lt c hd))
 have hqF := List.mem_range.1 (r1 q hq)
 obtain ⟨f1, f2⟩ := G.fs_lt q hqF
 rcases hS _ _ hR with e | ⟨_, _, h⟩
 ·
  exact ⟨(fs q, b), by rw [mem_both, List.mem_map]; exact ⟨q, hq, rfl⟩, one c (fs q) b hd f1 (by rw [f2]; exact e)⟩
 ·
  obtain ⟨b', h'⟩ := h c (fs q) hd f1 rfl f2 b
  exact ⟨(fs q, b'), by rw [mem_both, List.mem_map]; exact ⟨q, hq, rfl⟩, h'⟩
theorem Glue.half : Half (alp pt x) (both (List.range N)) (both (glued N pt)) := by
 refine ⟨?_, ?_⟩
 ·
  refine (both_nodup ((List.nodup_range).filter _)).imp_of_mem ?_
  rintro ⟨c, b⟩ ⟨c', b'⟩ h1 h2 hne
  refine ⟨hne, fun e => ?_⟩
  rw [mem_both] at h1 h2
  have g1 := (mem_glued c).1 h1
  have g2 := (mem_glued c').1 h2
  unfold alp at e
  rw [if_neg (show ¬ pt c' = c' by omega)] at e
  have e1 : c = pt c' := congrArg Prod.fst e
  rw [e1, G.pt_pt] at g1
  omega
 ·
  rintro ⟨c, b⟩ h1
  rw [mem_both] at h1
  have g1 := (mem_glued c).1 h1
  refine ⟨?_, ?_, fun e => ?_⟩
  ·
   rw [mem_both, List.mem_range]; exact g1.1
  ·
   rw [mem_both, List.mem_range]; exact G.alp_lt _ g1.1
  ·
   unfold alp at e
   rw [if_neg (show ¬ pt c = c by omega)] at e
   have e1 : pt c = c := congrArg Prod.fst e
   omega
theorem Glue.all_alp (d : Nat × Bool) (h : alp pt x d ≠ d) : d ∈ both (glued N pt) ∨ alp pt x d ∈ both (glued N pt) := by
 obtain ⟨c, b⟩ := d
 have hN : c < N := by
  by_cases k : c < N
  ·
   exact k
  ·
   exact absurd (G.alp_out (c, b) k) h
 have hp : pt c ≠ c := fun e => h (by unfold alp; rw [if_pos e])
 have hp2 := G.pt_lt c hN
 have hpp := G.pt_pt c
 rw [mem_both, mem_both, mem_glued, mem_glued]
 unfold alp
 rw [if_neg hp]
 show (c < N ∧ c < pt c) ∨ (pt c < N ∧ pt c < pt (pt c))
 rw [hpp]
 omega
theorem Glue.euler_le : vF N nx pv pt x + F ≤ 2 * prt N F pol x + (glued N pt).length := by
 have key := (genus (φ := phi nx pv) (a := alp pt x) G.alp_alp G.phi_inj (both (List.range N)) (fun d hd => by
  rw [mem_both, List.mem_range] at *; exact G.phi_lt d hd) (fun d hd => G.phi_out d (fun k => hd (by rw [mem_both, List.mem_range]; exact k))) (both (glued N pt)) G.half G.all_alp).1
 have e : (fun d => phi nx pv (alp pt x d)) = fun d => tau nx pv (gam pt x d) := by funext d; rw [G.phi_alp]
 rw [e, G.K_psi, G.K_phi, both_length] at key
 have := G.parts_le
 omega
end
end Go.Proofs.Ytfknffpfjoalkaa.Kl
