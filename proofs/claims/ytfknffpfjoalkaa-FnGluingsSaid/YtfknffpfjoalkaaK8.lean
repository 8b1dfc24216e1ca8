/- Polygons glued along sides: parity where both sides can be told apart; circles of the boundary. -/
import Derived.Test.YtfknffpfjoalkaaK7
namespace Go.Proofs.Ytfknffpfjoalkaa.Kl
open Classical
variable {N F : Nat} {nx pv pt pol fs : Nat → Nat} {x : Nat → Int}
def ph1 (nx pv pol : Nat → Nat) (t : Nat → Bool) (c : Nat) : Nat := if t (pol c) = true then pv c else nx c
def Opp (N : Nat) (pt pol : Nat → Nat) (x : Nat → Int) (t : Nat → Bool) : Prop := ∀ c, c < N → pt c ≠ c → (decide (0 < x c) != t (pol c)) ≠ (decide (0 < x (pt c)) != t (pol (pt c)))
def dirD (pol : Nat → Nat) (t : Nat → Bool) (c : Nat) : Nat × Bool := (c, t (pol c))
set_option linter.unusedSectionVars false
section
variable (G : Glue N nx pv pt x pol fs F)
include G
theorem Glue.ph1_inj (t : Nat → Bool) (a b : Nat) (h : ph1 nx pv pol t a = ph1 nx pv pol t b) : a = b := by
 have e0 : ∀ c, c < N → pol (ph1 nx pv pol t c) = pol c ∧ ph1 nx pv pol t c < N := fun c hc => by
  unfold ph1; split
  ·
   exact ⟨G.pol_pv c hc, G.pv_lt c hc⟩
  ·
   exact ⟨G.pol_nx c hc, G.nx_lt c hc⟩
 have e1 : ∀ c, ¬ c < N → ph1 nx pv pol t c = c := fun c hc => by
  unfold ph1; split
  ·
   exact G.pv_out c hc
  ·
   exact G.nx_out c hc
 by_cases ha : a < N
 ·
  by_cases hb : b < N
  ·
   have hp : pol a = pol b := by rw [← (e0 a ha).1, h, (e0 b hb).1]
   unfold ph1 at h
   rw [hp] at h
   split at h
   ·
    have := congrArg nx h; rwa [G.nx_pv, G.nx_pv] at this
   ·
    have := congrArg pv h; rwa [G.pv_nx, G.pv_nx] at this
  ·
   rw [e1 b hb] at h
   exact absurd (h ▸ (e0 a ha).2) hb
 ·
  by_cases hb : b < N
  ·
   rw [e1 a ha] at h
   exact absurd (h ▸ (e0 b hb).2) ha
  ·
   rw [e1 a ha, e1 b hb] at h; exact h
theorem Glue.ph1_lt (t : Nat → Bool) (c : Nat) (hc : c < N) : ph1 nx pv pol t c < N := by
 unfold ph1; split
 ·
  exact G.pv_lt c hc
 ·
  exact G.nx_lt c hc
theorem Glue.ph1_out (t : Nat → Bool) (c : Nat) (hc : ¬ c < N) : ph1 nx pv pol t c = c := by
 unfold ph1; split
 ·
  exact G.pv_out c hc
 ·
  exact G.nx_out c hc
theorem Glue.ph1_pol (t : Nat → Bool) (c : Nat) (hc : c < N) : pol (ph1 nx pv pol t c) = pol c := by
 unfold ph1; split
 ·
  exact G.pol_pv c hc
 ·
  exact G.pol_nx c hc
theorem Glue.perm_ph1 (t : Nat → Bool) : Perm (ph1 nx pv pol t) := perm_of_list (G.ph1_inj t) (List.range N) (fun c hc => by
 rw [List.mem_range] at *; exact G.ph1_lt t c hc) (fun c hc => G.ph1_out t c (fun k => hc (List.mem_range.2 k)))
theorem Glue.cyc_ph1 (t : Nat → Bool) (c : Nat) (hc : c < N) : Cyc (ph1 nx pv pol t) c (fs (pol c)) := by
 have hE := cyc_eqv (G.perm_ph1 t)
 have h := G.cyc c hc
 obtain ⟨k, hk⟩ := h
 have key : ∀ k z, z < N → Cyc (ph1 nx pv pol t) z (it nx k z) ∧ it nx k z < N ∧ pol (it nx k z) = pol z := by
  intro k
  induction k with
  | zero => intro z hz; exact ⟨hE.refl z, hz, rfl⟩
  | succ k ih =>
   intro z hz
   obtain ⟨h1, h2, h3⟩ := ih z hz
   refine ⟨hE.trans h1 ?_, G.nx_lt _ h2, by show pol (nx (it nx k z)) = _; rw [G.pol_nx _ h2]; exact h3⟩
   show Cyc (ph1 nx pv pol t) (it nx k z) (nx (it nx k z))
   by_cases ht : t (pol (it nx k z)) = true
   ·
    have := cyc_step (ph1 nx pv pol t) (nx (it nx k z))
    have e : ph1 nx pv pol t (nx (it nx k z)) = it nx k z := by
     unfold ph1
     rw [G.pol_nx _ h2, if_pos ht, G.pv_nx]
    rw [e] at this
    exact hE.symm this
   ·
    have := cyc_step (ph1 nx pv pol t) (it nx k z)
    have e : ph1 nx pv pol t (it nx k z) = nx (it nx k z) := by unfold ph1; rw [if_neg ht]
    rw [e] at this
    exact this
 have := (key k (fs (pol c)) (G.fs_lt _ (G.pol_lt c hc)).1).1
 rw [hk] at this
 exact hE.symm this
theorem Glue.K_ph1 (t : Nat → Bool) : K (Cyc (ph1 nx pv pol t)) (List.range N) = F := by
 have hE := cyc_eqv (G.perm_ph1 t)
 have hlen : ((List.range F).map fs).length = F := by rw [List.length_map, List.length_range]
 conv => rhs; rw [← hlen]
 refine K_reps hE _ _ ?_ ?_ ?_
 ·
  rw [List.pairwise_map]
  refine (List.nodup_range (n := F)).imp_of_mem ?_
  intro a b ha hb hne k
  rw [List.mem_range] at ha hb
  have hS := cyc_closed (σ := ph1 nx pv pol t) (S := fun z => z < N ∧ pol z = a) (fun z hz => ⟨G.ph1_lt t z hz.1, by rw [G.ph1_pol t z hz.1]; exact hz.2⟩) (G.fs_lt a ha) k
  rw [(G.fs_lt b hb).2] at hS
  exact hne hS.2.symm
 ·
  intro c hc
  rw [List.mem_range] at hc
  exact ⟨fs (pol c), List.mem_map.2 ⟨pol c, List.mem_range.2 (G.pol_lt c hc), rfl⟩, G.cyc_ph1 t c hc⟩
 ·
  intro c hc
  obtain ⟨q, hq, rfl⟩ := List.mem_map.1 hc
  exact ⟨fs q, List.mem_range.2 (G.fs_lt q (List.mem_range.1 hq)).1, hE.refl _⟩
theorem Glue.dir_psi (t : Nat → Bool) (h : Opp N pt pol x t) (c : Nat) (hc : c < N) : tau nx pv (gam pt x (dirD pol t c)) = dirD pol t (ph1 nx pv pol t (pt c)) := by
 have hb : gam pt x (dirD pol t c) = (pt c, !(t (pol (pt c)))) := by
  unfold gam dirD
  by_cases e : pt c = c
  ·
   simp [e]
  ·
   simp only [e, if_false]
   have ho := h c hc e
   have ha := G.pt_abs c hc
   congr 1
   by_cases e2 : x (pt c) = x c
   ·
    rw [if_pos e2]
    rw [e2] at ho
    revert ho
    generalize t (pol c) = u
    generalize t (pol (pt c)) = v
    generalize decide (0 < x c) = w
    cases u <;> cases v <;> cases w <;> decide
   ·
    rw [if_neg e2]
    have e3 : x (pt c) = - x c := by omega
    have e4 : decide (0 < x (pt c)) = !decide (0 < x c) := by
     rw [e3]
     by_cases e5 : 0 < x c
     ·
      rw [decide_eq_true e5, decide_eq_false (by omega)]; rfl
     ·
      rw [decide_eq_false e5, decide_eq_true (by omega)]; rfl
    rw [e4] at ho
    revert ho
    generalize t (pol c) = u
    generalize t (pol (pt c)) = v
    generalize decide (0 < x c) = w
    cases u <;> cases v <;> cases w <;> decide
 have hpt := G.pt_lt c hc
 rw [hb]
 unfold tau dirD
 rw [G.ph1_pol t _ hpt]
 unfold ph1
 cases e : t (pol (pt c)) <;> simp
theorem Glue.K_psi1 (t : Nat → Bool) (h : Opp N pt pol x t) : K (Cyc (fun c => ph1 nx pv pol t (pt c))) (List.range N) = vF N nx pv pt x := by
 have hP : Perm (fun c => ph1 nx pv pol t (pt c)) := perm_of_list (fun a b e => by
   have := G.ph1_inj t _ _ e
   rw [← G.pt_pt a, this, G.pt_pt]) (List.range N) (fun c hc => by
   rw [List.mem_range] at *; exact G.ph1_lt t _ (G.pt_lt c hc)) (fun c hc => by
   have hc' : ¬ c < N := fun k => hc (List.mem_range.2 k)
   show ph1 nx pv pol t (pt c) = c
   rw [G.pt_out c hc', G.ph1_out t c hc'])
 have hit : ∀ k a, a < N → it (fun d => tau nx pv (gam pt x d)) k (dirD pol t a) = dirD pol t (it (fun c => ph1 nx pv pol t (pt c)) k a) ∧ it (fun c => ph1 nx pv pol t (pt c)) k a < N := by
  intro k
  induction k with
  | zero => intro a ha; exact ⟨rfl, ha⟩
  | succ k ih =>
   intro a ha
   obtain ⟨h1, h2⟩ := ih a ha
   refine ⟨?_, G.ph1_lt t _ (G.pt_lt _ h2)⟩
   show tau nx pv (gam pt x (it (fun d => tau nx pv (gam pt x d)) k (dirD pol t a))) = _
   rw [h1, G.dir_psi t h _ h2]
   rfl
 unfold vF
 refine K_eq _ _ (cyc_eqv hP) (EQ_eqv _) _ _ (fun c d => EQ (fun d e => e = tau nx pv d ∨ e = gam pt x d) (dirD pol t c) d) ?_ ?_ ?_
 ·
  intro c hc
  rw [List.mem_range] at hc
  exact ⟨dirD pol t c, by rw [mem_both, List.mem_range]; exact hc, .refl _⟩
 ·
  rintro ⟨c, b⟩ hd
  rw [mem_both, List.mem_range] at hd
  by_cases e : b = t (pol c)
  ·
   exact ⟨c, List.mem_range.2 hd, by rw [e]; exact .refl _⟩
  ·
   have hb : b = !(t (pol c)) := by cases b <;> cases h : t (pol c) <;> simp_all
   cases ht : t (pol c) with
   | false =>
    rw [ht] at hb
    refine ⟨nx c, List.mem_range.2 (G.nx_lt c hd), .symm (.base (.inl ?_))⟩
    unfold dirD tau
    rw [hb, G.pol_nx c hd, ht]
    rfl
   | true =>
    rw [ht] at hb
    refine ⟨pv c, List.mem_range.2 (G.pv_lt c hd), .symm (.base (.inl ?_))⟩
    unfold dirD tau
    rw [hb, G.pol_pv c hd, ht]
    rfl
 ·
  intro a d c e ha hc _ _ g1 g2
  rw [List.mem_range] at ha hc
  constructor
  ·
   intro hde
   have hac : EQ (fun d e => e = tau nx pv d ∨ e = gam pt x d) (dirD pol t a) (dirD pol t c) := .trans g1 (.trans hde (.symm g2))
   rcases (inv_cls G.tau_tau G.gam_gam (fun _ => rfl) G.perm_psi _ _).1 hac with ⟨k, hk⟩ | ⟨k, hk⟩
   ·
    rw [(hit k a ha).1] at hk
    exact ⟨k, congrArg Prod.fst hk⟩
   ·
    exfalso
    rw [(hit k a ha).1] at hk
    generalize it (fun c => ph1 nx pv pol t (pt c)) k a = z at hk
    unfold dirD tau at hk
    cases ht : t (pol c) with
    | false =>
     rw [ht] at hk
     simp only [Bool.false_eq_true, if_false] at hk
     have h1 := congrArg Prod.fst hk
     have h2 := congrArg Prod.snd hk
     simp only at h1 h2
     rw [h1, G.pol_pv c hc, ht] at h2
     cases h2
    | true =>
     rw [ht] at hk
     simp only [if_true] at hk
     have h1 := congrArg Prod.fst hk
     have h2 := congrArg Prod.snd hk
     simp only at h1 h2
     rw [h1, G.pol_nx c hc, ht] at h2
     cases h2
  ·
   rintro ⟨k, hk⟩
   have h1 : Cyc (fun d => tau nx pv (gam pt x d)) (dirD pol t a) (dirD pol t c) := ⟨k, by rw [(hit k a ha).1, hk]⟩
   exact .trans (.symm g1) (.trans ((inv_cls G.tau_tau G.gam_gam (fun _ => rfl) G.perm_psi _ _).2 (.inl h1)) g2)
theorem Glue.euler_even (t : Nat → Bool) (h : Opp N pt pol x t) : ∃ q, vF N nx pv pt x + F + (glued N pt).length = 2 * q := by
 have hH : Half pt (List.range N) (glued N pt) := by
  refine ⟨(List.nodup_range.filter _).imp_of_mem ?_, ?_⟩
  ·
   intro a b ha hb hne
   have h1 := (mem_glued a).1 ha
   have h2 := (mem_glued b).1 hb
   refine ⟨hne, fun e => ?_⟩
   rw [e, G.pt_pt] at h1
   omega
  ·
   intro c hc
   have h1 := (mem_glued c).1 hc
   exact ⟨List.mem_range.2 h1.1, List.mem_range.2 (G.pt_lt c h1.1), by omega⟩
 have key := (genus (φ := ph1 nx pv pol t) (a := pt) G.pt_pt (G.ph1_inj t) (List.range N) (fun c hc => by
  rw [List.mem_range] at *; exact G.ph1_lt t c hc) (fun c hc => G.ph1_out t c (fun k => hc (List.mem_range.2 k))) (glued N pt) hH (fun c hc => by
  have hN : c < N := by
   by_cases k : c < N
   ·
    exact k
   ·
    exact absurd (G.pt_out c k) hc
  have := G.pt_lt c hN
  have hpp := G.pt_pt c
  rw [mem_glued, mem_glued, hpp]
  omega)).2
 rw [G.K_psi1 t h, G.K_ph1 t] at key
 exact key
theorem Glue.K_freeG : (frees N pt).length = K (EQ (fun d e => e = tau nx pv d ∨ e = gamG N pt x d)) (both (frees N pt)) := by
 have hnd : (both (frees N pt)).Nodup := both_nodup (List.nodup_range.filter _)
 have h := K_pairs (EQ_eqv (fun d e => e = tau nx pv d ∨ e = gamG N pt x d)) _ (both (frees N pt)) (Nat.le_refl _) hnd (fun d hd => by
  rw [mem_both, mem_frees] at hd
  obtain ⟨c, b⟩ := d
  have hfix : gamG N pt x (c, b) = (c, b) := by unfold gamG; rw [if_pos ⟨hd.2, hd.1⟩]
  obtain ⟨y, y1, y2, y3, y4⟩ := two_fixed G.tau_tau G.gamG_gamG (fun _ => rfl) G.perm_psiG (c, b) hfix (fun z _ => by
   obtain ⟨u, v⟩ := z
   unfold tau
   cases v <;> simp)
  have fix_free : ∀ z : Nat × Bool, gamG N pt x z = z → pt z.1 = z.1 ∧ z.1 < N := fun z hz => by
   unfold gamG at hz
   by_cases e : pt z.1 = z.1 ∧ z.1 < N
   ·
    exact e
   ·
    exfalso
    rw [if_neg e] at hz
    unfold gam at hz
    obtain ⟨u, v⟩ := z
    by_cases e2 : pt u = u
    ·
     simp only [e2, if_true] at hz
     have := congrArg Prod.snd hz
     cases v <;> simp at this
    ·
     simp only [e2, if_false] at hz
     exact e2 (congrArg Prod.fst hz)
  have free_fix : ∀ z : Nat × Bool, z ∈ both (frees N pt) → gamG N pt x z = z := fun z hz => by
   rw [mem_both, mem_frees] at hz
   unfold gamG
   rw [if_pos ⟨hz.2, hz.1⟩]
  have hy := fix_free y y2
  exact ⟨y, by rw [mem_both, mem_frees]; exact ⟨hy.2, hy.1⟩, y1, y3, fun z hz hR => y4 z (free_fix z hz) hR⟩)
 rw [both_length] at h
 omega
def Tc (N : Nat) (nx pv pt : Nat → Nat) (x : Nat → Int) (c d : Nat) : Prop := c ∈ frees N pt ∧ d ∈ frees N pt ∧ ∃ b b', EQ (fun d e => e = tau nx pv d ∨ e = gamG N pt x d) (c, b) (d, b')
noncomputable def brd (N : Nat) (nx pv pt : Nat → Nat) (x : Nat → Int) : Nat := K (EQ (Tc N nx pv pt x)) (frees N pt)
theorem Glue.both_cls {d e : Nat × Bool} (hd : d.1 < N) (h : EQ (fun d e => e = tau nx pv d ∨ e = gam pt x d) d e) :
  EQ (fun d e => e = tau nx pv d ∨ e = gamG N pt x d) d e ∨ ∃ c1 b1 c2 b2, EQ (fun d e => e = tau nx pv d ∨ e = gamG N pt x d) d (c1, b1) ∧ EQ (fun d e => e = tau nx pv d ∨ e = gamG N pt x d) e (c2, b2) ∧ c1 ∈ frees N pt ∧ c2 ∈ frees N pt ∧ EQ (Tc N nx pv pt x) c1 c2 := by
 have hQ : Eqv (fun d e : Nat × Bool => (d.1 < N ↔ e.1 < N) ∧ (d.1 < N → (EQ (fun d e => e = tau nx pv d ∨ e = gamG N pt x d) d e ∨ ∃ c1 b1 c2 b2, EQ (fun d e => e = tau nx pv d ∨ e = gamG N pt x d) d (c1, b1) ∧ EQ (fun d e => e = tau nx pv d ∨ e = gamG N pt x d) e (c2, b2) ∧ c1 ∈ frees N pt ∧ c2 ∈ frees N pt ∧ EQ (Tc N nx pv pt x) c1 c2))) := by
  refine ⟨fun d => ⟨Iff.rfl, fun _ => .inl (.refl d)⟩, ?_, ?_⟩
  ·
   rintro d e ⟨h1, h2⟩
   refine ⟨h1.symm, fun he => ?_⟩
   rcases h2 (h1.2 he) with h | ⟨c1, b1, c2, b2, k1, k2, k3, k4, k5⟩
   ·
    exact .inl (.symm h)
   ·
    exact .inr ⟨c2, b2, c1, b1, k2, k1, k4, k3, .symm k5⟩
  ·
   rintro d e f ⟨h1, h2⟩ ⟨g1, g2⟩
   refine ⟨h1.trans g1, fun hd => ?_⟩
   rcases h2 hd with h | ⟨c1, b1, c2, b2, k1, k2, k3, k4, k5⟩
   ·
    rcases g2 (h1.1 hd) with g | ⟨a1, e1, a2, e2, l1, l2, l3, l4, l5⟩
    ·
     exact .inl (.trans h g)
    ·
     exact .inr ⟨a1, e1, a2, e2, .trans h l1, l2, l3, l4, l5⟩
   ·
    rcases g2 (h1.1 hd) with g | ⟨a1, e1, a2, e2, l1, l2, l3, l4, l5⟩
    ·
     exact .inr ⟨c1, b1, c2, b2, k1, .trans (.symm g) k2, k3, k4, k5⟩
    ·
     exact .inr ⟨c1, b1, a2, e2, k1, l2, k3, l4, .trans k5 (.trans (.base ⟨k4, l3, b2, e1, .trans (.symm k2) l1⟩) l5)⟩
 refine (EQ_min hQ ?_ h).2 hd
 rintro d e (rfl | rfl)
 ·
  refine ⟨⟨G.tau_lt d, fun h => ?_⟩, fun _ => .inl (.base (.inl rfl))⟩
  have := G.tau_lt _ h
  rwa [G.tau_tau] at this
 ·
  refine ⟨⟨G.gam_lt d, fun h => ?_⟩, fun hd => ?_⟩
  ·
   have := G.gam_lt _ h
   rwa [G.gam_gam] at this
  ·
   by_cases e : pt d.1 = d.1
   ·
    have hf : d.1 ∈ frees N pt := (mem_frees _).2 ⟨hd, e⟩
    refine .inr ⟨d.1, d.2, d.1, !d.2, .refl _, ?_, hf, hf, .refl _⟩
    unfold gam
    rw [if_pos e]
    exact .refl _
   ·
    refine .inl (.base (.inr ?_))
    unfold gamG
    rw [if_neg (fun k => e k.1)]
theorem Glue.circles : vG N nx pv pt x + brd N nx pv pt x = vF N nx pv pt x + (frees N pt).length := by
 have hsub : ∀ d e, EQ (fun d e => e = tau nx pv d ∨ e = gamG N pt x d) d e → d.1 < N → EQ (fun d e => e = tau nx pv d ∨ e = gam pt x d) d e := fun d e h hd => by
  have hQ : Eqv (fun d e : Nat × Bool => (d.1 < N ↔ e.1 < N) ∧ (d.1 < N → EQ (fun d e => e = tau nx pv d ∨ e = gam pt x d) d e)) :=
   ⟨fun d => ⟨Iff.rfl, fun _ => .refl d⟩, fun ⟨h1, h2⟩ => ⟨h1.symm, fun he => .symm (h2 (h1.2 he))⟩, fun ⟨h1, h2⟩ ⟨g1, g2⟩ => ⟨h1.trans g1, fun hd => .trans (h2 hd) (g2 (h1.1 hd))⟩⟩
  refine (EQ_min hQ ?_ h).2 hd
  rintro d e (rfl | rfl)
  ·
   refine ⟨⟨G.tau_lt d, fun h => ?_⟩, fun _ => .base (.inl rfl)⟩
   have := G.tau_lt _ h
   rwa [G.tau_tau] at this
  ·
   refine ⟨⟨G.gamG_lt d, fun h => ?_⟩, fun hd => ?_⟩
   ·
    have := G.gamG_lt _ h
    rwa [G.gamG_gamG] at this
   ·
    by_cases e : pt d.1 = d.1 ∧ d.1 < N
    ·
     have : gamG N pt x d = d := by unfold gamG; rw [if_pos e]
     rw [this]; exact .refl d
    ·
     refine .base (.inr ?_)
     unfold gamG; rw [if_neg e]
 have hcl : ∀ d e, EQ (fun d e => e = tau nx pv d ∨ e = gamG N pt x d) d e → d.1 < N → e.1 < N := fun d e h hd => by
  have hQ : Eqv (fun d e : Nat × Bool => (d.1 < N ↔ e.1 < N)) := ⟨fun _ => Iff.rfl, fun h => h.symm, fun h k => h.trans k⟩
  refine (EQ_min hQ ?_ h).1 hd
  rintro d e (rfl | rfl)
  ·
   exact ⟨G.tau_lt d, fun h => by have := G.tau_lt _ h; rwa [G.tau_tau] at this⟩
  ·
   exact ⟨G.gamG_lt d, fun h => by have := G.gamG_lt _ h; rwa [G.gamG_gamG] at this⟩
 obtain ⟨S, hS⟩ : ∃ S : Nat × Bool → Prop, ∀ d, S d ↔ (d.1 < N ∧ ∃ f, f ∈ both (frees N pt) ∧ EQ (fun d e => e = tau nx pv d ∨ e = gamG N pt x d) d f) := ⟨_, fun _ => Iff.rfl⟩
 have hbl : ∀ f, f ∈ both (frees N pt) → f.1 < N := fun f hf => by rw [mem_both, mem_frees] at hf; exact hf.1
 have S1 : ∀ d e, EQ (fun d e => e = tau nx pv d ∨ e = gamG N pt x d) d e → S d → S e := fun d e h hd => by
  obtain ⟨h1, f, hf, hR⟩ := (hS d).1 hd
  exact (hS e).2 ⟨hcl d e h h1, f, hf, .trans (.symm h) hR⟩
 have S2 : ∀ d e, EQ (fun d e => e = tau nx pv d ∨ e = gam pt x d) d e → S d → S e := fun d e h hSd => by
  rcases G.both_cls ((hS d).1 hSd).1 h with h2 | ⟨c1, b1, c2, b2, k1, k2, k3, k4, k5⟩
  ·
   exact S1 d e h2 hSd
  ·
   have hc2 : (c2, b2) ∈ both (frees N pt) := by rw [mem_both]; exact k4
   exact (hS e).2 ⟨hcl _ _ (.symm k2) (hbl _ hc2), (c2, b2), hc2, k2⟩
 have e1 := K_split (EQ_eqv (fun d e => e = tau nx pv d ∨ e = gamG N pt x d)) S S1 (both (List.range N))
 have e2 := K_split (EQ_eqv (fun d e => e = tau nx pv d ∨ e = gam pt x d)) S S2 (both (List.range N))
 have m1 : ∀ d, d ∈ (both (List.range N)).filter (fun d => decide (S d)) ↔ S d := fun d => by
  rw [List.mem_filter, decide_eq_true_eq, mem_both, List.mem_range]
  exact ⟨fun h => h.2, fun h => ⟨((hS d).1 h).1, h⟩⟩
 have m2 : ∀ d, d ∈ (both (List.range N)).filter (fun d => decide (¬ S d)) ↔ d.1 < N ∧ ¬ S d := fun d => by
  rw [List.mem_filter, decide_eq_true_eq, mem_both, List.mem_range]
 have e3 : K (EQ (fun d e => e = tau nx pv d ∨ e = gamG N pt x d)) ((both (List.range N)).filter fun d => decide (S d)) = (frees N pt).length := by
  rw [G.K_freeG (x := x)]
  refine K_eq _ _ (EQ_eqv _) (EQ_eqv _) _ _ (fun d f => EQ (fun d e => e = tau nx pv d ∨ e = gamG N pt x d) d f) ?_ ?_ ?_
  ·
   intro d hd; exact ((hS d).1 ((m1 d).1 hd)).2
  ·
   intro f hf; exact ⟨f, (m1 f).2 ((hS f).2 ⟨hbl f hf, f, hf, .refl f⟩), .refl f⟩
  ·
   intro a b c d _ _ _ _ g1 g2
   exact ⟨fun h => .trans g1 (.trans h (.symm g2)), fun h => .trans (.symm g1) (.trans h g2)⟩
 have e4 : K (EQ (fun d e => e = tau nx pv d ∨ e = gam pt x d)) ((both (List.range N)).filter fun d => decide (S d)) = brd N nx pv pt x := by
  unfold brd
  refine K_eq _ _ (EQ_eqv _) (EQ_eqv _) _ _ (fun d c => d.1 < N ∧ c ∈ frees N pt ∧ ∃ b, EQ (fun d e => e = tau nx pv d ∨ e = gamG N pt x d) d (c, b)) ?_ ?_ ?_
  ·
   intro d hd
   obtain ⟨h1, ⟨c, b⟩, hf, hR⟩ := (hS d).1 ((m1 d).1 hd)
   rw [mem_both] at hf
   exact ⟨c, hf, h1, hf, b, hR⟩
  ·
   intro c hc
   have hlt := ((mem_frees c).1 hc).1
   exact ⟨(c, false), (m1 _).2 ((hS _).2 ⟨hlt, (c, false), by rw [mem_both]; exact hc, .refl _⟩), hlt, hc, false, .refl _⟩
  ·
   rintro d c e c' _ _ _ _ ⟨g0, g1, b, g2⟩ ⟨k0, k1, b', k2⟩
   have flip : ∀ c, c ∈ frees N pt → ∀ b b', EQ (fun d e => e = tau nx pv d ∨ e = gam pt x d) (c, b) (c, b') := fun c hc b b' => by
    have h1 : EQ (fun d e => e = tau nx pv d ∨ e = gam pt x d) (c, b) (c, !b) := .base (.inr (by unfold gam; rw [if_pos ((mem_frees c).1 hc).2]))
    by_cases hb : b' = b
    ·
     subst hb; exact .refl _
    ·
     have : b' = !b := by cases b <;> cases b' <;> simp_all
     rw [this]; exact h1
   constructor
   ·
    intro h
    have hQ : Eqv (fun c c' : Nat => c = c' ∨ (c ∈ frees N pt ∧ c' ∈ frees N pt ∧ ∀ b b', EQ (fun d e => e = tau nx pv d ∨ e = gam pt x d) (c, b) (c', b'))) := by
     refine ⟨fun _ => .inl rfl, ?_, ?_⟩
     ·
      rintro a c (rfl | ⟨h1, h2, h3⟩)
      ·
       exact .inl rfl
      ·
       exact .inr ⟨h2, h1, fun b b' => .symm (h3 b' b)⟩
     ·
      rintro a c f (rfl | ⟨h1, h2, h3⟩) (rfl | ⟨l1, l2, l3⟩)
      ·
       exact .inl rfl
      ·
       exact .inr ⟨l1, l2, l3⟩
      ·
       exact .inr ⟨h1, h2, h3⟩
      ·
       exact .inr ⟨h1, l2, fun b b' => .trans (h3 b false) (l3 false b')⟩
    have hmain : EQ (fun d e => e = tau nx pv d ∨ e = gam pt x d) (c, b) (c', b') := by
     rcases EQ_min hQ (fun a f ⟨h1, h2, u, v, h3⟩ => .inr ⟨h1, h2, fun b b' => .trans (flip a h1 b u) (.trans (hsub _ _ h3 ((mem_frees a).1 h1).1) (flip f h2 v b'))⟩) h with rfl | ⟨_, _, h3⟩
     ·
      exact flip c g1 b b'
     ·
      exact h3 b b'
    exact .trans (hsub _ _ g2 g0) (.trans hmain (.symm (hsub _ _ k2 k0)))
   ·
    intro h
    rcases G.both_cls g0 h with h2 | ⟨c1, b1, c2, b2, l1, l2, l3, l4, l5⟩
    ·
     exact .base ⟨g1, k1, b, b', .trans (.symm g2) (.trans h2 k2)⟩
    ·
     exact .trans (.base ⟨g1, l3, b, b1, .trans (.symm g2) l1⟩) (.trans l5 (.base ⟨l4, k1, b2, b', .trans (.symm l2) k2⟩))
 have e5 : K (EQ (fun d e => e = tau nx pv d ∨ e = gamG N pt x d)) ((both (List.range N)).filter fun d => decide (¬ S d)) = K (EQ (fun d e => e = tau nx pv d ∨ e = gam pt x d)) ((both (List.range N)).filter fun d => decide (¬ S d)) := by
  refine K_congr _ _ (EQ_eqv _) (EQ_eqv _) _ _ (fun _ => Iff.rfl) fun a b ha hb => ⟨fun h => hsub a b h ((m2 a).1 ha).1, fun h => ?_⟩
  rcases G.both_cls ((m2 a).1 ha).1 h with h2 | ⟨c1, b1, c2, b2, l1, l2, l3, l4, l5⟩
  ·
   exact h2
  ·
   exact absurd ((hS a).2 ⟨((m2 a).1 ha).1, (c1, b1), by rw [mem_both]; exact l3, l1⟩) ((m2 a).1 ha).2
 unfold vG vF
 omega
end
end Go.Proofs.Ytfknffpfjoalkaa.Kl
