/- Gluings as polygons glued along sides: Euler number, circles of the boundary and parts. Plain lists and numbers. -/
import Derived.Test.YtfknffpfjoalkaaBor
import Derived.Test.YtfknffpfjoalkaaK8
namespace Go.Proofs.Ytfknffpfjoalkaa.Joi
open Classical Go.Proofs.Ytfknffpfjoalkaa.Kl Go.Proofs.YtfknffpfjoalkaaW.PrintWords
theorem countP_places {α : Type} (q : α → Bool) (z : α) (l : List α) : l.countP q = ((List.range l.length).filter fun i => q (l.getD i z)).length := by
 induction l with
 | nil => rfl
 | cons a l ih =>
  rw [List.length_cons, List.range_succ_eq_map, List.filter_cons, List.countP_cons, ih, List.filter_map]
  have e : ((fun i => q ((a :: l).getD i z)) ∘ Nat.succ) = fun i => q (l.getD i z) := by funext i; rfl
  have e0 : (a :: l).getD 0 z = a := rfl
  rw [e, e0]
  by_cases h : q a = true
  ·
   rw [if_pos h, if_pos h, List.length_cons, List.length_map]
  ·
   rw [if_neg h, if_neg h, List.length_map]; omega
def xF (g : List (List Int)) (c : Nat) : Int := g.flatten.getD c 0
theorem flat_take_len (g : List (List Int)) (p : Nat) : (g.take p).flatten.length = fst g p := by unfold fst; rw [List.length_flatten]
theorem xF_cor {g : List (List Int)} {p i : Nat} (h : Side g p i) : xF g (cor g p i) = ltr g p i := by
 obtain ⟨hp, hi⟩ := h
 have e : g = g.take p ++ (row g p) :: g.drop (p + 1) := by
  have h1 : row g p = g[p] := by simp [row, List.getD_eq_getElem?_getD, hp]
  rw [h1, ← List.drop_eq_getElem_cons hp, List.take_append_drop]
 have e2 : g.flatten = (g.take p).flatten ++ (row g p ++ (g.drop (p + 1)).flatten) := by
  conv => lhs; rw [e]
  rw [List.flatten_append, List.flatten_cons]
 unfold xF cor
 rw [e2, List.getD_eq_getElem?_getD, List.getElem?_append_right (by rw [flat_take_len]; omega), flat_take_len, show fst g p + i - fst g p = i by omega, List.getElem?_append_left hi, List.getElem?_eq_getElem hi]
 unfold ltr
 rw [Go.Proofs.Ytfknffpfjoalkaa.Com.rd_lt hi]
 rfl
theorem side_of {g : List (List Int)} {c : Nat} (h : c < sidesN g) : ∃ p i, Side g p i ∧ c = cor g p i := cor_all g.length (Nat.le_refl _) c h
noncomputable def polF (g : List (List Int)) (c : Nat) : Nat := if h : c < sidesN g then (side_of h).choose else 0
noncomputable def idxF (g : List (List Int)) (c : Nat) : Nat := if h : c < sidesN g then (side_of h).choose_spec.choose else 0
theorem side_F {g : List (List Int)} {c : Nat} (h : c < sidesN g) : Side g (polF g c) (idxF g c) ∧ c = cor g (polF g c) (idxF g c) := by
 unfold polF idxF
 rw [dif_pos h, dif_pos h]
 exact (side_of h).choose_spec.choose_spec
theorem cor_lt {g : List (List Int)} {p i : Nat} (h : Side g p i) : cor g p i < sidesN g := by
 have := side_lt h
 have := h.2
 unfold cor
 omega
theorem pol_cor {g : List (List Int)} {p i : Nat} (h : Side g p i) : polF g (cor g p i) = p ∧ idxF g (cor g p i) = i := by
 obtain ⟨h1, h2⟩ := side_F (cor_lt h)
 obtain ⟨h3, h4⟩ := cor_inj h h1 h2
 exact ⟨h3.symm, h4.symm⟩
theorem xF_side {g : List (List Int)} {c : Nat} (h : c < sidesN g) : xF g c = ltr g (polF g c) (idxF g c) := by
 obtain ⟨s1, s2⟩ := side_F h
 have := xF_cor s1
 rw [← s2] at this
 exact this
noncomputable def nxF (g : List (List Int)) (c : Nat) : Nat := if c < sidesN g then nxc g (polF g c) (idxF g c) else c
noncomputable def pvF (g : List (List Int)) (c : Nat) : Nat := if c < sidesN g then cor g (polF g c) ((idxF g c + (row g (polF g c)).length - 1) % (row g (polF g c)).length) else c
noncomputable def ptF (g : List (List Int)) (c : Nat) : Nat := if h : ∃ d, d < sidesN g ∧ d ≠ c ∧ c < sidesN g ∧ (xF g d).natAbs = (xF g c).natAbs then h.choose else c
theorem nxF_cor {g : List (List Int)} {p i : Nat} (h : Side g p i) : nxF g (cor g p i) = cor g p ((i + 1) % (row g p).length) := by
 unfold nxF
 rw [if_pos (cor_lt h), (pol_cor h).1, (pol_cor h).2, nxc_cor]
theorem side_prev {g : List (List Int)} {p i : Nat} (h : Side g p i) : Side g p ((i + (row g p).length - 1) % (row g p).length) := ⟨h.1, Nat.mod_lt _ (by have := h.2; omega)⟩
theorem pvF_cor {g : List (List Int)} {p i : Nat} (h : Side g p i) : pvF g (cor g p i) = cor g p ((i + (row g p).length - 1) % (row g p).length) := by
 unfold pvF
 rw [if_pos (cor_lt h), (pol_cor h).1, (pol_cor h).2]
theorem mod_pn {i n : Nat} (h : i < n) : ((i + n - 1) % n + 1) % n = i := by
 rcases Nat.eq_zero_or_pos i with rfl | h0
 ·
  rw [Nat.zero_add, Nat.mod_eq_of_lt (show n - 1 < n by omega), show n - 1 + 1 = n by omega, Nat.mod_self]
 ·
  rw [show i + n - 1 = (i - 1) + n by omega, Nat.add_mod_right, Nat.mod_eq_of_lt (show i - 1 < n by omega), show i - 1 + 1 = i by omega, Nat.mod_eq_of_lt h]
theorem mod_np {i n : Nat} (h : i < n) : ((i + 1) % n + n - 1) % n = i := by
 by_cases h1 : i + 1 < n
 ·
  rw [Nat.mod_eq_of_lt h1, show i + 1 + n - 1 = i + n by omega, Nat.add_mod_right, Nat.mod_eq_of_lt h]
 ·
  have : i + 1 = n := by omega
  rw [this, Nat.mod_self, Nat.zero_add, Nat.mod_eq_of_lt (by omega)]; omega
def Twice (g : List (List Int)) : Prop := ∀ y : Nat, g.flatten.countP (fun x => x.natAbs == y) ≤ 2
theorem sides_flat (g : List (List Int)) : g.flatten.length = sidesN g := by unfold sidesN fst; rw [List.length_flatten, List.take_length]
theorem three_no {g : List (List Int)} (h : Twice g) {a b c : Nat} (ha : a < sidesN g) (hb : b < sidesN g) (hc : c < sidesN g) (hab : a ≠ b) (hac : a ≠ c) (hbc : b ≠ c) (e1 : (xF g a).natAbs = (xF g b).natAbs) (e2 : (xF g a).natAbs = (xF g c).natAbs) : False := by
 have h1 := h (xF g a).natAbs
 rw [countP_places _ 0] at h1
 have hn : ([a, b, c] : List Nat).Nodup := by simp [hab, hac, hbc]
 have := hn.length_le_of_subset (l₂ := (List.range g.flatten.length).filter fun i => ((g.flatten.getD i 0).natAbs == (xF g a).natAbs)) (by
  intro z hz
  rw [List.mem_filter, List.mem_range, sides_flat]
  simp only [List.mem_cons, List.not_mem_nil, or_false] at hz
  rcases hz with rfl | rfl | rfl
  ·
   exact ⟨ha, by simp [xF]⟩
  ·
   exact ⟨hb, by simpa [xF] using e1.symm⟩
  ·
   exact ⟨hc, by simpa [xF] using e2.symm⟩)
 simp only [List.length_cons, List.length_nil] at this
 omega
theorem ptF_spec {g : List (List Int)} {c : Nat} (h : ptF g c ≠ c) : ptF g c < sidesN g ∧ c < sidesN g ∧ (xF g (ptF g c)).natAbs = (xF g c).natAbs := by
 unfold ptF at h ⊢
 by_cases e : ∃ d, d < sidesN g ∧ d ≠ c ∧ c < sidesN g ∧ (xF g d).natAbs = (xF g c).natAbs
 ·
  rw [dif_pos e]
  have := e.choose_spec
  exact ⟨this.1, this.2.2.1, this.2.2.2⟩
 ·
  rw [dif_neg e] at h; exact absurd rfl h
theorem ptF_of {g : List (List Int)} (h : Twice g) {c d : Nat} (hc : c < sidesN g) (hd : d < sidesN g) (hne : d ≠ c) (e : (xF g d).natAbs = (xF g c).natAbs) : ptF g c = d := by
 have hx : ∃ d, d < sidesN g ∧ d ≠ c ∧ c < sidesN g ∧ (xF g d).natAbs = (xF g c).natAbs := ⟨d, hd, hne, hc, e⟩
 have hp : ptF g c ≠ c := by unfold ptF; rw [dif_pos hx]; exact hx.choose_spec.2.1
 obtain ⟨h1, _, h3⟩ := ptF_spec hp
 by_cases k : ptF g c = d
 ·
  exact k
 ·
  exact (three_no h hc h1 hd (fun e => hp e.symm) (fun e => hne e.symm) k h3.symm e.symm).elim
theorem glueF {g : List (List Int)} (hc : CorOk g) (h2 : Twice g) : Glue (sidesN g) (nxF g) (pvF g) (ptF g) (xF g) (polF g) (fst g) g.length := by
 refine ⟨fun c => ?_, fun c => ?_, fun c h => ?_, fun c h => ?_, fun c => ?_, fun c h => ?_, fun c h => ?_, fun c h => ?_, fun c d h k e => ?_, fun c h => ?_, fun c h => ?_, fun q hq => ?_, fun c h => ?_⟩
 ·
  by_cases h : c < sidesN g
  ·
   obtain ⟨p, i, hs, rfl⟩ := side_of h
   rw [pvF_cor hs, nxF_cor (side_prev hs), mod_pn hs.2]
  ·
   unfold pvF; rw [if_neg h]; unfold nxF; rw [if_neg h]
 ·
  by_cases h : c < sidesN g
  ·
   obtain ⟨p, i, hs, rfl⟩ := side_of h
   rw [nxF_cor hs, pvF_cor (side_next hs), mod_np hs.2]
  ·
   unfold nxF; rw [if_neg h]; unfold pvF; rw [if_neg h]
 ·
  obtain ⟨p, i, hs, rfl⟩ := side_of h
  rw [nxF_cor hs]; exact cor_lt (side_next hs)
 ·
  unfold nxF; rw [if_neg h]
 ·
  by_cases e : ptF g c = c
  ·
   rw [e, e]
  ·
   obtain ⟨k1, k2, k3⟩ := ptF_spec e
   exact ptF_of h2 k1 k2 (fun k => e k.symm) k3.symm
 ·
  by_cases e : ptF g c = c
  ·
   rw [e]; exact h
  ·
   exact (ptF_spec e).1
 ·
  by_cases e : ptF g c = c
  ·
   exact e
  ·
   exact absurd (ptF_spec e).2.1 h
 ·
  by_cases e : ptF g c = c
  ·
   rw [e]
  ·
   exact (ptF_spec e).2.2
 ·
  by_cases hne : d = c
  ·
   exact .inl hne
  ·
   exact .inr (ptF_of h2 h k hne e.symm).symm
 ·
  exact (side_F h).1.1
 ·
  obtain ⟨p, i, hs, rfl⟩ := side_of h
  rw [nxF_cor hs, (pol_cor (side_next hs)).1, (pol_cor hs).1]
 ·
  have hs : Side g q 0 := ⟨hq, (hc.2.1 q hq).1⟩
  have e : cor g q 0 = fst g q := by unfold cor; omega
  rw [← e]
  exact ⟨cor_lt hs, (pol_cor hs).1⟩
 ·
  obtain ⟨p, i, hs, rfl⟩ := side_of h
  rw [(pol_cor hs).1]
  refine ⟨i, ?_⟩
  have key : ∀ k, k < (row g p).length → it (nxF g) k (fst g p) = cor g p k := by
   intro k
   induction k with
   | zero => intro _; unfold cor; rfl
   | succ k ih =>
    intro hk
    show nxF g (it (nxF g) k (fst g p)) = _
    rw [ih (by omega), nxF_cor ⟨hs.1, by omega⟩, Nat.mod_eq_of_lt hk]
  exact key i hs.2
noncomputable def stF (g : List (List Int)) (d : Nat × Bool) : Nat := if d.2 = true then nxF g d.1 else d.1
theorem endC_st {g : List (List Int)} (hz : NZ g) {p i : Nat} (hs : Side g p i) (b : Bool) : stF g (cor g p i, b) = endC g p i (if (decide (0 < ltr g p i) = b) then 1 else 0) := by
 have h0 := hz p i hs
 unfold stF endC
 rw [nxF_cor hs, nxc_cor]
 cases b with
 | false =>
  by_cases e : 0 < ltr g p i
  ·
   simp [e]; omega
  ·
   simp [e]; omega
 | true =>
  by_cases e : 0 < ltr g p i
  ·
   simp [e]; omega
  ·
   simp [e]; omega
theorem st_endC {g : List (List Int)} (hz : NZ g) {p i k : Nat} (hs : Side g p i) (hk : k < 2) : endC g p i k = stF g (cor g p i, decide (0 < ltr g p i) == decide (k = 1)) := by
 rw [endC_st hz hs]
 congr 1
 rcases (show k = 0 ∨ k = 1 by omega) with rfl | rfl
 ·
  by_cases e : 0 < ltr g p i
  ·
   simp [e]
  ·
   simp [e]
 ·
  by_cases e : 0 < ltr g p i
  ·
   simp [e]
  ·
   simp [e]
set_option linter.unusedSectionVars false
section
variable {g : List (List Int)} (hc : CorOk g) (hz : NZ g) (h2 : Twice g)
include hc hz h2
def RD (g : List (List Int)) (d e : Nat × Bool) : Prop := e = tau (nxF g) (pvF g) d ∨ e = gamG (sidesN g) (ptF g) (xF g) d
theorem st_tau (d : Nat × Bool) : stF g (tau (nxF g) (pvF g) d) = stF g d := by
 obtain ⟨c, b⟩ := d
 unfold tau stF
 cases b with
 | false => simp [(glueF hc h2).nx_pv]
 | true => simp
theorem sc_gam {d : Nat × Bool} (hd : d.1 < sidesN g) : EG (Sc g) (stF g d) (stF g (gamG (sidesN g) (ptF g) (xF g) d)) := by
 obtain ⟨c, b⟩ := d
 by_cases e : ptF g c = c
 ·
  have : gamG (sidesN g) (ptF g) (xF g) (c, b) = (c, b) := by unfold gamG; rw [if_pos ⟨e, hd⟩]
  rw [this]; exact .refl _
 ·
  obtain ⟨k1, k2, k3⟩ := ptF_spec e
  obtain ⟨p, i, hs, h3⟩ := side_of k2
  obtain ⟨q, j, ht, h4⟩ := side_of k1
  have e5 : gamG (sidesN g) (ptF g) (xF g) (c, b) = (ptF g c, if xF g (ptF g c) = xF g c then b else !b) := by
   unfold gamG gam
   rw [if_neg (fun k => e k.1), if_neg e]
  rw [e5, h4]
  subst h3
  rw [h4, xF_cor hs, xF_cor ht] at k3
  rw [xF_cor hs, xF_cor ht, endC_st hz hs, endC_st hz ht]
  have z1 := hz p i hs
  have z2 := hz q j ht
  have hk : (if (decide (0 < ltr g q j) = if ltr g q j = ltr g p i then b else !b) then 1 else 0) = if (decide (0 < ltr g p i) = b) then 1 else 0 := by
   by_cases e6 : ltr g q j = ltr g p i
   ·
    rw [e6, if_pos rfl]
   ·
    have e7 : ltr g q j = - ltr g p i := by omega
    rw [if_neg e6, e7]
    have e8 : decide (0 < - ltr g p i) = !decide (0 < ltr g p i) := by
     by_cases e9 : 0 < ltr g p i
     ·
      rw [decide_eq_true e9, decide_eq_false (by omega)]; rfl
     ·
      rw [decide_eq_false e9, decide_eq_true (by omega)]; rfl
    rw [e8]
    generalize decide (0 < ltr g p i) = u
    cases u <;> cases b <;> rfl
  rw [hk]
  refine .base ⟨p, i, q, j, _, hs, ht, k3.symm, ?_, rfl, rfl⟩
  split <;> omega
theorem st_cls {d e : Nat × Bool} (hd : d.1 < sidesN g) (h : EQ (RD g) d e) : EG (Sc g) (stF g d) (stF g e) := by
 have G := glueF hc h2
 have hQ : Eqv (fun d e : Nat × Bool => (d.1 < sidesN g ↔ e.1 < sidesN g) ∧ (d.1 < sidesN g → EG (Sc g) (stF g d) (stF g e))) :=
  ⟨fun d => ⟨Iff.rfl, fun _ => .refl _⟩, fun ⟨h1, h2⟩ => ⟨h1.symm, fun he => .symm (h2 (h1.2 he))⟩, fun ⟨h1, h2⟩ ⟨g1, g2⟩ => ⟨h1.trans g1, fun hd => .trans (h2 hd) (g2 (h1.1 hd))⟩⟩
 refine (EQ_min hQ ?_ h).2 hd
 rintro d e (rfl | rfl)
 ·
  refine ⟨⟨G.tau_lt d, fun h => ?_⟩, fun _ => ?_⟩
  ·
   have := G.tau_lt _ h; rwa [G.tau_tau] at this
  ·
   rw [st_tau hc hz h2]; exact .refl _
 ·
  refine ⟨⟨G.gamG_lt d, fun h => ?_⟩, fun h => sc_gam hc hz h2 h⟩
  have := G.gamG_lt _ h; rwa [G.gamG_gamG] at this
theorem same_st {d e : Nat × Bool} (h : stF g d = stF g e) : EQ (RD g) d e := by
 have G := glueF hc h2
 obtain ⟨c, b⟩ := d
 obtain ⟨c', b'⟩ := e
 unfold stF at h
 cases b with
 | false =>
  cases b' with
  | false => simp at h; subst h; exact .refl _
  | true =>
   simp at h
   refine .base (.inl ?_)
   unfold tau
   rw [h]
   simp [G.pv_nx]
 | true =>
  cases b' with
  | false =>
   simp at h
   refine .base (.inl ?_)
   unfold tau
   rw [← h]
   simp
  | true =>
   simp at h
   have := congrArg (pvF g) h
   rw [G.pv_nx, G.pv_nx] at this
   subst this; exact .refl _
theorem cls_st {a b : Nat} (h : EG (Sc g) a b) {d e : Nat × Bool} (hd : stF g d = a) (he : stF g e = b) : EQ (RD g) d e := by
 have G := glueF hc h2
 have hQ : Eqv (fun a b : Nat => ∀ d e : Nat × Bool, stF g d = a → stF g e = b → EQ (RD g) d e) := by
  refine ⟨fun a d e h1 h3 => same_st hc hz h2 (h1.trans h3.symm), fun h d e h1 h3 => .symm (h e d h3 h1), fun {a b c} h k d e h1 h3 => ?_⟩
  exact .trans (h d (b, false) h1 (by simp [stF])) (k (b, false) e (by simp [stF]) h3)
 refine EG_min hQ ?_ h d e hd he
 rintro a b ⟨p, i, q, j, k, hs, ht, hab, hk, rfl, rfl⟩ d e h1 h3
 have e1 := st_endC hz hs hk
 have e2 := st_endC hz ht hk
 refine .trans (same_st hc hz h2 (h1.trans e1)) (.trans ?_ (same_st hc hz h2 (e2.symm.trans h3.symm)))
 have z1 := hz p i hs
 have z2 := hz q j ht
 by_cases hcd : cor g q j = cor g p i
 ·
  obtain ⟨rfl, rfl⟩ := cor_inj ht hs hcd
  exact .refl _
 ·
  have hpt : ptF g (cor g p i) = cor g q j := ptF_of h2 (cor_lt hs) (cor_lt ht) hcd (by rw [xF_cor hs, xF_cor ht]; exact hab.symm)
  refine .base (.inr ?_)
  unfold gamG gam
  simp only
  rw [hpt, if_neg (fun k => hcd k.1), if_neg hcd, xF_cor hs, xF_cor ht]
  congr 1
  by_cases e6 : ltr g q j = ltr g p i
  ·
   rw [if_pos e6, e6]
  ·
   have e7 : ltr g q j = - ltr g p i := by omega
   rw [if_neg e6, e7]
   have e8 : decide (0 < - ltr g p i) = !decide (0 < ltr g p i) := by
    by_cases e9 : 0 < ltr g p i
    ·
     rw [decide_eq_true e9, decide_eq_false (by omega)]; rfl
    ·
     rw [decide_eq_false e9, decide_eq_true (by omega)]; rfl
   rw [e8]
   generalize decide (0 < ltr g p i) = u
   generalize decide (k = 1) = v
   cases u <;> cases v <;> rfl
theorem vG_verts : vG (sidesN g) (nxF g) (pvF g) (ptF g) (xF g) = vertsN g := by
 have G := glueF hc h2
 unfold vG vertsN
 refine K_eq _ _ (EQ_eqv _) (EG_eqv _) _ _ (fun d v => stF g d = v) ?_ ?_ ?_
 ·
  intro d hd
  rw [mem_both, List.mem_range] at hd
  refine ⟨stF g d, List.mem_range.2 ?_, rfl⟩
  unfold stF; split
  ·
   exact G.nx_lt _ hd
  ·
   exact hd
 ·
  intro c h
  exact ⟨(c, false), by rw [mem_both]; exact h, by simp [stF]⟩
 ·
  intro d v e u hd _ _ _ g1 g3
  rw [mem_both, List.mem_range] at hd
  subst g1 g3
  exact ⟨fun h => cls_st hc hz h2 h rfl rfl, fun h => st_cls hc hz h2 hd h⟩
def FreeL (g : List (List Int)) (ys : List Nat) : Prop := ys.Nodup ∧ ∀ y, y ∈ ys ↔ g.flatten.countP (fun x => x.natAbs == y) = 1
theorem free_iff {c : Nat} (h : c < sidesN g) : ptF g c = c ↔ g.flatten.countP (fun x => x.natAbs == (xF g c).natAbs) = 1 := by
 rw [countP_places _ 0]
 have hm : ∀ d, d ∈ (List.range g.flatten.length).filter (fun i => ((g.flatten.getD i 0).natAbs == (xF g c).natAbs)) ↔ d < sidesN g ∧ (xF g d).natAbs = (xF g c).natAbs := fun d => by
  rw [List.mem_filter, List.mem_range, sides_flat]; simp [xF]
 have hnd : ((List.range g.flatten.length).filter (fun i => ((g.flatten.getD i 0).natAbs == (xF g c).natAbs))).Nodup := List.nodup_range.filter _
 generalize (List.range g.flatten.length).filter (fun i => ((g.flatten.getD i 0).natAbs == (xF g c).natAbs)) = L at *
 have hcL := (hm c).2 ⟨h, rfl⟩
 constructor
 ·
  intro e
  have h1 := hnd.length_le_of_subset (l₂ := [c]) (fun d hd => by
   rw [List.mem_singleton]
   by_cases k : d = c
   ·
    exact k
   ·
    obtain ⟨d1, d2⟩ := (hm d).1 hd
    have := ptF_of h2 h d1 k d2
    exact this.symm.trans e)
  have := List.length_pos_of_mem hcL
  simp only [List.length_singleton] at h1
  omega
 ·
  intro e
  by_cases k : ptF g c = c
  ·
   exact k
  ·
   obtain ⟨k1, k2, k3⟩ := ptF_spec k
   have hn : ([c, ptF g c] : List Nat).Nodup := by
    rw [List.nodup_cons]
    exact ⟨by rw [List.mem_singleton]; exact fun e => k e.symm, by simp⟩
   have := hn.length_le_of_subset (l₂ := L) (fun d hd => by
    simp only [List.mem_cons, List.not_mem_nil, or_false] at hd
    rcases hd with rfl | rfl
    ·
     exact hcL
    ·
     exact (hm _).2 ⟨k1, k3⟩)
   simp only [List.length_cons, List.length_nil] at this
   omega
theorem free_side {ys : List Nat} (hy : FreeL g ys) {y : Nat} (h : y ∈ ys) : ∃ c, c ∈ frees (sidesN g) (ptF g) ∧ (xF g c).natAbs = y := by
 have h1 := (hy.2 y).1 h
 have h3 := h1
 rw [countP_places _ 0] at h1
 obtain ⟨c, hc1⟩ := List.exists_mem_of_length_pos (l := (List.range g.flatten.length).filter fun i => ((g.flatten.getD i 0).natAbs == y)) (by omega)
 rw [List.mem_filter, List.mem_range, sides_flat] at hc1
 have hxy : (xF g c).natAbs = y := by simpa [xF] using hc1.2
 refine ⟨c, (mem_frees c).2 ⟨hc1.1, (free_iff hc hz h2 hc1.1).2 ?_⟩, hxy⟩
 rw [hxy]; exact h3
theorem side_free {ys : List Nat} (hy : FreeL g ys) {c : Nat} (h : c ∈ frees (sidesN g) (ptF g)) : (xF g c).natAbs ∈ ys := by
 obtain ⟨h1, h3⟩ := (mem_frees c).1 h
 exact (hy.2 _).2 ((free_iff hc hz h2 h1).1 h3)
theorem free_inj {c d : Nat} (h : c ∈ frees (sidesN g) (ptF g)) (k : d ∈ frees (sidesN g) (ptF g)) (e : (xF g c).natAbs = (xF g d).natAbs) : c = d := by
 obtain ⟨h1, h3⟩ := (mem_frees c).1 h
 obtain ⟨k1, k3⟩ := (mem_frees d).1 k
 rcases (glueF hc h2).uniq c d h1 k1 e with e | e
 ·
  exact e.symm
 ·
  rw [e, h3]
theorem touch_iff {c d : Nat} (h : c < sidesN g) (k : d < sidesN g) : (∃ b b', EQ (RD g) (c, b) (d, b')) ↔ ∃ k l, k < 2 ∧ l < 2 ∧ EG (Sl g) (2 * (xF g c).natAbs + k) (2 * (xF g d).natAbs + l) := by
 obtain ⟨p, i, hs, rfl⟩ := side_of h
 obtain ⟨q, j, ht, rfl⟩ := side_of k
 rw [xF_cor hs, xF_cor ht]
 constructor
 ·
  rintro ⟨b, b', hR⟩
  have h1 := st_cls hc hz h2 (cor_lt hs) hR
  rw [endC_st hz hs, endC_st hz ht] at h1
  refine ⟨if (decide (0 < ltr g p i) = b) then 1 else 0, if (decide (0 < ltr g q j) = b') then 1 else 0, by split <;> omega, by split <;> omega, ?_⟩
  exact (inc_iff hz ⟨p, i, _, hs, by split <;> omega, rfl, rfl⟩ ⟨q, j, _, ht, by split <;> omega, rfl, rfl⟩).2 h1
 ·
  rintro ⟨k, l, hk, hl, hR⟩
  have h1 := (inc_iff hz ⟨p, i, k, hs, hk, rfl, rfl⟩ ⟨q, j, l, ht, hl, rfl, rfl⟩).1 hR
  exact ⟨_, _, cls_st hc hz h2 h1 (st_endC hz hs hk).symm (st_endC hz ht hl).symm⟩
theorem brd_bord {ys : List Nat} (hy : FreeL g ys) : brd (sidesN g) (nxF g) (pvF g) (ptF g) (xF g) = bordN g ys := by
 have gd : ∀ {a : Nat}, a < ys.length → ys.getD a 0 ∈ ys := fun {a} ha => by rw [List.getD_eq_getElem?_getD, List.getElem?_eq_getElem ha]; exact List.getElem_mem ha
 have gi : ∀ {a b : Nat}, a < ys.length → b < ys.length → ys.getD a 0 = ys.getD b 0 → a = b := fun {a b} ha hb e => by
  rw [List.getD_eq_getElem?_getD, List.getElem?_eq_getElem ha, List.getD_eq_getElem?_getD, List.getElem?_eq_getElem hb] at e
  have e' : ys[a] = ys[b] := e
  have hnd := List.pairwise_iff_getElem.1 hy.1
  rcases Nat.lt_trichotomy a b with h | h | h
  ·
   exact absurd e' (hnd a b ha hb h)
  ·
   exact h
  ·
   exact absurd e'.symm (hnd b a hb ha h)
 have hTc : ∀ {c d a b : Nat}, c ∈ frees (sidesN g) (ptF g) → d ∈ frees (sidesN g) (ptF g) → a < ys.length → b < ys.length → (xF g c).natAbs = ys.getD a 0 → (xF g d).natAbs = ys.getD b 0 → (Tc (sidesN g) (nxF g) (pvF g) (ptF g) (xF g) c d ↔ Tch g ys a b) := fun {c d a b} h1 h3 ha hb e1 e3 => by
  have ht := touch_iff hc hz h2 ((mem_frees c).1 h1).1 ((mem_frees d).1 h3).1
  rw [e1, e3] at ht
  exact ⟨fun h => ⟨ha, hb, ht.1 h.2.2⟩, fun h => ⟨h1, h3, ht.2 h.2.2⟩⟩
 unfold brd bordN
 refine K_eq _ _ (EQ_eqv _) (EG_eqv _) _ _ (fun c a => a < ys.length ∧ (xF g c).natAbs = ys.getD a 0) ?_ ?_ ?_
 ·
  intro c h
  obtain ⟨a, ha, e⟩ := List.getElem_of_mem (side_free hc hz h2 hy h)
  refine ⟨a, List.mem_range.2 ha, ha, ?_⟩
  rw [List.getD_eq_getElem?_getD, List.getElem?_eq_getElem ha]; exact e.symm
 ·
  intro a ha
  rw [List.mem_range] at ha
  obtain ⟨c, h1, h3⟩ := free_side hc hz h2 hy (gd ha)
  exact ⟨c, h1, ha, h3⟩
 ·
  rintro c a d b h1 h3 _ _ ⟨ha, e1⟩ ⟨hb, e3⟩
  constructor
  ·
   intro h
   have hQ : Eqv (fun a b : Nat => a = b ∨ (a < ys.length ∧ b < ys.length ∧ ∀ c d, c ∈ frees (sidesN g) (ptF g) → d ∈ frees (sidesN g) (ptF g) → (xF g c).natAbs = ys.getD a 0 → (xF g d).natAbs = ys.getD b 0 → EQ (Tc (sidesN g) (nxF g) (pvF g) (ptF g) (xF g)) c d)) := by
    refine ⟨fun _ => .inl rfl, ?_, ?_⟩
    ·
     rintro a b (rfl | ⟨k1, k2, k3⟩)
     ·
      exact .inl rfl
     ·
      exact .inr ⟨k2, k1, fun c d hc hd e e' => .symm (k3 d c hd hc e' e)⟩
    ·
     rintro a b f (rfl | ⟨k1, k2, k3⟩) (rfl | ⟨l1, l2, l3⟩)
     ·
      exact .inl rfl
     ·
      exact .inr ⟨l1, l2, l3⟩
     ·
      exact .inr ⟨k1, k2, k3⟩
     ·
      refine .inr ⟨k1, l2, fun c d hc' hd e e' => ?_⟩
      obtain ⟨m, m1, m2⟩ := free_side hc hz h2 hy (gd k2)
      exact .trans (k3 c m hc' m1 e m2) (l3 m d m1 hd m2 e')
   rcases EG_min hQ (fun a b hT => .inr ⟨hT.1, hT.2.1, fun c d k1 k2 e e' => .base ((hTc k1 k2 hT.1 hT.2.1 e e').2 hT)⟩) h with rfl | ⟨_, _, k3⟩
   ·
    have := free_inj hc hz h2 h1 h3 (e1.trans e3.symm)
    rw [this]; exact .refl _
   ·
    exact k3 c d h1 h3 e1 e3
  ·
   intro h
   have hQ : Eqv (fun c d : Nat => c = d ∨ (c ∈ frees (sidesN g) (ptF g) ∧ d ∈ frees (sidesN g) (ptF g) ∧ ∀ a b, a < ys.length → b < ys.length → (xF g c).natAbs = ys.getD a 0 → (xF g d).natAbs = ys.getD b 0 → EG (Tch g ys) a b)) := by
    refine ⟨fun _ => .inl rfl, ?_, ?_⟩
    ·
     rintro a b (rfl | ⟨k1, k2, k3⟩)
     ·
      exact .inl rfl
     ·
      exact .inr ⟨k2, k1, fun c d hc hd e e' => .symm (k3 d c hd hc e' e)⟩
    ·
     rintro a b f (rfl | ⟨k1, k2, k3⟩) (rfl | ⟨l1, l2, l3⟩)
     ·
      exact .inl rfl
     ·
      exact .inr ⟨l1, l2, l3⟩
     ·
      exact .inr ⟨k1, k2, k3⟩
     ·
      refine .inr ⟨k1, l2, fun c d hc' hd e e' => ?_⟩
      obtain ⟨m, hm, em⟩ := List.getElem_of_mem (side_free hc hz h2 hy k2)
      have em' : (xF g b).natAbs = ys.getD m 0 := by rw [List.getD_eq_getElem?_getD, List.getElem?_eq_getElem hm]; exact em.symm
      exact .trans (k3 c m hc' hm e em') (l3 m d hm hd em' e')
   rcases EQ_min hQ (fun c d hT => .inr ⟨hT.1, hT.2.1, fun a b k1 k2 e e' => .base ((hTc hT.1 hT.2.1 k1 k2 e e').1 hT)⟩) h with rfl | ⟨_, _, k3⟩
   ·
    have := gi ha hb (e1.symm.trans e3)
    rw [this]; exact .refl _
   ·
    exact k3 a b ha hb e1 e3
theorem prt_parts : prt (sidesN g) g.length (polF g) (xF g) = partsG g := by
 have hx : ∀ p, p < g.length → ∀ z, z ∈ g.getD p [] ↔ ∃ c, c < sidesN g ∧ polF g c = p ∧ xF g c = z := fun p hp z => by
  constructor
  ·
   intro hz'
   obtain ⟨i, hi, e⟩ := List.getElem_of_mem hz'
   have hs : Side g p i := ⟨hp, hi⟩
   refine ⟨cor g p i, cor_lt hs, (pol_cor hs).1, ?_⟩
   rw [xF_cor hs]
   unfold ltr
   rw [Go.Proofs.Ytfknffpfjoalkaa.Com.rd_lt hs.2]; exact e
  ·
   rintro ⟨c, h1, rfl, rfl⟩
   obtain ⟨h3, h4⟩ := side_F h1
   rw [h4, xF_cor h3, (pol_cor h3).1]
   unfold ltr
   rw [Go.Proofs.Ytfknffpfjoalkaa.Com.rd_lt h3.2]; exact List.getElem_mem h3.2
 have hS : ∀ p q, Shr (sidesN g) (polF g) (xF g) p q ↔ Sh g p q := fun p q => by
  constructor
  ·
   rintro ⟨c, d, h1, h3, rfl, rfl, e⟩
   have hp := (glueF hc h2).pol_lt c h1
   have hq := (glueF hc h2).pol_lt d h3
   exact ⟨hp, hq, xF g c, (hx _ hp _).2 ⟨c, h1, rfl, rfl⟩, xF g d, (hx _ hq _).2 ⟨d, h3, rfl, rfl⟩, e⟩
  ·
   rintro ⟨hp, hq, a, ha, b, hb, e⟩
   obtain ⟨c, c1, c2, rfl⟩ := (hx p hp a).1 ha
   obtain ⟨d, d1, d2, rfl⟩ := (hx q hq b).1 hb
   exact ⟨c, d, c1, d1, c2, d2, e⟩
 unfold prt partsG
 refine K_congr _ _ (EQ_eqv _) (EG_eqv _) _ _ (fun _ => Iff.rfl) fun p q _ _ => ⟨EQ_min (EG_eqv _) fun a b h => .base ((hS a b).1 h), EG_min (EQ_eqv _) fun a b h => .base ((hS a b).2 h)⟩
def EdgeL (g : List (List Int)) (ys : List Nat) : Prop := ys.Nodup ∧ ∀ y, y ∈ ys ↔ ∃ p i, Side g p i ∧ (ltr g p i).natAbs = y
theorem letters_count {ys : List Nat} (hy : EdgeL g ys) : ys.length = (glued (sidesN g) (ptF g)).length + (frees (sidesN g) (ptF g)).length := by
 have G := glueF hc h2
 have hE : Eqv (fun c d : Nat => (xF g c).natAbs = (xF g d).natAbs) := ⟨fun _ => rfl, fun h => h.symm, fun h k => h.trans k⟩
 have e1 : K (fun c d : Nat => (xF g c).natAbs = (xF g d).natAbs) (List.range (sidesN g)) = ys.length := by
  have h3 : K (fun a b : Nat => a = b) ys = ys.length := K_reps (R := fun a b : Nat => a = b) ⟨fun _ => rfl, fun h => h.symm, fun h k => h.trans k⟩ ys ys hy.1 (fun a ha => ⟨a, ha, rfl⟩) (fun a ha => ⟨a, ha, rfl⟩)
  rw [← h3]
  refine K_eq _ _ hE ⟨fun _ => rfl, fun h => h.symm, fun h k => h.trans k⟩ _ _ (fun c y => (xF g c).natAbs = y) ?_ ?_ ?_
  ·
   intro c h
   rw [List.mem_range] at h
   obtain ⟨p, i, hs, rfl⟩ := side_of h
   exact ⟨_, (hy.2 _).2 ⟨p, i, hs, rfl⟩, by rw [xF_cor hs]⟩
  ·
   intro y h
   obtain ⟨p, i, hs, rfl⟩ := (hy.2 y).1 h
   exact ⟨cor g p i, List.mem_range.2 (cor_lt hs), by rw [xF_cor hs]⟩
  ·
   intro a b c d _ _ _ _ k1 k2
   rw [← k1, ← k2]
 rw [← e1, ← List.length_append]
 refine K_reps hE _ _ ?_ ?_ ?_
 ·
  rw [List.pairwise_append]
  refine ⟨(List.nodup_range.filter _).imp_of_mem ?_, (List.nodup_range.filter _).imp_of_mem ?_, ?_⟩
  ·
   intro a b ha hb hne e
   have h1 := (mem_glued a).1 ha
   have h3 := (mem_glued b).1 hb
   rcases G.uniq a b h1.1 h3.1 e with e | e
   ·
    exact hne e.symm
   ·
    rw [e, G.pt_pt] at h3; omega
  ·
   intro a b ha hb hne e
   exact hne (free_inj hc hz h2 ha hb e)
  ·
   intro a ha b hb e
   have h1 := (mem_glued a).1 ha
   have h3 := (mem_frees b).1 hb
   rcases G.uniq b a h3.1 h1.1 e.symm with e | e
   ·
    subst e; omega
   ·
    rw [h3.2] at e; subst e; omega
 ·
  intro c h
  rw [List.mem_range] at h
  by_cases e : ptF g c = c
  ·
   exact ⟨c, List.mem_append_right _ ((mem_frees c).2 ⟨h, e⟩), rfl⟩
  ·
   by_cases k : c < ptF g c
   ·
    exact ⟨c, List.mem_append_left _ ((mem_glued c).2 ⟨h, k⟩), rfl⟩
   ·
    refine ⟨ptF g c, List.mem_append_left _ ((mem_glued _).2 ⟨G.pt_lt c h, ?_⟩), (G.pt_abs c h).symm⟩
    rw [G.pt_pt]; omega
 ·
  intro c h
  rcases List.mem_append.1 h with h | h
  ·
   exact ⟨c, List.mem_range.2 ((mem_glued c).1 h).1, rfl⟩
  ·
   exact ⟨c, List.mem_range.2 ((mem_frees c).1 h).1, rfl⟩
theorem surface_le {es fs : List Nat} (he : EdgeL g es) (hf : FreeL g fs) : vertsN g + g.length + bordN g fs ≤ 2 * partsG g + es.length := by
 have G := glueF hc h2
 have h1 := G.euler_le
 have h3 := G.circles
 rw [vG_verts hc hz h2, brd_bord hc hz h2 hf] at h3
 rw [prt_parts hc hz h2] at h1
 have h4 := letters_count hc hz h2 he
 omega
def OppL (g : List (List Int)) (t : Nat → Bool) : Prop := ∀ p i q j, Side g p i → Side g q j → (p ≠ q ∨ i ≠ j) → (ltr g p i).natAbs = (ltr g q j).natAbs → (decide (0 < ltr g p i) != t p) ≠ (decide (0 < ltr g q j) != t q)
theorem surface_even {es fs : List Nat} (he : EdgeL g es) (hf : FreeL g fs) (t : Nat → Bool) (ht : OppL g t) : ∃ q, vertsN g + g.length + bordN g fs + es.length = 2 * q := by
 have G := glueF hc h2
 obtain ⟨q, h1⟩ := G.euler_even t (fun c h e => by
  obtain ⟨k1, k2, k3⟩ := ptF_spec e
  obtain ⟨s1, s2⟩ := side_F k2
  obtain ⟨u1, u2⟩ := side_F k1
  rw [xF_side k2, xF_side k1] at k3 ⊢
  refine ht _ _ _ _ s1 u1 ?_ k3.symm
  by_cases e1 : polF g c = polF g (ptF g c)
  ·
   refine .inr fun e2 => e ?_
   rw [u2, ← e1, ← e2, ← s2]
  ·
   exact .inl e1)
 have h3 := G.circles
 rw [vG_verts hc hz h2, brd_bord hc hz h2 hf] at h3
 have h4 := letters_count hc hz h2 he
 exact ⟨q + (frees (sidesN g) (ptF g)).length, by omega⟩
end
end Go.Proofs.Ytfknffpfjoalkaa.Joi
