/- An involution behind a permutation: cycles and classes (the inequality and the parity of the genus). -/
import Derived.Test.YtfknffpfjoalkaaK5
namespace Go.Proofs.Ytfknffpfjoalkaa.Kl
open Classical
variable {α β : Type}
noncomputable def part (a : α → α) (M : List α) (x : α) : α := if x ∈ M ∨ a x ∈ M then a x else x
theorem part_nil (a : α → α) (x : α) : part a [] x = x := by simp [part]
theorem part_part {a : α → α} (ha : ∀ x, a (a x) = x) (M : List α) (x : α) : part a M (part a M x) = x := by
 unfold part
 by_cases h : x ∈ M ∨ a x ∈ M
 ·
  rw [if_pos h, ha, if_pos h.symm]
 ·
  rw [if_neg h, if_neg h]
def Half (a : α → α) (l M : List α) : Prop := M.Pairwise (fun x y => x ≠ y ∧ x ≠ a y) ∧ ∀ x, x ∈ M → x ∈ l ∧ a x ∈ l ∧ a x ≠ x
theorem part_snoc {a : α → α} (ha : ∀ x, a (a x) = x) (M : List α) (m : α) (h1 : m ∉ M) (h2 : a m ∉ M) (x : α) : part a (M ++ [m]) x = part a M (sw m (a m) x) := by
 by_cases e : x = m
 ·
  subst e
  rw [sw_a]
  unfold part
  rw [if_pos (by simp), if_neg (by rw [ha]; simp [h1, h2])]
 ·
  by_cases e2 : x = a m
  ·
   subst e2
   rw [sw_b]
   unfold part
   rw [if_pos (by rw [ha]; simp), if_neg (by simp [h1, h2]), ha]
  ·
   rw [sw_ne e e2]
   have e3 : a x ≠ m := fun h => e2 (by rw [← h, ha])
   unfold part
   have : (x ∈ M ++ [m] ∨ a x ∈ M ++ [m]) ↔ (x ∈ M ∨ a x ∈ M) := by simp [e, e3]
   by_cases h : x ∈ M ∨ a x ∈ M
   ·
    rw [if_pos h, if_pos (this.2 h)]
   ·
    rw [if_neg h, if_neg (fun k => h (this.1 k))]
theorem perm_part {φ a : α → α} (ha : ∀ x, a (a x) = x) (hi : ∀ x y, φ x = φ y → x = y) (l : List α) (hl : ∀ x, x ∈ l → φ x ∈ l) (ho : ∀ x, x ∉ l → φ x = x)
  (M : List α) (hM : ∀ x, x ∈ M → x ∈ l ∧ a x ∈ l) : Perm (fun x => φ (part a M x)) := by
 refine perm_of_list (fun x y e => ?_) l (fun x hx => ?_) (fun x hx => ?_)
 ·
  have := hi _ _ e
  rw [← part_part ha M x, this, part_part ha]
 ·
  refine hl _ ?_
  unfold part
  split
  ·
   rename_i h
   rcases h with h | h
   ·
    exact (hM x h).2
   ·
    exact (hM _ h).1
  ·
   exact hx
 ·
  have : part a M x = x := by
   unfold part
   rw [if_neg]
   rintro (h | h)
   ·
    exact hx (hM x h).1
   ·
    have := (hM _ h).2; rw [ha] at this; exact hx this
  show φ (part a M x) = x
  rw [this]; exact ho x hx
theorem genus {φ a : α → α} (ha : ∀ x, a (a x) = x) (hi : ∀ x y, φ x = φ y → x = y) (l : List α) (hl : ∀ x, x ∈ l → φ x ∈ l) (ho : ∀ x, x ∉ l → φ x = x)
  (M : List α) (hM : Half a l M) (hA : ∀ x, a x ≠ x → x ∈ M ∨ a x ∈ M) :
  K (Cyc (fun x => φ (a x))) l + K (Cyc φ) l ≤ 2 * K (EQ (fun x y => y = φ x ∨ y = a x)) l + M.length ∧ ∃ q, K (Cyc (fun x => φ (a x))) l + K (Cyc φ) l + M.length = 2 * q := by
 obtain ⟨hp, hm⟩ := hM
 have hsub : ∀ k, ∀ x, x ∈ M.take k → x ∈ l ∧ a x ∈ l := fun k x hx => ⟨(hm x (List.mem_of_mem_take hx)).1, (hm x (List.mem_of_mem_take hx)).2.1⟩
 rcases M with _ | ⟨m0, M0⟩
 ·
  -- no pairs at all
  have hid : ∀ x, a x = x := fun x => by
   by_cases h : a x = x
   ·
    exact h
   ·
    rcases hA x h with h | h <;> cases h
  have e1 : (fun x => φ (a x)) = φ := by funext x; rw [hid]
  rw [e1]
  have hP : Perm φ := by
   have := perm_part (φ := φ) ha hi l hl ho [] (by simp)
   have e : (fun x => φ (part a [] x)) = φ := by funext x; rw [part_nil]
   rwa [e] at this
  have e2 : K (EQ (fun x y => y = φ x ∨ y = a x)) l = K (Cyc φ) l := K_congr _ _ (EQ_eqv _) (cyc_eqv hP) l l (fun _ => Iff.rfl) fun x y _ _ => by
   constructor
   ·
    refine EQ_min (cyc_eqv hP) ?_
    rintro x y (rfl | rfl)
    ·
     exact cyc_step φ x
    ·
     rw [hid]; exact cyc_refl φ x
   ·
    exact fun h => cyc_min (EQ_eqv _) (fun x => .base (.inl rfl)) x y h
  rw [e2]
  exact ⟨by simp; omega, K (Cyc φ) l, by simp; omega⟩
 ·
  generalize hMM : m0 :: M0 = M at *
  have hd : ∀ k, k < M.length → M.getD k m0 ∈ M := fun k hk => by rw [List.getD_eq_getElem?_getD, List.getElem?_eq_getElem hk]; exact List.getElem_mem hk
  have htk : ∀ k, k < M.length → M.take (k + 1) = M.take k ++ [M.getD k m0] := fun k hk => by
   rw [List.take_succ_eq_append_getElem hk, List.getD_eq_getElem?_getD, List.getElem?_eq_getElem hk]; rfl
  have hno : ∀ k, k < M.length → M.getD k m0 ∉ M.take k ∧ a (M.getD k m0) ∉ M.take k := fun k hk => by
   have h1 : (M.take (k + 1)).Pairwise (fun x y => x ≠ y ∧ x ≠ a y) := hp.sublist (List.take_sublist _ _)
   rw [htk k hk, List.pairwise_append] at h1
   refine ⟨fun h => (h1.2.2 _ h _ (by simp)).1 rfl, fun h => (h1.2.2 _ h _ (by simp)).2 rfl⟩
  have hperm : ∀ k, Perm (fun x => φ (part a (M.take k) x)) := fun k => perm_part ha hi l hl ho _ (hsub k)
  have key := swaps (f := fun k x => φ (part a (M.take k) x)) hperm (fun k => M.getD k m0) (fun k => a (M.getD k m0)) (fun k => EQ (fun x y => y = φ x ∨ y = part a (M.take k) x)) (fun k => EQ_eqv _) l M.length
   (fun k hk => ⟨fun e => (hm _ (hd k hk)).2.2 e.symm, (hm _ (hd k hk)).1, (hm _ (hd k hk)).2.1⟩)
   (fun k hk x => by
    show φ (part a (M.take (k + 1)) x) = φ (part a (M.take k) _)
    rw [htk k hk, part_snoc ha _ _ (hno k hk).1 (hno k hk).2])
   (fun x y => by
    have e0 : (fun x => φ (part a (M.take 0) x)) = φ := by funext x; rw [List.take_zero, part_nil]
    have hP : Perm φ := by have := hperm 0; rwa [e0] at this
    show EQ (fun x y => y = φ x ∨ y = part a (M.take 0) x) x y ↔ Cyc (fun x => φ (part a (M.take 0) x)) x y
    rw [e0]
    constructor
    ·
     refine EQ_min (cyc_eqv hP) ?_
     rintro x y (rfl | h)
     ·
      exact cyc_step φ x
     ·
      rw [List.take_zero, part_nil] at h; rw [h]; exact cyc_refl φ x
    ·
     exact fun h => cyc_min (EQ_eqv _) (fun x => .base (.inl rfl)) x y h)
   (fun k hk x y => by
    constructor
    ·
     refine EQ_min (mrg_eqv (EQ_eqv _) _ _) ?_
     rintro x y (rfl | rfl)
     ·
      exact .inl (.base (.inl rfl))
     ·
      rw [htk k hk, part_snoc ha _ _ (hno k hk).1 (hno k hk).2]
      have hE := mrg_eqv (EQ_eqv (fun x y => y = φ x ∨ y = part a (M.take k) x)) (M.getD k m0) (a (M.getD k m0))
      refine hE.trans ?_ (.inl (.base (.inr rfl)))
      by_cases e1 : x = M.getD k m0
      ·
       rw [e1, sw_a]; exact mrg_ab (EQ_eqv _) _ _
      ·
       by_cases e2 : x = a (M.getD k m0)
       ·
        rw [e2, sw_b]; exact hE.symm (mrg_ab (EQ_eqv _) _ _)
       ·
        rw [sw_ne e1 e2]; exact hE.refl x
    ·
     have hab : EQ (fun x y => y = φ x ∨ y = part a (M.take (k + 1)) x) (M.getD k m0) (a (M.getD k m0)) := by
      refine .base (.inr ?_)
      unfold part
      rw [if_pos (.inl (by rw [htk k hk]; simp))]
     refine mrg_min (EQ_eqv _) (fun x y h => EQ_mono ?_ h) hab x y
     rintro x y (rfl | rfl)
     ·
      exact .base (.inl rfl)
     ·
      by_cases h : x ∈ M.take k ∨ a x ∈ M.take k
      ·
       refine .base (.inr ?_)
       have h' : x ∈ M.take (k + 1) ∨ a x ∈ M.take (k + 1) := by
        rw [htk k hk]
        rcases h with h | h
        ·
         exact .inl (List.mem_append_left _ h)
        ·
         exact .inr (List.mem_append_left _ h)
       unfold part
       rw [if_pos h, if_pos h']
      ·
       have : part a (M.take k) x = x := by unfold part; rw [if_neg h]
       rw [this]; exact .refl x)
  have eM : M.take M.length = M := List.take_length
  have eP : ∀ x, part a M x = a x := fun x => by
   unfold part
   by_cases h : x ∈ M ∨ a x ∈ M
   ·
    rw [if_pos h]
   ·
    rw [if_neg h]
    by_cases e : a x = x
    ·
     exact e.symm
    ·
     exact absurd (hA x e) h
  have e1 : (fun x => φ (part a (M.take M.length) x)) = fun x => φ (a x) := by funext x; rw [eM, eP]
  have e2 : (fun x y => y = φ x ∨ y = part a (M.take M.length) x) = fun x y => y = φ x ∨ y = a x := by funext x y; rw [eM, eP]
  have e0 : (fun x => φ (part a (M.take 0) x)) = φ := by funext x; rw [List.take_zero, part_nil]
  have k1 := key.1
  obtain ⟨q, k2⟩ := key.2.1
  rw [e0, e1] at k1 k2
  rw [e2] at k1
  exact ⟨k1, q, k2⟩
end Go.Proofs.Ytfknffpfjoalkaa.Kl
