/- Polygons glued along sides: vertices, circles of the boundary, parts and sides as counts of classes. -/
import Derived.Test.YtdmcfbjhobbdpaaK6
namespace Go.Proofs.Ytdmcfbjhobbdpaa.Kl
open Classical
variable {α β : Type}
theorem K_split {R : α → α → Prop} (h : Eqv R) (S : α → Prop) (hS : ∀ x y, R x y → S x → S y) (l : List α) : K R l = K R (l.filter fun x => decide (S x)) + K R (l.filter fun x => decide (¬ S x)) := by
  obtain ⟨r, r1, r2, r3, r4⟩ := reps R h (l.filter fun x => decide (S x))
  obtain ⟨s, s1, s2, s3, s4⟩ := reps R h (l.filter fun x => decide (¬ S x))
  have m1 : ∀ x, x ∈ l.filter (fun x => decide (S x)) ↔ x ∈ l ∧ S x := fun x => by rw [List.mem_filter, decide_eq_true_eq]
  have m2 : ∀ x, x ∈ l.filter (fun x => decide (¬ S x)) ↔ x ∈ l ∧ ¬ S x := fun x => by rw [List.mem_filter, decide_eq_true_eq]
  rw [← r3, ← s3, ← List.length_append]
  refine K_reps h l _ ?_ ?_ ?_
  · rw [List.pairwise_append]
    exact ⟨r2, s2, fun a ha b hb k => ((m2 b).1 (s1 b hb)).2 (hS a b k ((m1 a).1 (r1 a ha)).2)⟩
  · intro a ha
    by_cases e : S a
    · obtain ⟨b, hb, k⟩ := r4 a ((m1 a).2 ⟨ha, e⟩)
      exact ⟨b, List.mem_append_left _ hb, k⟩
    · obtain ⟨b, hb, k⟩ := s4 a ((m2 a).2 ⟨ha, e⟩)
      exact ⟨b, List.mem_append_right _ hb, k⟩
  · intro b hb
    rcases List.mem_append.1 hb with hb | hb
    · exact ⟨b, ((m1 b).1 (r1 b hb)).1, h.refl b⟩
    · exact ⟨b, ((m2 b).1 (s1 b hb)).1, h.refl b⟩
def both (l : List Nat) : List (Nat × Bool) := l.flatMap fun c => [(c, false), (c, true)]
structure Glue (N : Nat) (nx pv pt : Nat → Nat) (x : Nat → Int) (pol fs : Nat → Nat) (F : Nat) : Prop where
  nx_pv : ∀ c, nx (pv c) = c
  pv_nx : ∀ c, pv (nx c) = c
  nx_lt : ∀ c, c < N → nx c < N
  nx_out : ∀ c, ¬ c < N → nx c = c
  pt_pt : ∀ c, pt (pt c) = c
  pt_lt : ∀ c, c < N → pt c < N
  pt_out : ∀ c, ¬ c < N → pt c = c
  pt_abs : ∀ c, c < N → (x (pt c)).natAbs = (x c).natAbs
  uniq : ∀ c d, c < N → d < N → (x c).natAbs = (x d).natAbs → d = c ∨ d = pt c
  pol_lt : ∀ c, c < N → pol c < F
  pol_nx : ∀ c, c < N → pol (nx c) = pol c
  fs_lt : ∀ q, q < F → fs q < N ∧ pol (fs q) = q
  cyc : ∀ c, c < N → Cyc nx (fs (pol c)) c
variable {N F : Nat} {nx pv pt pol fs : Nat → Nat} {x : Nat → Int}
def phi (nx pv : Nat → Nat) (d : Nat × Bool) : Nat × Bool := if d.2 = true then (pv d.1, true) else (nx d.1, false)
def alp (pt : Nat → Nat) (x : Nat → Int) (d : Nat × Bool) : Nat × Bool := if pt d.1 = d.1 then d else (pt d.1, if x (pt d.1) = x d.1 then !d.2 else d.2)
def glued (N : Nat) (pt : Nat → Nat) : List Nat := (List.range N).filter fun c => decide (c < pt c)
set_option linter.unusedSectionVars false
section
variable (G : Glue N nx pv pt x pol fs F)
include G
theorem Glue.turned {d e : Nat × Bool} (h : EQ (fun d e => e = phi nx pv d ∨ e = alp pt x d) d e) : EQ (fun d e => e = phi nx pv d ∨ e = alp pt x d) (d.1, !d.2) (e.1, !e.2) := by
  refine EQ_map (fun d : Nat × Bool => (d.1, !d.2)) ?_ h
  rintro ⟨c, b⟩ e (rfl | rfl)
  · refine .symm (.base (.inl ?_))
    unfold phi
    cases b
    · simp [G.pv_nx]
    · simp [G.nx_pv]
  · refine .base (.inr ?_)
    unfold alp
    by_cases h : pt c = c
    · simp [h]
    · by_cases e : x (pt c) = x c <;> cases b <;> simp [h, e]
end
end Go.Proofs.Ytdmcfbjhobbdpaa.Kl
