/- Union and find over a list of parents. -/
import Derived.Test.YtfknffpfjoalkaaK2
namespace Go.Proofs.Ytfknffpfjoalkaa.Kl
open Classical
inductive Reach (up : List Int) : Nat → Nat → Prop
 | root {i : Nat} : up[i]? = some (i : Int) → Reach up i i
 | step {i j r : Nat} : up[i]? = some (j : Int) → j ≠ i → Reach up j r → Reach up i r
theorem Reach.isRoot {up : List Int} {i r : Nat} (h : Reach up i r) : up[r]? = some (r : Int) := by
 induction h with
 | root h => exact h
 | step _ _ _ ih => exact ih
theorem Reach.lt {up : List Int} {i r : Nat} (h : Reach up i r) : i < up.length ∧ r < up.length := by
 constructor
 ·
  cases h with
  | root h => exact (List.getElem?_eq_some_iff.1 h).1
  | step h _ _ => exact (List.getElem?_eq_some_iff.1 h).1
 ·
  exact (List.getElem?_eq_some_iff.1 h.isRoot).1
theorem Reach.unique {up : List Int} {i r s : Nat} (h : Reach up i r) (k : Reach up i s) : r = s := by
 induction h with
 | root h =>
  cases k with
  | root _ => rfl
  | step k hne _ => rw [h] at k; injection k with k; omega
 | step h hne _ ih =>
  cases k with
  | root k => rw [h] at k; injection k with k; omega
  | step k _ k' =>
   rw [h] at k
   injection k with k
   have := Int.ofNat.inj k
   subst this
   exact ih k'
theorem Reach.set {up : List Int} {i r a b : Nat} (h : Reach up i r) (ha : up[a]? = some (a : Int)) (hb : up[b]? = some (b : Int)) :
  Reach (up.set a (b : Int)) i (if r = a then b else r) := by
 have hal : a < up.length := (List.getElem?_eq_some_iff.1 ha).1
 by_cases hab : a = b
 ·
  subst hab
  have hs : up.set a (a : Int) = up := by
   refine List.ext_getElem? fun j => ?_
   rw [List.getElem?_set]
   split
   ·
    rename_i hj; subst hj; rw [ha]
   ·
    rfl
  rw [hs]
  split
  ·
   rename_i hr; subst hr; exact h
  ·
   exact h
 ·
  have hb' : (up.set a (b : Int))[b]? = some (b : Int) := by rw [List.getElem?_set, if_neg hab]; exact hb
  have ha' : (up.set a (b : Int))[a]? = some (b : Int) := by simp [hal]
  induction h with
  | @root i h =>
   split
   ·
    rename_i hr; subst hr
    exact .step ha' (fun e => hab e.symm) (.root hb')
   ·
    rename_i hr
    exact .root (by rw [List.getElem?_set, if_neg (fun e => hr e.symm)]; exact h)
  | @step i j r h hne hr ih =>
   refine .step ?_ hne ih
   rw [List.getElem?_set, if_neg ?_]
   ·
    exact h
   ·
    intro e; subst e; rw [ha] at h; injection h with h; omega
structure UF (up : List Int) (R : Nat → Nat → Prop) : Prop where
 eqv : Eqv R
 tot : ∀ i, i < up.length → ∃ r, Reach up i r
 iff : ∀ {x y r s}, Reach up x r → Reach up y s → (r = s ↔ R x y)
theorem UF.join {up : List Int} {R : Nat → Nat → Prop} (h : UF up R) {x y a b : Nat} (hx : Reach up x a) (hy : Reach up y b) : UF (up.set a (b : Int)) (mrg R x y) := by
 have ha := hx.isRoot
 have hb := hy.isRoot
 refine ⟨mrg_eqv h.eqv x y, ?_, ?_⟩
 ·
  intro i hi
  obtain ⟨r, hr⟩ := h.tot i (by simpa using hi)
  exact ⟨_, hr.set ha hb⟩
 ·
  intro u v r s hu hv
  have hul := hu.lt.1
  have hvl := hv.lt.1
  rw [List.length_set] at hul hvl
  obtain ⟨r0, hr0⟩ := h.tot u hul
  obtain ⟨s0, hs0⟩ := h.tot v hvl
  have e1 := hu.unique (hr0.set ha hb)
  have e2 := hv.unique (hs0.set ha hb)
  subst e1 e2
  have huv := h.iff hr0 hs0
  have hux := h.iff hr0 hx
  have huy := h.iff hr0 hy
  have hvx := h.iff hs0 hx
  have hvy := h.iff hs0 hy
  unfold mrg
  rw [← huv, ← hux, ← huy, ← hvx, ← hvy]
  split <;> split <;> omega
theorem UF.init (n : Nat) : UF ((List.range n).map (fun i : Nat => (i : Int))) Eq := by
 have hr : ∀ i, i < n → Reach ((List.range n).map (fun i : Nat => (i : Int))) i i := fun i hi => .root (by simp [hi])
 refine ⟨⟨fun _ => rfl, fun h => h.symm, fun h k => h.trans k⟩, ?_, ?_⟩
 ·
  intro i hi
  exact ⟨i, hr i (by simpa using hi)⟩
 ·
  intro x y r s hx hy
  have h1 := hx.lt.1
  have h2 := hy.lt.1
  rw [hx.unique (hr x (by simpa using h1)), hy.unique (hr y (by simpa using h2))]
theorem UF.congr {up : List Int} {R R' : Nat → Nat → Prop} (h : UF up R) (h' : Eqv R') (e : ∀ x y, x < up.length → y < up.length → (R x y ↔ R' x y)) : UF up R' :=
 ⟨h', h.tot, fun hx hy => (h.iff hx hy).trans (e _ _ hx.lt.1 hy.lt.1)⟩
theorem UF.count {up : List Int} {R : Nat → Nat → Prop} (h : UF up R) (l : List Nat) (hl : ∀ i, i ∈ l → i < up.length) (hd : l.Nodup) (hr : ∀ i r, i ∈ l → Reach up i r → r ∈ l) :
  l.countP (fun i : Nat => decide (up[i]? = some (i : Int))) = K R l := by
 rw [List.countP_eq_length_filter]
 refine Nat.le_antisymm ?_ ?_
 ·
  refine le_of_pairwise R h.eqv l _ (fun x hx => (List.mem_filter.1 hx).1) ?_
  refine List.Pairwise.imp_of_mem ?_ (hd.filter _)
  intro x y hx hy hxy hR
  have h1 : up[x]? = some (x : Int) := by simpa using (List.mem_filter.1 hx).2
  have h2 : up[y]? = some (y : Int) := by simpa using (List.mem_filter.1 hy).2
  exact hxy ((h.iff (.root h1) (.root h2)).2 hR)
 ·
  obtain ⟨r, h1, h2, h3, h4⟩ := reps R h.eqv l
  rw [← h3]
  have key : ∀ s : List Nat, (∀ a, a ∈ s → a ∈ l) → s.Pairwise (fun x y => ¬ R x y) → ∃ t : List Nat, t.length = s.length ∧ t.Nodup ∧ (∀ b, b ∈ t → b ∈ l ∧ up[b]? = some (b : Int) ∧ ∃ a, a ∈ s ∧ Reach up a b) := by
   intro s
   induction s with
   | nil => intro _ _; exact ⟨[], rfl, List.nodup_nil, by simp⟩
   | cons a s ih =>
    intro hs hp
    obtain ⟨t, ht1, ht2, ht3⟩ := ih (fun x hx => hs x (List.mem_cons_of_mem _ hx)) (List.pairwise_cons.1 hp).2
    have hal := hs a List.mem_cons_self
    obtain ⟨b, hb⟩ := h.tot a (hl a hal)
    refine ⟨b :: t, by simp [ht1], ?_, ?_⟩
    ·
     refine List.nodup_cons.2 ⟨fun hbt => ?_, ht2⟩
     obtain ⟨_, _, c, hc1, hc2⟩ := ht3 b hbt
     exact (List.pairwise_cons.1 hp).1 c hc1 ((h.iff hb hc2).1 rfl)
    ·
     intro c hc
     rcases List.mem_cons.1 hc with rfl | hc
     ·
      exact ⟨hr a _ hal hb, hb.isRoot, a, List.mem_cons_self, hb⟩
     ·
      obtain ⟨x1, x2, x, x3, x4⟩ := ht3 c hc
      exact ⟨x1, x2, x, List.mem_cons_of_mem _ x3, x4⟩
  obtain ⟨t, ht1, ht2, ht3⟩ := key r h1 h2
  rw [← ht1]
  refine ht2.length_le_of_subset fun b hb => List.mem_filter.2 ⟨(ht3 b hb).1, ?_⟩
  simpa using (ht3 b hb).2.1
end Go.Proofs.Ytfknffpfjoalkaa.Kl
