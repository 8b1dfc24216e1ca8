/- CountBorders of the program and CountBorders of the reference answer the same for all arguments; the arguments are left as they were and share nothing with the results. Conditions: those that the printed statement itself names (lengths and numbers that fit). -/
import Derived.Test.YtfknffpfjoalkaaWalkFnExactCountBorders
import Derived.Test.YtfknffpfjoalkaaCom
namespace Go.Proofs.Ytfknffpfjoalkaa.Pure
open Classical Go.RowKit Go.Proofs.Ytfknffpfjoalkaa.QFnExactCountBorders Go.Proofs.YtfknffpfjoalkaaW.PrintWords Go.Proofs.YtfknffpfjoalkaaW.PrintLast Go.Proofs.Ytfknffpfjoalkaa.Com

/-! rdL -/
theorem rdL_lt {l : List (List Int)} {i : Nat} (h : i < l.length) : rd_L1 l (i : Int) = l[i] := by
  simp [rd_L1, List.getD_eq_getElem?_getD, h]
theorem rdL_nat (l : List (List Int)) (i : Nat) : rd_L1 l (i : Int) = l.getD i [] := rfl
/-- Rows and numbers together. -/
def bulk (l : List (List Int)) : Nat := l.length + (l.map List.length).sum
theorem sum_drop_lt {l : List (List Int)} {i : Nat} (h : i < l.length) : ((l.drop i).map List.length).sum = l[i].length + ((l.drop (i + 1)).map List.length).sum := by
  rw [List.drop_eq_getElem_cons h, List.map_cons, List.sum_cons]
theorem len_le_sum {l : List (List Int)} {x : List Int} (h : x ∈ l) : x.length ≤ (l.map List.length).sum := by
  induction l with
  | nil => simp at h
  | cons y l ih =>
    rw [List.map_cons, List.sum_cons]
    rcases List.mem_cons.1 h with rfl | h
    · omega
    · have := ih h; omega

/-! szIntSS -/
theorem szIntSS_l (l : List (List Int)) (hl : l.length ≤ 9223372036854775807) (hx : ∀ x ∈ l, x.length ≤ 9223372036854775807) : ∀ (d i : Nat) (left : Nat), i + d = l.length → left ≤ 1048576 → ∃ v : Int, Ev (fun k => laws_szIntSS.l0 k l left i) v ∧ (0 ≤ v → ((l.drop i).map List.length).sum ≤ left) := by
  intro d
  induction d with
  | zero =>
    intro i left hi hle
    refine ⟨left, Ev.step (f := fun _ => some (left : Int)) (fun k => ?_) (Ev.now _), fun _ => ?_⟩
    · simp only [laws_szIntSS.l0]; rw [if_neg (by omega)]
    · rw [List.drop_of_length_le (by omega)]; simp
  | succ d ih =>
    intro i left hi hle
    have hlt : i < l.length := by omega
    have hxl := hx l[i] (List.getElem_mem hlt)
    have hw : wrap64 ((left : Int) - (l[i].length : Int)) = (left : Int) - l[i].length := w64 (by omega) (by omega)
    by_cases hc : (left : Int) - (l[i].length : Int) < 0
    · refine ⟨-1, Ev.step (f := fun _ => some (-1 : Int)) (fun k => ?_) (Ev.now _), fun h => absurd h (by omega)⟩
      simp only [laws_szIntSS.l0, rdL_lt hlt, laws_szIntS.f, hw]
      rw [if_pos (by omega), if_pos (by omega), if_pos hc]
      simp
    · obtain ⟨v, h1, h2⟩ := ih (i + 1) (left - l[i].length) (by omega) (by omega)
      refine ⟨v, Ev.step (fun k => ?_) h1, fun h => ?_⟩
      · simp only [laws_szIntSS.l0, rdL_lt hlt, laws_szIntS.f, hw]
        rw [if_pos (by omega), if_pos (by omega), if_neg hc, Option.bind_some, if_neg hc, w64s hlt hl, show (left : Int) - (l[i].length : Int) = ((left - l[i].length : Nat) : Int) by omega]
      · have := h2 h
        rw [sum_drop_lt hlt]
        omega
theorem szIntSS_ev (l : List (List Int)) (hl : l.length ≤ 9223372036854775807) (hx : ∀ x ∈ l, x.length ≤ 9223372036854775807) : ∃ v : Int, Ev (fun k => laws_szIntSS.f k l 1048576) v ∧ (0 ≤ v → bulk l ≤ 1048576) := by
  have hw : wrap64 ((1048576 : Int) - (l.length : Int)) = (1048576 : Int) - l.length := w64 (by omega) (by omega)
  by_cases hc : (1048576 : Int) - (l.length : Int) < 0
  · refine ⟨-1, Ev.congr (f := fun _ => some (-1 : Int)) (fun k => ?_) (Ev.now _), fun h => absurd h (by omega)⟩
    unfold laws_szIntSS.f; rw [hw, if_pos hc]
  · obtain ⟨v, h1, h2⟩ := szIntSS_l l hl hx l.length 0 (1048576 - l.length) (by omega) (by omega)
    refine ⟨v, Ev.congr (fun k => ?_) h1, fun h => ?_⟩
    · unfold laws_szIntSS.f; rw [hw, if_neg hc, show (1048576 : Int) - (l.length : Int) = ((1048576 - l.length : Nat) : Int) by omega]; rfl
    · have := h2 h
      unfold bulk
      simp only [List.drop_zero] at this
      omega

/-! toIntS -/
theorem toIntS_l (l : List Int) (hl : l.length ≤ 9223372036854775807) : ∀ (d i : Nat) (acc : List Int), i + d = l.length → acc.length = l.length → acc.take i = l.take i → Ev (fun k => laws_toIntS.l0 k l acc i) l := by
  intro d
  induction d with
  | zero =>
    intro i acc hi ha ht
    refine Ev.step (f := fun _ => some acc) (fun k => ?_) ?_
    · simp only [laws_toIntS.l0]; rw [if_neg (by omega)]
    · have e : acc = l := by
        have h1 := List.take_of_length_le (l := acc) (i := i) (by omega)
        have h2 := List.take_of_length_le (l := l) (i := i) (by omega)
        rw [← h1, ← h2, ht]
      rw [e]; exact Ev.now _
  | succ d ih =>
    intro i acc hi ha ht
    have hlt : i < l.length := by omega
    refine Ev.step (f := fun k => laws_toIntS.l0 k l (acc.set i l[i]) ((i + 1 : Nat) : Int)) (fun k => ?_) (ih (i + 1) (acc.set i l[i]) (by omega) (by simpa using ha) ?_)
    · simp only [laws_toIntS.l0]
      rw [if_pos (by omega), if_pos (by omega), if_pos (by omega), w64s hlt hl, rd_lt hlt, Int.toNat_natCast]
    · rw [List.take_succ_eq_append_getElem (by simp; omega), List.take_succ_eq_append_getElem hlt, List.take_set_of_le (Nat.le_refl i), ht]
      simp
theorem toIntS_ev (l : List Int) (hl : l.length ≤ 35184372088832) : Ev (fun k => laws_toIntS.f k l) l := by
  refine Ev.congr (f := fun k => laws_toIntS.l0 k l (List.replicate l.length 0) ((0 : Nat) : Int)) (fun k => ?_) (toIntS_l l (by omega) l.length 0 _ (by omega) (by simp) (by simp))
  unfold laws_toIntS.f
  rw [if_pos (by omega), if_pos (by omega), Int.toNat_natCast]; rfl

/-! toIntSS -/
theorem toIntSS_l (l : List (List Int)) (hl : bulk l ≤ 1048576) : ∀ (d i : Nat) (acc : List (List Int)), i + d = l.length → acc.length = l.length → acc.take i = l.take i → Ev (fun k => laws_toIntSS.l0 k l acc i) l := by
  intro d
  induction d with
  | zero =>
    intro i acc hi ha ht
    refine Ev.step (f := fun _ => some acc) (fun k => ?_) ?_
    · simp only [laws_toIntSS.l0]; rw [if_neg (by omega)]
    · have e : acc = l := by
        have h1 := List.take_of_length_le (l := acc) (i := i) (by omega)
        have h2 := List.take_of_length_le (l := l) (i := i) (by omega)
        rw [← h1, ← h2, ht]
      rw [e]; exact Ev.now _
  | succ d ih =>
    intro i acc hi ha ht
    have hlt : i < l.length := by omega
    have hll : l.length ≤ 1048576 := by unfold bulk at hl; omega
    have hxl : l[i].length ≤ 35184372088832 := by have := len_le_sum (List.getElem_mem hlt); unfold bulk at hl; omega
    refine Ev.step (f := fun k => (laws_toIntS.f k l[i]).bind fun t => laws_toIntSS.l0 k l (acc.set i t) ((i + 1 : Nat) : Int)) (fun k => ?_) (Ev.bind (toIntS_ev l[i] hxl) (ih (i + 1) (acc.set i l[i]) (by omega) (by simpa using ha) ?_))
    · simp only [laws_toIntSS.l0, rdL_lt hlt]
      rw [if_pos (by omega), if_pos (by omega), w64s hlt (by omega), Int.toNat_natCast]
      congr 1
      funext t
      rw [if_pos (by omega)]
    · rw [List.take_succ_eq_append_getElem (by simp; omega), List.take_succ_eq_append_getElem hlt, List.take_set_of_le (Nat.le_refl i), ht]
      simp
theorem toIntSS_ev (l : List (List Int)) (hl : bulk l ≤ 1048576) : Ev (fun k => laws_toIntSS.f k l) l := by
  have hll : l.length ≤ 1048576 := by unfold bulk at hl; omega
  refine Ev.congr (f := fun k => laws_toIntSS.l0 k l (List.replicate l.length []) ((0 : Nat) : Int)) (fun k => ?_) (toIntSS_l l hl l.length 0 _ (by omega) (by simp) (by simp))
  unfold laws_toIntSS.f
  rw [if_pos (by omega), if_pos (by omega), Int.toNat_natCast]; rfl

/-! eqIntS -/
theorem eqIntS_l (a b : List Int) (hn : a.length = b.length) (hl : a.length ≤ 9223372036854775807) : ∀ (d i : Nat), i + d = a.length → Ev (fun k => laws_eqIntS.l0 k a b i) (decide (a.drop i = b.drop i)) := by
  intro d
  induction d with
  | zero =>
    intro i hi
    refine Ev.step (f := fun _ => some true) (fun k => ?_) ?_
    · simp only [laws_eqIntS.l0]; rw [if_neg (by omega)]
    · rw [List.drop_of_length_le (by omega), List.drop_of_length_le (by omega)]; exact Ev.now _
  | succ d ih =>
    intro i hi
    have h1 : i < a.length := by omega
    have h2 : i < b.length := by omega
    have e1 : a.drop i = a[i] :: a.drop (i + 1) := List.drop_eq_getElem_cons h1
    have e2 : b.drop i = b[i] :: b.drop (i + 1) := List.drop_eq_getElem_cons h2
    by_cases he : a[i] = b[i]
    · refine Ev.step (f := fun k => laws_eqIntS.l0 k a b ((i + 1 : Nat) : Int)) (fun k => ?_) ?_
      · simp only [laws_eqIntS.l0]
        rw [if_pos (by omega), if_pos (by omega), if_pos (by omega), rd_lt h1, rd_lt h2, if_pos he, w64s h1 hl]
      · have hd : decide (a.drop i = b.drop i) = decide (a.drop (i + 1) = b.drop (i + 1)) := by
          rw [decide_eq_decide, e1, e2, he]; simp only [List.cons.injEq, true_and]
        rw [hd]; exact ih (i + 1) (by omega)
    · refine Ev.step (f := fun _ => some false) (fun k => ?_) ?_
      · simp only [laws_eqIntS.l0]
        rw [if_pos (by omega), if_pos (by omega), if_pos (by omega), rd_lt h1, rd_lt h2, if_neg he]
      · have hd : decide (a.drop i = b.drop i) = false := by
          refine decide_eq_false fun e => he ?_
          rw [e1, e2] at e
          exact (List.cons.inj e).1
        rw [hd]; exact Ev.now _
theorem eqIntS_ev (a b : List Int) (hl : a.length ≤ 9223372036854775807) : Ev (fun k => laws_eqIntS.f k a b) (decide (a = b)) := by
  by_cases hn : a.length = b.length
  · refine Ev.congr (f := fun k => laws_eqIntS.l0 k a b ((0 : Nat) : Int)) (fun k => ?_) (eqIntS_l a b hn hl a.length 0 (by omega))
    unfold laws_eqIntS.f; rw [if_pos (by omega)]; rfl
  · refine Ev.congr (f := fun _ => some false) (fun k => ?_) ?_
    · unfold laws_eqIntS.f; rw [if_neg (by omega)]
    · rw [decide_eq_false (fun e => hn (by rw [e]))]; exact Ev.now _
theorem eqIntS_same (a : List Int) (hl : a.length ≤ 9223372036854775807) : Ev (fun k => laws_eqIntS.f k a a) true := by simpa using eqIntS_ev a a hl

/-! eqIntSS -/
theorem eqIntSS_l (a b : List (List Int)) (hn : a.length = b.length) (hl : a.length ≤ 9223372036854775807) (hx : ∀ x ∈ a, x.length ≤ 9223372036854775807) : ∀ (d i : Nat), i + d = a.length → Ev (fun k => laws_eqIntSS.l0 k a b i) (decide (a.drop i = b.drop i)) := by
  intro d
  induction d with
  | zero =>
    intro i hi
    refine Ev.step (f := fun _ => some true) (fun k => ?_) ?_
    · simp only [laws_eqIntSS.l0]; rw [if_neg (by omega)]
    · rw [List.drop_of_length_le (by omega), List.drop_of_length_le (by omega), decide_eq_true rfl]; exact Ev.now _
  | succ d ih =>
    intro i hi
    have h1 : i < a.length := by omega
    have h2 : i < b.length := by omega
    have e1 : a.drop i = a[i] :: a.drop (i + 1) := List.drop_eq_getElem_cons h1
    have e2 : b.drop i = b[i] :: b.drop (i + 1) := List.drop_eq_getElem_cons h2
    have hq := eqIntS_ev a[i] b[i] (hx _ (List.getElem_mem h1))
    refine Ev.step (f := fun k => (laws_eqIntS.f k a[i] b[i]).bind fun t => if t = true then laws_eqIntSS.l0 k a b ((i + 1 : Nat) : Int) else some false) (fun k => ?_) (Ev.bind hq ?_)
    · simp only [laws_eqIntSS.l0, rdL_lt h1, rdL_lt h2]
      rw [if_pos (by omega), if_pos (by omega), if_pos (by omega), w64s h1 hl]
    · by_cases he : a[i] = b[i]
      · have hd : decide (a.drop i = b.drop i) = decide (a.drop (i + 1) = b.drop (i + 1)) := by
          rw [decide_eq_decide, e1, e2, he]; simp only [List.cons.injEq, true_and]
        rw [hd, decide_eq_true he]
        simp only [if_true]
        exact ih (i + 1) (by omega)
      · have hd : decide (a.drop i = b.drop i) = false := by
          refine decide_eq_false fun e => he ?_
          rw [e1, e2] at e
          exact (List.cons.inj e).1
        rw [hd, decide_eq_false he]; exact Ev.now _
theorem eqIntSS_ev (a b : List (List Int)) (hl : a.length ≤ 9223372036854775807) (hx : ∀ x ∈ a, x.length ≤ 9223372036854775807) : Ev (fun k => laws_eqIntSS.f k a b) (decide (a = b)) := by
  by_cases hn : a.length = b.length
  · refine Ev.congr (f := fun k => laws_eqIntSS.l0 k a b ((0 : Nat) : Int)) (fun k => ?_) (eqIntSS_l a b hn hl hx a.length 0 (by omega))
    unfold laws_eqIntSS.f; rw [if_pos (by omega)]; rfl
  · refine Ev.congr (f := fun _ => some false) (fun k => ?_) ?_
    · unfold laws_eqIntSS.f; rw [if_neg (by omega)]
    · rw [decide_eq_false (fun e => hn (by rw [e]))]; exact Ev.now _
theorem eqIntSS_same (a : List (List Int)) (hl : bulk a ≤ 1048576) : Ev (fun k => laws_eqIntSS.f k a a) true := by
  have := eqIntSS_ev a a (by unfold bulk at hl; omega) (fun x hx => by have := len_le_sum hx; unfold bulk at hl; omega)
  rwa [decide_eq_true rfl] at this

/-! evp -/
/-- From some number of rounds on. -/
def Evp (P : Nat → Prop) : Prop := ∃ K, ∀ k, K ≤ k → P k
theorem Evp.and {P Q : Nat → Prop} (h : Evp P) (g : Evp Q) : Evp (fun k => P k ∧ Q k) := by
  obtain ⟨K, hK⟩ := h
  obtain ⟨M, hM⟩ := g
  exact ⟨max K M, fun k hk => ⟨hK k (by omega), hM k (by omega)⟩⟩
theorem evp {α : Type} {g : Nat → Option α} {r : α} (h : Ev g r) : Evp (fun k => g k = some r) := h
theorem Evp.some {P : Nat → Prop} (h : Evp P) : ∃ k, P k := by obtain ⟨K, hK⟩ := h; exact ⟨K, hK K (Nat.le_refl _)⟩

/-! cnt -/
/-- How often a letter or its inverse occurs. -/
def cnt (l : List Int) (y : Nat) : Nat := l.countP fun x => x.natAbs == y
theorem cnt_append (a b : List Int) (y : Nat) : cnt (a ++ b) y = cnt a y + cnt b y := List.countP_append
theorem cnt_one (x : Int) (y : Nat) : cnt [x] y = if x.natAbs = y then 1 else 0 := by
  unfold cnt
  rw [List.countP_cons, List.countP_nil]
  by_cases h : x.natAbs = y <;> simp [h]
theorem cnt_le (l : List Int) (y : Nat) : cnt l y ≤ l.length := List.countP_le_length
def usesL (l : List Int) : List Int := (List.range 9).map fun y => ((cnt l y : Nat) : Int)
theorem usesL_length (l : List Int) : (usesL l).length = 9 := by simp [usesL]
theorem usesL_rd (l : List Int) {y : Nat} (h : y < 9) : rd (usesL l) (y : Int) = (cnt l y : Int) := by
  rw [rd_lt (by rw [usesL_length]; exact h)]
  simp [usesL]
theorem usesL_nil : usesL [] = List.replicate 9 0 := by decide
theorem usesL_snoc (l : List Int) (x : Int) : (usesL l).set x.natAbs ((cnt l x.natAbs : Int) + 1) = usesL (l ++ [x]) := by
  refine List.ext_getElem (by simp [usesL_length]) fun y h1 h2 => ?_
  have hy : y < 9 := by rw [usesL_length] at h2; exact h2
  rw [List.getElem_set]
  have e1 : (usesL (l ++ [x]))[y] = ((cnt (l ++ [x]) y : Nat) : Int) := by simp [usesL]
  refine Eq.trans ?_ e1.symm
  rw [cnt_append, cnt_one]
  by_cases h : x.natAbs = y
  · subst h; rw [if_pos rfl, if_pos rfl]; omega
  · rw [if_neg h, if_neg h]; simp [usesL]
theorem flat_take_succ {g : List (List Int)} {p : Nat} (h : p < g.length) : (g.take (p + 1)).flatten = (g.take p).flatten ++ g[p] := by
  rw [List.take_succ_eq_append_getElem h, List.flatten_append, List.flatten_singleton]
theorem flat_len (g : List (List Int)) : g.flatten.length = (g.map List.length).sum := List.length_flatten
theorem flat_take_len (g : List (List Int)) (p : Nat) : ((g.take p).flatten).length ≤ g.flatten.length := by
  have : g.flatten = (g.take p).flatten ++ (g.drop p).flatten := by rw [← List.flatten_append, List.take_append_drop]
  rw [this, List.length_append]; omega

/-! bulkF -/
theorem bulk_flat {g : List (List Int)} (h : bulk g ≤ 1048576) : g.length ≤ 1048576 ∧ g.flatten.length ≤ 1048576 := by
  unfold bulk at h
  rw [flat_len]
  omega

/-! pick -/
/-- The places whose number fits, from i on. -/
def pickL (q : Int → Bool) (u : List Int) : Nat → Nat → List Int
  | 0, _ => []
  | d + 1, i => if q (u.getD i 0) then (i : Int) :: pickL q u d (i + 1) else pickL q u d (i + 1)
theorem pickL_len (q : Int → Bool) (u : List Int) : ∀ d i, (pickL q u d i).length ≤ d := by
  intro d
  induction d with
  | zero => intro i; simp [pickL]
  | succ d ih => intro i; unfold pickL; have := ih (i + 1); split <;> simp <;> omega
theorem pickL_congr (q q' : Int → Bool) (u : List Int) : ∀ d i, (∀ j, i ≤ j → j < i + d → q (u.getD j 0) = q' (u.getD j 0)) → pickL q u d i = pickL q' u d i := by
  intro d
  induction d with
  | zero => intro i _; rfl
  | succ d ih =>
    intro i h
    unfold pickL
    rw [h i (Nat.le_refl _) (by omega), ih (i + 1) (fun j h1 h2 => h j (by omega) (by omega))]

/-! pickMem -/
theorem pickL_range (q : Int → Bool) (u : List Int) : ∀ d i, pickL q u d i = ((List.range' i d).filter (fun j => q (u.getD j 0))).map (fun j : Nat => (j : Int)) := by
  intro d
  induction d with
  | zero => intro i; rfl
  | succ d ih =>
    intro i
    unfold pickL
    rw [List.range'_succ, List.filter_cons, ih (i + 1)]
    split <;> simp

/-! within -/
theorem within_eq (a b c : Int) : impl_within.f a b c = some (decide (b ≤ a ∧ a ≤ c)) := by
  unfold impl_within.f
  split <;> simp <;> omega

/-! l1In -/
theorem l1In_eq (a b c : Int) : spec_l1In.f a b c = some (decide (b ≤ a ∧ a ≤ c)) := by
  unfold spec_l1In.f
  split <;> simp <;> omega

/-! letter -/
/-- A letter. -/
def LetP (x : Int) : Prop := x ≠ 0 ∧ -8 ≤ x ∧ x ≤ 8
theorem l2Letter_eq (x : Int) : spec_l2Letter.f x = some (decide (LetP x)) := by
  unfold spec_l2Letter.f
  simp only [l1In_eq, Option.bind_some]
  by_cases h : 1 ≤ x ∧ x ≤ 8
  · rw [decide_eq_true h, decide_eq_true (show LetP x from ⟨by omega, by omega, by omega⟩)]; rfl
  · rw [decide_eq_false h]
    simp only [Bool.false_eq_true, if_false]
    congr 1
    rw [decide_eq_decide]
    unfold LetP
    omega
theorem isLetter_eq (x : Int) : impl_isLetter.f x = some (decide (LetP x)) := by
  unfold impl_isLetter.f
  simp only [within_eq, Option.bind_some]
  split
  · rename_i h
    rw [decide_eq_false (fun hh : LetP x => hh.1 h)]
  · rename_i h
    congr 1
    rw [decide_eq_decide]
    unfold LetP
    omega

/-! neg -/
theorem LetP.neg {x : Int} (h : LetP x) : LetP (-x) := by unfold LetP at *; omega
theorem w64neg {x : Int} (h : LetP x) : wrap64 (-x) = -x := w64 (by unfold LetP at h; omega) (by unfold LetP at h; omega)

/-! abs -/
theorem LetP.abs {x : Int} (h : LetP x) : 1 ≤ x.natAbs ∧ x.natAbs ≤ 8 := by unfold LetP at h; omega
theorem l3Abs_eq {x : Int} (h : LetP x) : spec_l3Abs.f x = some (x.natAbs : Int) := by
  unfold spec_l3Abs.f spec_l1Max.f
  rw [w64neg h]
  split <;> simp only [Option.bind_some, Option.some.injEq] <;> omega

/-! usesS -/
theorem usesS_row (g : List (List Int)) (hg : g.length ≤ 1048576) (p : Nat) (hp : p < g.length) (hl : ∀ x ∈ g[p], LetP x) (pre : List Int) (hb : pre.length + g[p].length ≤ 1048576) (r : List Int) (h : Ev (fun k => spec_l3Uses.l0 k g (usesL (pre ++ g[p])) ((p + 1 : Nat) : Int)) r) :
    ∀ (d i : Nat), i + d = g[p].length → Ev (fun k => spec_l3Uses.l1 k g (usesL (pre ++ g[p].take i)) p i) r := by
  intro d
  induction d with
  | zero =>
    intro i hi
    rw [List.take_of_length_le (by omega)]
    refine Ev.step (fun k => ?_) h
    simp only [spec_l3Uses.l1, rdL_lt hp]
    rw [if_pos (by omega), if_pos (by omega), if_neg (by omega), w64s hp (by omega)]
  | succ d ih =>
    intro i hi
    have hlt : i < g[p].length := by omega
    have hx := hl g[p][i] (List.getElem_mem hlt)
    have ha := hx.abs
    have hc := cnt_le (pre ++ g[p].take i) g[p][i].natAbs
    rw [List.length_append, List.length_take] at hc
    have hw : wrap64 ((cnt (pre ++ g[p].take i) g[p][i].natAbs : Int) + 1) = (cnt (pre ++ g[p].take i) g[p][i].natAbs : Int) + 1 := w64 (by omega) (by omega)
    have := ih (i + 1) (by omega)
    rw [List.take_succ_eq_append_getElem hlt, ← List.append_assoc, ← usesL_snoc] at this
    refine Ev.step (fun k => ?_) this
    simp only [spec_l3Uses.l1, rdL_lt hp, rd_lt hlt, l3Abs_eq hx, Option.bind_some, usesL_length]
    rw [if_pos (by omega), if_pos (by omega), if_pos (by omega), if_pos (by omega), if_pos (by omega), if_pos (by omega), if_pos (by omega), if_pos (by omega), usesL_rd _ (by omega), hw, w64s hlt (by omega), Int.toNat_natCast]
theorem usesS_l (g : List (List Int)) (hg : g.length ≤ 1048576) (hl : ∀ p ∈ g, ∀ x ∈ p, LetP x) (hb : g.flatten.length ≤ 1048576) : ∀ (d p : Nat), p + d = g.length → Ev (fun k => spec_l3Uses.l0 k g (usesL (g.take p).flatten) p) (usesL g.flatten) := by
  intro d
  induction d with
  | zero =>
    intro p hp
    rw [List.take_of_length_le (by omega)]
    refine Ev.step (f := fun _ => some (usesL g.flatten)) (fun k => ?_) (Ev.now _)
    simp only [spec_l3Uses.l0]; rw [if_neg (by omega)]
  | succ d ih =>
    intro p hp
    have hlt : p < g.length := by omega
    have h1 := ih (p + 1) (by omega)
    rw [flat_take_succ hlt] at h1
    have h2 := usesS_row g hg p hlt (hl _ (List.getElem_mem hlt)) (g.take p).flatten (by have := flat_take_len g (p + 1); rw [flat_take_succ hlt, List.length_append] at this; omega) _ h1 g[p].length 0 (by omega)
    rw [List.take_zero, List.append_nil] at h2
    refine Ev.step (fun k => ?_) h2
    simp only [spec_l3Uses.l0]; rw [if_pos (by omega)]; rfl
theorem usesS_ev (g : List (List Int)) (hg : g.length ≤ 1048576) (hl : ∀ p ∈ g, ∀ x ∈ p, LetP x) (hb : g.flatten.length ≤ 1048576) : Ev (fun k => spec_l3Uses.f k g) (usesL g.flatten) := by
  refine Ev.congr (fun k => ?_) (usesS_l g hg hl hb g.length 0 (by omega))
  unfold spec_l3Uses.f
  rw [if_pos (by omega), List.take_zero, List.flatten_nil, usesL_nil]; rfl

/-! lettersS -/
theorem lettersS_l (a2 : Int) (u : List Int) (hu : u.length ≤ 1048576) : ∀ (d i : Nat) (acc : List Int), i + d = u.length → acc.length ≤ i → Ev (fun k => spec_l3Letters.l0 k 1 a2 acc u i) (acc ++ pickL (fun n => decide (1 ≤ n ∧ n ≤ a2)) u d i) := by
  intro d
  induction d with
  | zero =>
    intro i acc hi ha
    refine Ev.step (f := fun _ => some acc) (fun k => ?_) ?_
    · simp only [spec_l3Letters.l0]; rw [if_neg (by omega)]
    · simpa [pickL] using Ev.now acc
  | succ d ih =>
    intro i acc hi ha
    have hlt : i < u.length := by omega
    unfold pickL
    rw [getD_lt hlt]
    by_cases hc : 1 ≤ u[i] ∧ u[i] ≤ a2
    · have := ih (i + 1) (acc ++ [(i : Int)]) (by omega) (by simp; omega)
      refine Ev.step (fun k => ?_) (show Ev _ (acc ++ if (decide (1 ≤ u[i] ∧ u[i] ≤ a2)) = true then (i : Int) :: pickL (fun n => decide (1 ≤ n ∧ n ≤ a2)) u d (i + 1) else pickL (fun n => decide (1 ≤ n ∧ n ≤ a2)) u d (i + 1)) by rw [decide_eq_true hc, if_pos rfl]; rw [List.append_assoc] at this; exact this)
      simp only [spec_l3Letters.l0, l1In_eq, rd_lt hlt, Option.bind_some]
      rw [if_pos (by omega), if_pos (by omega), decide_eq_true hc, if_pos rfl, if_pos (by omega), w64s hlt (by omega)]
    · have := ih (i + 1) acc (by omega) (by omega)
      refine Ev.step (fun k => ?_) (show Ev _ (acc ++ if (decide (1 ≤ u[i] ∧ u[i] ≤ a2)) = true then (i : Int) :: pickL (fun n => decide (1 ≤ n ∧ n ≤ a2)) u d (i + 1) else pickL (fun n => decide (1 ≤ n ∧ n ≤ a2)) u d (i + 1)) by rw [decide_eq_false hc, if_neg (by decide)]; exact this)
      simp only [spec_l3Letters.l0, l1In_eq, rd_lt hlt, Option.bind_some]
      rw [if_pos (by omega), if_pos (by omega), decide_eq_false hc, if_neg (by decide), w64s hlt (by omega)]

/-! sizeI -/
theorem size_eq {x : Int} (h : LetP x) : impl_size.f x = some (x.natAbs : Int) := by
  unfold impl_size.f
  rw [w64neg h]
  unfold mx
  congr 1
  omega

/-! usesI -/
theorem usesI_row (g : List (List Int)) (hg : g.length ≤ 1048576) (p : Nat) (hp : p < g.length) (hl : ∀ x ∈ g[p], LetP x) (pre : List Int) (hb : pre.length + g[p].length ≤ 1048576) (r : List Int) (h : Ev (fun k => impl_letterCounts.l0 k (usesL (pre ++ g[p])) g g.length ((p + 1 : Nat) : Int)) r) :
    ∀ (d i : Nat), i + d = g[p].length → Ev (fun k => impl_letterCounts.l1 k (usesL (pre ++ g[p].take i)) g g.length p g[p] g[p].length i) r := by
  intro d
  induction d with
  | zero =>
    intro i hi
    rw [List.take_of_length_le (by omega)]
    refine Ev.step (fun k => ?_) h
    simp only [impl_letterCounts.l1]
    rw [if_neg (by omega), w64s hp (by omega)]
  | succ d ih =>
    intro i hi
    have hlt : i < g[p].length := by omega
    have hx := hl g[p][i] (List.getElem_mem hlt)
    have ha := hx.abs
    have hc := cnt_le (pre ++ g[p].take i) g[p][i].natAbs
    rw [List.length_append, List.length_take] at hc
    have hw : wrap64 ((cnt (pre ++ g[p].take i) g[p][i].natAbs : Int) + 1) = (cnt (pre ++ g[p].take i) g[p][i].natAbs : Int) + 1 := w64 (by omega) (by omega)
    have := ih (i + 1) (by omega)
    rw [List.take_succ_eq_append_getElem hlt, ← List.append_assoc, ← usesL_snoc] at this
    refine Ev.step (fun k => ?_) this
    simp only [impl_letterCounts.l1, rd_lt hlt, size_eq hx, Option.bind_some, usesL_length]
    rw [if_pos (by omega), if_pos (by omega), if_pos (by omega), if_pos (by omega), if_pos (by omega), usesL_rd _ (by omega), hw, w64s hlt (by omega), Int.toNat_natCast]
theorem usesI_l (g : List (List Int)) (hg : g.length ≤ 1048576) (hl : ∀ p ∈ g, ∀ x ∈ p, LetP x) (hb : g.flatten.length ≤ 1048576) : ∀ (d p : Nat), p + d = g.length → Ev (fun k => impl_letterCounts.l0 k (usesL (g.take p).flatten) g g.length p) (usesL g.flatten) := by
  intro d
  induction d with
  | zero =>
    intro p hp
    rw [List.take_of_length_le (by omega)]
    refine Ev.step (f := fun _ => some (usesL g.flatten)) (fun k => ?_) (Ev.now _)
    simp only [impl_letterCounts.l0]; rw [if_neg (by omega)]
  | succ d ih =>
    intro p hp
    have hlt : p < g.length := by omega
    have h1 := ih (p + 1) (by omega)
    rw [flat_take_succ hlt] at h1
    have h2 := usesI_row g hg p hlt (hl _ (List.getElem_mem hlt)) (g.take p).flatten (by have := flat_take_len g (p + 1); rw [flat_take_succ hlt, List.length_append] at this; omega) _ h1 g[p].length 0 (by omega)
    rw [List.take_zero, List.append_nil] at h2
    refine Ev.step (fun k => ?_) h2
    simp only [impl_letterCounts.l0, rdL_lt hlt]; rw [if_pos (by omega), if_pos (by omega), if_pos (by omega)]; rfl
theorem usesI_ev (g : List (List Int)) (hg : g.length ≤ 1048576) (hl : ∀ p ∈ g, ∀ x ∈ p, LetP x) (hb : g.flatten.length ≤ 1048576) : Ev (fun k => impl_letterCounts.f k g) (usesL g.flatten) := by
  refine Ev.congr (fun k => ?_) (usesI_l g hg hl hb g.length 0 (by omega))
  unfold impl_letterCounts.f
  rw [if_pos (by omega), List.take_zero, List.flatten_nil, usesL_nil]; rfl

/-! freeI -/
theorem freeI_l (u : List Int) (hu : u.length ≤ 1048576) : ∀ (d i : Nat) (acc : List Int), i + d = u.length → acc.length ≤ i → Ev (fun k => impl_FreeLetters.l0 k acc u u.length i) (acc ++ pickL (fun n => decide (n = 1)) u d i) := by
  intro d
  induction d with
  | zero =>
    intro i acc hi ha
    refine Ev.step (f := fun _ => some acc) (fun k => ?_) ?_
    · simp only [impl_FreeLetters.l0]; rw [if_neg (by omega)]
    · simpa [pickL] using Ev.now acc
  | succ d ih =>
    intro i acc hi ha
    have hlt : i < u.length := by omega
    unfold pickL
    rw [getD_lt hlt]
    by_cases hc : u[i] = 1
    · have := ih (i + 1) (acc ++ [(i : Int)]) (by omega) (by simp; omega)
      rw [decide_eq_true hc, if_pos rfl]
      refine Ev.step (fun k => ?_) (show Ev _ (acc ++ (i : Int) :: pickL (fun n => decide (n = 1)) u d (i + 1)) by rw [List.append_assoc] at this; exact this)
      simp only [impl_FreeLetters.l0, rd_lt hlt]
      rw [if_pos (by omega), if_pos (by omega), if_pos (by omega), if_pos hc, if_pos (by omega), w64s hlt (by omega)]
    · have := ih (i + 1) acc (by omega) (by omega)
      rw [decide_eq_false hc, if_neg (by decide)]
      refine Ev.step (fun k => ?_) this
      simp only [impl_FreeLetters.l0, rd_lt hlt]
      rw [if_pos (by omega), if_pos (by omega), if_pos (by omega), if_neg hc, w64s hlt (by omega)]

/-! isWord -/
/-- A word. -/
def WordP (l : List Int) : Prop := (∀ x ∈ l, LetP x) ∧ l.length ≤ 24
def WordFrom (l : List Int) (i : Nat) : Prop := (∀ x ∈ l.drop i, LetP x) ∧ l.length ≤ 24
theorem isWord_l (l : List Int) (hl : l.length ≤ 9223372036854775807) : ∀ (d i : Nat), i + d = l.length → Ev (fun k => spec_IsWord.l0 k l i) (decide (WordFrom l i)) ∧ Ev (fun k => impl_IsWord.l0 k l l l.length i) (decide (WordFrom l i)) := by
  intro d
  induction d with
  | zero =>
    intro i hi
    have e : decide (WordFrom l i) = decide ((l.length : Int) ≤ 24) := by
      rw [decide_eq_decide]; unfold WordFrom; rw [List.drop_of_length_le (by omega)]
      simp
      omega
    rw [e]
    refine ⟨Ev.step (f := fun _ => some (decide ((l.length : Int) ≤ 24))) (fun k => ?_) (Ev.now _), Ev.step (f := fun _ => some (decide ((l.length : Int) ≤ 24))) (fun k => ?_) (Ev.now _)⟩
    · simp only [spec_IsWord.l0]; rw [if_neg (by omega)]
    · simp only [impl_IsWord.l0]; rw [if_neg (by omega)]
  | succ d ih =>
    intro i hi
    have hlt : i < l.length := by omega
    have e1 := rd_lt hlt
    have ed : l.drop i = l[i] :: l.drop (i + 1) := List.drop_eq_getElem_cons hlt
    by_cases hp : LetP l[i]
    · have e : decide (WordFrom l i) = decide (WordFrom l (i + 1)) := by
        rw [decide_eq_decide]; unfold WordFrom; rw [ed]
        simp only [List.mem_cons, forall_eq_or_imp, hp, true_and]
      rw [e]
      obtain ⟨h1, h2⟩ := ih (i + 1) (by omega)
      refine ⟨Ev.step (fun k => ?_) h1, Ev.step (fun k => ?_) h2⟩
      · simp only [spec_IsWord.l0, l2Letter_eq, e1, Option.bind_some, decide_eq_true hp]
        rw [if_pos (by omega), if_pos (by omega), if_pos trivial, w64s hlt hl]
      · simp only [impl_IsWord.l0, isLetter_eq, e1, Option.bind_some, decide_eq_true hp]
        rw [if_pos (by omega), if_pos (by omega), if_pos (by omega), if_pos trivial, w64s hlt hl]
    · have e : decide (WordFrom l i) = false := by
        refine decide_eq_false fun h => hp (h.1 _ ?_)
        rw [ed]; exact List.mem_cons_self
      rw [e]
      refine ⟨Ev.step (f := fun _ => some false) (fun k => ?_) (Ev.now _), Ev.step (f := fun _ => some false) (fun k => ?_) (Ev.now _)⟩
      · simp only [spec_IsWord.l0, l2Letter_eq, e1, Option.bind_some, decide_eq_false hp]
        rw [if_pos (by omega), if_pos (by omega)]; rfl
      · simp only [impl_IsWord.l0, isLetter_eq, e1, Option.bind_some, decide_eq_false hp]
        rw [if_pos (by omega), if_pos (by omega), if_pos (by omega)]; rfl
theorem isWord_ev (l : List Int) (hl : l.length ≤ 1048576) : Ev (fun k => spec_IsWord.f k l) (decide (WordP l)) ∧ Ev (fun k => impl_IsWord.f k l) (decide (WordP l)) := by
  have := isWord_l l (by omega) l.length 0 (by omega)
  have e : decide (WordFrom l 0) = decide (WordP l) := by rw [decide_eq_decide]; rfl
  rw [e] at this
  exact this

/-! gluP -/
/-- A gluing. -/
def GluP (g : List (List Int)) : Prop := (1 ≤ g.length ∧ g.length ≤ 4) ∧ (∀ p ∈ g, p ≠ [] ∧ WordP p) ∧ g.flatten.length ≤ 20 ∧ ∀ y, y < 9 → cnt g.flatten y ≤ 2
theorem GluP.let {g : List (List Int)} (h : GluP g) : ∀ p ∈ g, ∀ x ∈ p, LetP x := fun p hp => (h.2.1 p hp).2.1
/-- Rows from p on are words that are not empty. -/
def RowsP (g : List (List Int)) (p : Nat) : Prop := ∀ w ∈ g.drop p, w ≠ [] ∧ WordP w
theorem rowsP_succ {g : List (List Int)} {p : Nat} (h : p < g.length) : RowsP g p ↔ (g[p] ≠ [] ∧ WordP g[p]) ∧ RowsP g (p + 1) := by
  unfold RowsP
  rw [List.drop_eq_getElem_cons h]
  simp only [List.mem_cons, forall_eq_or_imp]
def Few (l : List Int) (i : Nat) : Prop := ∀ y, i ≤ y → y < 9 → cnt l y ≤ 2

/-! zeroCnt -/
theorem zero_rd {g : List (List Int)} (h : GluP g) : (usesL g.flatten).getD 0 0 = 0 := by
  have h0 := usesL_rd g.flatten (y := 0) (by omega)
  rw [rd_nat] at h0
  rw [h0]
  have : cnt g.flatten 0 = 0 := by
    unfold cnt
    rw [List.countP_eq_zero]
    intro x hx hb
    obtain ⟨p, hp, hxp⟩ := List.mem_flatten.1 hx
    have := (h.let p hp x hxp).1
    simp only [beq_iff_eq] at hb
    omega
  omega
theorem two_rd {g : List (List Int)} (h : GluP g) : ∀ j, j < 9 → (usesL g.flatten).getD j 0 ≤ 2 := by
  intro j hj
  have h0 := usesL_rd g.flatten hj
  rw [rd_nat] at h0
  rw [h0]
  have := h.2.2.2 j hj
  omega

/-! corOk -/
theorem row_lt {g : List (List Int)} {p : Nat} (hp : p < g.length) : Joi.row g p = g[p] := by simp [Joi.row, List.getD_eq_getElem?_getD, hp]
theorem ltr_lt {g : List (List Int)} {p i : Nat} (hp : p < g.length) (hi : i < g[p].length) : Joi.ltr g p i = g[p][i] := by
  unfold Joi.ltr; rw [row_lt hp, rd_lt hi]
theorem sidesN_flat (g : List (List Int)) : Joi.sidesN g = g.flatten.length := by
  unfold Joi.sidesN Joi.fst
  rw [List.take_length, flat_len]
theorem GluP.cor {g : List (List Int)} (h : GluP g) : Joi.CorOk g ∧ Joi.NZ g := by
  refine ⟨⟨h.1.2, fun p hp => ?_, by rw [sidesN_flat]; have := h.2.2.1; omega⟩, fun p i hs => ?_⟩
  · rw [row_lt hp]
    obtain ⟨h1, h2⟩ := h.2.1 g[p] (List.getElem_mem hp)
    refine ⟨List.length_pos_iff.2 h1, h2.2, fun x hx => ?_⟩
    have := h2.1 x hx
    unfold LetP at this
    omega
  · have hp := hs.1
    have hi := hs.2
    rw [row_lt hp] at hi
    rw [ltr_lt hp hi]
    have := h.let _ (List.getElem_mem hp) _ (List.getElem_mem hi)
    unfold LetP at this
    omega

/-! fewI -/
theorem fewI_l (l : List Int) : ∀ (d i : Nat), i + d = 9 → Ev (fun k => impl_IsGluing.l1 k (usesL l) 9 i) (decide (Few l i)) := by
  intro d
  induction d with
  | zero =>
    intro i hi
    rw [decide_eq_true (show Few l i from fun y h1 h2 => by omega)]
    refine Ev.step (f := fun _ => some true) (fun k => ?_) (Ev.now _)
    simp only [impl_IsGluing.l1]; rw [if_neg (by omega)]
  | succ d ih =>
    intro i hi
    by_cases hc : cnt l i ≤ 2
    · have e : Few l i ↔ Few l (i + 1) := ⟨fun h y h1 h2 => h y (by omega) h2, fun h y h1 h2 => by
        rcases Nat.eq_or_lt_of_le h1 with rfl | h3
        · exact hc
        · exact h y h3 h2⟩
      rw [decide_eq_decide.2 e]
      refine Ev.step (fun k => ?_) (ih (i + 1) (by omega))
      simp only [impl_IsGluing.l1, usesL_length, usesL_rd l (show i < 9 by omega)]
      rw [if_pos (by omega), if_pos (by omega), if_pos (by omega), if_neg (by omega), w64s (show i < 9 by omega) (by omega)]
    · rw [decide_eq_false (show ¬ Few l i from fun h => hc (h i (Nat.le_refl _) (by omega)))]
      refine Ev.step (f := fun _ => some false) (fun k => ?_) (Ev.now _)
      simp only [impl_IsGluing.l1, usesL_length, usesL_rd l (show i < 9 by omega)]
      rw [if_pos (by omega), if_pos (by omega), if_pos (by omega), if_pos (by omega)]

/-! isGluingI -/
theorem isGluingI_l (g : List (List Int)) (hg : g.length ≤ 1048576) (hb : g.flatten.length ≤ 1048576) (r : Bool) (hr : RowsP g 0 → (Ev (fun k => impl_IsGluing.l0 k g (g.flatten.length : Nat) g g.length g.length) r)) : ∀ (d p : Nat), p + d = g.length → (RowsP g p ↔ RowsP g 0) → Ev (fun k => impl_IsGluing.l0 k g (((g.take p).flatten.length : Nat) : Int) g g.length p) (if RowsP g 0 then r else false) := by
  intro d
  induction d with
  | zero =>
    intro p hp hrow
    have h0 : RowsP g 0 := hrow.1 (by unfold RowsP; rw [List.drop_of_length_le (by omega)]; simp)
    rw [if_pos h0, List.take_of_length_le (by omega), show p = g.length by omega]
    exact hr h0
  | succ d ih =>
    intro p hp hrow
    have hlt : p < g.length := by omega
    have hs := rowsP_succ hlt
    have hxl : g[p].length ≤ 1048576 := by have := flat_take_len g (p + 1); rw [flat_take_succ hlt, List.length_append] at this; omega
    by_cases hz : g[p] = []
    · rw [if_neg (fun h0 => (hs.1 (hrow.2 h0)).1.1 hz)]
      refine Ev.step (f := fun _ => some false) (fun k => ?_) (Ev.now _)
      simp only [impl_IsGluing.l0, rdL_lt hlt, hz]
      rw [if_pos (by omega), if_pos (by omega), if_pos (by omega), if_pos (by simp)]
    have hzl : 0 < g[p].length := List.length_pos_iff.2 hz
    have hw := (isWord_ev g[p] hxl).2
    refine Ev.step (f := fun k => (impl_IsWord.f k g[p]).bind fun t => if t = true then impl_IsGluing.l0 k g (wrap64 ((((g.take p).flatten.length : Nat) : Int) + (g[p].length : Int))) g g.length ((p + 1 : Nat) : Int) else some false) (fun k => ?_) (Ev.bind hw ?_)
    · simp only [impl_IsGluing.l0, rdL_lt hlt]
      rw [if_pos (by omega), if_pos (by omega), if_pos (by omega), if_neg (by omega), w64s hlt (by omega)]
    · by_cases hwp : WordP g[p]
      · rw [decide_eq_true hwp]
        simp only [if_true]
        have h1 := ih (p + 1) (by omega) ⟨fun h => hrow.1 (hs.2 ⟨⟨hz, hwp⟩, h⟩), fun h => (hs.1 (hrow.2 h)).2⟩
        have hl : ((g.take (p + 1)).flatten.length : Nat) = (g.take p).flatten.length + g[p].length := by rw [flat_take_succ hlt, List.length_append]
        have hle := flat_take_len g (p + 1)
        have e : wrap64 ((((g.take p).flatten.length : Nat) : Int) + (g[p].length : Int)) = (((g.take (p + 1)).flatten.length : Nat) : Int) := by
          rw [w64 (by omega) (by omega)]; omega
        rw [e]
        exact h1
      · rw [decide_eq_false hwp, if_neg (fun h0 => hwp (hs.1 (hrow.2 h0)).1.2)]
        exact Ev.now _
theorem isGluingI_ev (g : List (List Int)) (hg : g.length ≤ 1048576) (hb : g.flatten.length ≤ 1048576) : Ev (fun k => impl_IsGluing.f k g) (decide (GluP g)) := by
  unfold impl_IsGluing.f
  simp only [within_eq, Option.bind_some]
  by_cases hl : (1 : Int) ≤ g.length ∧ (g.length : Int) ≤ 4
  case neg =>
    rw [decide_eq_false hl, decide_eq_false (fun h : GluP g => hl ⟨by have := h.1.1; omega, by have := h.1.2; omega⟩)]
    exact Ev.now _
  rw [decide_eq_true hl]
  simp only [if_true]
  have hend : RowsP g 0 → Ev (fun k => impl_IsGluing.l0 k g (g.flatten.length : Nat) g g.length g.length) (decide (GluP g)) := by
    intro h0
    have h0' : ∀ p ∈ g, p ≠ [] ∧ WordP p := fun p hp => h0 p (by rw [List.drop_zero]; exact hp)
    by_cases h20 : (g.flatten.length : Int) > 20
    · rw [decide_eq_false (fun h : GluP g => by have := h.2.2.1; omega)]
      refine Ev.step (f := fun _ => some false) (fun k => ?_) (Ev.now _)
      simp only [impl_IsGluing.l0]; rw [if_neg (by omega), if_pos h20]
    · have e : Few g.flatten 0 ↔ GluP g := ⟨fun h => ⟨⟨by omega, by omega⟩, h0', by omega, fun y hy => h y (by omega) hy⟩, fun h y _ hy => h.2.2.2 y hy⟩
      rw [← decide_eq_decide.2 e]
      refine Ev.step (f := fun k => (impl_letterCounts.f k g).bind fun t => impl_IsGluing.l1 k t (t.length : Int) 0) (fun k => ?_) (Ev.bind (usesI_ev g hg (fun p hp => (h0' p hp).2.1) hb) ?_)
      · simp only [impl_IsGluing.l0]; rw [if_neg (by omega), if_neg h20]
      · simp only [usesL_length]
        exact fewI_l g.flatten 9 0 (by omega)
  have h := isGluingI_l g hg hb _ hend g.length 0 (by omega) Iff.rfl
  have e : (if RowsP g 0 then decide (GluP g) else false) = decide (GluP g) := by
    split
    · rfl
    · rename_i hn
      rw [decide_eq_false (fun h : GluP g => hn (fun p hp => h.2.1 p (by rw [List.drop_zero] at hp; exact hp)))]
  rw [e] at h
  simpa using h

/-! find -/
theorem find_ev (xs : List Int) (_hl : xs.length ≤ 1048576) : ∀ (n i r : Nat), Joi.rch xs n i r → Ev (fun k => spec_l3Find.f k xs i) (r : Int) := by
  unfold spec_l3Find.f
  intro n
  induction n with
  | zero =>
    intro i r h
    obtain ⟨rfl, h⟩ := h
    obtain ⟨hi, he⟩ := List.getElem?_eq_some_iff.1 h
    refine Ev.step (f := fun _ => some (i : Int)) (fun k => ?_) (Ev.now _)
    simp only [spec_l3Find.l0, rd_lt hi, he]
    rw [if_pos (by omega), if_pos (by omega), if_pos trivial]
  | succ n ih =>
    intro i r h
    obtain ⟨j, h, hne, hr⟩ := h
    obtain ⟨hi, he⟩ := List.getElem?_eq_some_iff.1 h
    refine Ev.step (fun k => ?_) (ih j r hr)
    simp only [spec_l3Find.l0, rd_lt hi, he]
    rw [if_pos (by omega), if_pos (by omega), if_neg (by omega)]
theorem find_root (xs : List Int) (hl : xs.length ≤ 1048576) {i r : Nat} (h : Kl.Reach xs i r) : Ev (fun k => spec_l3Find.f k xs i) (r : Int) := by
  obtain ⟨n, hn⟩ := Joi.rch_of h
  exact find_ev xs hl n i r hn

/-! bit -/
theorem bit_eq (b : Bool) : spec_l1Bit.f b = some (if b = true then 1 else 0) := by cases b <;> rfl

/-! ends -/
/-- The joins done so far: those of the polygons before p, and of p's first i sides. -/
def Tm (g : List (List Int)) (p i : Nat) : Nat → Nat → Prop := fun e f => ∃ q j, Joi.Side g q j ∧ (q < p ∨ q = p ∧ j < i) ∧ e = Joi.tailE g q j ∧ f = Joi.headE g q ((j + 1) % (Joi.row g q).length)
theorem tail_lt {g : List (List Int)} (hc : Joi.CorOk g) {p i : Nat} (hs : Joi.Side g p i) : Joi.tailE g p i < 18 ∧ Joi.headE g p i < 18 := by
  have := Joi.ltr_ok hc hs
  unfold Joi.tailE Joi.headE
  constructor <;> split <;> omega
theorem ends_2 (g : List (List Int)) (h : GluP g) (p : Nat) (hp : p < g.length) (hE : ∀ xs, Joi.PInv 18 (Joi.Sl g) xs (Tm g p g[p].length) → ∃ r : List Int, Ev (fun k => spec_l3Ends.l1 k g xs (wrap64 ((p : Int) + 1))) r ∧ Joi.PInv 18 (Joi.Sl g) r (Tm g g.length 0)) :
    ∀ (d i : Nat), i + d = g[p].length → ∀ xs, Joi.PInv 18 (Joi.Sl g) xs (Tm g p i) → ∃ r : List Int, Ev (fun k => spec_l3Ends.l2 k g xs p i) r ∧ Joi.PInv 18 (Joi.Sl g) r (Tm g g.length 0) := by
  obtain ⟨hc, hz⟩ := h.cor
  have h4 := h.1.2
  have hrow := row_lt hp
  have hlen : g[p].length ≤ 24 := by have := (hc.2.1 p hp).2.1; rw [hrow] at this; exact this
  intro d
  induction d with
  | zero =>
    intro i hi xs hI
    obtain ⟨r, hr, hJ⟩ := hE xs (by rw [← (show i = g[p].length by omega)]; exact hI)
    refine ⟨r, Ev.step (fun k => ?_) hr, hJ⟩
    simp only [spec_l3Ends.l2, rdL_lt hp]
    rw [if_pos (by omega), if_pos (by omega), if_neg (by omega)]
  | succ d ih =>
    intro i hi xs hI
    have hlt : i < g[p].length := by omega
    have hml : (i + 1) % g[p].length < g[p].length := Nat.mod_lt _ (by omega)
    have hs : Joi.Side g p i := ⟨hp, by rw [hrow]; exact hlt⟩
    have hs2 := Joi.side_next hs
    have hx := h.let _ (List.getElem_mem hp) _ (List.getElem_mem hlt)
    have hy := h.let _ (List.getElem_mem hp) _ (List.getElem_mem hml)
    have hxl : xs.length = 18 := hI.1
    have hmod : Int.tmod (wrap64 ((i : Int) + 1)) (g[p].length : Int) = (((i + 1) % g[p].length : Nat) : Int) := by
      rw [w64 (by omega) (by omega), Int.tmod_eq_emod_of_nonneg (by omega)]
      simp
    have ht := tail_lt hc hs
    have ht2 := tail_lt hc hs2
    have htl : wrap64 (wrap64 (2 * (g[p][i].natAbs : Int)) + (if decide (g[p][i] > 0) = true then 1 else 0)) = ((Joi.tailE g p i : Nat) : Int) := by
      have hb := hx.abs
      unfold Joi.tailE
      rw [ltr_lt hp hlt, w64 (x := 2 * (g[p][i].natAbs : Int)) (by omega) (by omega)]
      by_cases c : g[p][i] > 0
      · rw [if_pos (decide_eq_true c), if_pos c, w64 (by omega) (by omega)]; omega
      · rw [if_neg (by simp [c]), if_neg c, w64 (by omega) (by omega)]; omega
    have hhd : wrap64 (wrap64 (2 * (g[p][(i + 1) % g[p].length].natAbs : Int)) + (if decide (g[p][(i + 1) % g[p].length] < 0) = true then 1 else 0)) = ((Joi.headE g p ((i + 1) % (Joi.row g p).length) : Nat) : Int) := by
      have hb := hy.abs
      unfold Joi.headE
      rw [hrow, ltr_lt hp hml, w64 (x := 2 * (g[p][(i + 1) % g[p].length].natAbs : Int)) (by omega) (by omega)]
      by_cases c : g[p][(i + 1) % g[p].length] < 0
      · rw [if_pos (decide_eq_true c), if_pos c, w64 (by omega) (by omega)]; omega
      · rw [if_neg (by simpa using c), if_neg c, w64 (by omega) (by omega)]; omega
    obtain ⟨ra, hra⟩ := hI.root ht.1
    obtain ⟨rb, hrb⟩ := hI.root ht2.2
    have hI2 := (hI.hang hra hrb (.base ⟨p, i, hs, rfl, rfl⟩)).weaken (T' := Tm g p (i + 1)) (fun a b hab => by
      obtain ⟨q, j, h1, h2, h3, h4⟩ := hab
      by_cases e : q = p ∧ j = i
      · obtain ⟨rfl, rfl⟩ := e
        exact .inr ⟨h3, h4⟩
      · exact .inl ⟨q, j, h1, by omega, h3, h4⟩)
    have hral := hra.lt.2
    have hstep : ∀ k, spec_l3Ends.l2 (k + 1) g xs p i = (spec_l3Find.f k xs ((Joi.tailE g p i : Nat) : Int)).bind fun a => (spec_l3Find.f k xs ((Joi.headE g p ((i + 1) % (Joi.row g p).length) : Nat) : Int)).bind fun b => if 0 ≤ a then (if a < (xs.length : Int) then spec_l3Ends.l2 k g (xs.set (a : Int).toNat b) p (wrap64 ((i : Int) + 1)) else none) else none := fun k => by
      simp only [spec_l3Ends.l2, rdL_lt hp, rd_lt hlt, hmod, rd_lt hml, l3Abs_eq hx, l3Abs_eq hy, bit_eq, Option.bind_some]
      rw [if_pos (by omega), if_pos (by omega), if_pos (by omega), if_pos (by omega), if_neg (by omega), if_pos (by omega), if_pos (by omega), htl, hhd]
    obtain ⟨r, hr, hJ⟩ := ih (i + 1) (by omega) _ hI2
    refine ⟨r, Ev.step hstep (Ev.bind (find_root xs (by omega) hra) (Ev.bind (find_root xs (by omega) hrb) ?_)), hJ⟩
    refine Ev.congr (fun k => ?_) hr
    rw [if_pos (by omega), if_pos (by omega), Int.toNat_natCast, w64s hlt (by omega)]
theorem ends_1 (g : List (List Int)) (h : GluP g) : ∀ (d p : Nat), p + d = g.length → ∀ xs, Joi.PInv 18 (Joi.Sl g) xs (Tm g p 0) → ∃ r : List Int, Ev (fun k => spec_l3Ends.l1 k g xs p) r ∧ Joi.PInv 18 (Joi.Sl g) r (Tm g g.length 0) := by
  have h4 := h.1.2
  intro d
  induction d with
  | zero =>
    intro p hp xs hI
    obtain rfl : p = g.length := by omega
    refine ⟨xs, Ev.step (f := fun _ => some xs) (fun k => ?_) (Ev.now _), hI⟩
    simp only [spec_l3Ends.l1]; rw [if_neg (by omega)]
  | succ d ih =>
    intro p hp xs hI
    have hlt : p < g.length := by omega
    obtain ⟨r, hr, hJ⟩ := ends_2 g h p hlt (fun ys hK => by
      rw [w64s (n := g.length) hlt (by omega)]
      exact ih (p + 1) (by omega) ys (hK.weaken fun a b hab => by
        obtain ⟨q, j, h1, h2, h3, h4⟩ := hab
        refine ⟨q, j, h1, ?_, h3, h4⟩
        by_cases e : q = p
        · subst e
          have := h1.2
          rw [row_lt hlt] at this
          exact .inr ⟨rfl, this⟩
        · exact .inl (by omega))) g[p].length 0 (by omega) xs hI
    refine ⟨r, Ev.step (fun k => ?_) hr, hJ⟩
    simp only [spec_l3Ends.l1]; rw [if_pos (by omega)]; rfl
theorem ends_0 (g : List (List Int)) (h : GluP g) : ∀ (d i : Nat), i + d = 18 → ∃ r : List Int, Ev (fun k => spec_l3Ends.l0 k g (Joi.iota i) i) r ∧ Joi.PInv 18 (Joi.Sl g) r (Tm g g.length 0) := by
  intro d
  induction d with
  | zero =>
    intro i hi
    obtain rfl : i = 18 := by omega
    obtain ⟨r, hr, hJ⟩ := ends_1 g h g.length 0 (by omega) (Joi.iota 18) ((Joi.PInv.start _ _).weaken fun a b hab => by obtain ⟨q, j, _, h2, _⟩ := hab; omega)
    refine ⟨r, Ev.step (fun k => ?_) hr, hJ⟩
    simp only [spec_l3Ends.l0]; rw [if_neg (by omega)]; rfl
  | succ d ih =>
    intro i hi
    obtain ⟨r, hr, hJ⟩ := ih (i + 1) (by omega)
    refine ⟨r, Ev.step (fun k => ?_) hr, hJ⟩
    simp only [spec_l3Ends.l0, Joi.iota_length, Joi.iota_succ]
    rw [if_pos (by omega), if_pos (by omega), w64s (n := 18) (by omega) (by omega)]
theorem ends_ev (g : List (List Int)) (h : GluP g) : ∃ r : List Int, Ev (fun k => spec_l3Ends.f k g) r ∧ r.length = 18 ∧ Kl.UF r (Joi.EG (Joi.Sl g)) := by
  obtain ⟨r, hr, hJ⟩ := ends_0 g h 18 0 (by omega)
  exact ⟨r, hr, hJ.1, hJ.uf fun a b _ _ e => Joi.EG_min (Joi.EG_eqv _) (fun a b hs => by
    obtain ⟨p, i, hs, rfl, rfl⟩ := hs
    exact .base ⟨p, i, hs, .inl hs.1, rfl, rfl⟩) e⟩

/-! freesL -/
theorem freesL (g : List (List Int)) (h : GluP g) : ∃ ys : List Nat, ys.Nodup ∧ Joi.Occ g ys ∧ (∀ y, y ∈ ys ↔ y < 9 ∧ cnt g.flatten y = 1) ∧ Ev (fun k => spec_l3Letters.f k g 1 1) (ys.map fun y : Nat => (y : Int)) ∧ Ev (fun k => impl_FreeLetters.f k g) (ys.map fun y : Nat => (y : Int)) := by
  have hg1 : g.length ≤ 1048576 := by have := h.1.2; omega
  have hb1 : g.flatten.length ≤ 1048576 := by have := h.2.2.1; omega
  have hu := usesS_ev g hg1 h.let hb1
  have hu2 := usesI_ev g hg1 h.let hb1
  have hgi := isGluingI_ev g hg1 hb1
  rw [decide_eq_true h] at hgi
  have hmem : ∀ y, y ∈ (List.range' 1 8).filter (fun j => decide (1 ≤ (usesL g.flatten).getD j 0 ∧ (usesL g.flatten).getD j 0 ≤ 1)) ↔ y < 9 ∧ cnt g.flatten y = 1 := fun y => by
    rw [List.mem_filter, List.mem_range'_1, decide_eq_true_eq]
    constructor
    · rintro ⟨h1, h2⟩
      have h4 := usesL_rd g.flatten (y := y) (by omega)
      rw [rd_nat] at h4
      rw [h4] at h2
      exact ⟨by omega, by omega⟩
    · rintro ⟨h1, h2⟩
      have h4 := usesL_rd g.flatten h1
      rw [rd_nat] at h4
      have h0 := zero_rd h
      have hne : y ≠ 0 := fun e => by subst e; rw [h4] at h0; omega
      refine ⟨by omega, ?_⟩
      rw [h4]
      omega
  refine ⟨(List.range' 1 8).filter (fun j => decide (1 ≤ (usesL g.flatten).getD j 0 ∧ (usesL g.flatten).getD j 0 ≤ 1)), List.Pairwise.filter _ List.nodup_range', ⟨?_, ?_⟩, hmem, ?_, ?_⟩
  · have := List.length_filter_le (fun j => decide (1 ≤ (usesL g.flatten).getD j 0 ∧ (usesL g.flatten).getD j 0 ≤ 1)) (List.range' 1 8)
    rwa [List.length_range'] at this
  · intro y hy
    have hk := ((hmem y).1 hy).2
    have hpos : 0 < g.flatten.countP (fun x => x.natAbs == y) := by unfold cnt at hk; omega
    obtain ⟨x, hx, hxy⟩ := List.countP_pos_iff.1 hpos
    obtain ⟨w, hw, hxw⟩ := List.mem_flatten.1 hx
    obtain ⟨p, hp, rfl⟩ := List.getElem_of_mem hw
    obtain ⟨i, hi, rfl⟩ := List.getElem_of_mem hxw
    exact ⟨p, i, ⟨hp, by rw [row_lt hp]; exact hi⟩, by rw [ltr_lt hp hi]; simpa using hxy⟩
  · unfold spec_l3Letters.f
    refine Ev.bind hu ?_
    have := lettersS_l 1 (usesL g.flatten) (by rw [usesL_length]; omega) 8 1 [] (by rw [usesL_length]) (by simp)
    rw [pickL_range, List.nil_append] at this
    exact this
  · unfold impl_FreeLetters.f
    refine Ev.bind hgi ?_
    simp only [if_true]
    refine Ev.bind hu2 ?_
    have hz := zero_rd h
    have hl9 := usesL_length g.flatten
    have hq : pickL (fun n => decide (n = 1)) (usesL g.flatten) 9 0 = pickL (fun n => decide (1 ≤ n ∧ n ≤ 1)) (usesL g.flatten) 8 1 := by
      rw [pickL, hz, if_neg (by decide)]
      refine pickL_congr _ _ _ 8 1 (fun j h1 h2 => ?_)
      rw [decide_eq_decide]
      omega
    have := freeI_l (usesL g.flatten) (by omega) 9 0 [] (by omega) (by simp)
    rw [hq, pickL_range, List.nil_append] at this
    simpa using this

/-! fewS -/
theorem fewS_l (l : List Int) : ∀ (d i : Nat), i + d = 9 → Ev (fun k => spec_IsGluing.l1 k (usesL l) i) (decide (Few l i)) := by
  intro d
  induction d with
  | zero =>
    intro i hi
    rw [decide_eq_true (show Few l i from fun y h1 h2 => by omega)]
    refine Ev.step (f := fun _ => some true) (fun k => ?_) (Ev.now _)
    simp only [spec_IsGluing.l1, usesL_length]; rw [if_neg (by omega)]
  | succ d ih =>
    intro i hi
    by_cases hc : cnt l i ≤ 2
    · have e : Few l i ↔ Few l (i + 1) := ⟨fun h y h1 h2 => h y (by omega) h2, fun h y h1 h2 => by
        rcases Nat.eq_or_lt_of_le h1 with rfl | h3
        · exact hc
        · exact h y h3 h2⟩
      rw [decide_eq_decide.2 e]
      refine Ev.step (fun k => ?_) (ih (i + 1) (by omega))
      simp only [spec_IsGluing.l1, usesL_length, usesL_rd l (show i < 9 by omega)]
      rw [if_pos (by omega), if_pos (by omega), if_neg (by omega), w64s (show i < 9 by omega) (by omega)]
    · rw [decide_eq_false (show ¬ Few l i from fun h => hc (h i (Nat.le_refl _) (by omega)))]
      refine Ev.step (f := fun _ => some false) (fun k => ?_) (Ev.now _)
      simp only [spec_IsGluing.l1, usesL_length, usesL_rd l (show i < 9 by omega)]
      rw [if_pos (by omega), if_pos (by omega), if_pos (by omega)]

/-! isGluingS -/
theorem isGluingS_l (g : List (List Int)) (hg : g.length ≤ 1048576) (hb : g.flatten.length ≤ 1048576) (r : Bool) (hr : RowsP g 0 → (Ev (fun k => spec_IsGluing.l0 k g (g.flatten.length : Nat) g.length) r)) : ∀ (d p : Nat), p + d = g.length → (RowsP g p ↔ RowsP g 0) → Ev (fun k => spec_IsGluing.l0 k g (((g.take p).flatten.length : Nat) : Int) p) (if RowsP g 0 then r else false) := by
  intro d
  induction d with
  | zero =>
    intro p hp hrow
    have h0 : RowsP g 0 := hrow.1 (by unfold RowsP; rw [List.drop_of_length_le (by omega)]; simp)
    rw [if_pos h0, List.take_of_length_le (by omega), show p = g.length by omega]
    exact hr h0
  | succ d ih =>
    intro p hp hrow
    have hlt : p < g.length := by omega
    have hs := rowsP_succ hlt
    have hxl : g[p].length ≤ 1048576 := by have := flat_take_len g (p + 1); rw [flat_take_succ hlt, List.length_append] at this; omega
    by_cases hz : g[p] = []
    · rw [if_neg (fun h0 => (hs.1 (hrow.2 h0)).1.1 hz)]
      refine Ev.step (f := fun _ => some false) (fun k => ?_) (Ev.now _)
      simp only [spec_IsGluing.l0, rdL_lt hlt, hz]
      rw [if_pos (by omega), if_pos (by omega), if_pos (by simp)]
    have hzl : 0 < g[p].length := List.length_pos_iff.2 hz
    have hw := (isWord_ev g[p] hxl).1
    refine Ev.step (f := fun k => (spec_IsWord.f k g[p]).bind fun t => if t = true then spec_IsGluing.l0 k g (wrap64 ((((g.take p).flatten.length : Nat) : Int) + (g[p].length : Int))) ((p + 1 : Nat) : Int) else some false) (fun k => ?_) (Ev.bind hw ?_)
    · simp only [spec_IsGluing.l0, rdL_lt hlt]
      rw [if_pos (by omega), if_pos (by omega), if_neg (by omega), w64s hlt (by omega)]
    · by_cases hwp : WordP g[p]
      · rw [decide_eq_true hwp]
        simp only [if_true]
        have h1 := ih (p + 1) (by omega) ⟨fun h => hrow.1 (hs.2 ⟨⟨hz, hwp⟩, h⟩), fun h => (hs.1 (hrow.2 h)).2⟩
        have hl : ((g.take (p + 1)).flatten.length : Nat) = (g.take p).flatten.length + g[p].length := by rw [flat_take_succ hlt, List.length_append]
        have hle := flat_take_len g (p + 1)
        have e : wrap64 ((((g.take p).flatten.length : Nat) : Int) + (g[p].length : Int)) = (((g.take (p + 1)).flatten.length : Nat) : Int) := by
          rw [w64 (by omega) (by omega)]; omega
        rw [e]
        exact h1
      · rw [decide_eq_false hwp, if_neg (fun h0 => hwp (hs.1 (hrow.2 h0)).1.2)]
        exact Ev.now _
theorem isGluingS_ev (g : List (List Int)) (hg : g.length ≤ 1048576) (hb : g.flatten.length ≤ 1048576) : Ev (fun k => spec_IsGluing.f k g) (decide (GluP g)) := by
  have hend : RowsP g 0 → Ev (fun k => spec_IsGluing.l0 k g (g.flatten.length : Nat) g.length) (decide (GluP g)) := by
    intro h0
    have h0' : ∀ p ∈ g, p ≠ [] ∧ WordP p := fun p hp => h0 p (by rw [List.drop_zero]; exact hp)
    by_cases hl : (1 : Int) ≤ g.length ∧ (g.length : Int) ≤ 4
    · by_cases h20 : (g.flatten.length : Int) > 20
      · rw [decide_eq_false (fun h : GluP g => by have := h.2.2.1; omega)]
        refine Ev.step (f := fun k => spec_IsGluing.j1 k g true) (fun k => ?_) (Ev.step (f := fun _ => some false) (fun k => ?_) (Ev.now _))
        · simp only [spec_IsGluing.l0, l1In_eq, Option.bind_some, decide_eq_true hl, decide_eq_true h20]; rw [if_neg (by omega), if_pos trivial]
        · simp only [spec_IsGluing.j1]; rw [if_pos trivial]
      · have e : Few g.flatten 0 ↔ GluP g := ⟨fun h => ⟨⟨by omega, by omega⟩, h0', by omega, fun y hy => h y (by omega) hy⟩, fun h y _ hy => h.2.2.2 y hy⟩
        rw [← decide_eq_decide.2 e]
        refine Ev.step (f := fun k => spec_IsGluing.j1 k g false) (fun k => ?_) (Ev.step (f := fun k => (spec_l3Uses.f k g).bind fun t => spec_IsGluing.l1 k t ((0 : Nat) : Int)) (fun k => ?_) (Ev.bind (usesS_ev g hg (fun p hp => (h0' p hp).2.1) hb) (fewS_l g.flatten 9 0 (by omega))))
        · simp only [spec_IsGluing.l0, l1In_eq, Option.bind_some, decide_eq_true hl, decide_eq_false h20]; rw [if_neg (by omega), if_pos trivial]
        · simp only [spec_IsGluing.j1]; rw [if_neg (by simp)]; rfl
    · rw [decide_eq_false (fun h : GluP g => hl ⟨by have := h.1.1; omega, by have := h.1.2; omega⟩)]
      refine Ev.step (f := fun k => spec_IsGluing.j1 k g true) (fun k => ?_) (Ev.step (f := fun _ => some false) (fun k => ?_) (Ev.now _))
      · simp only [spec_IsGluing.l0, l1In_eq, Option.bind_some, decide_eq_false hl]; rw [if_neg (by omega), if_neg (by simp)]
      · simp only [spec_IsGluing.j1]; rw [if_pos trivial]
  have h := isGluingS_l g hg hb _ hend g.length 0 (by omega) Iff.rfl
  have e : (if RowsP g 0 then decide (GluP g) else false) = decide (GluP g) := by
    split
    · rfl
    · rename_i hn
      rw [decide_eq_false (fun h : GluP g => hn (fun p hp => h.2.1 p (by rw [List.drop_zero] at hp; exact hp)))]
  rw [e] at h
  simpa [spec_IsGluing.f] using h

/-! countBorders -/
theorem countBorders_ev (g : List (List Int)) (hl1 : g.length ≤ 1048576) (hl2 : g.flatten.length ≤ 1048576) : ∃ z : Int, Ev (fun k => spec_CountBorders.f k g) z ∧ Ev (fun k => impl_CountBorders.f k g) z := by
  have e1 := isGluingS_ev g hl1 hl2
  have e2 := isGluingI_ev g hl1 hl2
  unfold spec_CountBorders.f impl_CountBorders.f
  by_cases h : GluP g
  · rw [decide_eq_true h] at e1 e2
    obtain ⟨ys, _, hoc, _, hS, hI⟩ := freesL g h
    obtain ⟨up, hup, hlen, hUF⟩ := ends_ev g h
    obtain ⟨fs, hfs⟩ : ∃ fs : List Int, (ys.map fun y : Nat => (y : Int)) = fs := ⟨_, rfl⟩
    rw [hfs] at hS hI
    refine ⟨((Joi.bordN g (fs.map Int.toNat) : Nat) : Int), Ev.bind e1 ?_, Ev.bind e2 ?_⟩
    · simp only [if_true]
      refine Ev.bind hS (Ev.bind hup ?_)
      rw [if_pos ⟨⟨h.cor.1, hlen, hUF⟩, ys, hfs.symm, hoc⟩]
      exact Ev.now _
    · simp only [if_true]
      refine Ev.bind hI ?_
      rw [if_pos ⟨h.cor, ys, hfs.symm, hoc⟩]
      exact Ev.now _
  · rw [decide_eq_false h] at e1 e2
    exact ⟨-1, Ev.bind e1 (Ev.now _), Ev.bind e2 (Ev.now _)⟩

/-! law.FnExactCountBorders -/
theorem FnExactCountBorders (l : List (List Int)) (h1 : l.length ≤ maxLen) (h2 : ∀ x ∈ l, x.length ≤ maxLen ∧ ∀ n ∈ x, (Lit.int .i64 n).wf = true) : ∃ k, laws_FnExactCountBorders.f k l = some true := by
  unfold maxLen at h1 h2
  obtain ⟨v, hv, hb⟩ := szIntSS_ev l (by omega) (fun x hx => by have := (h2 x hx).1; omega)
  by_cases hn : v < 0
  · obtain ⟨k, hk⟩ := (evp hv).some
    exact ⟨k, by unfold laws_FnExactCountBorders.f; rw [if_pos ⟨v, hk, .inl hn⟩]⟩
  have hbl := hb (by omega)
  obtain ⟨hl1, hl2⟩ := bulk_flat hbl
  obtain ⟨e1, e2⟩ := (countBorders_ev l hl1 hl2).choose_spec
  obtain ⟨k, q1, q2, q3, q4, q5⟩ := ((evp hv).and ((evp (toIntSS_ev l hbl)).and ((evp e1).and ((evp e2).and (evp (eqIntSS_same l hbl)))))).some
  exact ⟨k, by unfold laws_FnExactCountBorders.f; rw [if_pos ⟨v, q1, .inr ⟨by omega, _, q2, q3, q4, q5⟩⟩]⟩

end Go.Proofs.Ytfknffpfjoalkaa.Pure
