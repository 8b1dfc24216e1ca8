/- IsGraph of the program and IsGraph of the reference answer the same for all arguments; the arguments are left as they were and share nothing with the results. Conditions: those that the printed statement itself names (lengths and numbers that fit). -/
import Derived.Test.YtehloilmokhmgaaWalkFnExactIsGraph
import Derived.Test.YtehloilmokhmgaaCom
namespace Go.Proofs.Ytehloilmokhmgaa.Pure
open Classical Go.RowKit Go.Proofs.Ytehloilmokhmgaa.QFnExactIsGraph Go.Proofs.YtehloilmokhmgaaW.PrintWords Go.Proofs.YtehloilmokhmgaaW.PrintLast Go.Proofs.Ytehloilmokhmgaa.Com

/-! rdL -/
theorem rdL_lt {l : List (List Int)} {i : Nat} (h : i < l.length) : rd_L1 l (i : Int) = l[i] := by
  simp [rd_L1, List.getD_eq_getElem?_getD, h]
theorem rdL_nat (l : List (List Int)) (i : Nat) : rd_L1 l (i : Int) = l.getD i [] := rfl
/-- Rows and numbers together. -/
def bulk (l : List (List Int)) : Nat := l.length + (l.map List.length).sum
theorem sum_drop_lt {l : List (List Int)} {i : Nat} (h : i < l.length) : ((l.drop i).map List.length).sum = l[i].length + ((l.drop (i + 1)).map List.length).sum := by
  rw [List.drop_eq_getElem_cons h, List.map_cons, List.sum_cons]
theorem len_le_sum {l : List (List Int)} {x : List Int} (h : x ∈ l) : x.length ≤ (l.map List.length).sum := by
  induction l with
  | nil => simp at h
  | cons y l ih =>
    rw [List.map_cons, List.sum_cons]
    rcases List.mem_cons.1 h with rfl | h
    · omega
    · have := ih h; omega

/-! szIntSS -/
theorem szIntSS_l (l : List (List Int)) (hl : l.length ≤ 9223372036854775807) (hx : ∀ x ∈ l, x.length ≤ 9223372036854775807) : ∀ (d i : Nat) (left : Nat), i + d = l.length → left ≤ 1048576 → ∃ v : Int, Ev (fun k => laws_szIntSS.l0 k l left i) v ∧ (0 ≤ v → ((l.drop i).map List.length).sum ≤ left) := by
  intro d
  induction d with
  | zero =>
    intro i left hi hle
    refine ⟨left, Ev.step (f := fun _ => some (left : Int)) (fun k => ?_) (Ev.now _), fun _ => ?_⟩
    · simp only [laws_szIntSS.l0]; rw [if_neg (by omega)]
    · rw [List.drop_of_length_le (by omega)]; simp
  | succ d ih =>
    intro i left hi hle
    have hlt : i < l.length := by omega
    have hxl := hx l[i] (List.getElem_mem hlt)
    have hw : wrap64 ((left : Int) - (l[i].length : Int)) = (left : Int) - l[i].length := w64 (by omega) (by omega)
    by_cases hc : (left : Int) - (l[i].length : Int) < 0
    · refine ⟨-1, Ev.step (f := fun _ => some (-1 : Int)) (fun k => ?_) (Ev.now _), fun h => absurd h (by omega)⟩
      simp only [laws_szIntSS.l0, rdL_lt hlt, laws_szIntS.f, hw]
      rw [if_pos (by omega), if_pos (by omega), if_pos hc]
      simp
    · obtain ⟨v, h1, h2⟩ := ih (i + 1) (left - l[i].length) (by omega) (by omega)
      refine ⟨v, Ev.step (fun k => ?_) h1, fun h => ?_⟩
      · simp only [laws_szIntSS.l0, rdL_lt hlt, laws_szIntS.f, hw]
        rw [if_pos (by omega), if_pos (by omega), if_neg hc, Option.bind_some, if_neg hc, w64s hlt hl, show (left : Int) - (l[i].length : Int) = ((left - l[i].length : Nat) : Int) by omega]
      · have := h2 h
        rw [sum_drop_lt hlt]
        omega
theorem szIntSS_ev (l : List (List Int)) (hl : l.length ≤ 9223372036854775807) (hx : ∀ x ∈ l, x.length ≤ 9223372036854775807) : ∃ v : Int, Ev (fun k => laws_szIntSS.f k l 1048576) v ∧ (0 ≤ v → bulk l ≤ 1048576) := by
  have hw : wrap64 ((1048576 : Int) - (l.length : Int)) = (1048576 : Int) - l.length := w64 (by omega) (by omega)
  by_cases hc : (1048576 : Int) - (l.length : Int) < 0
  · refine ⟨-1, Ev.congr (f := fun _ => some (-1 : Int)) (fun k => ?_) (Ev.now _), fun h => absurd h (by omega)⟩
    unfold laws_szIntSS.f; rw [hw, if_pos hc]
  · obtain ⟨v, h1, h2⟩ := szIntSS_l l hl hx l.length 0 (1048576 - l.length) (by omega) (by omega)
    refine ⟨v, Ev.congr (fun k => ?_) h1, fun h => ?_⟩
    · unfold laws_szIntSS.f; rw [hw, if_neg hc, show (1048576 : Int) - (l.length : Int) = ((1048576 - l.length : Nat) : Int) by omega]; rfl
    · have := h2 h
      unfold bulk
      simp only [List.drop_zero] at this
      omega

/-! toIntS -/
theorem toIntS_l (l : List Int) (hl : l.length ≤ 9223372036854775807) : ∀ (d i : Nat) (acc : List Int), i + d = l.length → acc.length = l.length → acc.take i = l.take i → Ev (fun k => laws_toIntS.l0 k l acc i) l := by
  intro d
  induction d with
  | zero =>
    intro i acc hi ha ht
    refine Ev.step (f := fun _ => some acc) (fun k => ?_) ?_
    · simp only [laws_toIntS.l0]; rw [if_neg (by omega)]
    · have e : acc = l := by
        have h1 := List.take_of_length_le (l := acc) (i := i) (by omega)
        have h2 := List.take_of_length_le (l := l) (i := i) (by omega)
        rw [← h1, ← h2, ht]
      rw [e]; exact Ev.now _
  | succ d ih =>
    intro i acc hi ha ht
    have hlt : i < l.length := by omega
    refine Ev.step (f := fun k => laws_toIntS.l0 k l (acc.set i l[i]) ((i + 1 : Nat) : Int)) (fun k => ?_) (ih (i + 1) (acc.set i l[i]) (by omega) (by simpa using ha) ?_)
    · simp only [laws_toIntS.l0]
      rw [if_pos (by omega), if_pos (by omega), if_pos (by omega), w64s hlt hl, rd_lt hlt, Int.toNat_natCast]
    · rw [List.take_succ_eq_append_getElem (by simp; omega), List.take_succ_eq_append_getElem hlt, List.take_set_of_le (Nat.le_refl i), ht]
      simp
theorem toIntS_ev (l : List Int) (hl : l.length ≤ 35184372088832) : Ev (fun k => laws_toIntS.f k l) l := by
  refine Ev.congr (f := fun k => laws_toIntS.l0 k l (List.replicate l.length 0) ((0 : Nat) : Int)) (fun k => ?_) (toIntS_l l (by omega) l.length 0 _ (by omega) (by simp) (by simp))
  unfold laws_toIntS.f
  rw [if_pos (by omega), if_pos (by omega), Int.toNat_natCast]; rfl

/-! toIntSS -/
theorem toIntSS_l (l : List (List Int)) (hl : bulk l ≤ 1048576) : ∀ (d i : Nat) (acc : List (List Int)), i + d = l.length → acc.length = l.length → acc.take i = l.take i → Ev (fun k => laws_toIntSS.l0 k l acc i) l := by
  intro d
  induction d with
  | zero =>
    intro i acc hi ha ht
    refine Ev.step (f := fun _ => some acc) (fun k => ?_) ?_
    · simp only [laws_toIntSS.l0]; rw [if_neg (by omega)]
    · have e : acc = l := by
        have h1 := List.take_of_length_le (l := acc) (i := i) (by omega)
        have h2 := List.take_of_length_le (l := l) (i := i) (by omega)
        rw [← h1, ← h2, ht]
      rw [e]; exact Ev.now _
  | succ d ih =>
    intro i acc hi ha ht
    have hlt : i < l.length := by omega
    have hll : l.length ≤ 1048576 := by unfold bulk at hl; omega
    have hxl : l[i].length ≤ 35184372088832 := by have := len_le_sum (List.getElem_mem hlt); unfold bulk at hl; omega
    refine Ev.step (f := fun k => (laws_toIntS.f k l[i]).bind fun t => laws_toIntSS.l0 k l (acc.set i t) ((i + 1 : Nat) : Int)) (fun k => ?_) (Ev.bind (toIntS_ev l[i] hxl) (ih (i + 1) (acc.set i l[i]) (by omega) (by simpa using ha) ?_))
    · simp only [laws_toIntSS.l0, rdL_lt hlt]
      rw [if_pos (by omega), if_pos (by omega), w64s hlt (by omega), Int.toNat_natCast]
      congr 1
      funext t
      rw [if_pos (by omega)]
    · rw [List.take_succ_eq_append_getElem (by simp; omega), List.take_succ_eq_append_getElem hlt, List.take_set_of_le (Nat.le_refl i), ht]
      simp
theorem toIntSS_ev (l : List (List Int)) (hl : bulk l ≤ 1048576) : Ev (fun k => laws_toIntSS.f k l) l := by
  have hll : l.length ≤ 1048576 := by unfold bulk at hl; omega
  refine Ev.congr (f := fun k => laws_toIntSS.l0 k l (List.replicate l.length []) ((0 : Nat) : Int)) (fun k => ?_) (toIntSS_l l hl l.length 0 _ (by omega) (by simp) (by simp))
  unfold laws_toIntSS.f
  rw [if_pos (by omega), if_pos (by omega), Int.toNat_natCast]; rfl

/-! eqIntS -/
theorem eqIntS_l (a b : List Int) (hn : a.length = b.length) (hl : a.length ≤ 9223372036854775807) : ∀ (d i : Nat), i + d = a.length → Ev (fun k => laws_eqIntS.l0 k a b i) (decide (a.drop i = b.drop i)) := by
  intro d
  induction d with
  | zero =>
    intro i hi
    refine Ev.step (f := fun _ => some true) (fun k => ?_) ?_
    · simp only [laws_eqIntS.l0]; rw [if_neg (by omega)]
    · rw [List.drop_of_length_le (by omega), List.drop_of_length_le (by omega)]; exact Ev.now _
  | succ d ih =>
    intro i hi
    have h1 : i < a.length := by omega
    have h2 : i < b.length := by omega
    have e1 : a.drop i = a[i] :: a.drop (i + 1) := List.drop_eq_getElem_cons h1
    have e2 : b.drop i = b[i] :: b.drop (i + 1) := List.drop_eq_getElem_cons h2
    by_cases he : a[i] = b[i]
    · refine Ev.step (f := fun k => laws_eqIntS.l0 k a b ((i + 1 : Nat) : Int)) (fun k => ?_) ?_
      · simp only [laws_eqIntS.l0]
        rw [if_pos (by omega), if_pos (by omega), if_pos (by omega), rd_lt h1, rd_lt h2, if_pos he, w64s h1 hl]
      · have hd : decide (a.drop i = b.drop i) = decide (a.drop (i + 1) = b.drop (i + 1)) := by
          rw [decide_eq_decide, e1, e2, he]; simp only [List.cons.injEq, true_and]
        rw [hd]; exact ih (i + 1) (by omega)
    · refine Ev.step (f := fun _ => some false) (fun k => ?_) ?_
      · simp only [laws_eqIntS.l0]
        rw [if_pos (by omega), if_pos (by omega), if_pos (by omega), rd_lt h1, rd_lt h2, if_neg he]
      · have hd : decide (a.drop i = b.drop i) = false := by
          refine decide_eq_false fun e => he ?_
          rw [e1, e2] at e
          exact (List.cons.inj e).1
        rw [hd]; exact Ev.now _
theorem eqIntS_ev (a b : List Int) (hl : a.length ≤ 9223372036854775807) : Ev (fun k => laws_eqIntS.f k a b) (decide (a = b)) := by
  by_cases hn : a.length = b.length
  · refine Ev.congr (f := fun k => laws_eqIntS.l0 k a b ((0 : Nat) : Int)) (fun k => ?_) (eqIntS_l a b hn hl a.length 0 (by omega))
    unfold laws_eqIntS.f; rw [if_pos (by omega)]; rfl
  · refine Ev.congr (f := fun _ => some false) (fun k => ?_) ?_
    · unfold laws_eqIntS.f; rw [if_neg (by omega)]
    · rw [decide_eq_false (fun e => hn (by rw [e]))]; exact Ev.now _
theorem eqIntS_same (a : List Int) (hl : a.length ≤ 9223372036854775807) : Ev (fun k => laws_eqIntS.f k a a) true := by simpa using eqIntS_ev a a hl

/-! eqIntSS -/
theorem eqIntSS_l (a b : List (List Int)) (hn : a.length = b.length) (hl : a.length ≤ 9223372036854775807) (hx : ∀ x ∈ a, x.length ≤ 9223372036854775807) : ∀ (d i : Nat), i + d = a.length → Ev (fun k => laws_eqIntSS.l0 k a b i) (decide (a.drop i = b.drop i)) := by
  intro d
  induction d with
  | zero =>
    intro i hi
    refine Ev.step (f := fun _ => some true) (fun k => ?_) ?_
    · simp only [laws_eqIntSS.l0]; rw [if_neg (by omega)]
    · rw [List.drop_of_length_le (by omega), List.drop_of_length_le (by omega), decide_eq_true rfl]; exact Ev.now _
  | succ d ih =>
    intro i hi
    have h1 : i < a.length := by omega
    have h2 : i < b.length := by omega
    have e1 : a.drop i = a[i] :: a.drop (i + 1) := List.drop_eq_getElem_cons h1
    have e2 : b.drop i = b[i] :: b.drop (i + 1) := List.drop_eq_getElem_cons h2
    have hq := eqIntS_ev a[i] b[i] (hx _ (List.getElem_mem h1))
    refine Ev.step (f := fun k => (laws_eqIntS.f k a[i] b[i]).bind fun t => if t = true then laws_eqIntSS.l0 k a b ((i + 1 : Nat) : Int) else some false) (fun k => ?_) (Ev.bind hq ?_)
    · simp only [laws_eqIntSS.l0, rdL_lt h1, rdL_lt h2]
      rw [if_pos (by omega), if_pos (by omega), if_pos (by omega), w64s h1 hl]
    · by_cases he : a[i] = b[i]
      · have hd : decide (a.drop i = b.drop i) = decide (a.drop (i + 1) = b.drop (i + 1)) := by
          rw [decide_eq_decide, e1, e2, he]; simp only [List.cons.injEq, true_and]
        rw [hd, decide_eq_true he]
        simp only [if_true]
        exact ih (i + 1) (by omega)
      · have hd : decide (a.drop i = b.drop i) = false := by
          refine decide_eq_false fun e => he ?_
          rw [e1, e2] at e
          exact (List.cons.inj e).1
        rw [hd, decide_eq_false he]; exact Ev.now _
theorem eqIntSS_ev (a b : List (List Int)) (hl : a.length ≤ 9223372036854775807) (hx : ∀ x ∈ a, x.length ≤ 9223372036854775807) : Ev (fun k => laws_eqIntSS.f k a b) (decide (a = b)) := by
  by_cases hn : a.length = b.length
  · refine Ev.congr (f := fun k => laws_eqIntSS.l0 k a b ((0 : Nat) : Int)) (fun k => ?_) (eqIntSS_l a b hn hl hx a.length 0 (by omega))
    unfold laws_eqIntSS.f; rw [if_pos (by omega)]; rfl
  · refine Ev.congr (f := fun _ => some false) (fun k => ?_) ?_
    · unfold laws_eqIntSS.f; rw [if_neg (by omega)]
    · rw [decide_eq_false (fun e => hn (by rw [e]))]; exact Ev.now _
theorem eqIntSS_same (a : List (List Int)) (hl : bulk a ≤ 1048576) : Ev (fun k => laws_eqIntSS.f k a a) true := by
  have := eqIntSS_ev a a (by unfold bulk at hl; omega) (fun x hx => by have := len_le_sum hx; unfold bulk at hl; omega)
  rwa [decide_eq_true rfl] at this

/-! evp -/
/-- From some number of rounds on. -/
def Evp (P : Nat → Prop) : Prop := ∃ K, ∀ k, K ≤ k → P k
theorem Evp.and {P Q : Nat → Prop} (h : Evp P) (g : Evp Q) : Evp (fun k => P k ∧ Q k) := by
  obtain ⟨K, hK⟩ := h
  obtain ⟨M, hM⟩ := g
  exact ⟨max K M, fun k hk => ⟨hK k (by omega), hM k (by omega)⟩⟩
theorem evp {α : Type} {g : Nat → Option α} {r : α} (h : Ev g r) : Evp (fun k => g k = some r) := h
theorem Evp.some {P : Nat → Prop} (h : Evp P) : ∃ k, P k := by obtain ⟨K, hK⟩ := h; exact ⟨K, hK K (Nat.le_refl _)⟩

/-! cnt -/
/-- How often a letter or its inverse occurs. -/
def cnt (l : List Int) (y : Nat) : Nat := l.countP fun x => x.natAbs == y
theorem cnt_append (a b : List Int) (y : Nat) : cnt (a ++ b) y = cnt a y + cnt b y := List.countP_append
theorem cnt_one (x : Int) (y : Nat) : cnt [x] y = if x.natAbs = y then 1 else 0 := by
  unfold cnt
  rw [List.countP_cons, List.countP_nil]
  by_cases h : x.natAbs = y <;> simp [h]
theorem cnt_le (l : List Int) (y : Nat) : cnt l y ≤ l.length := List.countP_le_length
def usesL (l : List Int) : List Int := (List.range 9).map fun y => ((cnt l y : Nat) : Int)
theorem usesL_length (l : List Int) : (usesL l).length = 9 := by simp [usesL]
theorem usesL_rd (l : List Int) {y : Nat} (h : y < 9) : rd (usesL l) (y : Int) = (cnt l y : Int) := by
  rw [rd_lt (by rw [usesL_length]; exact h)]
  simp [usesL]
theorem usesL_nil : usesL [] = List.replicate 9 0 := by decide
theorem usesL_snoc (l : List Int) (x : Int) : (usesL l).set x.natAbs ((cnt l x.natAbs : Int) + 1) = usesL (l ++ [x]) := by
  refine List.ext_getElem (by simp [usesL_length]) fun y h1 h2 => ?_
  have hy : y < 9 := by rw [usesL_length] at h2; exact h2
  rw [List.getElem_set]
  have e1 : (usesL (l ++ [x]))[y] = ((cnt (l ++ [x]) y : Nat) : Int) := by simp [usesL]
  refine Eq.trans ?_ e1.symm
  rw [cnt_append, cnt_one]
  by_cases h : x.natAbs = y
  · subst h; rw [if_pos rfl, if_pos rfl]; omega
  · rw [if_neg h, if_neg h]; simp [usesL]
theorem flat_take_succ {g : List (List Int)} {p : Nat} (h : p < g.length) : (g.take (p + 1)).flatten = (g.take p).flatten ++ g[p] := by
  rw [List.take_succ_eq_append_getElem h, List.flatten_append, List.flatten_singleton]
theorem flat_len (g : List (List Int)) : g.flatten.length = (g.map List.length).sum := List.length_flatten
theorem flat_take_len (g : List (List Int)) (p : Nat) : ((g.take p).flatten).length ≤ g.flatten.length := by
  have : g.flatten = (g.take p).flatten ++ (g.drop p).flatten := by rw [← List.flatten_append, List.take_append_drop]
  rw [this, List.length_append]; omega

/-! bulkF -/
theorem bulk_flat {g : List (List Int)} (h : bulk g ≤ 1048576) : g.length ≤ 1048576 ∧ g.flatten.length ≤ 1048576 := by
  unfold bulk at h
  rw [flat_len]
  omega

/-! within -/
theorem within_eq (a b c : Int) : impl_within.f a b c = some (decide (b ≤ a ∧ a ≤ c)) := by
  unfold impl_within.f
  split <;> simp <;> omega

/-! isGraph -/
/-- The rows from one on are edges, and their number fits. -/
def GraphFrom (l : List (List Int)) (i : Nat) : Prop := (∀ j : Nat, i ≤ j → j < l.length → EdgeOk (l.getD j [])) ∧ 1 ≤ l.length ∧ l.length ≤ 10
theorem graphFrom_next (l : List (List Int)) (i : Nat) (h : EdgeOk (l.getD i [])) : GraphFrom l i ↔ GraphFrom l (i + 1) := by
  unfold GraphFrom
  refine and_congr_left fun _ => ⟨fun g j h1 h2 => g j (by omega) h2, fun g j h1 h2 => ?_⟩
  by_cases hj : j = i
  · subst hj; exact h
  · exact g j (by omega) h2
theorem isGraph_l (l : List (List Int)) (hl : l.length ≤ 1048576) : ∀ (d i : Nat), i + d = l.length → Ev (fun k => impl_IsGraph.l0 k l l l.length i) (decide (GraphFrom l i)) := by
  intro d
  induction d with
  | zero =>
    intro i hi
    have e : decide (GraphFrom l i) = decide ((1 : Int) ≤ l.length ∧ (l.length : Int) ≤ 10) := by
      rw [decide_eq_decide]
      unfold GraphFrom
      constructor
      · intro h; omega
      · intro h; exact ⟨fun j h1 h2 => by omega, by omega, by omega⟩
    rw [e]
    refine Ev.step (f := fun _ => some _) (fun k => ?_) (Ev.now _)
    simp only [impl_IsGraph.l0, within_eq, Option.bind_some]; rw [if_neg (by omega)]
  | succ d ih =>
    intro i hi
    have hlt : i < l.length := by omega
    have e1 := rdL_lt hlt
    have e2 : l.getD i [] = l[i] := by simp [List.getD_eq_getElem?_getD, hlt]
    have h2 := ih (i + 1) (by omega)
    have hw := w64s hlt (by omega)
    have p1 : (i : Int) < (l.length : Int) := by omega
    have p2 : (0 : Int) ≤ (i : Int) := by omega
    have hno : ¬ EdgeOk (l.getD i []) → decide (GraphFrom l i) = false := fun hn => decide_eq_false fun g => hn (g.1 i (Nat.le_refl _) hlt)
    rw [e2] at hno
    by_cases hlen : (l[i].length : Int) = 2
    · have q1 : (0 : Int) < (l[i].length : Int) := by omega
      have q2 : (1 : Int) < (l[i].length : Int) := by omega
      by_cases c1 : 0 ≤ rd l[i] 0 ∧ rd l[i] 0 ≤ 6
      · by_cases c2 : 0 ≤ rd l[i] 1 ∧ rd l[i] 1 ≤ 6
        · by_cases c3 : rd l[i] 0 = rd l[i] 1
          · rw [hno fun g => g.2.2.2 c3]
            refine Ev.step (f := fun _ => some false) (fun k => ?_) (Ev.now _)
            simp only [impl_IsGraph.l0, within_eq, Option.bind_some, e1, p1, p2, hlen, q1, q2, if_true, decide_eq_true c1, decide_eq_true c2]
            simp [c3]
          · have e3 : decide (GraphFrom l i) = decide (GraphFrom l (i + 1)) := by
              rw [decide_eq_decide]
              exact graphFrom_next l i (by rw [e2]; exact ⟨by omega, c1, c2, c3⟩)
            rw [e3]
            refine Ev.step (fun k => ?_) h2
            simp only [impl_IsGraph.l0, within_eq, Option.bind_some, e1, p1, p2, hlen, if_true, decide_eq_true c1, decide_eq_true c2]
            simp [c3, hw]
        · rw [hno fun g => c2 g.2.2.1]
          refine Ev.step (f := fun _ => some false) (fun k => ?_) (Ev.now _)
          simp only [impl_IsGraph.l0, within_eq, Option.bind_some, e1, p1, p2, hlen, if_true, decide_eq_true c1, decide_eq_false c2]
          simp
      · rw [hno fun g => c1 g.2.1]
        refine Ev.step (f := fun _ => some false) (fun k => ?_) (Ev.now _)
        simp only [impl_IsGraph.l0, within_eq, Option.bind_some, e1, p1, p2, hlen, if_true, decide_eq_false c1]
        simp
    · rw [hno fun g => hlen (by have := g.1; omega)]
      refine Ev.step (f := fun _ => some false) (fun k => ?_) (Ev.now _)
      simp only [impl_IsGraph.l0, e1, p1, p2, hlen, if_true, if_false]
theorem isGraph_ev (l : List (List Int)) (hl : l.length ≤ 1048576) : Ev (fun k => spec_IsGraph.f k l) (decide (GraphP l)) ∧ Ev (fun k => impl_IsGraph.f k l) (decide (GraphP l)) := by
  have h := isGraph_l l hl l.length 0 (by omega)
  have e : decide (GraphFrom l 0) = decide (GraphP l) := by
    rw [decide_eq_decide]
    unfold GraphFrom GraphP
    exact and_congr_left fun _ => ⟨fun g i hi => g i (Nat.zero_le _) hi, fun g i _ hi => g i hi⟩
  rw [e] at h
  refine ⟨?_, h⟩
  unfold spec_IsGraph.f
  exact Ev.congr (fun k => if_pos hl) (Ev.now _)

/-! law.FnExactIsGraph -/
theorem FnExactIsGraph (l : List (List Int)) (h1 : l.length ≤ maxLen) (h2 : ∀ x ∈ l, x.length ≤ maxLen ∧ ∀ n ∈ x, (Lit.int .i64 n).wf = true) : ∃ k, laws_FnExactIsGraph.f k l = some true := by
  unfold maxLen at h1 h2
  obtain ⟨v, hv, hb⟩ := szIntSS_ev l (by omega) (fun x hx => by have := (h2 x hx).1; omega)
  by_cases hn : v < 0
  · obtain ⟨k, hk⟩ := (evp hv).some
    exact ⟨k, by unfold laws_FnExactIsGraph.f; rw [if_pos ⟨v, hk, .inl hn⟩]⟩
  have hbl := hb (by omega)
  obtain ⟨hl1, hl2⟩ := bulk_flat hbl
  obtain ⟨e1, e2⟩ := isGraph_ev l hl1
  obtain ⟨k, q1, q2, q3, q4, q5⟩ := ((evp hv).and ((evp (toIntSS_ev l hbl)).and ((evp e1).and ((evp e2).and (evp (eqIntSS_same l hbl)))))).some
  exact ⟨k, by unfold laws_FnExactIsGraph.f; rw [if_pos ⟨v, q1, .inr ⟨by omega, _, q2, q3, q4, q5⟩⟩]⟩

end Go.Proofs.Ytehloilmokhmgaa.Pure
