/- SubdivideEdge of the program and SubdivideEdge of the reference answer the same for all arguments; the arguments are left as they were and share nothing with the results. Conditions: those that the printed statement itself names (lengths and numbers that fit). -/
import Derived.Test.YtdmcfbjhobbdpaaQFnExactSubdivideEdgex3
import Derived.Test.YtdmcfbjhobbdpaaCom
namespace Go.Proofs.Ytdmcfbjhobbdpaa.Pure
open Classical Go.RowKit Go.Proofs.Ytdmcfbjhobbdpaa.QFnExactSubdivideEdge Go.Proofs.YtdmcfbjhobbdpaaW.PrintWords Go.Proofs.YtdmcfbjhobbdpaaW.PrintLast Go.Proofs.Ytdmcfbjhobbdpaa.Com

/-! toIntS -/
theorem toIntS_l (l : List Int) (hl : l.length ≤ 9223372036854775807) : ∀ (d i : Nat) (acc : List Int), i + d = l.length → acc.length = l.length → acc.take i = l.take i → Ev (fun k => laws_toIntS.l0 k l acc i) l := by
  intro d
  induction d with
  | zero =>
    intro i acc hi ha ht
    refine Ev.step (f := fun _ => some acc) (fun k => ?_) ?_
    · simp only [laws_toIntS.l0]; rw [if_neg (by omega)]
    · have e : acc = l := by
        have h1 := List.take_of_length_le (l := acc) (i := i) (by omega)
        have h2 := List.take_of_length_le (l := l) (i := i) (by omega)
        rw [← h1, ← h2, ht]
      rw [e]; exact Ev.now _
  | succ d ih =>
    intro i acc hi ha ht
    have hlt : i < l.length := by omega
    refine Ev.step (f := fun k => laws_toIntS.l0 k l (acc.set i l[i]) ((i + 1 : Nat) : Int)) (fun k => ?_) (ih (i + 1) (acc.set i l[i]) (by omega) (by simpa using ha) ?_)
    · simp only [laws_toIntS.l0]
      rw [if_pos (by omega), if_pos (by omega), if_pos (by omega), w64s hlt hl, rd_lt hlt, Int.toNat_natCast]
    · rw [List.take_succ_eq_append_getElem (by simp; omega), List.take_succ_eq_append_getElem hlt, List.take_set_of_le (Nat.le_refl i), ht]
      simp
theorem toIntS_ev (l : List Int) (hl : l.length ≤ 35184372088832) : Ev (fun k => laws_toIntS.f k l) l := by
  refine Ev.congr (f := fun k => laws_toIntS.l0 k l (List.replicate l.length 0) ((0 : Nat) : Int)) (fun k => ?_) (toIntS_l l (by omega) l.length 0 _ (by omega) (by simp) (by simp))
  unfold laws_toIntS.f
  rw [if_pos (by omega), if_pos (by omega), Int.toNat_natCast]; rfl

/-! eqIntS -/
theorem eqIntS_l (a b : List Int) (hn : a.length = b.length) (hl : a.length ≤ 9223372036854775807) : ∀ (d i : Nat), i + d = a.length → Ev (fun k => laws_eqIntS.l0 k a b i) (decide (a.drop i = b.drop i)) := by
  intro d
  induction d with
  | zero =>
    intro i hi
    refine Ev.step (f := fun _ => some true) (fun k => ?_) ?_
    · simp only [laws_eqIntS.l0]; rw [if_neg (by omega)]
    · rw [List.drop_of_length_le (by omega), List.drop_of_length_le (by omega)]; exact Ev.now _
  | succ d ih =>
    intro i hi
    have h1 : i < a.length := by omega
    have h2 : i < b.length := by omega
    have e1 : a.drop i = a[i] :: a.drop (i + 1) := List.drop_eq_getElem_cons h1
    have e2 : b.drop i = b[i] :: b.drop (i + 1) := List.drop_eq_getElem_cons h2
    by_cases he : a[i] = b[i]
    · refine Ev.step (f := fun k => laws_eqIntS.l0 k a b ((i + 1 : Nat) : Int)) (fun k => ?_) ?_
      · simp only [laws_eqIntS.l0]
        rw [if_pos (by omega), if_pos (by omega), if_pos (by omega), rd_lt h1, rd_lt h2, if_pos he, w64s h1 hl]
      · have hd : decide (a.drop i = b.drop i) = decide (a.drop (i + 1) = b.drop (i + 1)) := by
          rw [decide_eq_decide, e1, e2, he]; simp only [List.cons.injEq, true_and]
        rw [hd]; exact ih (i + 1) (by omega)
    · refine Ev.step (f := fun _ => some false) (fun k => ?_) ?_
      · simp only [laws_eqIntS.l0]
        rw [if_pos (by omega), if_pos (by omega), if_pos (by omega), rd_lt h1, rd_lt h2, if_neg he]
      · have hd : decide (a.drop i = b.drop i) = false := by
          refine decide_eq_false fun e => he ?_
          rw [e1, e2] at e
          exact (List.cons.inj e).1
        rw [hd]; exact Ev.now _
theorem eqIntS_ev (a b : List Int) (hl : a.length ≤ 9223372036854775807) : Ev (fun k => laws_eqIntS.f k a b) (decide (a = b)) := by
  by_cases hn : a.length = b.length
  · refine Ev.congr (f := fun k => laws_eqIntS.l0 k a b ((0 : Nat) : Int)) (fun k => ?_) (eqIntS_l a b hn hl a.length 0 (by omega))
    unfold laws_eqIntS.f; rw [if_pos (by omega)]; rfl
  · refine Ev.congr (f := fun _ => some false) (fun k => ?_) ?_
    · unfold laws_eqIntS.f; rw [if_neg (by omega)]
    · rw [decide_eq_false (fun e => hn (by rw [e]))]; exact Ev.now _
theorem eqIntS_same (a : List Int) (hl : a.length ≤ 9223372036854775807) : Ev (fun k => laws_eqIntS.f k a a) true := by simpa using eqIntS_ev a a hl

/-! markIntS -/
theorem markIntS_l (n : Nat) (m : Int) (hm : 0 ≤ m) (hb : m + n ≤ 9223372036854775807) : ∀ (d i : Nat) (acc : List Int), i + d = n → acc.length = n → acc.take i = (from_ m n).take i → Ev (fun k => laws_markIntS.l0 k acc (m + i) i) (m + n, from_ m n) := by
  intro d
  induction d with
  | zero =>
    intro i acc hi ha ht
    refine Ev.step (f := fun _ => some (m + i, acc)) (fun k => ?_) ?_
    · simp only [laws_markIntS.l0]; rw [if_neg (by omega)]
    · have e : acc = from_ m n := by
        have h1 := List.take_of_length_le (l := acc) (i := i) (by omega)
        have h2 := List.take_of_length_le (l := from_ m n) (i := i) (by rw [from_length]; omega)
        rw [← h1, ← h2, ht]
      rw [e, show i = n by omega]; exact Ev.now _
  | succ d ih =>
    intro i acc hi ha ht
    have hlt : i < n := by omega
    have := ih (i + 1) (acc.set i (m + i)) (by omega) (by simpa using ha) (by
      rw [List.take_succ_eq_append_getElem (by simp; omega), List.take_succ_eq_append_getElem (by rw [from_length]; exact hlt), List.take_set_of_le (Nat.le_refl i), ht, from_get m n i hlt]
      simp)
    refine Ev.step (f := fun k => laws_markIntS.l0 k (acc.set i (m + i)) (m + ((i + 1 : Nat) : Int)) ((i + 1 : Nat) : Int)) (fun k => ?_) this
    simp only [laws_markIntS.l0]
    rw [if_pos (by omega), if_pos (by omega), w64 (by omega) (by omega), w64 (by omega) (by omega), Int.toNat_natCast, show m + (i : Int) + 1 = m + ((i + 1 : Nat) : Int) by omega, show (i : Int) + 1 = ((i + 1 : Nat) : Int) by omega]
theorem markIntS_ev (l : List Int) (m : Int) (hm : 0 ≤ m) (hb : m + l.length ≤ 9223372036854775807) : Ev (fun k => laws_markIntS.f k l m) (m + l.length, from_ m l.length) := by
  have := markIntS_l l.length m hm hb l.length 0 l (by omega) rfl (by simp)
  simpa [laws_markIntS.f] using this

/-! heldIntS -/
theorem heldIntS_l (n : Nat) (m : Int) (hm : 0 ≤ m) (hb : m + n ≤ 9223372036854775807) : ∀ (d i : Nat), i + d = n → Ev (fun k => laws_heldIntS.l0 k (from_ m n) (m + i) i) (m + n) := by
  intro d
  induction d with
  | zero =>
    intro i hi
    refine Ev.step (f := fun _ => some (m + i)) (fun k => ?_) ?_
    · simp only [laws_heldIntS.l0]; rw [if_neg (by rw [from_length]; omega)]
    · rw [show i = n by omega]; exact Ev.now _
  | succ d ih =>
    intro i hi
    have hlt : i < n := by omega
    refine Ev.step (f := fun k => laws_heldIntS.l0 k (from_ m n) (m + ((i + 1 : Nat) : Int)) ((i + 1 : Nat) : Int)) (fun k => ?_) (ih (i + 1) (by omega))
    simp only [laws_heldIntS.l0]
    rw [if_pos (by rw [from_length]; omega), if_pos (by omega), rd_lt (by rw [from_length]; omega), from_get m n i hlt, if_pos rfl, w64 (by omega) (by omega), w64 (by omega) (by omega), show m + (i : Int) + 1 = m + ((i + 1 : Nat) : Int) by omega, show (i : Int) + 1 = ((i + 1 : Nat) : Int) by omega]
theorem heldIntS_ev (n : Nat) (m : Int) (hm : 0 ≤ m) (hb : m + n ≤ 9223372036854775807) : Ev (fun k => laws_heldIntS.f k (from_ m n) m) (m + n) := by
  have := heldIntS_l n m hm hb n 0 (by omega)
  simpa [laws_heldIntS.f] using this

/-! within -/
theorem within_eq (a b c : Int) : impl_within.f a b c = some (decide (b ≤ a ∧ a ≤ c)) := by
  unfold impl_within.f
  split <;> simp <;> omega

/-! l1In -/
theorem l1In_eq (a b c : Int) : spec_l1In.f a b c = some (decide (b ≤ a ∧ a ≤ c)) := by
  unfold spec_l1In.f
  split <;> simp <;> omega

/-! perm -/
/-- What both look for from index i on: numbers in range that have not been seen, each once. -/
def PermFrom (l : List Int) (i : Nat) (seen : List Bool) : Prop := (∀ x ∈ l.drop i, (0 ≤ x ∧ x < l.length) ∧ seen.getD x.toNat false = false) ∧ (l.drop i).Nodup
theorem perm_same (l : List Int) (hl : l.length ≤ 9223372036854775807) : ∀ (d i : Nat) (seen : List Bool), i + d = l.length → seen.length = l.length → Ev (fun k => spec_l6Perm.l0 k l seen i) (decide (PermFrom l i seen)) ∧ Ev (fun k => impl_isPermutation.l0 k l seen l l.length i) (decide (PermFrom l i seen)) := by
  intro d
  induction d with
  | zero =>
    intro i seen hi hs
    have ht : decide (PermFrom l i seen) = true := decide_eq_true ⟨by rw [List.drop_of_length_le (by omega)]; simp, by rw [List.drop_of_length_le (by omega)]; exact List.nodup_nil⟩
    rw [ht]
    refine ⟨Ev.step (f := fun _ => some true) (fun k => ?_) (Ev.now _), Ev.step (f := fun _ => some true) (fun k => ?_) (Ev.now _)⟩
    · simp only [spec_l6Perm.l0]; rw [if_neg (by omega)]
    · simp only [impl_isPermutation.l0]; rw [if_neg (by omega)]
  | succ d ih =>
    intro i seen hi hs
    have hlt : i < l.length := by omega
    have e1 := rd_lt hlt
    have ed : l.drop i = l[i] :: l.drop (i + 1) := List.drop_eq_getElem_cons hlt
    by_cases hr : 0 ≤ l[i] ∧ l[i] ≤ (l.length : Int) - 1
    · by_cases hb : rdOf false seen l[i] = true
      · have ht : decide (PermFrom l i seen) = false := by
          refine decide_eq_false fun hp => ?_
          have := (hp.1 l[i] (by rw [ed]; exact List.mem_cons_self)).2
          rw [show rdOf false seen l[i] = seen.getD (l[i]).toNat false from rfl, this] at hb
          exact absurd hb (by decide)
        rw [ht]
        refine ⟨Ev.step (f := fun _ => some false) (fun k => ?_) (Ev.now _), Ev.step (f := fun _ => some false) (fun k => ?_) (Ev.now _)⟩
        · simp only [spec_l6Perm.l0, l1In_eq, e1, Option.bind_some]
          rw [if_pos (by omega), if_pos (by omega), w64 (by omega) (by omega), if_pos (by simpa using hr), if_pos (by omega), if_pos (by omega), if_pos hb]
        · simp only [impl_isPermutation.l0, within_eq, e1, Option.bind_some]
          rw [if_pos (by omega), if_pos (by omega), if_pos (by omega), w64 (by omega) (by omega), if_pos (by simpa using hr), if_pos (by omega), if_pos (by omega), if_pos hb]
      · obtain ⟨h1, h2⟩ := ih (i + 1) (seen.set (l[i]).toNat true) (by omega) (by simpa using hs)
        have hb' : seen.getD (l[i]).toNat false = false := by simpa [rdOf] using hb
        have hq : PermFrom l i seen ↔ PermFrom l (i + 1) (seen.set (l[i]).toNat true) := by
          unfold PermFrom
          rw [ed]
          have hset : ∀ x : Int, 0 ≤ x → x < l.length → ((seen.set (l[i]).toNat true).getD x.toNat false = false ↔ x ≠ l[i] ∧ seen.getD x.toNat false = false) := by
            intro x h0 hx
            rw [List.getD_eq_getElem?_getD, List.getD_eq_getElem?_getD, List.getElem?_set]
            by_cases hxe : x = l[i]
            · subst hxe
              rw [if_pos rfl, if_pos (by omega)]
              simp
            · rw [if_neg (by omega)]
              simp [hxe]
          constructor
          · rintro ⟨hp, hn⟩
            obtain ⟨hn1, hn2⟩ := List.nodup_cons.1 hn
            refine ⟨fun x hx => ?_, hn2⟩
            obtain ⟨p1, p2⟩ := hp x (List.mem_cons_of_mem _ hx)
            exact ⟨p1, (hset x p1.1 p1.2).2 ⟨fun e => hn1 (e ▸ hx), p2⟩⟩
          · rintro ⟨hp, hn⟩
            refine ⟨fun x hx => ?_, List.nodup_cons.2 ⟨fun hm => ?_, hn⟩⟩
            · rcases List.mem_cons.1 hx with rfl | hx
              · exact ⟨⟨hr.1, by omega⟩, hb'⟩
              · obtain ⟨p1, p2⟩ := hp x hx
                exact ⟨p1, ((hset x p1.1 p1.2).1 p2).2⟩
            · obtain ⟨p1, p2⟩ := hp _ hm
              exact ((hset _ p1.1 p1.2).1 p2).1 rfl
        rw [decide_eq_decide.2 hq]
        refine ⟨Ev.step (fun k => ?_) h1, Ev.step (fun k => ?_) h2⟩
        · simp only [spec_l6Perm.l0, l1In_eq, e1, Option.bind_some]
          rw [if_pos (by omega), if_pos (by omega), w64 (by omega) (by omega), if_pos (by simpa using hr), if_pos (by omega), if_pos (by omega), if_neg hb, w64s hlt hl]
        · simp only [impl_isPermutation.l0, within_eq, e1, Option.bind_some]
          rw [if_pos (by omega), if_pos (by omega), if_pos (by omega), w64 (by omega) (by omega), if_pos (by simpa using hr), if_pos (by omega), if_pos (by omega), if_neg hb, w64s hlt hl]
    · have ht : decide (PermFrom l i seen) = false := by
        refine decide_eq_false fun hp => hr ?_
        have := (hp.1 l[i] (by rw [ed]; exact List.mem_cons_self)).1
        omega
      rw [ht]
      refine ⟨Ev.step (f := fun _ => some false) (fun k => ?_) (Ev.now _), Ev.step (f := fun _ => some false) (fun k => ?_) (Ev.now _)⟩
      · simp only [spec_l6Perm.l0, l1In_eq, e1, Option.bind_some]
        rw [if_pos (by omega), if_pos (by omega), w64 (by omega) (by omega), if_neg (by simpa using hr)]
      · simp only [impl_isPermutation.l0, within_eq, e1, Option.bind_some]
        rw [if_pos (by omega), if_pos (by omega), if_pos (by omega), w64 (by omega) (by omega), if_neg (by simpa using hr)]
/-- A permutation of the numbers from 0 on. -/
def PermP (l : List Int) : Prop := (∀ x ∈ l, 0 ≤ x ∧ x < l.length) ∧ l.Nodup
theorem perm_ev (l : List Int) (hl : l.length ≤ 1048576) : Ev (fun k => spec_l6Perm.f k l) (decide (PermP l)) ∧ Ev (fun k => impl_isPermutation.f k l) (decide (PermP l)) := by
  obtain ⟨h1, h2⟩ := perm_same l (by omega) l.length 0 (List.replicate l.length false) (by omega) (by simp)
  have hq : PermFrom l 0 (List.replicate l.length false) ↔ PermP l := by
    unfold PermFrom PermP
    simp only [List.drop_zero]
    refine ⟨fun h => ⟨fun x hx => (h.1 x hx).1, h.2⟩, fun h => ⟨fun x hx => ⟨h.1 x hx, ?_⟩, h.2⟩⟩
    have := h.1 x hx
    rw [List.getD_eq_getElem?_getD, List.getElem?_replicate, if_pos (by omega)]
    rfl
  rw [decide_eq_decide.2 hq] at h1 h2
  refine ⟨Ev.congr (fun k => ?_) h1, Ev.congr (fun k => ?_) h2⟩
  · unfold spec_l6Perm.f
    rw [if_pos (by omega), if_pos (by omega), Int.toNat_natCast]; rfl
  · unfold impl_isPermutation.f
    rw [if_pos (by omega), if_pos (by omega), Int.toNat_natCast]; rfl

/-! isMap -/
/-- A map. -/
def MapP (l : List Int) : Prop := (2 ≤ l.length ∧ l.length ≤ 24) ∧ l.length % 2 = 0 ∧ PermP l
theorem isMap_ev (l : List Int) (hl : l.length ≤ 1048576) : Ev (fun k => spec_IsMap.f k l) (decide (MapP l)) ∧ Ev (fun k => impl_IsMap.f k l) (decide (MapP l)) := by
  unfold spec_IsMap.f impl_IsMap.f
  simp only [within_eq, l1In_eq, Option.bind_some]
  by_cases h1 : (2 : Int) ≤ l.length ∧ (l.length : Int) ≤ 24
  · rw [decide_eq_true h1]
    simp only [if_true]
    by_cases h2 : ((l.length : Int) % 2) = 0
    · simp only [h2, if_true]
      obtain ⟨e1, e2⟩ := perm_ev l hl
      have hq : PermP l ↔ MapP l := ⟨fun h => ⟨⟨by omega, by omega⟩, by omega, h⟩, fun h => h.2.2⟩
      rw [decide_eq_decide.2 hq] at e1 e2
      exact ⟨Ev.bind e1 (Ev.now _), Ev.bind e2 (Ev.now _)⟩
    · simp only [h2, if_false]
      rw [decide_eq_false (fun h : MapP l => h2 (by have := h.2.1; omega))]
      exact ⟨Ev.now _, Ev.now _⟩
  · rw [decide_eq_false h1, decide_eq_false (fun h : MapP l => h1 ⟨by have := h.1.1; omega, by have := h.1.2; omega⟩)]
    exact ⟨Ev.now _, Ev.now _⟩

/-! permMem -/
theorem few_of_sub (l : List Int) : ∀ (m : List Int), l.Nodup → (∀ x ∈ l, x ∈ m) → l.length ≤ m.length := by
  induction l with
  | nil => intro m _ _; simp
  | cons x t ih =>
    intro m hn hs
    obtain ⟨h1, h2⟩ := List.nodup_cons.1 hn
    have hx : x ∈ m := hs x List.mem_cons_self
    have := ih (m.erase x) h2 (fun y hy => (List.mem_erase_of_ne (show y ≠ x by rintro rfl; exact h1 hy)).2 (hs y (List.mem_cons_of_mem _ hy)))
    rw [List.length_erase_of_mem hx] at this
    have : 0 < m.length := List.length_pos_of_mem hx
    simp only [List.length_cons]; omega
theorem perm_mem {l : List Int} (h : PermP l) {d : Nat} (hd : d < l.length) : (d : Int) ∈ l := by
  apply Classical.byContradiction
  intro hm
  have hin : (d : Int) ∈ (List.range l.length).map fun (i : Nat) => (i : Int) := List.mem_map.2 ⟨d, List.mem_range.2 hd, rfl⟩
  have := few_of_sub l (((List.range l.length).map fun (i : Nat) => (i : Int)).erase (d : Int)) h.2 (fun x hx => by
    have hr := h.1 x hx
    refine (List.mem_erase_of_ne (show x ≠ (d : Int) by rintro rfl; exact hm hx)).2 (List.mem_map.2 ⟨x.toNat, List.mem_range.2 (by omega), by omega⟩))
  rw [List.length_erase_of_mem hin, List.length_map, List.length_range] at this
  omega
theorem perm_at {l : List Int} (h : PermP l) {d : Nat} (hd : d < l.length) : ∃ p, ∃ hp : p < l.length, l[p] = (d : Int) ∧ ∀ q, ∀ hq : q < l.length, l[q] = (d : Int) → q = p := by
  obtain ⟨p, hp, e⟩ := List.getElem_of_mem (perm_mem h hd)
  exact ⟨p, hp, e, fun q hq e' => (List.getElem_inj h.2).1 (e'.trans e.symm)⟩

/-! indexOf -/
theorem indexOf_ev (l : List Int) (hl : l.length ≤ 1048576) (x : Int) (p : Nat) (hp : p < l.length) (hx : l[p] = x) (hu : ∀ q, ∀ hq : q < l.length, l[q] = x → q = p) : Ev (fun k => impl_indexOf.f k l x) (p : Int) := by
  unfold impl_indexOf.f
  suffices H : ∀ (d i : Nat), i + d = p → Ev (fun k => impl_indexOf.l0 k x l l.length i) (p : Int) by exact H p 0 (by omega)
  intro d
  induction d with
  | zero =>
    intro i hi
    obtain rfl : i = p := by omega
    refine Ev.step (f := fun _ => some (i : Int)) (fun k => ?_) (Ev.now _)
    simp only [impl_indexOf.l0]
    rw [if_pos (by omega), if_pos (by omega), if_pos (by omega), rd_lt hp, if_pos hx]
  | succ d ih =>
    intro i hi
    have hlt : i < l.length := by omega
    refine Ev.step (fun k => ?_) (ih (i + 1) (by omega))
    simp only [impl_indexOf.l0]
    rw [if_pos (by omega), if_pos (by omega), if_pos (by omega), rd_lt hlt, if_neg (fun e => by have := hu i hlt e; omega), w64s (n := l.length) hlt (by omega)]

/-! copyOf -/
theorem copyOf_eq (l : List Int) (hl : l.length ≤ 1048576) : impl_copyOf.f l = some l := by
  unfold impl_copyOf.f
  simp only [Option.bind_some, List.nil_append, List.length_nil, Nat.zero_add]
  rw [if_pos (by omega)]

/-! subdivide -/
/-- The list with an edge cut in two: the dart d now ends at a new point. -/
def subL (l : List Int) (d p : Nat) : List Int :=
  let y := ((l ++ [(d : Int), 0]).set p ((l.length : Int) + 1)).set (l.length + 1) (rd l d)
  if rd l d = d then (y.set (l.length + 1) ((l.length : Int) + 1)).set d l.length else y.set d l.length
theorem subL_length (l : List Int) (d p : Nat) : (subL l d p).length = l.length + 2 := by unfold subL; dsimp only; split <;> simp
theorem subS_l (l : List Int) (hl : l.length ≤ 24) (d p : Nat) (hd : d < l.length) (hp : p < l.length) (hx : l[p] = (d : Int)) (hu : ∀ q, ∀ hq : q < l.length, l[q] = (d : Int) → q = p) : ∀ (e i : Nat) (y : List Int), i + e = l.length → y = (if i ≤ p then l ++ [(d : Int), 0] else (l ++ [(d : Int), 0]).set p ((l.length : Int) + 1)) → Ev (fun k => spec_SubdivideEdge.l0 k l l.length d y i) (subL l d p, true) := by
  have hw1 : wrap64 ((l.length : Int) + 1) = (l.length : Int) + 1 := w64 (by omega) (by omega)
  have hyl : ∀ z, ((l ++ [(d : Int), 0]).set p z).length = l.length + 2 := by simp
  intro e
  induction e with
  | zero =>
    intro i y hi hy
    rw [if_neg (by omega)] at hy
    refine Ev.shift ?_
    have hy2 : ((((l ++ [(d : Int), 0]).set p ((l.length : Int) + 1)).length : Nat) : Int) = (l.length : Int) + 2 := by rw [hyl]; omega
    have c1 : ¬ ((i : Int) < (l.length : Int)) := by omega
    have c2 : (0 : Int) ≤ (d : Int) := by omega
    have c3 : (d : Int) < (l.length : Int) := by omega
    have c4 : (0 : Int) ≤ (l.length : Int) + 1 := by omega
    have c5 : (l.length : Int) + 1 < (l.length : Int) + 2 := by omega
    have c6 : (d : Int) < (l.length : Int) + 2 := by omega
    have t1 : ((l.length : Int) + 1).toNat = l.length + 1 := by omega
    subst hy
    simp only [spec_SubdivideEdge.l0, hw1, hy2, c1, c2, c3, c4, c5, c6, if_true, if_false, t1, Option.bind_some, Int.toNat_natCast]
    unfold subL
    dsimp only
    by_cases h : rd l d = d
    · simp only [h, if_true]; exact Ev.now _
    · simp only [h, if_false]; exact Ev.now _
  | succ e ih =>
    intro i y hi hy
    have hlt : i < l.length := by omega
    have hyL : y.length = l.length + 2 := by rw [hy]; split <;> simp
    by_cases hip : i = p
    · refine Ev.step (fun k => ?_) (ih (i + 1) (y.set i ((l.length : Int) + 1)) (by omega) ?_)
      · simp only [spec_SubdivideEdge.l0]
        subst hip
        rw [if_pos (by omega), if_pos (by omega), if_pos (by omega), rd_lt hlt, if_pos hx, if_pos (by omega), w64s (n := l.length) hlt (by omega), hw1, Int.toNat_natCast]
      · rw [if_neg (by omega), hy, if_pos (by omega), hip]
    · refine Ev.step (fun k => ?_) (ih (i + 1) y (by omega) ?_)
      · simp only [spec_SubdivideEdge.l0]
        rw [if_pos (by omega), if_pos (by omega), if_pos (by omega), rd_lt hlt, if_neg (fun e => hip (hu i hlt e)), w64s (n := l.length) hlt (by omega)]
      · rw [hy]
        by_cases h : i ≤ p
        · rw [if_pos h, if_pos (by omega)]
        · rw [if_neg h, if_neg (by omega)]
theorem subdivide_ev (l : List Int) (e : Int) (hl : l.length ≤ 1048576) : ∃ (r : List Int) (o : Bool), r.length ≤ 1048576 ∧ Ev (fun k => spec_SubdivideEdge.f k l e) (r, o) ∧ Ev (fun k => impl_SubdivideEdge.f k l e) (r, o) ∧
    (o = true ↔ MapP l ∧ (0 ≤ e ∧ 2 * e < l.length) ∧ l.length + 2 ≤ 24) ∧ (o = true → ∃ (d p : Nat), (d : Int) = 2 * e + 1 ∧ d < l.length ∧ (∃ hp : p < l.length, l[p] = (d : Int)) ∧ r = subL l d p) ∧ (o = false → r = []) := by
  obtain ⟨e1, e2⟩ := isMap_ev l hl
  have hno1 : Ev (fun k => spec_SubdivideEdge.j0 k l e true) (([] : List Int), false) := by
    refine Ev.shift ?_; simp only [spec_SubdivideEdge.j0, if_true]; exact Ev.now _
  have hno2 : Ev (fun k => impl_SubdivideEdge.j0 k l e true) (([] : List Int), false) := by
    refine Ev.shift ?_; simp only [impl_SubdivideEdge.j0, if_true]; exact Ev.now _
  unfold spec_SubdivideEdge.f impl_SubdivideEdge.f
  by_cases h : MapP l
  case neg =>
    rw [decide_eq_false h] at e1 e2
    refine ⟨[], false, by simp, Ev.bind e1 ?_, Ev.bind e2 ?_, by simp [h], by simp, by simp⟩
    · simpa using hno1
    · simpa using hno2
  rw [decide_eq_true h] at e1 e2
  have h24 := h.1.2
  have hev := h.2.1
  have hq : wrap64 ((l.length : Int) / 2) = (l.length : Int) / 2 := w64 (by omega) (by omega)
  have hw : wrap64 ((l.length : Int) / 2 - 1) = (l.length : Int) / 2 - 1 := w64 (by omega) (by omega)
  have hw2 : wrap64 ((l.length : Int) + 2) = (l.length : Int) + 2 := w64 (by omega) (by omega)
  have hw1 : wrap64 ((l.length : Int) + 1) = (l.length : Int) + 1 := w64 (by omega) (by omega)
  simp only [within_eq, l1In_eq, Option.bind_some, hq, hw, hw2]
  by_cases ha : 0 ≤ e ∧ e ≤ (l.length : Int) / 2 - 1
  case neg =>
    rw [decide_eq_false ha]
    refine ⟨[], false, by simp, Ev.bind e1 ?_, Ev.bind e2 ?_, ?_, by simp, by simp⟩
    · simpa using hno1
    · simpa using hno2
    · simp only [Bool.false_eq_true, false_iff]; rintro ⟨_, hx, _⟩; exact ha ⟨hx.1, by omega⟩
  rw [decide_eq_true ha]
  by_cases hm : (l.length : Int) + 2 > 24
  · rw [decide_eq_true hm]
    refine ⟨[], false, by simp, Ev.bind e1 ?_, Ev.bind e2 ?_, ?_, by simp, by simp⟩
    · simpa using hno1
    · simpa using hno2
    · simp only [Bool.false_eq_true, false_iff]; rintro ⟨_, _, hx⟩; omega
  rw [decide_eq_false hm]
  obtain ⟨d, hd⟩ : ∃ d : Nat, (d : Int) = 2 * e + 1 := ⟨(2 * e + 1).toNat, by omega⟩
  have hdl : d < l.length := by omega
  obtain ⟨p, hp, hx, hu⟩ := perm_at h.2.2 hdl
  have hd1 : wrap64 (2 * e) = 2 * e := w64 (by omega) (by omega)
  have hd2 : wrap64 (2 * e + 1) = (d : Int) := by rw [w64 (by omega) (by omega)]; omega
  have hI := indexOf_ev l hl d p hp hx hu
  have hz : l.length + [(0 : Int), 0].length < 17592186044416 := by simp; omega
  have hz' : l.length + [(d : Int), 0].length < 17592186044416 := by simp; omega
  have hy2 : (((l ++ [0, 0] : List Int).length : Nat) : Int) = (l.length : Int) + 2 := by simp
  have c0 : l.length < 17592186044416 := by omega
  refine ⟨subL l d p, true, by rw [subL_length]; omega, Ev.bind e1 ?_, Ev.bind e2 ?_, ?_, fun _ => ⟨d, p, hd, hdl, ⟨hp, hx⟩, rfl⟩, by simp⟩
  · simp only [if_true]
    refine Ev.shift ?_
    simp only [spec_SubdivideEdge.j0, Bool.false_eq_true, if_false, Option.bind_some, List.nil_append, List.length_nil, Nat.zero_add, hd1, hd2, hz', c0, if_true]
    exact subS_l l h24 d p hdl hp hx hu l.length 0 _ (by omega) (by rw [if_pos (by omega)])
  · simp only [if_true]
    refine Ev.shift ?_
    have c2 : (0 : Int) ≤ (d : Int) := by omega
    have c3 : (d : Int) < (l.length : Int) := by omega
    have c4 : (0 : Int) ≤ (l.length : Int) + 1 := by omega
    have c5 : (l.length : Int) + 1 < (l.length : Int) + 2 := by omega
    have c6 : (d : Int) < (l.length : Int) + 2 := by omega
    have c7 : (0 : Int) ≤ (l.length : Int) := by omega
    have c8 : (l.length : Int) < (l.length : Int) + 2 := by omega
    have c9 : (0 : Int) ≤ (p : Int) := by omega
    have c10 : (p : Int) < (l.length : Int) + 2 := by omega
    have t1 : ((l.length : Int) + 1).toNat = l.length + 1 := by omega
    have hsw : ∀ z : Int, (l ++ [z, 0]) = (l ++ [0, 0]).set l.length z := by
      intro z; rw [List.set_append]; simp
    simp only [impl_SubdivideEdge.j0, Bool.false_eq_true, if_false, copyOf_eq l hl, Option.bind_some, hz, hd1, hd2, hw1, hy2, c2, c3, c4, c5, c6, c7, c8, if_true, t1, Int.toNat_natCast]
    by_cases hs : rd l d = d
    · have hpd : p = d := (hu d hdl (by rw [rd_lt hdl] at hs; exact hs)).symm
      have : subL l d p = ((((l ++ [0, 0]).set (l.length + 1) ((l.length : Int) + 1)).set d l.length).set l.length d) := by
        unfold subL
        dsimp only
        rw [if_pos hs, hsw, hpd]
        apply List.ext_getElem (by simp)
        intro i h1 h2
        simp only [List.getElem_set]
        by_cases i1 : d = i
        · subst i1; simp [show ¬ l.length = d by omega]
        · by_cases i2 : l.length = i
          · subst i2; simp [i1]
          · by_cases i3 : l.length + 1 = i
            · subst i3; simp [i1]
            · simp [i1, i2, i3]
      simp only [hs, if_true]
      rw [this]
      exact Ev.now _
    · have : subL l d p = (((((l ++ [0, 0]).set p ((l.length : Int) + 1)).set (l.length + 1) (rd l d)).set d l.length).set l.length d) := by
        unfold subL
        dsimp only
        rw [if_neg hs, hsw]
        apply List.ext_getElem (by simp)
        intro i h1 h2
        simp only [List.getElem_set]
        by_cases i1 : d = i
        · subst i1; simp [show ¬ l.length = d by omega]
        · by_cases i2 : l.length = i
          · subst i2; simp [i1, show ¬ p = l.length by omega]
          · by_cases i3 : l.length + 1 = i
            · subst i3; simp [i1]
            · simp [i1, i2, i3]
      simp only [hs, if_false]
      refine Ev.bind hI ?_
      simp only [c9, c10, if_true, Int.toNat_natCast]
      rw [this]
      exact Ev.now _
  · simp only [true_iff]; exact ⟨h, ⟨ha.1, by omega⟩, by omega⟩

/-! law.FnExactSubdivideEdge -/
theorem FnExactSubdivideEdge : laws_FnExactSubdivideEdge.Pure := by
  intro l e h1 h2 h3 h4
  by_cases hb : (l.length : Int) > 1048576
  · exact ⟨0, by unfold laws_FnExactSubdivideEdge.f; rw [if_pos hb]⟩
  refine Ev.rounds ?_
  obtain ⟨r, o, hr, e1, e2, -⟩ := subdivide_ev l e (by omega)
  have hT := toIntS_ev l (by omega)
  have hE := eqIntS_same r (by omega)
  have hEl := eqIntS_same l (by omega)
  have hM := markIntS_ev r 1 (by omega) (by omega)
  have hMl := markIntS_ev l 1 (by omega) (by omega)
  have hH := heldIntS_ev r.length 1 (by omega) (by omega)
  have n1 : ¬ (1 + (r.length : Int) < 0) := by omega
  have n2 : ¬ (1 + (l.length : Int) < 0) := by omega
  have hj2 : Ev (fun k => laws_FnExactSubdivideEdge.j2 k (from_ 1 r.length) (1 + (r.length : Int)) false) true := by
    refine Ev.shift ?_
    simp only [laws_FnExactSubdivideEdge.j2, Bool.false_eq_true, if_false]
    refine Ev.bind hH ?_
    simp only [n1, if_false, if_true]
    exact Ev.now _
  have hj1 : Ev (fun k => laws_FnExactSubdivideEdge.j1 k l e r o r false) true := by
    refine Ev.shift ?_
    simp only [laws_FnExactSubdivideEdge.j1, Bool.false_eq_true, if_false]
    refine Ev.bind hM (Ev.bind hH ?_)
    simp only [n1, if_false, if_true]
    refine Ev.bind hT (Ev.bind e2 (Ev.bind hE ?_))
    simp only [if_true, bne_self_eq_false]
    exact hj2
  have hj : Ev (fun k => laws_FnExactSubdivideEdge.j0 k l e r o l r o false) true := by
    refine Ev.shift ?_
    simp only [laws_FnExactSubdivideEdge.j0, Bool.false_eq_true, if_false]
    refine Ev.bind hT (Ev.bind hEl ?_)
    simp only [if_true]
    refine Ev.bind hMl ?_
    simp only [n2, if_false]
    refine Ev.bind hE ?_
    simp only [if_true, bne_self_eq_false]
    exact hj1
  unfold laws_FnExactSubdivideEdge.f
  simp only [if_neg hb]
  refine Ev.bind hT (Ev.bind e1 (Ev.bind hT (Ev.bind e2 (Ev.bind hE ?_))))
  simp only [if_true, bne_self_eq_false]
  exact hj

end Go.Proofs.Ytdmcfbjhobbdpaa.Pure
