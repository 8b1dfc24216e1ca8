/- GenusOf of the program and GenusOf of the reference answer the same for all arguments; the arguments are left as they were and share nothing with the results. Conditions: those that the printed statement itself names (lengths and numbers that fit). -/
import Derived.Test.YtdmcfbjhobbdpaaWalkFnExactGenusOf
import Derived.Test.YtdmcfbjhobbdpaaCom
namespace Go.Proofs.Ytdmcfbjhobbdpaa.Pure
open Classical Go.RowKit Go.Proofs.Ytdmcfbjhobbdpaa.QFnExactGenusOf Go.Proofs.YtdmcfbjhobbdpaaW.PrintWords Go.Proofs.YtdmcfbjhobbdpaaW.PrintLast Go.Proofs.Ytdmcfbjhobbdpaa.Com

/-! toIntS -/
theorem toIntS_l (l : List Int) (hl : l.length ≤ 9223372036854775807) : ∀ (d i : Nat) (acc : List Int), i + d = l.length → acc.length = l.length → acc.take i = l.take i → Ev (fun k => laws_toIntS.l0 k l acc i) l := by
  intro d
  induction d with
  | zero =>
    intro i acc hi ha ht
    refine Ev.step (f := fun _ => some acc) (fun k => ?_) ?_
    · simp only [laws_toIntS.l0]; rw [if_neg (by omega)]
    · have e : acc = l := by
        have h1 := List.take_of_length_le (l := acc) (i := i) (by omega)
        have h2 := List.take_of_length_le (l := l) (i := i) (by omega)
        rw [← h1, ← h2, ht]
      rw [e]; exact Ev.now _
  | succ d ih =>
    intro i acc hi ha ht
    have hlt : i < l.length := by omega
    refine Ev.step (f := fun k => laws_toIntS.l0 k l (acc.set i l[i]) ((i + 1 : Nat) : Int)) (fun k => ?_) (ih (i + 1) (acc.set i l[i]) (by omega) (by simpa using ha) ?_)
    · simp only [laws_toIntS.l0]
      rw [if_pos (by omega), if_pos (by omega), if_pos (by omega), w64s hlt hl, rd_lt hlt, Int.toNat_natCast]
    · rw [List.take_succ_eq_append_getElem (by simp; omega), List.take_succ_eq_append_getElem hlt, List.take_set_of_le (Nat.le_refl i), ht]
      simp
theorem toIntS_ev (l : List Int) (hl : l.length ≤ 35184372088832) : Ev (fun k => laws_toIntS.f k l) l := by
  refine Ev.congr (f := fun k => laws_toIntS.l0 k l (List.replicate l.length 0) ((0 : Nat) : Int)) (fun k => ?_) (toIntS_l l (by omega) l.length 0 _ (by omega) (by simp) (by simp))
  unfold laws_toIntS.f
  rw [if_pos (by omega), if_pos (by omega), Int.toNat_natCast]; rfl

/-! eqIntS -/
theorem eqIntS_l (a b : List Int) (hn : a.length = b.length) (hl : a.length ≤ 9223372036854775807) : ∀ (d i : Nat), i + d = a.length → Ev (fun k => laws_eqIntS.l0 k a b i) (decide (a.drop i = b.drop i)) := by
  intro d
  induction d with
  | zero =>
    intro i hi
    refine Ev.step (f := fun _ => some true) (fun k => ?_) ?_
    · simp only [laws_eqIntS.l0]; rw [if_neg (by omega)]
    · rw [List.drop_of_length_le (by omega), List.drop_of_length_le (by omega)]; exact Ev.now _
  | succ d ih =>
    intro i hi
    have h1 : i < a.length := by omega
    have h2 : i < b.length := by omega
    have e1 : a.drop i = a[i] :: a.drop (i + 1) := List.drop_eq_getElem_cons h1
    have e2 : b.drop i = b[i] :: b.drop (i + 1) := List.drop_eq_getElem_cons h2
    by_cases he : a[i] = b[i]
    · refine Ev.step (f := fun k => laws_eqIntS.l0 k a b ((i + 1 : Nat) : Int)) (fun k => ?_) ?_
      · simp only [laws_eqIntS.l0]
        rw [if_pos (by omega), if_pos (by omega), if_pos (by omega), rd_lt h1, rd_lt h2, if_pos he, w64s h1 hl]
      · have hd : decide (a.drop i = b.drop i) = decide (a.drop (i + 1) = b.drop (i + 1)) := by
          rw [decide_eq_decide, e1, e2, he]; simp only [List.cons.injEq, true_and]
        rw [hd]; exact ih (i + 1) (by omega)
    · refine Ev.step (f := fun _ => some false) (fun k => ?_) ?_
      · simp only [laws_eqIntS.l0]
        rw [if_pos (by omega), if_pos (by omega), if_pos (by omega), rd_lt h1, rd_lt h2, if_neg he]
      · have hd : decide (a.drop i = b.drop i) = false := by
          refine decide_eq_false fun e => he ?_
          rw [e1, e2] at e
          exact (List.cons.inj e).1
        rw [hd]; exact Ev.now _
theorem eqIntS_ev (a b : List Int) (hl : a.length ≤ 9223372036854775807) : Ev (fun k => laws_eqIntS.f k a b) (decide (a = b)) := by
  by_cases hn : a.length = b.length
  · refine Ev.congr (f := fun k => laws_eqIntS.l0 k a b ((0 : Nat) : Int)) (fun k => ?_) (eqIntS_l a b hn hl a.length 0 (by omega))
    unfold laws_eqIntS.f; rw [if_pos (by omega)]; rfl
  · refine Ev.congr (f := fun _ => some false) (fun k => ?_) ?_
    · unfold laws_eqIntS.f; rw [if_neg (by omega)]
    · rw [decide_eq_false (fun e => hn (by rw [e]))]; exact Ev.now _
theorem eqIntS_same (a : List Int) (hl : a.length ≤ 9223372036854775807) : Ev (fun k => laws_eqIntS.f k a a) true := by simpa using eqIntS_ev a a hl

/-! evp -/
/-- From some number of rounds on. -/
def Evp (P : Nat → Prop) : Prop := ∃ K, ∀ k, K ≤ k → P k
theorem Evp.and {P Q : Nat → Prop} (h : Evp P) (g : Evp Q) : Evp (fun k => P k ∧ Q k) := by
  obtain ⟨K, hK⟩ := h
  obtain ⟨M, hM⟩ := g
  exact ⟨max K M, fun k hk => ⟨hK k (by omega), hM k (by omega)⟩⟩
theorem evp {α : Type} {g : Nat → Option α} {r : α} (h : Ev g r) : Evp (fun k => g k = some r) := h
theorem Evp.some {P : Nat → Prop} (h : Evp P) : ∃ k, P k := by obtain ⟨K, hK⟩ := h; exact ⟨K, hK K (Nat.le_refl _)⟩

/-! within -/
theorem within_eq (a b c : Int) : impl_within.f a b c = some (decide (b ≤ a ∧ a ≤ c)) := by
  unfold impl_within.f
  split <;> simp <;> omega

/-! l1In -/
theorem l1In_eq (a b c : Int) : spec_l1In.f a b c = some (decide (b ≤ a ∧ a ≤ c)) := by
  unfold spec_l1In.f
  split <;> simp <;> omega

/-! perm -/
/-- What both look for from index i on: numbers in range that have not been seen, each once. -/
def PermFrom (l : List Int) (i : Nat) (seen : List Bool) : Prop := (∀ x ∈ l.drop i, (0 ≤ x ∧ x < l.length) ∧ seen.getD x.toNat false = false) ∧ (l.drop i).Nodup
theorem perm_same (l : List Int) (hl : l.length ≤ 9223372036854775807) : ∀ (d i : Nat) (seen : List Bool), i + d = l.length → seen.length = l.length → Ev (fun k => spec_l6Perm.l0 k l seen i) (decide (PermFrom l i seen)) ∧ Ev (fun k => impl_isPermutation.l0 k l seen l l.length i) (decide (PermFrom l i seen)) := by
  intro d
  induction d with
  | zero =>
    intro i seen hi hs
    have ht : decide (PermFrom l i seen) = true := decide_eq_true ⟨by rw [List.drop_of_length_le (by omega)]; simp, by rw [List.drop_of_length_le (by omega)]; exact List.nodup_nil⟩
    rw [ht]
    refine ⟨Ev.step (f := fun _ => some true) (fun k => ?_) (Ev.now _), Ev.step (f := fun _ => some true) (fun k => ?_) (Ev.now _)⟩
    · simp only [spec_l6Perm.l0]; rw [if_neg (by omega)]
    · simp only [impl_isPermutation.l0]; rw [if_neg (by omega)]
  | succ d ih =>
    intro i seen hi hs
    have hlt : i < l.length := by omega
    have e1 := rd_lt hlt
    have ed : l.drop i = l[i] :: l.drop (i + 1) := List.drop_eq_getElem_cons hlt
    by_cases hr : 0 ≤ l[i] ∧ l[i] ≤ (l.length : Int) - 1
    · by_cases hb : rdOf false seen l[i] = true
      · have ht : decide (PermFrom l i seen) = false := by
          refine decide_eq_false fun hp => ?_
          have := (hp.1 l[i] (by rw [ed]; exact List.mem_cons_self)).2
          rw [show rdOf false seen l[i] = seen.getD (l[i]).toNat false from rfl, this] at hb
          exact absurd hb (by decide)
        rw [ht]
        refine ⟨Ev.step (f := fun _ => some false) (fun k => ?_) (Ev.now _), Ev.step (f := fun _ => some false) (fun k => ?_) (Ev.now _)⟩
        · simp only [spec_l6Perm.l0, l1In_eq, e1, Option.bind_some]
          rw [if_pos (by omega), if_pos (by omega), w64 (by omega) (by omega), if_pos (by simpa using hr), if_pos (by omega), if_pos (by omega), if_pos hb]
        · simp only [impl_isPermutation.l0, within_eq, e1, Option.bind_some]
          rw [if_pos (by omega), if_pos (by omega), if_pos (by omega), w64 (by omega) (by omega), if_pos (by simpa using hr), if_pos (by omega), if_pos (by omega), if_pos hb]
      · obtain ⟨h1, h2⟩ := ih (i + 1) (seen.set (l[i]).toNat true) (by omega) (by simpa using hs)
        have hb' : seen.getD (l[i]).toNat false = false := by simpa [rdOf] using hb
        have hq : PermFrom l i seen ↔ PermFrom l (i + 1) (seen.set (l[i]).toNat true) := by
          unfold PermFrom
          rw [ed]
          have hset : ∀ x : Int, 0 ≤ x → x < l.length → ((seen.set (l[i]).toNat true).getD x.toNat false = false ↔ x ≠ l[i] ∧ seen.getD x.toNat false = false) := by
            intro x h0 hx
            rw [List.getD_eq_getElem?_getD, List.getD_eq_getElem?_getD, List.getElem?_set]
            by_cases hxe : x = l[i]
            · subst hxe
              rw [if_pos rfl, if_pos (by omega)]
              simp
            · rw [if_neg (by omega)]
              simp [hxe]
          constructor
          · rintro ⟨hp, hn⟩
            obtain ⟨hn1, hn2⟩ := List.nodup_cons.1 hn
            refine ⟨fun x hx => ?_, hn2⟩
            obtain ⟨p1, p2⟩ := hp x (List.mem_cons_of_mem _ hx)
            exact ⟨p1, (hset x p1.1 p1.2).2 ⟨fun e => hn1 (e ▸ hx), p2⟩⟩
          · rintro ⟨hp, hn⟩
            refine ⟨fun x hx => ?_, List.nodup_cons.2 ⟨fun hm => ?_, hn⟩⟩
            · rcases List.mem_cons.1 hx with rfl | hx
              · exact ⟨⟨hr.1, by omega⟩, hb'⟩
              · obtain ⟨p1, p2⟩ := hp x hx
                exact ⟨p1, ((hset x p1.1 p1.2).1 p2).2⟩
            · obtain ⟨p1, p2⟩ := hp _ hm
              exact ((hset _ p1.1 p1.2).1 p2).1 rfl
        rw [decide_eq_decide.2 hq]
        refine ⟨Ev.step (fun k => ?_) h1, Ev.step (fun k => ?_) h2⟩
        · simp only [spec_l6Perm.l0, l1In_eq, e1, Option.bind_some]
          rw [if_pos (by omega), if_pos (by omega), w64 (by omega) (by omega), if_pos (by simpa using hr), if_pos (by omega), if_pos (by omega), if_neg hb, w64s hlt hl]
        · simp only [impl_isPermutation.l0, within_eq, e1, Option.bind_some]
          rw [if_pos (by omega), if_pos (by omega), if_pos (by omega), w64 (by omega) (by omega), if_pos (by simpa using hr), if_pos (by omega), if_pos (by omega), if_neg hb, w64s hlt hl]
    · have ht : decide (PermFrom l i seen) = false := by
        refine decide_eq_false fun hp => hr ?_
        have := (hp.1 l[i] (by rw [ed]; exact List.mem_cons_self)).1
        omega
      rw [ht]
      refine ⟨Ev.step (f := fun _ => some false) (fun k => ?_) (Ev.now _), Ev.step (f := fun _ => some false) (fun k => ?_) (Ev.now _)⟩
      · simp only [spec_l6Perm.l0, l1In_eq, e1, Option.bind_some]
        rw [if_pos (by omega), if_pos (by omega), w64 (by omega) (by omega), if_neg (by simpa using hr)]
      · simp only [impl_isPermutation.l0, within_eq, e1, Option.bind_some]
        rw [if_pos (by omega), if_pos (by omega), if_pos (by omega), w64 (by omega) (by omega), if_neg (by simpa using hr)]
/-- A permutation of the numbers from 0 on. -/
def PermP (l : List Int) : Prop := (∀ x ∈ l, 0 ≤ x ∧ x < l.length) ∧ l.Nodup
theorem perm_ev (l : List Int) (hl : l.length ≤ 1048576) : Ev (fun k => spec_l6Perm.f k l) (decide (PermP l)) ∧ Ev (fun k => impl_isPermutation.f k l) (decide (PermP l)) := by
  obtain ⟨h1, h2⟩ := perm_same l (by omega) l.length 0 (List.replicate l.length false) (by omega) (by simp)
  have hq : PermFrom l 0 (List.replicate l.length false) ↔ PermP l := by
    unfold PermFrom PermP
    simp only [List.drop_zero]
    refine ⟨fun h => ⟨fun x hx => (h.1 x hx).1, h.2⟩, fun h => ⟨fun x hx => ⟨h.1 x hx, ?_⟩, h.2⟩⟩
    have := h.1 x hx
    rw [List.getD_eq_getElem?_getD, List.getElem?_replicate, if_pos (by omega)]
    rfl
  rw [decide_eq_decide.2 hq] at h1 h2
  refine ⟨Ev.congr (fun k => ?_) h1, Ev.congr (fun k => ?_) h2⟩
  · unfold spec_l6Perm.f
    rw [if_pos (by omega), if_pos (by omega), Int.toNat_natCast]; rfl
  · unfold impl_isPermutation.f
    rw [if_pos (by omega), if_pos (by omega), Int.toNat_natCast]; rfl

/-! isMap -/
/-- A map. -/
def MapP (l : List Int) : Prop := (2 ≤ l.length ∧ l.length ≤ 24) ∧ l.length % 2 = 0 ∧ PermP l
theorem isMap_ev (l : List Int) (hl : l.length ≤ 1048576) : Ev (fun k => spec_IsMap.f k l) (decide (MapP l)) ∧ Ev (fun k => impl_IsMap.f k l) (decide (MapP l)) := by
  unfold spec_IsMap.f impl_IsMap.f
  simp only [within_eq, l1In_eq, Option.bind_some]
  by_cases h1 : (2 : Int) ≤ l.length ∧ (l.length : Int) ≤ 24
  · rw [decide_eq_true h1]
    simp only [if_true]
    by_cases h2 : ((l.length : Int) % 2) = 0
    · simp only [h2, if_true]
      obtain ⟨e1, e2⟩ := perm_ev l hl
      have hq : PermP l ↔ MapP l := ⟨fun h => ⟨⟨by omega, by omega⟩, by omega, h⟩, fun h => h.2.2⟩
      rw [decide_eq_decide.2 hq] at e1 e2
      exact ⟨Ev.bind e1 (Ev.now _), Ev.bind e2 (Ev.now _)⟩
    · simp only [h2, if_false]
      rw [decide_eq_false (fun h : MapP l => h2 (by have := h.2.1; omega))]
      exact ⟨Ev.now _, Ev.now _⟩
  · rw [decide_eq_false h1, decide_eq_false (fun h : MapP l => h1 ⟨by have := h.1.1; omega, by have := h.1.2; omega⟩)]
    exact ⟨Ev.now _, Ev.now _⟩

/-! mapOk -/
theorem MapP.ok {l : List Int} (h : MapP l) : Joi.MapOk l := by
  refine ⟨h.1.2, h.2.1, fun d hd => ?_⟩
  have := h.2.2.1 l[d] (List.getElem_mem hd)
  exact ⟨l[d].toNat, by omega, by rw [rd_lt hd]; omega⟩

/-! mapParts -/
theorem mapParts_ev (l : List Int) (hl : l.length ≤ 1048576) : ∃ z : Int, Ev (fun k => spec_MapParts.f k l) z ∧ Ev (fun k => impl_MapParts.f k l) z := by
  obtain ⟨e1, e2⟩ := isMap_ev l hl
  refine ⟨if MapP l then ((Joi.partsN l : Nat) : Int) else -1, ?_, ?_⟩
  · unfold spec_MapParts.f
    refine Ev.bind e1 ?_
    by_cases h : MapP l
    · rw [decide_eq_true h, if_pos h]; simp only [if_true]; rw [if_pos h.ok]; exact Ev.now _
    · rw [decide_eq_false h, if_neg h]; exact Ev.now _
  · unfold impl_MapParts.f
    refine Ev.bind e2 ?_
    by_cases h : MapP l
    · rw [decide_eq_true h, if_pos h]; simp only [if_true]; rw [if_pos h.ok]; exact Ev.now _
    · rw [decide_eq_false h, if_neg h]; exact Ev.now _

/-! rdL -/
theorem rdL_lt {l : List (List Int)} {i : Nat} (h : i < l.length) : rd_L2 l (i : Int) = l[i] := by
  simp [rd_L2, List.getD_eq_getElem?_getD, h]
theorem rdL_nat (l : List (List Int)) (i : Nat) : rd_L2 l (i : Int) = l.getD i [] := rfl
/-- Rows and numbers together. -/
def bulk (l : List (List Int)) : Nat := l.length + (l.map List.length).sum
theorem sum_drop_lt {l : List (List Int)} {i : Nat} (h : i < l.length) : ((l.drop i).map List.length).sum = l[i].length + ((l.drop (i + 1)).map List.length).sum := by
  rw [List.drop_eq_getElem_cons h, List.map_cons, List.sum_cons]
theorem len_le_sum {l : List (List Int)} {x : List Int} (h : x ∈ l) : x.length ≤ (l.map List.length).sum := by
  induction l with
  | nil => simp at h
  | cons y l ih =>
    rw [List.map_cons, List.sum_cons]
    rcases List.mem_cons.1 h with rfl | h
    · omega
    · have := ih h; omega

/-! cyc -/
theorem cyc_same (l : List Int) : ∀ k, (∀ x3 x4 x5, spec_l6Cycles.l0 k l x3 x4 x5 = impl_cycles.l0 k l x3 x4 l.length x5) ∧ (∀ x3 x4 x5 x6 x7, spec_l6Cycles.l1 k l x3 x4 x5 x6 x7 = impl_cycles.l1 k l x3 x4 x6 x7 l.length x5) := by
  intro k
  induction k with
  | zero => exact ⟨fun _ _ _ => rfl, fun _ _ _ _ _ => rfl⟩
  | succ k ih =>
    obtain ⟨h0, h1⟩ := ih
    exact ⟨fun _ _ _ => by simp only [spec_l6Cycles.l0, impl_cycles.l0, h0, h1], fun _ _ _ _ _ => by simp only [spec_l6Cycles.l1, impl_cycles.l1, h0, h1]⟩
theorem bulk_snoc (g : List (List Int)) (x : List Int) : bulk (g ++ [x]) = bulk g + 1 + x.length := by
  unfold bulk
  simp only [List.length_append, List.length_singleton, List.map_append, List.map_cons, List.map_nil, List.sum_append, List.sum_cons, List.sum_nil]
  omega
theorem bulk_len (g : List (List Int)) : g.length ≤ bulk g := by unfold bulk; omega
theorem unseen_set {s : List Bool} {i : Nat} (h : i < s.length) (hf : s[i] = false) : (s.set i true).countP (fun b => !b) + 1 = s.countP (fun b => !b) := by
  induction s generalizing i with
  | nil => simp at h
  | cons b s ih =>
    cases i with
    | zero => simp only [List.getElem_cons_zero] at hf; subst hf; simp
    | succ i =>
      simp only [List.getElem_cons_succ] at hf
      have := ih (by simpa using h) hf
      simp only [List.set_cons_succ, List.countP_cons]
      omega
theorem cyc1_tot (l : List Int) (hn : l.length ≤ 1000) (hp : ∀ x ∈ l, 0 ≤ x ∧ x < l.length) (i : Nat) (hi : i < l.length) (B : Nat) (h0 : ∀ (x3 : List (List Int)) (x4 : List Bool), x4.length = l.length → bulk x3 + x4.countP (fun b => !b) ≤ B → ∃ r, Ev (fun k => spec_l6Cycles.l0 k l x3 x4 ((i + 1 : Nat) : Int)) r ∧ bulk r ≤ B + (l.length - (i + 1))) (hB : B ≤ 1000000) : ∀ (f : Nat) (x3 : List (List Int)) (x4 : List Bool) (x6 : List Int) (x7 : Nat), x4.countP (fun b => !b) = f → x4.length = l.length → x7 < l.length → bulk x3 + 1 + x6.length + f ≤ B → ∃ r, Ev (fun k => spec_l6Cycles.l1 k l x3 x4 i x6 x7) r ∧ bulk r ≤ B + (l.length - (i + 1)) := by
  intro f
  induction f with
  | zero =>
    intro x3 x4 x6 x7 hf h4 h7 hb
    have hl7 : x7 < x4.length := by omega
    have h3 := bulk_len x3
    have ht : x4[x7] = true := by
      have := List.countP_eq_zero.1 hf x4[x7] (List.getElem_mem hl7)
      simpa using this
    obtain ⟨r, hr, hbr⟩ := h0 (x3 ++ [x6]) x4 h4 (by rw [bulk_snoc]; omega)
    refine ⟨r, Ev.step (fun k => ?_) hr, hbr⟩
    simp only [spec_l6Cycles.l1, rdOf_lt hl7]
    rw [if_pos (by omega), if_pos (by omega), if_pos ht, if_pos (by omega), w64s (n := l.length) hi (by omega)]
  | succ f ih =>
    intro x3 x4 x6 x7 hf h4 h7 hb
    have hl7 : x7 < x4.length := by omega
    have h3 := bulk_len x3
    by_cases ht : x4[x7] = true
    · obtain ⟨r, hr, hbr⟩ := h0 (x3 ++ [x6]) x4 h4 (by rw [bulk_snoc]; omega)
      refine ⟨r, Ev.step (fun k => ?_) hr, hbr⟩
      simp only [spec_l6Cycles.l1, rdOf_lt hl7]
      rw [if_pos (by omega), if_pos (by omega), if_pos ht, if_pos (by omega), w64s (n := l.length) hi (by omega)]
    · have hf4 : x4[x7] = false := by simpa using ht
      have hu := unseen_set hl7 hf4
      have hr7 := hp l[x7] (List.getElem_mem h7)
      obtain ⟨r, hr, hbr⟩ := ih x3 (x4.set x7 true) (x6 ++ [(x7 : Int)]) l[x7].toNat (by omega) (by simpa using h4) (by omega) (by simp; omega)
      rw [Int.toNat_of_nonneg hr7.1] at hr
      refine ⟨r, Ev.step (fun k => ?_) hr, hbr⟩
      simp only [spec_l6Cycles.l1, rdOf_lt hl7, rd_lt h7]
      rw [if_pos (by omega), if_pos (by omega), if_neg ht, if_pos (by omega), if_pos (by omega), Int.toNat_natCast]
theorem cyc0_tot (l : List Int) (hn : l.length ≤ 1000) (hp : ∀ x ∈ l, 0 ≤ x ∧ x < l.length) : ∀ (d i : Nat) (x3 : List (List Int)) (x4 : List Bool) (B : Nat), i + d = l.length → x4.length = l.length → bulk x3 + x4.countP (fun b => !b) ≤ B → B + d ≤ 10000 → ∃ r, Ev (fun k => spec_l6Cycles.l0 k l x3 x4 i) r ∧ bulk r ≤ B + d := by
  intro d
  induction d with
  | zero =>
    intro i x3 x4 B hi h4 hb hB
    refine ⟨x3, Ev.step (f := fun _ => some x3) (fun k => ?_) (Ev.now _), by omega⟩
    simp only [spec_l6Cycles.l0]; rw [if_neg (by omega)]
  | succ d ih =>
    intro i x3 x4 B hi h4 hb hB
    have hlt : i < l.length := by omega
    have hl4 : i < x4.length := by omega
    by_cases ht : x4[i] = true
    · obtain ⟨r, hr, hbr⟩ := ih (i + 1) x3 x4 B (by omega) h4 hb (by omega)
      refine ⟨r, Ev.step (fun k => ?_) hr, by omega⟩
      simp only [spec_l6Cycles.l0, rdOf_lt hl4]
      rw [if_pos (by omega), if_pos (by omega), if_pos (by omega), if_pos ht, w64s hlt (by omega)]
    · obtain ⟨r, hr, hbr⟩ := cyc1_tot l hn hp i hlt (B + 1) (fun y3 y4 g4 gb => by
        obtain ⟨r, hr, hbr⟩ := ih (i + 1) y3 y4 (B + 1) (by omega) g4 gb (by omega)
        exact ⟨r, hr, by omega⟩) (by omega) _ x3 x4 [] i rfl h4 hlt (by simp; omega)
      refine ⟨r, Ev.step (fun k => ?_) hr, by omega⟩
      simp only [spec_l6Cycles.l0, rdOf_lt hl4]
      rw [if_pos (by omega), if_pos (by omega), if_pos (by omega), if_neg ht]
theorem cycles_ev (l : List Int) (hn : l.length ≤ 1000) (hp : ∀ x ∈ l, 0 ≤ x ∧ x < l.length) : ∃ r, bulk r ≤ 1048576 ∧ Ev (fun k => spec_l6Cycles.f k l) r ∧ Ev (fun k => impl_cycles.f k l) r := by
  obtain ⟨r, hr, hb⟩ := cyc0_tot l hn hp l.length 0 [] (List.replicate l.length false) l.length (by omega) (by simp) (by have := List.countP_le_length (p := fun b => !b) (l := List.replicate l.length false); simp only [List.length_replicate] at this; unfold bulk; simp only [List.length_nil, List.map_nil, List.sum_nil]; omega) (by omega)
  refine ⟨r, by omega, Ev.congr (fun k => ?_) hr, Ev.congr (fun k => ?_) hr⟩
  · unfold spec_l6Cycles.f
    rw [if_pos (by omega), if_pos (by omega), Int.toNat_natCast]
    rfl
  · unfold impl_cycles.f
    rw [if_pos (by omega), if_pos (by omega), Int.toNat_natCast, (cyc_same l k).1]
    rfl

/-! mate -/
/-- The other dart of an edge. -/
def mt (d : Nat) : Nat := if d % 2 = 0 then d + 1 else d - 1
theorem mt_lt {d n : Nat} (h : d < n) (hn : n % 2 = 0) : mt d < n := by unfold mt; split <;> omega
theorem mt_mt (d : Nat) : mt (mt d) = d := by unfold mt; split <;> split <;> omega
theorem xor1_fin : ∀ d : Fin 64, Go.bits .xor .i64 (d.val : Int) 1 = ((mt d.val : Nat) : Int) := by decide +kernel
theorem xor1 (d : Nat) (h : d < 64) : Go.bits .xor .i64 (d : Int) 1 = ((mt d : Nat) : Int) := xor1_fin ⟨d, h⟩

/-! mateS -/
theorem mate_eq (d : Nat) (hd : d < 1048576) : spec_l6Mate.f (d : Int) = some ((mt d : Nat) : Int) := by
  unfold spec_l6Mate.f mt
  have e : Int.tmod (d : Int) 2 = ((d % 2 : Nat) : Int) := by rw [Int.tmod_eq_emod_of_nonneg (by omega)]; omega
  have a1 : wrap64 ((d : Int) + 1) = (d : Int) + 1 := w64 (by omega) (by omega)
  have a2 : wrap64 (2 * ((d % 2 : Nat) : Int)) = 2 * ((d % 2 : Nat) : Int) := w64 (by omega) (by omega)
  rw [e, a1, a2, w64 (by omega) (by omega)]
  split <;> congr 1 <;> omega

/-! dualS -/
/-- The permutation of the faces. -/
def dualL (l : List Int) : List Int := (List.range l.length).map fun d => l.getD (mt d) 0
theorem dualL_length (l : List Int) : (dualL l).length = l.length := by simp [dualL]
theorem dualL_get (l : List Int) (d : Nat) (h : d < l.length) : (dualL l)[d]'(by rw [dualL_length]; exact h) = l.getD (mt d) 0 := by simp [dualL]
theorem dualS_l (l : List Int) (hl : l.length ≤ 24) (h2 : l.length % 2 = 0) : ∀ (d i : Nat) (acc : List Int), i + d = l.length → acc = (dualL l).take i → Ev (fun k => spec_l6Dual.l0 k l acc i) (dualL l) := by
  intro d
  induction d with
  | zero =>
    intro i acc hi ha
    refine Ev.step (f := fun _ => some acc) (fun k => ?_) ?_
    · simp only [spec_l6Dual.l0]; rw [if_neg (by omega)]
    · rw [ha, List.take_of_length_le (by rw [dualL_length]; omega)]; exact Ev.now _
  | succ d ih =>
    intro i acc hi ha
    have hlt : i < l.length := by omega
    have hm := mt_lt hlt h2
    refine Ev.step (fun k => ?_) (ih (i + 1) (acc ++ [l.getD (mt i) 0]) (by omega) ?_)
    · simp only [spec_l6Dual.l0, mate_eq i (by omega), Option.bind_some]
      rw [if_pos (by omega), if_pos (by omega), if_pos (by omega), if_pos (by rw [ha, List.length_take]; omega), w64s hlt (by omega), rd_nat]
    · rw [List.take_succ_eq_append_getElem (by rw [dualL_length]; exact hlt), dualL_get l i hlt, ha]
theorem dualS_ev (l : List Int) (hl : l.length ≤ 24) (h2 : l.length % 2 = 0) : Ev (fun k => spec_l6Dual.f k l) (dualL l) := by
  have := dualS_l l hl h2 l.length 0 [] (by omega) (by simp)
  simpa [spec_l6Dual.f] using this

/-! dualI -/
theorem dualI_l (l : List Int) (hl : l.length ≤ 24) (h2 : l.length % 2 = 0) : ∀ (d i : Nat) (acc : List Int), i + d = l.length → acc.length = l.length → acc.take i = (dualL l).take i → Ev (fun k => impl_dual.l0 k l acc l.length i) (dualL l) := by
  intro d
  induction d with
  | zero =>
    intro i acc hi ha ht
    refine Ev.step (f := fun _ => some acc) (fun k => ?_) ?_
    · simp only [impl_dual.l0]; rw [if_neg (by omega)]
    · have e : acc = dualL l := by
        have h1 := List.take_of_length_le (l := acc) (i := i) (by omega)
        have h2 := List.take_of_length_le (l := dualL l) (i := i) (by rw [dualL_length]; omega)
        rw [← h1, ← h2, ht]
      rw [e]; exact Ev.now _
  | succ d ih =>
    intro i acc hi ha ht
    have hlt : i < l.length := by omega
    have hm := mt_lt hlt h2
    refine Ev.step (fun k => ?_) (ih (i + 1) (acc.set i (l.getD (mt i) 0)) (by omega) (by simpa using ha) ?_)
    · simp only [impl_dual.l0, xor1 i (by omega)]
      rw [if_pos (by omega), if_pos (by omega), if_pos (by omega), if_pos (by omega), if_pos (by omega), w64s hlt (by omega), rd_nat, Int.toNat_natCast]
    · rw [List.take_succ_eq_append_getElem (by simp; omega), List.take_succ_eq_append_getElem (by rw [dualL_length]; exact hlt), List.take_set_of_le (Nat.le_refl i), ht, dualL_get l i hlt]
      simp
theorem dualI_ev (l : List Int) (hl : l.length ≤ 24) (h2 : l.length % 2 = 0) : Ev (fun k => impl_dual.f k l) (dualL l) := by
  refine Ev.congr (f := fun k => impl_dual.l0 k l (List.replicate l.length 0) l.length ((0 : Nat) : Int)) (fun k => ?_) (dualI_l l hl h2 l.length 0 _ (by omega) (by simp) (by simp))
  unfold impl_dual.f
  rw [if_pos (by omega), if_pos (by omega), Int.toNat_natCast]; rfl

/-! genusOf -/
theorem genusOf_ev (l : List Int) (hl : l.length ≤ 1048576) : ∃ z : Int, Ev (fun k => spec_GenusOf.f k l) z ∧ Ev (fun k => impl_GenusOf.f k l) z := by
  obtain ⟨e1, e2⟩ := isMap_ev l hl
  have e3 := e2
  unfold spec_GenusOf.f impl_GenusOf.f
  by_cases h : MapP l
  case neg =>
    rw [decide_eq_false h] at e1 e2
    exact ⟨-1, Ev.bind e1 (Ev.now _), Ev.bind e2 (Ev.now _)⟩
  rw [decide_eq_true h] at e1 e2 e3
  have h24 := h.1.2
  have d1 := dualS_ev l h24 h.2.1
  have d2 := dualI_ev l h24 h.2.1
  obtain ⟨c, hc, c1, c2⟩ := cycles_ev l (by omega) h.2.2.1
  obtain ⟨r, hr, r1, r2⟩ := cycles_ev (dualL l) (by rw [dualL_length]; omega) (fun x hx => by
    rw [dualL_length]
    obtain ⟨d, hd, rfl⟩ := List.mem_map.1 hx
    have hm := mt_lt (List.mem_range.1 hd) h.2.1
    rw [getD_lt hm]
    exact h.2.2.1 _ (List.getElem_mem hm))
  have hcl : c.length ≤ 1048576 := by unfold bulk at hc; omega
  have hrl : r.length ≤ 1048576 := by unfold bulk at hr; omega
  have hp : Ev (fun k => impl_MapParts.f k l) ((Joi.partsN l : Nat) : Int) := by
    unfold impl_MapParts.f
    refine Ev.bind e3 ?_
    simp only [if_true]; rw [if_pos h.ok]; exact Ev.now _
  refine ⟨genV (Joi.partsN l) c.length r.length l.length, Ev.bind e1 ?_, Ev.bind e2 ?_⟩
  · simp only [if_true]
    unfold spec_l6Genus.f
    refine Ev.bind c1 (Ev.bind d1 (Ev.bind r1 ?_))
    rw [if_pos ⟨h.ok, hcl, hrl⟩]; exact Ev.now _
  · simp only [if_true]
    refine Ev.bind hp (Ev.bind c2 (Ev.bind d2 (Ev.bind r2 ?_)))
    rw [if_pos ⟨⟨rfl, h24⟩, hcl, hrl⟩]; exact Ev.now _

/-! law.FnExactGenusOf -/
theorem FnExactGenusOf (l : List Int) (_h1 : l.length ≤ maxLen) (_h2 : ∀ n ∈ l, (Lit.int .i64 n).wf = true) : ∃ k, laws_FnExactGenusOf.f k l = some true := by
  by_cases hb : (l.length : Int) > 1048576
  · exact ⟨0, by unfold laws_FnExactGenusOf.f; rw [if_pos (.inl hb)]⟩
  obtain ⟨r, e1, e2⟩ := genusOf_ev l (by omega)
  obtain ⟨k, q1, q2, q3, q4⟩ := ((evp (toIntS_ev l (by omega))).and ((evp e1).and ((evp e2).and (evp (eqIntS_same l (by omega)))))).some
  exact ⟨k, by unfold laws_FnExactGenusOf.f; rw [if_pos (.inr ⟨r, q1, q2, q3, q4⟩)]⟩

end Go.Proofs.Ytdmcfbjhobbdpaa.Pure
