/- MapParts of the program and MapParts of the reference answer the same for all arguments; the arguments are left as they were and share nothing with the results. Conditions: those that the printed statement itself names (lengths and numbers that fit). -/
import Derived.Test.YtdmcfbjhobbdpaaWalkFnExactMapParts
import Derived.Test.YtdmcfbjhobbdpaaCom
namespace Go.Proofs.Ytdmcfbjhobbdpaa.Pure
open Classical Go.RowKit Go.Proofs.Ytdmcfbjhobbdpaa.QFnExactMapParts Go.Proofs.YtdmcfbjhobbdpaaW.PrintWords Go.Proofs.YtdmcfbjhobbdpaaW.PrintLast Go.Proofs.Ytdmcfbjhobbdpaa.Com

/-! toIntS -/
theorem toIntS_l (l : List Int) (hl : l.length ≤ 9223372036854775807) : ∀ (d i : Nat) (acc : List Int), i + d = l.length → acc.length = l.length → acc.take i = l.take i → Ev (fun k => laws_toIntS.l0 k l acc i) l := by
  intro d
  induction d with
  | zero =>
    intro i acc hi ha ht
    refine Ev.step (f := fun _ => some acc) (fun k => ?_) ?_
    · simp only [laws_toIntS.l0]; rw [if_neg (by omega)]
    · have e : acc = l := by
        have h1 := List.take_of_length_le (l := acc) (i := i) (by omega)
        have h2 := List.take_of_length_le (l := l) (i := i) (by omega)
        rw [← h1, ← h2, ht]
      rw [e]; exact Ev.now _
  | succ d ih =>
    intro i acc hi ha ht
    have hlt : i < l.length := by omega
    refine Ev.step (f := fun k => laws_toIntS.l0 k l (acc.set i l[i]) ((i + 1 : Nat) : Int)) (fun k => ?_) (ih (i + 1) (acc.set i l[i]) (by omega) (by simpa using ha) ?_)
    · simp only [laws_toIntS.l0]
      rw [if_pos (by omega), if_pos (by omega), if_pos (by omega), w64s hlt hl, rd_lt hlt, Int.toNat_natCast]
    · rw [List.take_succ_eq_append_getElem (by simp; omega), List.take_succ_eq_append_getElem hlt, List.take_set_of_le (Nat.le_refl i), ht]
      simp
theorem toIntS_ev (l : List Int) (hl : l.length ≤ 35184372088832) : Ev (fun k => laws_toIntS.f k l) l := by
  refine Ev.congr (f := fun k => laws_toIntS.l0 k l (List.replicate l.length 0) ((0 : Nat) : Int)) (fun k => ?_) (toIntS_l l (by omega) l.length 0 _ (by omega) (by simp) (by simp))
  unfold laws_toIntS.f
  rw [if_pos (by omega), if_pos (by omega), Int.toNat_natCast]; rfl

/-! eqIntS -/
theorem eqIntS_l (a b : List Int) (hn : a.length = b.length) (hl : a.length ≤ 9223372036854775807) : ∀ (d i : Nat), i + d = a.length → Ev (fun k => laws_eqIntS.l0 k a b i) (decide (a.drop i = b.drop i)) := by
  intro d
  induction d with
  | zero =>
    intro i hi
    refine Ev.step (f := fun _ => some true) (fun k => ?_) ?_
    · simp only [laws_eqIntS.l0]; rw [if_neg (by omega)]
    · rw [List.drop_of_length_le (by omega), List.drop_of_length_le (by omega)]; exact Ev.now _
  | succ d ih =>
    intro i hi
    have h1 : i < a.length := by omega
    have h2 : i < b.length := by omega
    have e1 : a.drop i = a[i] :: a.drop (i + 1) := List.drop_eq_getElem_cons h1
    have e2 : b.drop i = b[i] :: b.drop (i + 1) := List.drop_eq_getElem_cons h2
    by_cases he : a[i] = b[i]
    · refine Ev.step (f := fun k => laws_eqIntS.l0 k a b ((i + 1 : Nat) : Int)) (fun k => ?_) ?_
      · simp only [laws_eqIntS.l0]
        rw [if_pos (by omega), if_pos (by omega), if_pos (by omega), rd_lt h1, rd_lt h2, if_pos he, w64s h1 hl]
      · have hd : decide (a.drop i = b.drop i) = decide (a.drop (i + 1) = b.drop (i + 1)) := by
          rw [decide_eq_decide, e1, e2, he]; simp only [List.cons.injEq, true_and]
        rw [hd]; exact ih (i + 1) (by omega)
    · refine Ev.step (f := fun _ => some false) (fun k => ?_) ?_
      · simp only [laws_eqIntS.l0]
        rw [if_pos (by omega), if_pos (by omega), if_pos (by omega), rd_lt h1, rd_lt h2, if_neg he]
      · have hd : decide (a.drop i = b.drop i) = false := by
          refine decide_eq_false fun e => he ?_
          rw [e1, e2] at e
          exact (List.cons.inj e).1
        rw [hd]; exact Ev.now _
theorem eqIntS_ev (a b : List Int) (hl : a.length ≤ 9223372036854775807) : Ev (fun k => laws_eqIntS.f k a b) (decide (a = b)) := by
  by_cases hn : a.length = b.length
  · refine Ev.congr (f := fun k => laws_eqIntS.l0 k a b ((0 : Nat) : Int)) (fun k => ?_) (eqIntS_l a b hn hl a.length 0 (by omega))
    unfold laws_eqIntS.f; rw [if_pos (by omega)]; rfl
  · refine Ev.congr (f := fun _ => some false) (fun k => ?_) ?_
    · unfold laws_eqIntS.f; rw [if_neg (by omega)]
    · rw [decide_eq_false (fun e => hn (by rw [e]))]; exact Ev.now _
theorem eqIntS_same (a : List Int) (hl : a.length ≤ 9223372036854775807) : Ev (fun k => laws_eqIntS.f k a a) true := by simpa using eqIntS_ev a a hl

/-! evp -/
/-- From some number of rounds on. -/
def Evp (P : Nat → Prop) : Prop := ∃ K, ∀ k, K ≤ k → P k
theorem Evp.and {P Q : Nat → Prop} (h : Evp P) (g : Evp Q) : Evp (fun k => P k ∧ Q k) := by
  obtain ⟨K, hK⟩ := h
  obtain ⟨M, hM⟩ := g
  exact ⟨max K M, fun k hk => ⟨hK k (by omega), hM k (by omega)⟩⟩
theorem evp {α : Type} {g : Nat → Option α} {r : α} (h : Ev g r) : Evp (fun k => g k = some r) := h
theorem Evp.some {P : Nat → Prop} (h : Evp P) : ∃ k, P k := by obtain ⟨K, hK⟩ := h; exact ⟨K, hK K (Nat.le_refl _)⟩

/-! within -/
theorem within_eq (a b c : Int) : impl_within.f a b c = some (decide (b ≤ a ∧ a ≤ c)) := by
  unfold impl_within.f
  split <;> simp <;> omega

/-! l1In -/
theorem l1In_eq (a b c : Int) : spec_l1In.f a b c = some (decide (b ≤ a ∧ a ≤ c)) := by
  unfold spec_l1In.f
  split <;> simp <;> omega

/-! perm -/
/-- What both look for from index i on: numbers in range that have not been seen, each once. -/
def PermFrom (l : List Int) (i : Nat) (seen : List Bool) : Prop := (∀ x ∈ l.drop i, (0 ≤ x ∧ x < l.length) ∧ seen.getD x.toNat false = false) ∧ (l.drop i).Nodup
theorem perm_same (l : List Int) (hl : l.length ≤ 9223372036854775807) : ∀ (d i : Nat) (seen : List Bool), i + d = l.length → seen.length = l.length → Ev (fun k => spec_l6Perm.l0 k l seen i) (decide (PermFrom l i seen)) ∧ Ev (fun k => impl_isPermutation.l0 k l seen l l.length i) (decide (PermFrom l i seen)) := by
  intro d
  induction d with
  | zero =>
    intro i seen hi hs
    have ht : decide (PermFrom l i seen) = true := decide_eq_true ⟨by rw [List.drop_of_length_le (by omega)]; simp, by rw [List.drop_of_length_le (by omega)]; exact List.nodup_nil⟩
    rw [ht]
    refine ⟨Ev.step (f := fun _ => some true) (fun k => ?_) (Ev.now _), Ev.step (f := fun _ => some true) (fun k => ?_) (Ev.now _)⟩
    · simp only [spec_l6Perm.l0]; rw [if_neg (by omega)]
    · simp only [impl_isPermutation.l0]; rw [if_neg (by omega)]
  | succ d ih =>
    intro i seen hi hs
    have hlt : i < l.length := by omega
    have e1 := rd_lt hlt
    have ed : l.drop i = l[i] :: l.drop (i + 1) := List.drop_eq_getElem_cons hlt
    by_cases hr : 0 ≤ l[i] ∧ l[i] ≤ (l.length : Int) - 1
    · by_cases hb : rdOf false seen l[i] = true
      · have ht : decide (PermFrom l i seen) = false := by
          refine decide_eq_false fun hp => ?_
          have := (hp.1 l[i] (by rw [ed]; exact List.mem_cons_self)).2
          rw [show rdOf false seen l[i] = seen.getD (l[i]).toNat false from rfl, this] at hb
          exact absurd hb (by decide)
        rw [ht]
        refine ⟨Ev.step (f := fun _ => some false) (fun k => ?_) (Ev.now _), Ev.step (f := fun _ => some false) (fun k => ?_) (Ev.now _)⟩
        · simp only [spec_l6Perm.l0, l1In_eq, e1, Option.bind_some]
          rw [if_pos (by omega), if_pos (by omega), w64 (by omega) (by omega), if_pos (by simpa using hr), if_pos (by omega), if_pos (by omega), if_pos hb]
        · simp only [impl_isPermutation.l0, within_eq, e1, Option.bind_some]
          rw [if_pos (by omega), if_pos (by omega), if_pos (by omega), w64 (by omega) (by omega), if_pos (by simpa using hr), if_pos (by omega), if_pos (by omega), if_pos hb]
      · obtain ⟨h1, h2⟩ := ih (i + 1) (seen.set (l[i]).toNat true) (by omega) (by simpa using hs)
        have hb' : seen.getD (l[i]).toNat false = false := by simpa [rdOf] using hb
        have hq : PermFrom l i seen ↔ PermFrom l (i + 1) (seen.set (l[i]).toNat true) := by
          unfold PermFrom
          rw [ed]
          have hset : ∀ x : Int, 0 ≤ x → x < l.length → ((seen.set (l[i]).toNat true).getD x.toNat false = false ↔ x ≠ l[i] ∧ seen.getD x.toNat false = false) := by
            intro x h0 hx
            rw [List.getD_eq_getElem?_getD, List.getD_eq_getElem?_getD, List.getElem?_set]
            by_cases hxe : x = l[i]
            · subst hxe
              rw [if_pos rfl, if_pos (by omega)]
              simp
            · rw [if_neg (by omega)]
              simp [hxe]
          constructor
          · rintro ⟨hp, hn⟩
            obtain ⟨hn1, hn2⟩ := List.nodup_cons.1 hn
            refine ⟨fun x hx => ?_, hn2⟩
            obtain ⟨p1, p2⟩ := hp x (List.mem_cons_of_mem _ hx)
            exact ⟨p1, (hset x p1.1 p1.2).2 ⟨fun e => hn1 (e ▸ hx), p2⟩⟩
          · rintro ⟨hp, hn⟩
            refine ⟨fun x hx => ?_, List.nodup_cons.2 ⟨fun hm => ?_, hn⟩⟩
            · rcases List.mem_cons.1 hx with rfl | hx
              · exact ⟨⟨hr.1, by omega⟩, hb'⟩
              · obtain ⟨p1, p2⟩ := hp x hx
                exact ⟨p1, ((hset x p1.1 p1.2).1 p2).2⟩
            · obtain ⟨p1, p2⟩ := hp _ hm
              exact ((hset _ p1.1 p1.2).1 p2).1 rfl
        rw [decide_eq_decide.2 hq]
        refine ⟨Ev.step (fun k => ?_) h1, Ev.step (fun k => ?_) h2⟩
        · simp only [spec_l6Perm.l0, l1In_eq, e1, Option.bind_some]
          rw [if_pos (by omega), if_pos (by omega), w64 (by omega) (by omega), if_pos (by simpa using hr), if_pos (by omega), if_pos (by omega), if_neg hb, w64s hlt hl]
        · simp only [impl_isPermutation.l0, within_eq, e1, Option.bind_some]
          rw [if_pos (by omega), if_pos (by omega), if_pos (by omega), w64 (by omega) (by omega), if_pos (by simpa using hr), if_pos (by omega), if_pos (by omega), if_neg hb, w64s hlt hl]
    · have ht : decide (PermFrom l i seen) = false := by
        refine decide_eq_false fun hp => hr ?_
        have := (hp.1 l[i] (by rw [ed]; exact List.mem_cons_self)).1
        omega
      rw [ht]
      refine ⟨Ev.step (f := fun _ => some false) (fun k => ?_) (Ev.now _), Ev.step (f := fun _ => some false) (fun k => ?_) (Ev.now _)⟩
      · simp only [spec_l6Perm.l0, l1In_eq, e1, Option.bind_some]
        rw [if_pos (by omega), if_pos (by omega), w64 (by omega) (by omega), if_neg (by simpa using hr)]
      · simp only [impl_isPermutation.l0, within_eq, e1, Option.bind_some]
        rw [if_pos (by omega), if_pos (by omega), if_pos (by omega), w64 (by omega) (by omega), if_neg (by simpa using hr)]
/-- A permutation of the numbers from 0 on. -/
def PermP (l : List Int) : Prop := (∀ x ∈ l, 0 ≤ x ∧ x < l.length) ∧ l.Nodup
theorem perm_ev (l : List Int) (hl : l.length ≤ 1048576) : Ev (fun k => spec_l6Perm.f k l) (decide (PermP l)) ∧ Ev (fun k => impl_isPermutation.f k l) (decide (PermP l)) := by
  obtain ⟨h1, h2⟩ := perm_same l (by omega) l.length 0 (List.replicate l.length false) (by omega) (by simp)
  have hq : PermFrom l 0 (List.replicate l.length false) ↔ PermP l := by
    unfold PermFrom PermP
    simp only [List.drop_zero]
    refine ⟨fun h => ⟨fun x hx => (h.1 x hx).1, h.2⟩, fun h => ⟨fun x hx => ⟨h.1 x hx, ?_⟩, h.2⟩⟩
    have := h.1 x hx
    rw [List.getD_eq_getElem?_getD, List.getElem?_replicate, if_pos (by omega)]
    rfl
  rw [decide_eq_decide.2 hq] at h1 h2
  refine ⟨Ev.congr (fun k => ?_) h1, Ev.congr (fun k => ?_) h2⟩
  · unfold spec_l6Perm.f
    rw [if_pos (by omega), if_pos (by omega), Int.toNat_natCast]; rfl
  · unfold impl_isPermutation.f
    rw [if_pos (by omega), if_pos (by omega), Int.toNat_natCast]; rfl

/-! isMap -/
/-- A map. -/
def MapP (l : List Int) : Prop := (2 ≤ l.length ∧ l.length ≤ 24) ∧ l.length % 2 = 0 ∧ PermP l
theorem isMap_ev (l : List Int) (hl : l.length ≤ 1048576) : Ev (fun k => spec_IsMap.f k l) (decide (MapP l)) ∧ Ev (fun k => impl_IsMap.f k l) (decide (MapP l)) := by
  unfold spec_IsMap.f impl_IsMap.f
  simp only [within_eq, l1In_eq, Option.bind_some]
  by_cases h1 : (2 : Int) ≤ l.length ∧ (l.length : Int) ≤ 24
  · rw [decide_eq_true h1]
    simp only [if_true]
    by_cases h2 : ((l.length : Int) % 2) = 0
    · simp only [h2, if_true]
      obtain ⟨e1, e2⟩ := perm_ev l hl
      have hq : PermP l ↔ MapP l := ⟨fun h => ⟨⟨by omega, by omega⟩, by omega, h⟩, fun h => h.2.2⟩
      rw [decide_eq_decide.2 hq] at e1 e2
      exact ⟨Ev.bind e1 (Ev.now _), Ev.bind e2 (Ev.now _)⟩
    · simp only [h2, if_false]
      rw [decide_eq_false (fun h : MapP l => h2 (by have := h.2.1; omega))]
      exact ⟨Ev.now _, Ev.now _⟩
  · rw [decide_eq_false h1, decide_eq_false (fun h : MapP l => h1 ⟨by have := h.1.1; omega, by have := h.1.2; omega⟩)]
    exact ⟨Ev.now _, Ev.now _⟩

/-! mapOk -/
theorem MapP.ok {l : List Int} (h : MapP l) : Joi.MapOk l := by
  refine ⟨h.1.2, h.2.1, fun d hd => ?_⟩
  have := h.2.2.1 l[d] (List.getElem_mem hd)
  exact ⟨l[d].toNat, by omega, by rw [rd_lt hd]; omega⟩

/-! mapParts -/
theorem mapParts_ev (l : List Int) (hl : l.length ≤ 1048576) : ∃ z : Int, Ev (fun k => spec_MapParts.f k l) z ∧ Ev (fun k => impl_MapParts.f k l) z := by
  obtain ⟨e1, e2⟩ := isMap_ev l hl
  refine ⟨if MapP l then ((Joi.partsN l : Nat) : Int) else -1, ?_, ?_⟩
  · unfold spec_MapParts.f
    refine Ev.bind e1 ?_
    by_cases h : MapP l
    · rw [decide_eq_true h, if_pos h]; simp only [if_true]; rw [if_pos h.ok]; exact Ev.now _
    · rw [decide_eq_false h, if_neg h]; exact Ev.now _
  · unfold impl_MapParts.f
    refine Ev.bind e2 ?_
    by_cases h : MapP l
    · rw [decide_eq_true h, if_pos h]; simp only [if_true]; rw [if_pos h.ok]; exact Ev.now _
    · rw [decide_eq_false h, if_neg h]; exact Ev.now _

/-! law.FnExactMapParts -/
theorem FnExactMapParts (l : List Int) (_h1 : l.length ≤ maxLen) (_h2 : ∀ n ∈ l, (Lit.int .i64 n).wf = true) : ∃ k, laws_FnExactMapParts.f k l = some true := by
  by_cases hb : (l.length : Int) > 1048576
  · exact ⟨0, by unfold laws_FnExactMapParts.f; rw [if_pos (.inl hb)]⟩
  obtain ⟨r, e1, e2⟩ := mapParts_ev l (by omega)
  obtain ⟨k, q1, q2, q3, q4⟩ := ((evp (toIntS_ev l (by omega))).and ((evp e1).and ((evp e2).and (evp (eqIntS_same l (by omega)))))).some
  exact ⟨k, by unfold laws_FnExactMapParts.f; rw [if_pos (.inr ⟨r, q1, q2, q3, q4⟩)]⟩

end Go.Proofs.Ytdmcfbjhobbdpaa.Pure
