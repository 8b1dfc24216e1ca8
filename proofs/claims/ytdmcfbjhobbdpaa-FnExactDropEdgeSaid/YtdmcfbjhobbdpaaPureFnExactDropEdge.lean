/- DropEdge of the program and DropEdge of the reference answer the same for all arguments; the arguments are left as they were and share nothing with the results. Conditions: those that the printed statement itself names (lengths and numbers that fit). -/
import Derived.Test.YtdmcfbjhobbdpaaWalkFnExactDropEdge
import Derived.Test.YtdmcfbjhobbdpaaCom
namespace Go.Proofs.Ytdmcfbjhobbdpaa.Pure
open Classical Go.RowKit Go.Proofs.Ytdmcfbjhobbdpaa.QFnExactDropEdge Go.Proofs.YtdmcfbjhobbdpaaW.PrintWords Go.Proofs.YtdmcfbjhobbdpaaW.PrintLast Go.Proofs.Ytdmcfbjhobbdpaa.Com

/-! toIntS -/
theorem toIntS_l (l : List Int) (hl : l.length ≤ 9223372036854775807) : ∀ (d i : Nat) (acc : List Int), i + d = l.length → acc.length = l.length → acc.take i = l.take i → Ev (fun k => laws_toIntS.l0 k l acc i) l := by
  intro d
  induction d with
  | zero =>
    intro i acc hi ha ht
    refine Ev.step (f := fun _ => some acc) (fun k => ?_) ?_
    · simp only [laws_toIntS.l0]; rw [if_neg (by omega)]
    · have e : acc = l := by
        have h1 := List.take_of_length_le (l := acc) (i := i) (by omega)
        have h2 := List.take_of_length_le (l := l) (i := i) (by omega)
        rw [← h1, ← h2, ht]
      rw [e]; exact Ev.now _
  | succ d ih =>
    intro i acc hi ha ht
    have hlt : i < l.length := by omega
    refine Ev.step (f := fun k => laws_toIntS.l0 k l (acc.set i l[i]) ((i + 1 : Nat) : Int)) (fun k => ?_) (ih (i + 1) (acc.set i l[i]) (by omega) (by simpa using ha) ?_)
    · simp only [laws_toIntS.l0]
      rw [if_pos (by omega), if_pos (by omega), if_pos (by omega), w64s hlt hl, rd_lt hlt, Int.toNat_natCast]
    · rw [List.take_succ_eq_append_getElem (by simp; omega), List.take_succ_eq_append_getElem hlt, List.take_set_of_le (Nat.le_refl i), ht]
      simp
theorem toIntS_ev (l : List Int) (hl : l.length ≤ 35184372088832) : Ev (fun k => laws_toIntS.f k l) l := by
  refine Ev.congr (f := fun k => laws_toIntS.l0 k l (List.replicate l.length 0) ((0 : Nat) : Int)) (fun k => ?_) (toIntS_l l (by omega) l.length 0 _ (by omega) (by simp) (by simp))
  unfold laws_toIntS.f
  rw [if_pos (by omega), if_pos (by omega), Int.toNat_natCast]; rfl

/-! eqIntS -/
theorem eqIntS_l (a b : List Int) (hn : a.length = b.length) (hl : a.length ≤ 9223372036854775807) : ∀ (d i : Nat), i + d = a.length → Ev (fun k => laws_eqIntS.l0 k a b i) (decide (a.drop i = b.drop i)) := by
  intro d
  induction d with
  | zero =>
    intro i hi
    refine Ev.step (f := fun _ => some true) (fun k => ?_) ?_
    · simp only [laws_eqIntS.l0]; rw [if_neg (by omega)]
    · rw [List.drop_of_length_le (by omega), List.drop_of_length_le (by omega)]; exact Ev.now _
  | succ d ih =>
    intro i hi
    have h1 : i < a.length := by omega
    have h2 : i < b.length := by omega
    have e1 : a.drop i = a[i] :: a.drop (i + 1) := List.drop_eq_getElem_cons h1
    have e2 : b.drop i = b[i] :: b.drop (i + 1) := List.drop_eq_getElem_cons h2
    by_cases he : a[i] = b[i]
    · refine Ev.step (f := fun k => laws_eqIntS.l0 k a b ((i + 1 : Nat) : Int)) (fun k => ?_) ?_
      · simp only [laws_eqIntS.l0]
        rw [if_pos (by omega), if_pos (by omega), if_pos (by omega), rd_lt h1, rd_lt h2, if_pos he, w64s h1 hl]
      · have hd : decide (a.drop i = b.drop i) = decide (a.drop (i + 1) = b.drop (i + 1)) := by
          rw [decide_eq_decide, e1, e2, he]; simp only [List.cons.injEq, true_and]
        rw [hd]; exact ih (i + 1) (by omega)
    · refine Ev.step (f := fun _ => some false) (fun k => ?_) ?_
      · simp only [laws_eqIntS.l0]
        rw [if_pos (by omega), if_pos (by omega), if_pos (by omega), rd_lt h1, rd_lt h2, if_neg he]
      · have hd : decide (a.drop i = b.drop i) = false := by
          refine decide_eq_false fun e => he ?_
          rw [e1, e2] at e
          exact (List.cons.inj e).1
        rw [hd]; exact Ev.now _
theorem eqIntS_ev (a b : List Int) (hl : a.length ≤ 9223372036854775807) : Ev (fun k => laws_eqIntS.f k a b) (decide (a = b)) := by
  by_cases hn : a.length = b.length
  · refine Ev.congr (f := fun k => laws_eqIntS.l0 k a b ((0 : Nat) : Int)) (fun k => ?_) (eqIntS_l a b hn hl a.length 0 (by omega))
    unfold laws_eqIntS.f; rw [if_pos (by omega)]; rfl
  · refine Ev.congr (f := fun _ => some false) (fun k => ?_) ?_
    · unfold laws_eqIntS.f; rw [if_neg (by omega)]
    · rw [decide_eq_false (fun e => hn (by rw [e]))]; exact Ev.now _
theorem eqIntS_same (a : List Int) (hl : a.length ≤ 9223372036854775807) : Ev (fun k => laws_eqIntS.f k a a) true := by simpa using eqIntS_ev a a hl

/-! markIntS -/
theorem markIntS_l (n : Nat) (m : Int) (hm : 0 ≤ m) (hb : m + n ≤ 9223372036854775807) : ∀ (d i : Nat) (acc : List Int), i + d = n → acc.length = n → acc.take i = (from_ m n).take i → Ev (fun k => laws_markIntS.l0 k acc (m + i) i) (m + n, from_ m n) := by
  intro d
  induction d with
  | zero =>
    intro i acc hi ha ht
    refine Ev.step (f := fun _ => some (m + i, acc)) (fun k => ?_) ?_
    · simp only [laws_markIntS.l0]; rw [if_neg (by omega)]
    · have e : acc = from_ m n := by
        have h1 := List.take_of_length_le (l := acc) (i := i) (by omega)
        have h2 := List.take_of_length_le (l := from_ m n) (i := i) (by rw [from_length]; omega)
        rw [← h1, ← h2, ht]
      rw [e, show i = n by omega]; exact Ev.now _
  | succ d ih =>
    intro i acc hi ha ht
    have hlt : i < n := by omega
    have := ih (i + 1) (acc.set i (m + i)) (by omega) (by simpa using ha) (by
      rw [List.take_succ_eq_append_getElem (by simp; omega), List.take_succ_eq_append_getElem (by rw [from_length]; exact hlt), List.take_set_of_le (Nat.le_refl i), ht, from_get m n i hlt]
      simp)
    refine Ev.step (f := fun k => laws_markIntS.l0 k (acc.set i (m + i)) (m + ((i + 1 : Nat) : Int)) ((i + 1 : Nat) : Int)) (fun k => ?_) this
    simp only [laws_markIntS.l0]
    rw [if_pos (by omega), if_pos (by omega), w64 (by omega) (by omega), w64 (by omega) (by omega), Int.toNat_natCast, show m + (i : Int) + 1 = m + ((i + 1 : Nat) : Int) by omega, show (i : Int) + 1 = ((i + 1 : Nat) : Int) by omega]
theorem markIntS_ev (l : List Int) (m : Int) (hm : 0 ≤ m) (hb : m + l.length ≤ 9223372036854775807) : Ev (fun k => laws_markIntS.f k l m) (m + l.length, from_ m l.length) := by
  have := markIntS_l l.length m hm hb l.length 0 l (by omega) rfl (by simp)
  simpa [laws_markIntS.f] using this

/-! heldIntS -/
theorem heldIntS_l (n : Nat) (m : Int) (hm : 0 ≤ m) (hb : m + n ≤ 9223372036854775807) : ∀ (d i : Nat), i + d = n → Ev (fun k => laws_heldIntS.l0 k (from_ m n) (m + i) i) (m + n) := by
  intro d
  induction d with
  | zero =>
    intro i hi
    refine Ev.step (f := fun _ => some (m + i)) (fun k => ?_) ?_
    · simp only [laws_heldIntS.l0]; rw [if_neg (by rw [from_length]; omega)]
    · rw [show i = n by omega]; exact Ev.now _
  | succ d ih =>
    intro i hi
    have hlt : i < n := by omega
    refine Ev.step (f := fun k => laws_heldIntS.l0 k (from_ m n) (m + ((i + 1 : Nat) : Int)) ((i + 1 : Nat) : Int)) (fun k => ?_) (ih (i + 1) (by omega))
    simp only [laws_heldIntS.l0]
    rw [if_pos (by rw [from_length]; omega), if_pos (by omega), rd_lt (by rw [from_length]; omega), from_get m n i hlt, if_pos rfl, w64 (by omega) (by omega), w64 (by omega) (by omega), show m + (i : Int) + 1 = m + ((i + 1 : Nat) : Int) by omega, show (i : Int) + 1 = ((i + 1 : Nat) : Int) by omega]
theorem heldIntS_ev (n : Nat) (m : Int) (hm : 0 ≤ m) (hb : m + n ≤ 9223372036854775807) : Ev (fun k => laws_heldIntS.f k (from_ m n) m) (m + n) := by
  have := heldIntS_l n m hm hb n 0 (by omega)
  simpa [laws_heldIntS.f] using this

/-! evp -/
/-- From some number of rounds on. -/
def Evp (P : Nat → Prop) : Prop := ∃ K, ∀ k, K ≤ k → P k
theorem Evp.and {P Q : Nat → Prop} (h : Evp P) (g : Evp Q) : Evp (fun k => P k ∧ Q k) := by
  obtain ⟨K, hK⟩ := h
  obtain ⟨M, hM⟩ := g
  exact ⟨max K M, fun k hk => ⟨hK k (by omega), hM k (by omega)⟩⟩
theorem evp {α : Type} {g : Nat → Option α} {r : α} (h : Ev g r) : Evp (fun k => g k = some r) := h
theorem Evp.some {P : Nat → Prop} (h : Evp P) : ∃ k, P k := by obtain ⟨K, hK⟩ := h; exact ⟨K, hK K (Nat.le_refl _)⟩

/-! within -/
theorem within_eq (a b c : Int) : impl_within.f a b c = some (decide (b ≤ a ∧ a ≤ c)) := by
  unfold impl_within.f
  split <;> simp <;> omega

/-! l1In -/
theorem l1In_eq (a b c : Int) : spec_l1In.f a b c = some (decide (b ≤ a ∧ a ≤ c)) := by
  unfold spec_l1In.f
  split <;> simp <;> omega

/-! perm -/
/-- What both look for from index i on: numbers in range that have not been seen, each once. -/
def PermFrom (l : List Int) (i : Nat) (seen : List Bool) : Prop := (∀ x ∈ l.drop i, (0 ≤ x ∧ x < l.length) ∧ seen.getD x.toNat false = false) ∧ (l.drop i).Nodup
theorem perm_same (l : List Int) (hl : l.length ≤ 9223372036854775807) : ∀ (d i : Nat) (seen : List Bool), i + d = l.length → seen.length = l.length → Ev (fun k => spec_l6Perm.l0 k l seen i) (decide (PermFrom l i seen)) ∧ Ev (fun k => impl_isPermutation.l0 k l seen l l.length i) (decide (PermFrom l i seen)) := by
  intro d
  induction d with
  | zero =>
    intro i seen hi hs
    have ht : decide (PermFrom l i seen) = true := decide_eq_true ⟨by rw [List.drop_of_length_le (by omega)]; simp, by rw [List.drop_of_length_le (by omega)]; exact List.nodup_nil⟩
    rw [ht]
    refine ⟨Ev.step (f := fun _ => some true) (fun k => ?_) (Ev.now _), Ev.step (f := fun _ => some true) (fun k => ?_) (Ev.now _)⟩
    · simp only [spec_l6Perm.l0]; rw [if_neg (by omega)]
    · simp only [impl_isPermutation.l0]; rw [if_neg (by omega)]
  | succ d ih =>
    intro i seen hi hs
    have hlt : i < l.length := by omega
    have e1 := rd_lt hlt
    have ed : l.drop i = l[i] :: l.drop (i + 1) := List.drop_eq_getElem_cons hlt
    by_cases hr : 0 ≤ l[i] ∧ l[i] ≤ (l.length : Int) - 1
    · by_cases hb : rdOf false seen l[i] = true
      · have ht : decide (PermFrom l i seen) = false := by
          refine decide_eq_false fun hp => ?_
          have := (hp.1 l[i] (by rw [ed]; exact List.mem_cons_self)).2
          rw [show rdOf false seen l[i] = seen.getD (l[i]).toNat false from rfl, this] at hb
          exact absurd hb (by decide)
        rw [ht]
        refine ⟨Ev.step (f := fun _ => some false) (fun k => ?_) (Ev.now _), Ev.step (f := fun _ => some false) (fun k => ?_) (Ev.now _)⟩
        · simp only [spec_l6Perm.l0, l1In_eq, e1, Option.bind_some]
          rw [if_pos (by omega), if_pos (by omega), w64 (by omega) (by omega), if_pos (by simpa using hr), if_pos (by omega), if_pos (by omega), if_pos hb]
        · simp only [impl_isPermutation.l0, within_eq, e1, Option.bind_some]
          rw [if_pos (by omega), if_pos (by omega), if_pos (by omega), w64 (by omega) (by omega), if_pos (by simpa using hr), if_pos (by omega), if_pos (by omega), if_pos hb]
      · obtain ⟨h1, h2⟩ := ih (i + 1) (seen.set (l[i]).toNat true) (by omega) (by simpa using hs)
        have hb' : seen.getD (l[i]).toNat false = false := by simpa [rdOf] using hb
        have hq : PermFrom l i seen ↔ PermFrom l (i + 1) (seen.set (l[i]).toNat true) := by
          unfold PermFrom
          rw [ed]
          have hset : ∀ x : Int, 0 ≤ x → x < l.length → ((seen.set (l[i]).toNat true).getD x.toNat false = false ↔ x ≠ l[i] ∧ seen.getD x.toNat false = false) := by
            intro x h0 hx
            rw [List.getD_eq_getElem?_getD, List.getD_eq_getElem?_getD, List.getElem?_set]
            by_cases hxe : x = l[i]
            · subst hxe
              rw [if_pos rfl, if_pos (by omega)]
              simp
            · rw [if_neg (by omega)]
              simp [hxe]
          constructor
          · rintro ⟨hp, hn⟩
            obtain ⟨hn1, hn2⟩ := List.nodup_cons.1 hn
            refine ⟨fun x hx => ?_, hn2⟩
            obtain ⟨p1, p2⟩ := hp x (List.mem_cons_of_mem _ hx)
            exact ⟨p1, (hset x p1.1 p1.2).2 ⟨fun e => hn1 (e ▸ hx), p2⟩⟩
          · rintro ⟨hp, hn⟩
            refine ⟨fun x hx => ?_, List.nodup_cons.2 ⟨fun hm => ?_, hn⟩⟩
            · rcases List.mem_cons.1 hx with rfl | hx
              · exact ⟨⟨hr.1, by omega⟩, hb'⟩
              · obtain ⟨p1, p2⟩ := hp x hx
                exact ⟨p1, ((hset x p1.1 p1.2).1 p2).2⟩
            · obtain ⟨p1, p2⟩ := hp _ hm
              exact ((hset _ p1.1 p1.2).1 p2).1 rfl
        rw [decide_eq_decide.2 hq]
        refine ⟨Ev.step (fun k => ?_) h1, Ev.step (fun k => ?_) h2⟩
        · simp only [spec_l6Perm.l0, l1In_eq, e1, Option.bind_some]
          rw [if_pos (by omega), if_pos (by omega), w64 (by omega) (by omega), if_pos (by simpa using hr), if_pos (by omega), if_pos (by omega), if_neg hb, w64s hlt hl]
        · simp only [impl_isPermutation.l0, within_eq, e1, Option.bind_some]
          rw [if_pos (by omega), if_pos (by omega), if_pos (by omega), w64 (by omega) (by omega), if_pos (by simpa using hr), if_pos (by omega), if_pos (by omega), if_neg hb, w64s hlt hl]
    · have ht : decide (PermFrom l i seen) = false := by
        refine decide_eq_false fun hp => hr ?_
        have := (hp.1 l[i] (by rw [ed]; exact List.mem_cons_self)).1
        omega
      rw [ht]
      refine ⟨Ev.step (f := fun _ => some false) (fun k => ?_) (Ev.now _), Ev.step (f := fun _ => some false) (fun k => ?_) (Ev.now _)⟩
      · simp only [spec_l6Perm.l0, l1In_eq, e1, Option.bind_some]
        rw [if_pos (by omega), if_pos (by omega), w64 (by omega) (by omega), if_neg (by simpa using hr)]
      · simp only [impl_isPermutation.l0, within_eq, e1, Option.bind_some]
        rw [if_pos (by omega), if_pos (by omega), if_pos (by omega), w64 (by omega) (by omega), if_neg (by simpa using hr)]
/-- A permutation of the numbers from 0 on. -/
def PermP (l : List Int) : Prop := (∀ x ∈ l, 0 ≤ x ∧ x < l.length) ∧ l.Nodup
theorem perm_ev (l : List Int) (hl : l.length ≤ 1048576) : Ev (fun k => spec_l6Perm.f k l) (decide (PermP l)) ∧ Ev (fun k => impl_isPermutation.f k l) (decide (PermP l)) := by
  obtain ⟨h1, h2⟩ := perm_same l (by omega) l.length 0 (List.replicate l.length false) (by omega) (by simp)
  have hq : PermFrom l 0 (List.replicate l.length false) ↔ PermP l := by
    unfold PermFrom PermP
    simp only [List.drop_zero]
    refine ⟨fun h => ⟨fun x hx => (h.1 x hx).1, h.2⟩, fun h => ⟨fun x hx => ⟨h.1 x hx, ?_⟩, h.2⟩⟩
    have := h.1 x hx
    rw [List.getD_eq_getElem?_getD, List.getElem?_replicate, if_pos (by omega)]
    rfl
  rw [decide_eq_decide.2 hq] at h1 h2
  refine ⟨Ev.congr (fun k => ?_) h1, Ev.congr (fun k => ?_) h2⟩
  · unfold spec_l6Perm.f
    rw [if_pos (by omega), if_pos (by omega), Int.toNat_natCast]; rfl
  · unfold impl_isPermutation.f
    rw [if_pos (by omega), if_pos (by omega), Int.toNat_natCast]; rfl

/-! isMap -/
/-- A map. -/
def MapP (l : List Int) : Prop := (2 ≤ l.length ∧ l.length ≤ 24) ∧ l.length % 2 = 0 ∧ PermP l
theorem isMap_ev (l : List Int) (hl : l.length ≤ 1048576) : Ev (fun k => spec_IsMap.f k l) (decide (MapP l)) ∧ Ev (fun k => impl_IsMap.f k l) (decide (MapP l)) := by
  unfold spec_IsMap.f impl_IsMap.f
  simp only [within_eq, l1In_eq, Option.bind_some]
  by_cases h1 : (2 : Int) ≤ l.length ∧ (l.length : Int) ≤ 24
  · rw [decide_eq_true h1]
    simp only [if_true]
    by_cases h2 : ((l.length : Int) % 2) = 0
    · simp only [h2, if_true]
      obtain ⟨e1, e2⟩ := perm_ev l hl
      have hq : PermP l ↔ MapP l := ⟨fun h => ⟨⟨by omega, by omega⟩, by omega, h⟩, fun h => h.2.2⟩
      rw [decide_eq_decide.2 hq] at e1 e2
      exact ⟨Ev.bind e1 (Ev.now _), Ev.bind e2 (Ev.now _)⟩
    · simp only [h2, if_false]
      rw [decide_eq_false (fun h : MapP l => h2 (by have := h.2.1; omega))]
      exact ⟨Ev.now _, Ev.now _⟩
  · rw [decide_eq_false h1, decide_eq_false (fun h : MapP l => h1 ⟨by have := h.1.1; omega, by have := h.1.2; omega⟩)]
    exact ⟨Ev.now _, Ev.now _⟩

/-! mapOk -/
theorem MapP.ok {l : List Int} (h : MapP l) : Joi.MapOk l := by
  refine ⟨h.1.2, h.2.1, fun d hd => ?_⟩
  have := h.2.2.1 l[d] (List.getElem_mem hd)
  exact ⟨l[d].toNat, by omega, by rw [rd_lt hd]; omega⟩

/-! permOk -/
theorem MapP.perm {l : List Int} (h : MapP l) : Joi.PermOk l := by
  refine ⟨h.ok, fun i j hi hj e => ?_⟩
  rw [rd_lt hi, rd_lt hj] at e
  exact (List.getElem_inj h.2.2.2).1 e

/-! dropEdge -/
theorem half_nat (d : Nat) (h : d ≤ 1048576) : wrap64 (Int.tdiv (d : Int) 2) = ((d / 2 : Nat) : Int) := by
  rw [Int.tdiv_eq_ediv_of_nonneg (by omega), w64 (by omega) (by omega)]; omega
theorem dropS_1 (l : List Int) (h : Joi.PermOk l) (a d : Nat) (acc : List Int) (ha : acc.length ≤ 1048576) (res : List Int × Bool) : ∀ (n i r : Nat), i < l.length → Joi.fol l a n i r → Ev (fun k => spec_DropEdge.l0 k l a (acc ++ [((Joi.nmN a r : Nat) : Int)]) (wrap64 ((d : Int) + 1))) res → Ev (fun k => spec_DropEdge.l1 k l a acc d i) res := by
  have h24 := h.1.1
  intro n
  induction n with
  | zero =>
    intro i r hi hf hE
    obtain ⟨rfl, hg⟩ := hf
    refine Ev.step (fun k => ?_) hE
    simp only [spec_DropEdge.l1, half_nat i (by omega)]
    have hn := Joi.nmN_eq a i
    have hv : wrap64 ((i : Int) - wrap64 (2 * (if decide (((i / 2 : Nat) : Int) > (a : Int)) = true then 1 else 0))) = ((Joi.nmN a i : Nat) : Int) := by
      by_cases c : ((i / 2 : Nat) : Int) > (a : Int)
      · rw [decide_eq_true c, if_pos rfl, w64 (x := 2 * 1) (by omega) (by omega), w64 (by omega) (by omega)]
        have := hn.2.2 (by omega); omega
      · rw [decide_eq_false c, if_neg Bool.false_ne_true, w64 (x := 2 * 0) (by omega) (by omega), w64 (by omega) (by omega)]
        have := hn.1 (by omega); omega
    have hb : ∀ b : Bool, spec_l1Bit.f b = some (if b = true then 1 else 0) := fun b => by cases b <;> rfl
    rw [if_neg (by omega), hb, Option.bind_some, if_pos (by omega), hv]
  | succ n ih =>
    intro i r hi hf hE
    obtain ⟨hg, hf⟩ := hf
    obtain ⟨h1, h2⟩ := Joi.nx_lt h.1 hi
    refine Ev.step (fun k => ?_) (ih (Joi.nx l i) r h1 hf hE)
    simp only [spec_DropEdge.l1, half_nat i (by omega)]
    rw [if_pos (by omega), if_pos (by omega), if_pos (by omega), h2]
theorem dropS_0 (l : List Int) (h : Joi.PermOk l) (a : Nat) : ∀ (e d : Nat), d + e = l.length → Ev (fun k => spec_DropEdge.l0 k l a (Joi.dropTo l a d) d) (Joi.dropTo l a l.length, true) := by
  have h24 := h.1.1
  intro e
  induction e with
  | zero =>
    intro d hd
    obtain rfl : d = l.length := by omega
    refine Ev.step (f := fun _ => some (Joi.dropTo l a l.length, true)) (fun k => ?_) (Ev.now _)
    simp only [spec_DropEdge.l0]; rw [if_neg (by omega)]
  | succ e ih =>
    intro d hd
    have hlt : d < l.length := by omega
    have hl := Joi.dropTo_len l a d
    by_cases hg : d / 2 = a
    · have := ih (d + 1) (by omega)
      rw [Joi.dropTo_neg l hg] at this
      refine Ev.step (fun k => ?_) this
      simp only [spec_DropEdge.l0, half_nat d (by omega)]
      rw [if_pos (by omega), if_pos (by omega), w64s hlt (by omega)]
    · have := ih (d + 1) (by omega)
      rw [Joi.dropTo_pos l hg] at this
      obtain ⟨n, _, hf⟩ := Joi.flN_fol h hlt hg
      obtain ⟨h1, h2⟩ := Joi.nx_lt h.1 hlt
      rw [← w64s hlt (by omega)] at this
      refine Ev.step (fun k => ?_) (dropS_1 l h a d (Joi.dropTo l a d) (by omega) _ n (Joi.nx l d) _ h1 hf this)
      simp only [spec_DropEdge.l0, half_nat d (by omega)]
      rw [if_pos (by omega), if_neg (by omega), if_pos (by omega), h2]
theorem dropEdge_ev (l : List Int) (a : Int) (hl : l.length ≤ 1048576) : ∃ (r : List Int) (o : Bool), r.length ≤ 1048576 ∧ Ev (fun k => spec_DropEdge.f k l a) (r, o) ∧ Ev (fun k => impl_DropEdge.f k l a) (r, o) ∧
    (o = true ↔ MapP l ∧ (0 ≤ a ∧ 2 * a < l.length) ∧ l.length ≠ 2) ∧ (o = true → r = Joi.dropTo l a.toNat l.length) := by
  obtain ⟨e1, e2⟩ := isMap_ev l hl
  have hno : Ev (fun k => spec_DropEdge.j0 k l a true) (([] : List Int), false) := by
    refine Ev.shift ?_; simp only [spec_DropEdge.j0, if_true]; exact Ev.now _
  unfold spec_DropEdge.f impl_DropEdge.f
  by_cases h : MapP l
  case neg =>
    rw [decide_eq_false h] at e1 e2
    refine ⟨[], false, by simp, Ev.bind e1 ?_, Ev.bind e2 (Ev.now _), by simp [h], by simp⟩
    simpa using hno
  rw [decide_eq_true h] at e1 e2
  have h24 := h.1.2
  have hev := h.2.1
  have hq : wrap64 ((l.length : Int) / 2) = (l.length : Int) / 2 := w64 (by omega) (by omega)
  have hw : wrap64 ((l.length : Int) / 2 - 1) = (l.length : Int) / 2 - 1 := w64 (by omega) (by omega)
  by_cases h2 : l.length = 2
  · refine ⟨[], false, by simp, Ev.bind e1 ?_, Ev.bind e2 ?_, by simp [h2], by simp⟩
    · simp only [if_true]; exact Ev.congr (fun k => if_pos (by omega)) hno
    · simp only [if_true]
      by_cases ha : 0 ≤ a ∧ a ≤ (l.length : Int) / 2 - 1
      · rw [if_pos ha, if_pos h2]; exact Ev.now _
      · rw [if_neg ha, if_pos hl]; exact Ev.now _
  by_cases ha : 0 ≤ a ∧ a ≤ (l.length : Int) / 2 - 1
  case neg =>
    refine ⟨[], false, by simp, Ev.bind e1 ?_, Ev.bind e2 ?_, ?_, by simp⟩
    · simp only [if_true]
      exact Ev.congr (fun k => by rw [if_neg (by omega), hq, hw, l1In_eq, Option.bind_some, decide_eq_false ha, Bool.not_false]) hno
    · simp only [if_true]; exact Ev.congr (fun k => by rw [if_neg ha, if_pos hl]) (Ev.now _)
    · simp only [Bool.false_eq_true, false_iff]; rintro ⟨_, hx, _⟩; exact ha ⟨hx.1, by omega⟩
  refine ⟨Joi.dropTo l a.toNat l.length, true, by have := Joi.dropTo_len l a.toNat l.length; omega, Ev.bind e1 ?_, Ev.bind e2 ?_, ?_, fun _ => rfl⟩
  · simp only [if_true]
    refine Ev.congr (f := fun k => spec_DropEdge.j0 k l a false) (fun k => by rw [if_neg (by omega), hq, hw, l1In_eq, Option.bind_some, decide_eq_true ha, Bool.not_true]) ?_
    refine Ev.shift ?_
    simp only [spec_DropEdge.j0, Bool.false_eq_true, if_false]
    have := dropS_0 l h.perm a.toNat l.length 0 (by omega)
    rw [show ((a.toNat : Nat) : Int) = a by omega] at this
    exact this
  · simp only [if_true]
    rw [if_pos ha, if_neg h2, if_pos h.perm]; exact Ev.now _
  · simp only [true_iff]; exact ⟨h, ⟨ha.1, by omega⟩, h2⟩

/-! law.FnExactDropEdge -/
theorem FnExactDropEdge (l : List Int) (_h1 : l.length ≤ maxLen) (_h2 : ∀ n ∈ l, (Lit.int .i64 n).wf = true) (a : Int) (_wa : (Lit.int .i64 a).wf = true) : ∃ k, laws_FnExactDropEdge.f k l a = some true := by
  by_cases hb : (l.length : Int) > 1048576
  · exact ⟨0, by unfold laws_FnExactDropEdge.f; rw [if_pos (.inl hb)]⟩
  obtain ⟨r, o, hr, e1, e2, _, _⟩ := dropEdge_ev l a (by omega)
  obtain ⟨k, q1, q2, q3, q4, q5, q6, q7, q8⟩ := ((evp (toIntS_ev l (by omega))).and ((evp e1).and ((evp e2).and ((evp (eqIntS_same r (by omega))).and ((evp (eqIntS_same l (by omega))).and ((evp (markIntS_ev l 1 (by omega) (by omega))).and ((evp (markIntS_ev r 1 (by omega) (by omega))).and (evp (heldIntS_ev r.length 1 (by omega) (by omega)))))))))).some
  exact ⟨k, by unfold laws_FnExactDropEdge.f; rw [if_pos (.inr ⟨r, o, _, _, _, _, by omega, by omega, q1, q2, q3, q4, q5, q6, q7, q8⟩)]⟩

end Go.Proofs.Ytdmcfbjhobbdpaa.Pure
