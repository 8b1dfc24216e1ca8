/- Duals and mirrors keep genus and edges, and edges can be added and dropped: for every drawn map. Conditions: those that the printed statement itself names (lengths and numbers that fit). -/
import Derived.Test.YtdmcfbjhobbdpaaQFnMapsx8
import Derived.Test.YtdmcfbjhobbdpaaCom
import Derived.Test.YtdmcfbjhobbdpaaMps
import Derived.Test.YtdmcfbjhobbdpaaQLFnMaps
namespace Go.Proofs.Ytdmcfbjhobbdpaa.Pure
open Classical Go.RowKit Go.Proofs.Ytdmcfbjhobbdpaa.QFnMaps Go.Proofs.YtdmcfbjhobbdpaaW.PrintWords Go.Proofs.YtdmcfbjhobbdpaaW.PrintLast Go.Proofs.Ytdmcfbjhobbdpaa.Com
theorem rdL_lt {l : List (List Int)} {i : Nat} (h : i < l.length) : rd_L2 l (i : Int) = l[i] := by
  simp [rd_L2, List.getD_eq_getElem?_getD, h]
def bulk (l : List (List Int)) : Nat := l.length + (l.map List.length).sum
theorem len_le_sum {l : List (List Int)} {x : List Int} (h : x ∈ l) : x.length ≤ (l.map List.length).sum := by
  induction l with
  | nil => simp at h
  | cons y l ih =>
    rw [List.map_cons, List.sum_cons]
    rcases List.mem_cons.1 h with rfl | h
    · omega
    · have := ih h; omega
theorem cyc_same (l : List Int) : ∀ k, (∀ x3 x4 x5, spec_l6Cycles.l0 k l x3 x4 x5 = impl_cycles.l0 k l x3 x4 l.length x5) ∧ (∀ x3 x4 x5 x6 x7, spec_l6Cycles.l1 k l x3 x4 x5 x6 x7 = impl_cycles.l1 k l x3 x4 x6 x7 l.length x5) := by
  intro k
  induction k with
  | zero => exact ⟨fun _ _ _ => rfl, fun _ _ _ _ _ => rfl⟩
  | succ k ih =>
    obtain ⟨h0, h1⟩ := ih
    exact ⟨fun _ _ _ => by simp only [spec_l6Cycles.l0, impl_cycles.l0, h0, h1], fun _ _ _ _ _ => by simp only [spec_l6Cycles.l1, impl_cycles.l1, h0, h1]⟩
theorem bulk_snoc (g : List (List Int)) (x : List Int) : bulk (g ++ [x]) = bulk g + 1 + x.length := by
  unfold bulk
  simp only [List.length_append, List.length_singleton, List.map_append, List.map_cons, List.map_nil, List.sum_append, List.sum_cons, List.sum_nil]
  omega
theorem bulk_len (g : List (List Int)) : g.length ≤ bulk g := by unfold bulk; omega
theorem unseen_set {s : List Bool} {i : Nat} (h : i < s.length) (hf : s[i] = false) : (s.set i true).countP (fun b => !b) + 1 = s.countP (fun b => !b) := by
  induction s generalizing i with
  | nil => simp at h
  | cons b s ih =>
    cases i with
    | zero => simp only [List.getElem_cons_zero] at hf; subst hf; simp
    | succ i =>
      simp only [List.getElem_cons_succ] at hf
      have := ih (by simpa using h) hf
      simp only [List.set_cons_succ, List.countP_cons]
      omega
theorem cyc1_tot (l : List Int) (hn : l.length ≤ 1000) (hp : ∀ x ∈ l, 0 ≤ x ∧ x < l.length) (i : Nat) (hi : i < l.length) (B : Nat) (h0 : ∀ (x3 : List (List Int)) (x4 : List Bool), x4.length = l.length → bulk x3 + x4.countP (fun b => !b) ≤ B → ∃ r, Ev (fun k => spec_l6Cycles.l0 k l x3 x4 ((i + 1 : Nat) : Int)) r ∧ bulk r ≤ B + (l.length - (i + 1))) (hB : B ≤ 1000000) : ∀ (f : Nat) (x3 : List (List Int)) (x4 : List Bool) (x6 : List Int) (x7 : Nat), x4.countP (fun b => !b) = f → x4.length = l.length → x7 < l.length → bulk x3 + 1 + x6.length + f ≤ B → ∃ r, Ev (fun k => spec_l6Cycles.l1 k l x3 x4 i x6 x7) r ∧ bulk r ≤ B + (l.length - (i + 1)) := by
  intro f
  induction f with
  | zero =>
    intro x3 x4 x6 x7 hf h4 h7 hb
    have hl7 : x7 < x4.length := by omega
    have h3 := bulk_len x3
    have ht : x4[x7] = true := by
      have := List.countP_eq_zero.1 hf x4[x7] (List.getElem_mem hl7)
      simpa using this
    obtain ⟨r, hr, hbr⟩ := h0 (x3 ++ [x6]) x4 h4 (by rw [bulk_snoc]; omega)
    refine ⟨r, Ev.step (fun k => ?_) hr, hbr⟩
    simp only [spec_l6Cycles.l1, rdOf_lt hl7]
    rw [if_pos (by omega), if_pos (by omega), if_pos ht, if_pos (by omega), w64s (n := l.length) hi (by omega)]
  | succ f ih =>
    intro x3 x4 x6 x7 hf h4 h7 hb
    have hl7 : x7 < x4.length := by omega
    have h3 := bulk_len x3
    by_cases ht : x4[x7] = true
    · obtain ⟨r, hr, hbr⟩ := h0 (x3 ++ [x6]) x4 h4 (by rw [bulk_snoc]; omega)
      refine ⟨r, Ev.step (fun k => ?_) hr, hbr⟩
      simp only [spec_l6Cycles.l1, rdOf_lt hl7]
      rw [if_pos (by omega), if_pos (by omega), if_pos ht, if_pos (by omega), w64s (n := l.length) hi (by omega)]
    · have hf4 : x4[x7] = false := by simpa using ht
      have hu := unseen_set hl7 hf4
      have hr7 := hp l[x7] (List.getElem_mem h7)
      obtain ⟨r, hr, hbr⟩ := ih x3 (x4.set x7 true) (x6 ++ [(x7 : Int)]) l[x7].toNat (by omega) (by simpa using h4) (by omega) (by simp; omega)
      rw [Int.toNat_of_nonneg hr7.1] at hr
      refine ⟨r, Ev.step (fun k => ?_) hr, hbr⟩
      simp only [spec_l6Cycles.l1, rdOf_lt hl7, rd_lt h7]
      rw [if_pos (by omega), if_pos (by omega), if_neg ht, if_pos (by omega), if_pos (by omega), Int.toNat_natCast]
theorem cyc0_tot (l : List Int) (hn : l.length ≤ 1000) (hp : ∀ x ∈ l, 0 ≤ x ∧ x < l.length) : ∀ (d i : Nat) (x3 : List (List Int)) (x4 : List Bool) (B : Nat), i + d = l.length → x4.length = l.length → bulk x3 + x4.countP (fun b => !b) ≤ B → B + d ≤ 10000 → ∃ r, Ev (fun k => spec_l6Cycles.l0 k l x3 x4 i) r ∧ bulk r ≤ B + d := by
  intro d
  induction d with
  | zero =>
    intro i x3 x4 B hi h4 hb hB
    refine ⟨x3, Ev.step (f := fun _ => some x3) (fun k => ?_) (Ev.now _), by omega⟩
    simp only [spec_l6Cycles.l0]; rw [if_neg (by omega)]
  | succ d ih =>
    intro i x3 x4 B hi h4 hb hB
    have hlt : i < l.length := by omega
    have hl4 : i < x4.length := by omega
    by_cases ht : x4[i] = true
    · obtain ⟨r, hr, hbr⟩ := ih (i + 1) x3 x4 B (by omega) h4 hb (by omega)
      refine ⟨r, Ev.step (fun k => ?_) hr, by omega⟩
      simp only [spec_l6Cycles.l0, rdOf_lt hl4]
      rw [if_pos (by omega), if_pos (by omega), if_pos (by omega), if_pos ht, w64s hlt (by omega)]
    · obtain ⟨r, hr, hbr⟩ := cyc1_tot l hn hp i hlt (B + 1) (fun y3 y4 g4 gb => by
        obtain ⟨r, hr, hbr⟩ := ih (i + 1) y3 y4 (B + 1) (by omega) g4 gb (by omega)
        exact ⟨r, hr, by omega⟩) (by omega) _ x3 x4 [] i rfl h4 hlt (by simp; omega)
      refine ⟨r, Ev.step (fun k => ?_) hr, by omega⟩
      simp only [spec_l6Cycles.l0, rdOf_lt hl4]
      rw [if_pos (by omega), if_pos (by omega), if_pos (by omega), if_neg ht]
theorem cycles_ev (l : List Int) (hn : l.length ≤ 1000) (hp : ∀ x ∈ l, 0 ≤ x ∧ x < l.length) : ∃ r, bulk r ≤ 1048576 ∧ Ev (fun k => spec_l6Cycles.f k l) r ∧ Ev (fun k => impl_cycles.f k l) r := by
  obtain ⟨r, hr, hb⟩ := cyc0_tot l hn hp l.length 0 [] (List.replicate l.length false) l.length (by omega) (by simp) (by have := List.countP_le_length (p := fun b => !b) (l := List.replicate l.length false); simp only [List.length_replicate] at this; unfold bulk; simp only [List.length_nil, List.map_nil, List.sum_nil]; omega) (by omega)
  refine ⟨r, by omega, Ev.congr (fun k => ?_) hr, Ev.congr (fun k => ?_) hr⟩
  · unfold spec_l6Cycles.f
    rw [if_pos (by omega), if_pos (by omega), Int.toNat_natCast]
    rfl
  · unfold impl_cycles.f
    rw [if_pos (by omega), if_pos (by omega), Int.toNat_natCast, (cyc_same l k).1]
    rfl
theorem within_eq (a b c : Int) : impl_within.f a b c = some (decide (b ≤ a ∧ a ≤ c)) := by
  unfold impl_within.f
  split <;> simp <;> omega
theorem l1In_eq (a b c : Int) : spec_l1In.f a b c = some (decide (b ≤ a ∧ a ≤ c)) := by
  unfold spec_l1In.f
  split <;> simp <;> omega
def PermFrom (l : List Int) (i : Nat) (seen : List Bool) : Prop := (∀ x ∈ l.drop i, (0 ≤ x ∧ x < l.length) ∧ seen.getD x.toNat false = false) ∧ (l.drop i).Nodup
theorem perm_same (l : List Int) (hl : l.length ≤ 9223372036854775807) : ∀ (d i : Nat) (seen : List Bool), i + d = l.length → seen.length = l.length → Ev (fun k => spec_l6Perm.l0 k l seen i) (decide (PermFrom l i seen)) ∧ Ev (fun k => impl_isPermutation.l0 k l seen l l.length i) (decide (PermFrom l i seen)) := by
  intro d
  induction d with
  | zero =>
    intro i seen hi hs
    have ht : decide (PermFrom l i seen) = true := decide_eq_true ⟨by rw [List.drop_of_length_le (by omega)]; simp, by rw [List.drop_of_length_le (by omega)]; exact List.nodup_nil⟩
    rw [ht]
    refine ⟨Ev.step (f := fun _ => some true) (fun k => ?_) (Ev.now _), Ev.step (f := fun _ => some true) (fun k => ?_) (Ev.now _)⟩
    · simp only [spec_l6Perm.l0]; rw [if_neg (by omega)]
    · simp only [impl_isPermutation.l0]; rw [if_neg (by omega)]
  | succ d ih =>
    intro i seen hi hs
    have hlt : i < l.length := by omega
    have e1 := rd_lt hlt
    have ed : l.drop i = l[i] :: l.drop (i + 1) := List.drop_eq_getElem_cons hlt
    by_cases hr : 0 ≤ l[i] ∧ l[i] ≤ (l.length : Int) - 1
    · by_cases hb : rdOf false seen l[i] = true
      · have ht : decide (PermFrom l i seen) = false := by
          refine decide_eq_false fun hp => ?_
          have := (hp.1 l[i] (by rw [ed]; exact List.mem_cons_self)).2
          rw [show rdOf false seen l[i] = seen.getD (l[i]).toNat false from rfl, this] at hb
          exact absurd hb (by decide)
        rw [ht]
        refine ⟨Ev.step (f := fun _ => some false) (fun k => ?_) (Ev.now _), Ev.step (f := fun _ => some false) (fun k => ?_) (Ev.now _)⟩
        · simp only [spec_l6Perm.l0, l1In_eq, e1, Option.bind_some]
          rw [if_pos (by omega), if_pos (by omega), w64 (by omega) (by omega), if_pos (by simpa using hr), if_pos (by omega), if_pos (by omega), if_pos hb]
        · simp only [impl_isPermutation.l0, within_eq, e1, Option.bind_some]
          rw [if_pos (by omega), if_pos (by omega), if_pos (by omega), w64 (by omega) (by omega), if_pos (by simpa using hr), if_pos (by omega), if_pos (by omega), if_pos hb]
      · obtain ⟨h1, h2⟩ := ih (i + 1) (seen.set (l[i]).toNat true) (by omega) (by simpa using hs)
        have hb' : seen.getD (l[i]).toNat false = false := by simpa [rdOf] using hb
        have hq : PermFrom l i seen ↔ PermFrom l (i + 1) (seen.set (l[i]).toNat true) := by
          unfold PermFrom
          rw [ed]
          have hset : ∀ x : Int, 0 ≤ x → x < l.length → ((seen.set (l[i]).toNat true).getD x.toNat false = false ↔ x ≠ l[i] ∧ seen.getD x.toNat false = false) := by
            intro x h0 hx
            rw [List.getD_eq_getElem?_getD, List.getD_eq_getElem?_getD, List.getElem?_set]
            by_cases hxe : x = l[i]
            · subst hxe
              rw [if_pos rfl, if_pos (by omega)]
              simp
            · rw [if_neg (by omega)]
              simp [hxe]
          constructor
          · rintro ⟨hp, hn⟩
            obtain ⟨hn1, hn2⟩ := List.nodup_cons.1 hn
            refine ⟨fun x hx => ?_, hn2⟩
            obtain ⟨p1, p2⟩ := hp x (List.mem_cons_of_mem _ hx)
            exact ⟨p1, (hset x p1.1 p1.2).2 ⟨fun e => hn1 (e ▸ hx), p2⟩⟩
          · rintro ⟨hp, hn⟩
            refine ⟨fun x hx => ?_, List.nodup_cons.2 ⟨fun hm => ?_, hn⟩⟩
            · rcases List.mem_cons.1 hx with rfl | hx
              · exact ⟨⟨hr.1, by omega⟩, hb'⟩
              · obtain ⟨p1, p2⟩ := hp x hx
                exact ⟨p1, ((hset x p1.1 p1.2).1 p2).2⟩
            · obtain ⟨p1, p2⟩ := hp _ hm
              exact ((hset _ p1.1 p1.2).1 p2).1 rfl
        rw [decide_eq_decide.2 hq]
        refine ⟨Ev.step (fun k => ?_) h1, Ev.step (fun k => ?_) h2⟩
        · simp only [spec_l6Perm.l0, l1In_eq, e1, Option.bind_some]
          rw [if_pos (by omega), if_pos (by omega), w64 (by omega) (by omega), if_pos (by simpa using hr), if_pos (by omega), if_pos (by omega), if_neg hb, w64s hlt hl]
        · simp only [impl_isPermutation.l0, within_eq, e1, Option.bind_some]
          rw [if_pos (by omega), if_pos (by omega), if_pos (by omega), w64 (by omega) (by omega), if_pos (by simpa using hr), if_pos (by omega), if_pos (by omega), if_neg hb, w64s hlt hl]
    · have ht : decide (PermFrom l i seen) = false := by
        refine decide_eq_false fun hp => hr ?_
        have := (hp.1 l[i] (by rw [ed]; exact List.mem_cons_self)).1
        omega
      rw [ht]
      refine ⟨Ev.step (f := fun _ => some false) (fun k => ?_) (Ev.now _), Ev.step (f := fun _ => some false) (fun k => ?_) (Ev.now _)⟩
      · simp only [spec_l6Perm.l0, l1In_eq, e1, Option.bind_some]
        rw [if_pos (by omega), if_pos (by omega), w64 (by omega) (by omega), if_neg (by simpa using hr)]
      · simp only [impl_isPermutation.l0, within_eq, e1, Option.bind_some]
        rw [if_pos (by omega), if_pos (by omega), if_pos (by omega), w64 (by omega) (by omega), if_neg (by simpa using hr)]
def PermP (l : List Int) : Prop := (∀ x ∈ l, 0 ≤ x ∧ x < l.length) ∧ l.Nodup
theorem perm_ev (l : List Int) (hl : l.length ≤ 1048576) : Ev (fun k => spec_l6Perm.f k l) (decide (PermP l)) ∧ Ev (fun k => impl_isPermutation.f k l) (decide (PermP l)) := by
  obtain ⟨h1, h2⟩ := perm_same l (by omega) l.length 0 (List.replicate l.length false) (by omega) (by simp)
  have hq : PermFrom l 0 (List.replicate l.length false) ↔ PermP l := by
    unfold PermFrom PermP
    simp only [List.drop_zero]
    refine ⟨fun h => ⟨fun x hx => (h.1 x hx).1, h.2⟩, fun h => ⟨fun x hx => ⟨h.1 x hx, ?_⟩, h.2⟩⟩
    have := h.1 x hx
    rw [List.getD_eq_getElem?_getD, List.getElem?_replicate, if_pos (by omega)]
    rfl
  rw [decide_eq_decide.2 hq] at h1 h2
  refine ⟨Ev.congr (fun k => ?_) h1, Ev.congr (fun k => ?_) h2⟩
  · unfold spec_l6Perm.f
    rw [if_pos (by omega), if_pos (by omega), Int.toNat_natCast]; rfl
  · unfold impl_isPermutation.f
    rw [if_pos (by omega), if_pos (by omega), Int.toNat_natCast]; rfl
def MapP (l : List Int) : Prop := (2 ≤ l.length ∧ l.length ≤ 24) ∧ l.length % 2 = 0 ∧ PermP l
theorem isMap_ev (l : List Int) (hl : l.length ≤ 1048576) : Ev (fun k => spec_IsMap.f k l) (decide (MapP l)) ∧ Ev (fun k => impl_IsMap.f k l) (decide (MapP l)) := by
  unfold spec_IsMap.f impl_IsMap.f
  simp only [within_eq, l1In_eq, Option.bind_some]
  by_cases h1 : (2 : Int) ≤ l.length ∧ (l.length : Int) ≤ 24
  · rw [decide_eq_true h1]
    simp only [if_true]
    by_cases h2 : ((l.length : Int) % 2) = 0
    · simp only [h2, if_true]
      obtain ⟨e1, e2⟩ := perm_ev l hl
      have hq : PermP l ↔ MapP l := ⟨fun h => ⟨⟨by omega, by omega⟩, by omega, h⟩, fun h => h.2.2⟩
      rw [decide_eq_decide.2 hq] at e1 e2
      exact ⟨Ev.bind e1 (Ev.now _), Ev.bind e2 (Ev.now _)⟩
    · simp only [h2, if_false]
      rw [decide_eq_false (fun h : MapP l => h2 (by have := h.2.1; omega))]
      exact ⟨Ev.now _, Ev.now _⟩
  · rw [decide_eq_false h1, decide_eq_false (fun h : MapP l => h1 ⟨by have := h.1.1; omega, by have := h.1.2; omega⟩)]
    exact ⟨Ev.now _, Ev.now _⟩
theorem MapP.ok {l : List Int} (h : MapP l) : Joi.MapOk l := by
  refine ⟨h.1.2, h.2.1, fun d hd => ?_⟩
  have := h.2.2.1 l[d] (List.getElem_mem hd)
  exact ⟨l[d].toNat, by omega, by rw [rd_lt hd]; omega⟩
theorem MapP.perm {l : List Int} (h : MapP l) : Joi.PermOk l := by
  refine ⟨h.ok, fun i j hi hj e => ?_⟩
  rw [rd_lt hi, rd_lt hj] at e
  exact (List.getElem_inj h.2.2.2).1 e
theorem permP_ok {l : List Int} (h : Joi.PermOk l) : PermP l := by
  refine ⟨fun x hx => ?_, ?_⟩
  · obtain ⟨i, hi, rfl⟩ := List.getElem_of_mem hx
    obtain ⟨e, h1, h2⟩ := h.1.2.2 i hi
    rw [rd_lt hi] at h2
    omega
  · unfold List.Nodup
    rw [List.pairwise_iff_getElem]
    intro i j hi hj hij e
    have := h.2 i j hi hj (by rw [rd_lt hi, rd_lt hj]; exact e)
    omega
theorem mapP_ok {l : List Int} (h : Joi.PermOk l) (h2 : 2 ≤ l.length) : MapP l := ⟨⟨h2, h.1.1⟩, h.1.2.1, permP_ok h⟩
theorem eq_nx {l r : List Int} (h : Joi.PermOk l) (k : Joi.PermOk r) (hlen : r.length = l.length) (e : ∀ d, d < l.length → Joi.nx r d = Joi.nx l d) : r = l := by
  refine List.ext_getElem hlen fun i h1 h2 => ?_
  have a1 := (Joi.nx_lt h.1 h2).2
  have a2 := (Joi.nx_lt k.1 h1).2
  rw [rd_lt h2] at a1
  rw [rd_lt h1] at a2
  rw [a1, a2, e i h2]
theorem it_seen {l : List Int} (_ : Joi.PermOk l) {S0 : Nat → Prop} (hS0 : ∀ d, S0 d ↔ S0 (Joi.sgL l d)) (i : Nat) : ∀ j, S0 (Kl.it (Joi.sgL l) j i) ↔ S0 i := by
  intro j
  induction j with
  | zero => exact Iff.rfl
  | succ j ih =>
    show S0 (Joi.sgL l (Kl.it (Joi.sgL l) j i)) ↔ _
    rw [← hS0]; exact ih
theorem seen_all {l : List Int} (h : Joi.PermOk l) {S0 : Nat → Prop} (hS0 : ∀ d, S0 d ↔ S0 (Joi.sgL l d)) {i j : Nat} (hni : ¬ S0 i) (hs : S0 (Kl.it (Joi.sgL l) j i) ∨ ∃ m, m < j ∧ Kl.it (Joi.sgL l) m i = Kl.it (Joi.sgL l) j i) (d : Nat) :
    (S0 d ∨ ∃ m, m < j ∧ Kl.it (Joi.sgL l) m i = d) ↔ (S0 d ∨ Kl.Cyc (Joi.sgL l) i d) := by
  rcases hs with hs | ⟨m0, hm0, e0⟩
  · exact absurd ((it_seen h hS0 i j).1 hs) hni
  · refine ⟨fun hh => hh.imp id fun ⟨m, _, e⟩ => ⟨m, e⟩, fun hh => hh.imp id fun ⟨q, hq⟩ => ?_⟩
    have key : ∀ q, ∃ m, m < j ∧ Kl.it (Joi.sgL l) m i = Kl.it (Joi.sgL l) q i := by
      intro q
      induction q with
      | zero => exact ⟨0, by omega, rfl⟩
      | succ q ih =>
        obtain ⟨m, hm, e⟩ := ih
        by_cases hmj : m + 1 < j
        · exact ⟨m + 1, hmj, congrArg (Joi.sgL l) e⟩
        · refine ⟨m0, hm0, ?_⟩
          rw [e0, show j = m + 1 by omega]
          exact congrArg (Joi.sgL l) e
    obtain ⟨m, hm, e⟩ := key q
    exact ⟨m, hm, e.trans hq⟩
theorem cyc1_len (l : List Int) (h : Joi.PermOk l) (S0 : Nat → Prop) (hS0 : ∀ d, S0 d ↔ S0 (Joi.sgL l d)) (i : Nat) (hi : i < l.length) (hni : ¬ S0 i) (x3 : List (List Int)) (hx3 : x3.length ≤ 1000) (P : List (List Int) → Prop)
    (hc : ∀ (x4 : List Bool) (own : List Int), x4.length = l.length → (∀ d, d < l.length → (x4.getD d false = true ↔ S0 d ∨ Kl.Cyc (Joi.sgL l) i d)) → ∃ r, Ev (fun k => spec_l6Cycles.l0 k l (x3 ++ [own]) x4 ((i + 1 : Nat) : Int)) r ∧ P r) :
    ∀ (u j : Nat) (x4 : List Bool) (own : List Int), x4.countP (fun b => !b) = u → x4.length = l.length → (∀ d, d < l.length → (x4.getD d false = true ↔ S0 d ∨ ∃ m, m < j ∧ Kl.it (Joi.sgL l) m i = d)) → own.length + u ≤ 1000 →
      ∃ r, Ev (fun k => spec_l6Cycles.l1 k l x3 x4 i own ((Kl.it (Joi.sgL l) j i : Nat) : Int)) r ∧ P r := by
  have hp := Joi.sgL_per h
  have h24 := h.1.1
  have itl : ∀ j, Kl.it (Joi.sgL l) j i < l.length := by
    intro j
    induction j with
    | zero => exact hi
    | succ j ih => exact hp.2.1 _ ih
  intro u
  induction u with
  | zero =>
    intro j x4 own hu h4 hseen hown
    have hl7 : Kl.it (Joi.sgL l) j i < x4.length := by rw [h4]; exact itl j
    have ht : x4[Kl.it (Joi.sgL l) j i] = true := by
      have := List.countP_eq_zero.1 hu x4[Kl.it (Joi.sgL l) j i] (List.getElem_mem hl7)
      simpa using this
    have hs := (hseen _ (itl j)).1 (by rw [getD_lt hl7]; exact ht)
    obtain ⟨r, hr, hP⟩ := hc x4 own h4 (fun d hd => (hseen d hd).trans (seen_all h hS0 hni hs d))
    refine ⟨r, Ev.step (fun k => ?_) hr, hP⟩
    simp only [spec_l6Cycles.l1, rdOf_lt hl7]
    rw [if_pos (by omega), if_pos (by omega), if_pos ht, if_pos (by omega), w64s (n := l.length) hi (by omega)]
  | succ u ih =>
    intro j x4 own hu h4 hseen hown
    have hl7 : Kl.it (Joi.sgL l) j i < x4.length := by rw [h4]; exact itl j
    by_cases ht : x4[Kl.it (Joi.sgL l) j i] = true
    · have hs := (hseen _ (itl j)).1 (by rw [getD_lt hl7]; exact ht)
      obtain ⟨r, hr, hP⟩ := hc x4 own h4 (fun d hd => (hseen d hd).trans (seen_all h hS0 hni hs d))
      refine ⟨r, Ev.step (fun k => ?_) hr, hP⟩
      simp only [spec_l6Cycles.l1, rdOf_lt hl7]
      rw [if_pos (by omega), if_pos (by omega), if_pos ht, if_pos (by omega), w64s (n := l.length) hi (by omega)]
    · have hf4 : x4[Kl.it (Joi.sgL l) j i] = false := by simpa using ht
      have hus := unseen_set hl7 hf4
      have hw := itl j
      obtain ⟨r, hr, hP⟩ := ih (j + 1) (x4.set (Kl.it (Joi.sgL l) j i) true) (own ++ [((Kl.it (Joi.sgL l) j i : Nat) : Int)]) (by omega) (by simpa using h4) (fun d hd => by
        rw [List.getD_eq_getElem?_getD, List.getElem?_set]
        by_cases e : Kl.it (Joi.sgL l) j i = d
        · subst e
          rw [if_pos rfl, if_pos hl7]
          simp only [Option.getD_some, true_iff]
          exact .inr ⟨j, by omega, rfl⟩
        · rw [if_neg e, ← List.getD_eq_getElem?_getD, hseen d hd]
          constructor
          · exact fun hh => hh.imp id fun ⟨m, hm, e⟩ => ⟨m, by omega, e⟩
          · refine fun hh => hh.imp id fun ⟨m, hm, e2⟩ => ⟨m, ?_, e2⟩
            by_cases hmj : m = j
            · subst hmj; exact absurd e2 e
            · omega) (by simp; omega)
      refine ⟨r, Ev.step (fun k => ?_) hr, hP⟩
      have e7 : rd l ((Kl.it (Joi.sgL l) j i : Nat) : Int) = ((Kl.it (Joi.sgL l) (j + 1) i : Nat) : Int) := by
        rw [(Joi.nx_lt h.1 hw).2]
        show _ = ((Joi.sgL l (Kl.it (Joi.sgL l) j i) : Nat) : Int)
        rw [Joi.sgL_lt hw]
      simp only [spec_l6Cycles.l1, rdOf_lt hl7]
      rw [if_pos (by omega), if_pos (by omega), if_neg ht, if_pos (by omega), if_pos (by omega), Int.toNat_natCast, e7]
theorem cyc0_len (l : List Int) (h : Joi.PermOk l) : ∀ (d i : Nat) (x3 : List (List Int)) (x4 : List Bool), i + d = l.length → x4.length = l.length → (∀ e, e < l.length → (x4.getD e false = true ↔ ∃ c, c < i ∧ Kl.Cyc (Joi.sgL l) c e)) → x3.length = Kl.K (Kl.Cyc (Joi.sgL l)) (List.range i) → x3.length ≤ i →
    ∃ r, Ev (fun k => spec_l6Cycles.l0 k l x3 x4 i) r ∧ r.length = Joi.cL l := by
  have hp := Joi.sgL_per h
  have hE := Kl.cyc_eqv hp.perm
  have h24 := h.1.1
  have ks : ∀ i, Kl.K (Kl.Cyc (Joi.sgL l)) (List.range (i + 1)) = (if ∃ c, c < i ∧ Kl.Cyc (Joi.sgL l) i c then 0 else 1) + Kl.K (Kl.Cyc (Joi.sgL l)) (List.range i) := fun i => by
    rw [Kl.K_congr _ (Kl.Cyc (Joi.sgL l)) hE hE (List.range (i + 1)) (i :: List.range i) (fun a => by simp only [List.mem_range, List.mem_cons]; omega) (fun _ _ _ _ => Iff.rfl)]
    show (if ∃ b, b ∈ List.range i ∧ Kl.Cyc (Joi.sgL l) i b then 0 else 1) + _ = _
    congr 1
    by_cases q : ∃ c, c < i ∧ Kl.Cyc (Joi.sgL l) i c
    · rw [if_pos q, if_pos (q.imp fun c hc => ⟨List.mem_range.2 hc.1, hc.2⟩)]
    · rw [if_neg q, if_neg (fun k => q (k.imp fun c hc => ⟨List.mem_range.1 hc.1, hc.2⟩))]
  intro d
  induction d with
  | zero =>
    intro i x3 x4 hi h4 hseen hx hxi
    refine ⟨x3, Ev.step (f := fun _ => some x3) (fun k => ?_) (Ev.now _), ?_⟩
    · simp only [spec_l6Cycles.l0]; rw [if_neg (by omega)]
    · rw [hx, show i = l.length by omega]
      exact Joi.K_cyc hp.perm _
  | succ d ih =>
    intro i x3 x4 hi h4 hseen hx hxi
    have hlt : i < l.length := by omega
    have hl4 : i < x4.length := by omega
    by_cases ht : x4[i] = true
    · have hs := (hseen i hlt).1 (by rw [getD_lt hl4]; exact ht)
      have hs' : ∃ c, c < i ∧ Kl.Cyc (Joi.sgL l) i c := hs.imp fun c hc => ⟨hc.1, hE.symm hc.2⟩
      obtain ⟨r, hr, hl⟩ := ih (i + 1) x3 x4 (by omega) h4 (fun e he => by
        rw [hseen e he]
        constructor
        · rintro ⟨c, hc, k⟩; exact ⟨c, by omega, k⟩
        · rintro ⟨c, hc, k⟩
          by_cases hci : c = i
          · subst hci
            obtain ⟨c', h1, h2⟩ := hs
            exact ⟨c', h1, hE.trans h2 k⟩
          · exact ⟨c, by omega, k⟩) (by rw [ks, if_pos hs', Nat.zero_add]; exact hx) (by omega)
      refine ⟨r, Ev.step (fun k => ?_) hr, hl⟩
      simp only [spec_l6Cycles.l0, rdOf_lt hl4]
      rw [if_pos (by omega), if_pos (by omega), if_pos (by omega), if_pos ht, w64s hlt (by omega)]
    · have hns : ¬ ∃ c, c < i ∧ Kl.Cyc (Joi.sgL l) c i := fun hs => ht (by have := (hseen i hlt).2 hs; rwa [getD_lt hl4] at this)
      have hns' : ¬ ∃ c, c < i ∧ Kl.Cyc (Joi.sgL l) i c := fun ⟨c, h1, h2⟩ => hns ⟨c, h1, hE.symm h2⟩
      obtain ⟨r, hr, hl⟩ := cyc1_len l h (fun e => ∃ c, c < i ∧ Kl.Cyc (Joi.sgL l) c e) (fun e => by
        constructor
        · rintro ⟨c, h1, h2⟩; exact ⟨c, h1, hE.trans h2 (Kl.cyc_step _ _)⟩
        · rintro ⟨c, h1, h2⟩; exact ⟨c, h1, hE.trans h2 (hE.symm (Kl.cyc_step _ _))⟩) i hlt hns x3 (by omega) (fun r => r.length = Joi.cL l) (fun x4' own h4' hs' => ih (i + 1) (x3 ++ [own]) x4' (by omega) h4' (fun e he => by
          rw [hs' e he]
          constructor
          · rintro (⟨c, h1, h2⟩ | h2)
            · exact ⟨c, by omega, h2⟩
            · exact ⟨i, by omega, h2⟩
          · rintro ⟨c, h1, h2⟩
            by_cases hci : c = i
            · subst hci; exact .inr h2
            · exact .inl ⟨c, by omega, h2⟩) (by rw [List.length_append, ks, if_neg hns', hx]; simp; omega) (by simp; omega)) (x4.countP fun b => !b) 0 x4 [] rfl h4 (fun e he => by
        rw [hseen e he]
        constructor
        · exact .inl
        · rintro (hh | ⟨m, hm, _⟩)
          · exact hh
          · omega) (by have := List.countP_le_length (p := fun b => !b) (l := x4); simp; omega)
      refine ⟨r, Ev.step (fun k => ?_) hr, hl⟩
      simp only [spec_l6Cycles.l0, rdOf_lt hl4]
      rw [if_pos (by omega), if_pos (by omega), if_pos (by omega), if_neg ht]
      rfl
theorem cycLen {l : List Int} (h : MapP l) : ∃ r, bulk r ≤ 1048576 ∧ r.length = Joi.cL l ∧ Ev (fun k => spec_l6Cycles.f k l) r ∧ Ev (fun k => impl_cycles.f k l) r := by
  have h24 := h.1.2
  obtain ⟨r, hb, r1, r2⟩ := cycles_ev l (by omega) h.2.2.1
  obtain ⟨r', e1, hl⟩ := cyc0_len l h.perm l.length 0 [] (List.replicate l.length false) (by omega) (by simp) (fun e he => by simp [List.getD_eq_getElem?_getD, he]) rfl (by simp)
  have e2 : Ev (fun k => spec_l6Cycles.f k l) r' := by
    refine Ev.congr (f := fun k => spec_l6Cycles.l0 k l [] (List.replicate l.length false) ((0 : Nat) : Int)) (fun k => ?_) e1
    unfold spec_l6Cycles.f
    rw [if_pos (by omega), if_pos (by omega), Int.toNat_natCast]; rfl
  exact ⟨r, hb, by rw [Ev.unique r1 e2]; exact hl, r1, r2⟩
theorem mapParts_ev (l : List Int) (hl : l.length ≤ 1048576) : ∃ z : Int, Ev (fun k => spec_MapParts.f k l) z ∧ Ev (fun k => impl_MapParts.f k l) z := by
  obtain ⟨e1, e2⟩ := isMap_ev l hl
  refine ⟨if MapP l then ((Joi.partsN l : Nat) : Int) else -1, ?_, ?_⟩
  · unfold spec_MapParts.f
    refine Ev.bind e1 ?_
    by_cases h : MapP l
    · rw [decide_eq_true h, if_pos h]; simp only [if_true]; rw [if_pos h.ok]; exact Ev.now _
    · rw [decide_eq_false h, if_neg h]; exact Ev.now _
  · unfold impl_MapParts.f
    refine Ev.bind e2 ?_
    by_cases h : MapP l
    · rw [decide_eq_true h, if_pos h]; simp only [if_true]; rw [if_pos h.ok]; exact Ev.now _
    · rw [decide_eq_false h, if_neg h]; exact Ev.now _
def mt (d : Nat) : Nat := if d % 2 = 0 then d + 1 else d - 1
theorem mt_lt {d n : Nat} (h : d < n) (hn : n % 2 = 0) : mt d < n := by unfold mt; split <;> omega
theorem mt_mt (d : Nat) : mt (mt d) = d := by unfold mt; split <;> split <;> omega
theorem xor1_fin : ∀ d : Fin 64, Go.bits .xor .i64 (d.val : Int) 1 = ((mt d.val : Nat) : Int) := by decide +kernel
theorem xor1 (d : Nat) (h : d < 64) : Go.bits .xor .i64 (d : Int) 1 = ((mt d : Nat) : Int) := xor1_fin ⟨d, h⟩
theorem mate_eq (d : Nat) (hd : d < 1048576) : spec_l6Mate.f (d : Int) = some ((mt d : Nat) : Int) := by
  unfold spec_l6Mate.f mt
  have e : Int.tmod (d : Int) 2 = ((d % 2 : Nat) : Int) := by rw [Int.tmod_eq_emod_of_nonneg (by omega)]; omega
  have a1 : wrap64 ((d : Int) + 1) = (d : Int) + 1 := w64 (by omega) (by omega)
  have a2 : wrap64 (2 * ((d % 2 : Nat) : Int)) = 2 * ((d % 2 : Nat) : Int) := w64 (by omega) (by omega)
  rw [e, a1, a2, w64 (by omega) (by omega)]
  split <;> congr 1 <;> omega
def dualL (l : List Int) : List Int := (List.range l.length).map fun d => l.getD (mt d) 0
theorem dualL_length (l : List Int) : (dualL l).length = l.length := by simp [dualL]
theorem dualL_get (l : List Int) (d : Nat) (h : d < l.length) : (dualL l)[d]'(by rw [dualL_length]; exact h) = l.getD (mt d) 0 := by simp [dualL]
theorem dualS_l (l : List Int) (hl : l.length ≤ 24) (h2 : l.length % 2 = 0) : ∀ (d i : Nat) (acc : List Int), i + d = l.length → acc = (dualL l).take i → Ev (fun k => spec_l6Dual.l0 k l acc i) (dualL l) := by
  intro d
  induction d with
  | zero =>
    intro i acc hi ha
    refine Ev.step (f := fun _ => some acc) (fun k => ?_) ?_
    · simp only [spec_l6Dual.l0]; rw [if_neg (by omega)]
    · rw [ha, List.take_of_length_le (by rw [dualL_length]; omega)]; exact Ev.now _
  | succ d ih =>
    intro i acc hi ha
    have hlt : i < l.length := by omega
    have hm := mt_lt hlt h2
    refine Ev.step (fun k => ?_) (ih (i + 1) (acc ++ [l.getD (mt i) 0]) (by omega) ?_)
    · simp only [spec_l6Dual.l0, mate_eq i (by omega), Option.bind_some]
      rw [if_pos (by omega), if_pos (by omega), if_pos (by omega), if_pos (by rw [ha, List.length_take]; omega), w64s hlt (by omega), rd_nat]
    · rw [List.take_succ_eq_append_getElem (by rw [dualL_length]; exact hlt), dualL_get l i hlt, ha]
theorem dualS_ev (l : List Int) (hl : l.length ≤ 24) (h2 : l.length % 2 = 0) : Ev (fun k => spec_l6Dual.f k l) (dualL l) := by
  have := dualS_l l hl h2 l.length 0 [] (by omega) (by simp)
  simpa [spec_l6Dual.f] using this
theorem dualI_l (l : List Int) (hl : l.length ≤ 24) (h2 : l.length % 2 = 0) : ∀ (d i : Nat) (acc : List Int), i + d = l.length → acc.length = l.length → acc.take i = (dualL l).take i → Ev (fun k => impl_dual.l0 k l acc l.length i) (dualL l) := by
  intro d
  induction d with
  | zero =>
    intro i acc hi ha ht
    refine Ev.step (f := fun _ => some acc) (fun k => ?_) ?_
    · simp only [impl_dual.l0]; rw [if_neg (by omega)]
    · have e : acc = dualL l := by
        have h1 := List.take_of_length_le (l := acc) (i := i) (by omega)
        have h2 := List.take_of_length_le (l := dualL l) (i := i) (by rw [dualL_length]; omega)
        rw [← h1, ← h2, ht]
      rw [e]; exact Ev.now _
  | succ d ih =>
    intro i acc hi ha ht
    have hlt : i < l.length := by omega
    have hm := mt_lt hlt h2
    refine Ev.step (fun k => ?_) (ih (i + 1) (acc.set i (l.getD (mt i) 0)) (by omega) (by simpa using ha) ?_)
    · simp only [impl_dual.l0, xor1 i (by omega)]
      rw [if_pos (by omega), if_pos (by omega), if_pos (by omega), if_pos (by omega), if_pos (by omega), w64s hlt (by omega), rd_nat, Int.toNat_natCast]
    · rw [List.take_succ_eq_append_getElem (by simp; omega), List.take_succ_eq_append_getElem (by rw [dualL_length]; exact hlt), List.take_set_of_le (Nat.le_refl i), ht, dualL_get l i hlt]
      simp
theorem dualI_ev (l : List Int) (hl : l.length ≤ 24) (h2 : l.length % 2 = 0) : Ev (fun k => impl_dual.f k l) (dualL l) := by
  refine Ev.congr (f := fun k => impl_dual.l0 k l (List.replicate l.length 0) l.length ((0 : Nat) : Int)) (fun k => ?_) (dualI_l l hl h2 l.length 0 _ (by omega) (by simp) (by simp))
  unfold impl_dual.f
  rw [if_pos (by omega), if_pos (by omega), Int.toNat_natCast]; rfl
theorem genusOf_ev (l : List Int) (hl : l.length ≤ 1048576) : ∃ z : Int, Ev (fun k => spec_GenusOf.f k l) z ∧ Ev (fun k => impl_GenusOf.f k l) z := by
  obtain ⟨e1, e2⟩ := isMap_ev l hl
  have e3 := e2
  unfold spec_GenusOf.f impl_GenusOf.f
  by_cases h : MapP l
  case neg =>
    rw [decide_eq_false h] at e1 e2
    exact ⟨-1, Ev.bind e1 (Ev.now _), Ev.bind e2 (Ev.now _)⟩
  rw [decide_eq_true h] at e1 e2 e3
  have h24 := h.1.2
  have d1 := dualS_ev l h24 h.2.1
  have d2 := dualI_ev l h24 h.2.1
  obtain ⟨c, hc, c1, c2⟩ := cycles_ev l (by omega) h.2.2.1
  obtain ⟨r, hr, r1, r2⟩ := cycles_ev (dualL l) (by rw [dualL_length]; omega) (fun x hx => by
    rw [dualL_length]
    obtain ⟨d, hd, rfl⟩ := List.mem_map.1 hx
    have hm := mt_lt (List.mem_range.1 hd) h.2.1
    rw [getD_lt hm]
    exact h.2.2.1 _ (List.getElem_mem hm))
  have hcl : c.length ≤ 1048576 := by unfold bulk at hc; omega
  have hrl : r.length ≤ 1048576 := by unfold bulk at hr; omega
  have hp : Ev (fun k => impl_MapParts.f k l) ((Joi.partsN l : Nat) : Int) := by
    unfold impl_MapParts.f
    refine Ev.bind e3 ?_
    simp only [if_true]; rw [if_pos h.ok]; exact Ev.now _
  refine ⟨genV (Joi.partsN l) c.length r.length l.length, Ev.bind e1 ?_, Ev.bind e2 ?_⟩
  · simp only [if_true]
    unfold spec_l6Genus.f
    refine Ev.bind c1 (Ev.bind d1 (Ev.bind r1 ?_))
    rw [if_pos ⟨h.ok, hcl, hrl⟩]; exact Ev.now _
  · simp only [if_true]
    refine Ev.bind hp (Ev.bind c2 (Ev.bind d2 (Ev.bind r2 ?_)))
    rw [if_pos ⟨⟨rfl, h24⟩, hcl, hrl⟩]; exact Ev.now _
theorem mtN_mt (d : Nat) : Joi.mtN d = mt d := rfl
theorem dual_nx {l : List Int} (h : MapP l) {d : Nat} (hd : d < l.length) : Joi.nx (dualL l) d = Joi.nx l (Joi.mtN d) := by
  have hm := mt_lt hd h.2.1
  unfold Joi.nx
  rw [rd_lt (by rw [dualL_length]; exact hd), dualL_get l d hd, mtN_mt, rd_nat]
theorem dual_ok {l : List Int} (h : MapP l) : Joi.PermOk (dualL l) := by
  have hp := h.perm
  have e : ∀ d, d < l.length → rd (dualL l) (d : Int) = ((Joi.nx l (mt d) : Nat) : Int) ∧ Joi.nx l (mt d) < l.length := fun d hd => by
    have hm := mt_lt hd h.2.1
    obtain ⟨h1, h2⟩ := Joi.nx_lt hp.1 hm
    refine ⟨?_, h1⟩
    rw [rd_lt (by rw [dualL_length]; exact hd), dualL_get l d hd, ← rd_nat, h2]
  refine ⟨⟨by rw [dualL_length]; exact h.1.2, by rw [dualL_length]; exact h.2.1, fun d hd => ?_⟩, fun i j hi hj hij => ?_⟩
  · rw [dualL_length] at hd ⊢
    exact ⟨_, (e d hd).2, (e d hd).1⟩
  · rw [dualL_length] at hi hj
    rw [(e i hi).1, (e j hj).1] at hij
    have := Joi.nx_inj hp (mt_lt hi h.2.1) (mt_lt hj h.2.1) (Int.ofNat.inj hij)
    rw [← mt_mt i, this, mt_mt]
theorem dual_map {l : List Int} (h : MapP l) : MapP (dualL l) := mapP_ok (dual_ok h) (by rw [dualL_length]; exact h.1.1)
theorem dual_dual {l : List Int} (h : MapP l) : dualL (dualL l) = l := by
  refine eq_nx h.perm (dual_ok (dual_map h)) (by rw [dualL_length, dualL_length]) fun d hd => ?_
  rw [dual_nx (dual_map h) (by rw [dualL_length]; exact hd), dual_nx h (by rw [mtN_mt]; exact mt_lt hd h.2.1), mtN_mt, mtN_mt, mt_mt]
theorem dual_counts {l : List Int} (h : MapP l) : Joi.cL (dualL l) = Joi.fL l ∧ Joi.fL (dualL l) = Joi.cL l ∧ Joi.pL (dualL l) = Joi.pL l := Joi.dual_L h.perm (dualL_length l) fun _ hd => dual_nx h hd
theorem genVal {l : List Int} (h : MapP l) : ∃ z : Int, Ev (fun k => spec_GenusOf.f k l) z ∧ Ev (fun k => impl_GenusOf.f k l) z ∧ 0 ≤ z ∧ 2 * z = 2 * (Joi.pL l : Int) + (l.length / 2 : Nat) - (Joi.cL l : Int) - (Joi.fL l : Int) := by
  have hl : l.length ≤ 1048576 := by have := h.1.2; omega
  obtain ⟨e1, e2⟩ := isMap_ev l hl
  have e3 := e2
  rw [decide_eq_true h] at e1 e2 e3
  have h24 := h.1.2
  have d1 := dualS_ev l h24 h.2.1
  have d2 := dualI_ev l h24 h.2.1
  obtain ⟨c, hc, hcl, c1, c2⟩ := cycLen h
  obtain ⟨r, hr, hrl, r1, r2⟩ := cycLen (dual_map h)
  rw [(dual_counts h).1] at hrl
  have hcb : c.length ≤ 1048576 := by have := bulk_len c; omega
  have hrb : r.length ≤ 1048576 := by have := bulk_len r; omega
  have hp : Ev (fun k => impl_MapParts.f k l) ((Joi.partsN l : Nat) : Int) := by
    unfold impl_MapParts.f
    refine Ev.bind e3 ?_
    simp only [if_true]; rw [if_pos h.ok]; exact Ev.now _
  have hpn := Joi.partsN_le l
  have hpl := Joi.partsN_eq h.ok
  obtain ⟨g1, q, g2⟩ := Joi.genus_L h.perm
  have hv : genV (Joi.partsN l) c.length r.length l.length = (Joi.pL l : Int) - ((q : Int) - ((l.length / 2 : Nat) : Int)) := by
    unfold genV
    rw [hcl, hrl, hpl]
    have e : ((Joi.cL l : Int) - (l.length : Int) / 2 + (Joi.fL l : Int)) = ((q : Int) - ((l.length / 2 : Nat) : Int)) * 2 := by omega
    rw [e, Int.mul_tdiv_cancel _ (by decide)]
    have hcn : Joi.cL l ≤ 1048576 := by omega
    have hfn : Joi.fL l ≤ 1048576 := by omega
    exact w64 (by omega) (by omega)
  refine ⟨(Joi.pL l : Int) - ((q : Int) - ((l.length / 2 : Nat) : Int)), ?_, ?_, by omega, by omega⟩
  · unfold spec_GenusOf.f
    refine Ev.bind e1 ?_
    simp only [if_true]
    unfold spec_l6Genus.f
    refine Ev.bind c1 (Ev.bind d1 (Ev.bind r1 ?_))
    rw [if_pos ⟨h.ok, hcb, hrb⟩, hv]; exact Ev.now _
  · unfold impl_GenusOf.f
    refine Ev.bind e2 ?_
    simp only [if_true]
    refine Ev.bind hp (Ev.bind c2 (Ev.bind d2 (Ev.bind r2 ?_)))
    rw [if_pos ⟨⟨rfl, h24⟩, hcb, hrb⟩, hv]; exact Ev.now _
theorem genNo {l : List Int} (hl : l.length ≤ 1048576) (h : ¬ MapP l) : Ev (fun k => spec_GenusOf.f k l) (-1) ∧ Ev (fun k => impl_GenusOf.f k l) (-1) := by
  obtain ⟨e1, e2⟩ := isMap_ev l hl
  rw [decide_eq_false h] at e1 e2
  unfold spec_GenusOf.f impl_GenusOf.f
  exact ⟨Ev.bind e1 (Ev.now _), Ev.bind e2 (Ev.now _)⟩
theorem mirror_same (l : List Int) (hl : l.length ≤ 9223372036854775807) (hp : ∀ x ∈ l, 0 ≤ x ∧ x < l.length) : ∀ (d i : Nat) (acc : List Int), i + d = l.length → acc.length = l.length → ∃ r : List Int, r.length = l.length ∧ Ev (fun k => spec_l6Inverse.l0 k l acc i) r ∧ Ev (fun k => impl_inversePermutation.l0 k acc l l.length i) r := by
  intro d
  induction d with
  | zero =>
    intro i acc hi ha
    refine ⟨acc, ha, Ev.step (f := fun _ => some acc) (fun k => ?_) (Ev.now _), Ev.step (f := fun _ => some acc) (fun k => ?_) (Ev.now _)⟩
    · simp only [spec_l6Inverse.l0]; rw [if_neg (by omega)]
    · simp only [impl_inversePermutation.l0]; rw [if_neg (by omega)]
  | succ d ih =>
    intro i acc hi ha
    have hlt : i < l.length := by omega
    have e1 := rd_lt hlt
    have hr := hp l[i] (List.getElem_mem hlt)
    obtain ⟨r, hrl, h1, h2⟩ := ih (i + 1) (acc.set (l[i]).toNat i) (by omega) (by simpa using ha)
    refine ⟨r, hrl, Ev.step (fun k => ?_) h1, Ev.step (fun k => ?_) h2⟩
    · simp only [spec_l6Inverse.l0, e1]
      rw [if_pos (by omega), if_pos (by omega), if_pos (by omega), if_pos (by omega), w64s hlt hl]
    · simp only [impl_inversePermutation.l0, e1]
      rw [if_pos (by omega), if_pos (by omega), if_pos (by omega), if_pos (by omega), if_pos (by omega), w64s hlt hl]
theorem mirror_ev (l : List Int) (hl : l.length ≤ 1048576) (hp : ∀ x ∈ l, 0 ≤ x ∧ x < l.length) : ∃ r : List Int, r.length = l.length ∧ Ev (fun k => spec_l6Inverse.f k l) r ∧ Ev (fun k => impl_inversePermutation.f k l) r := by
  obtain ⟨r, hr, h1, h2⟩ := mirror_same l (by omega) hp l.length 0 (List.replicate l.length 0) (by omega) (by simp)
  refine ⟨r, hr, Ev.congr (fun k => ?_) h1, Ev.congr (fun k => ?_) h2⟩
  · unfold spec_l6Inverse.f
    rw [if_pos (by omega), if_pos (by omega), Int.toNat_natCast]; rfl
  · unfold impl_inversePermutation.f
    rw [if_pos (by omega), if_pos (by omega), Int.toNat_natCast]; rfl
theorem mirrorMap_ev (l : List Int) (hl : l.length ≤ 1048576) : ∃ r : List Int, r.length ≤ 1048576 ∧ Ev (fun k => spec_MirrorMap.f k l) r ∧ Ev (fun k => impl_MirrorMap.f k l) r := by
  obtain ⟨e1, e2⟩ := isMap_ev l hl
  unfold spec_MirrorMap.f impl_MirrorMap.f
  by_cases h : MapP l
  · rw [decide_eq_true h] at e1 e2
    obtain ⟨r, hr, h1, h2⟩ := mirror_ev l hl h.2.2.1
    exact ⟨r, by omega, Ev.bind e1 (by simp only [if_true]; exact Ev.bind h1 (Ev.now _)), Ev.bind e2 (by simp only [if_true]; exact Ev.bind h2 (Ev.now _))⟩
  · rw [decide_eq_false h] at e1 e2
    exact ⟨[], by simp, Ev.bind e1 (Ev.now _), Ev.bind e2 (Ev.now _)⟩
theorem mirror_inv {l : List Int} (h : MapP l) : ∀ (d i : Nat) (acc : List Int), i + d = l.length → acc.length = l.length → (∀ j, j < i → acc[Joi.nx l j]? = some (j : Int)) → ∃ r : List Int, r.length = l.length ∧ Ev (fun k => spec_l6Inverse.l0 k l acc i) r ∧ ∀ j, j < l.length → r[Joi.nx l j]? = some (j : Int) := by
  have hp := h.perm
  have h24 := h.1.2
  intro d
  induction d with
  | zero =>
    intro i acc hi ha hinv
    refine ⟨acc, ha, Ev.step (f := fun _ => some acc) (fun k => ?_) (Ev.now _), fun j hj => hinv j (by omega)⟩
    simp only [spec_l6Inverse.l0]; rw [if_neg (by omega)]
  | succ d ih =>
    intro i acc hi ha hinv
    have hlt : i < l.length := by omega
    obtain ⟨n1, n2⟩ := Joi.nx_lt hp.1 hlt
    obtain ⟨r, hr, hE, hI⟩ := ih (i + 1) (acc.set (Joi.nx l i) i) (by omega) (by simpa using ha) (fun j hj => by
      rw [List.getElem?_set]
      by_cases e : Joi.nx l i = Joi.nx l j
      · have := Joi.nx_inj hp hlt (by omega) e
        subst this
        rw [if_pos rfl, if_pos (by omega)]
      · rw [if_neg e]
        refine hinv j ?_
        by_cases e2 : j = i
        · subst e2; exact absurd rfl e
        · omega)
    refine ⟨r, hr, Ev.step (fun k => ?_) hE, hI⟩
    simp only [spec_l6Inverse.l0, n2]
    rw [if_pos (by omega), if_pos (by omega), if_pos (by omega), if_pos (by omega), Int.toNat_natCast, w64s hlt (by omega)]
theorem mirrorVal {l : List Int} (h : MapP l) : ∃ r : List Int, MapP r ∧ r.length = l.length ∧ (∀ d, d < l.length → Joi.nx r (Joi.nx l d) = d) ∧ Ev (fun k => spec_MirrorMap.f k l) r ∧ Ev (fun k => impl_MirrorMap.f k l) r := by
  have hl : l.length ≤ 1048576 := by have := h.1.2; omega
  obtain ⟨e1, e2⟩ := isMap_ev l hl
  rw [decide_eq_true h] at e1 e2
  obtain ⟨r, hr, h1, h2⟩ := mirror_ev l hl h.2.2.1
  obtain ⟨r', hr', hE, hI⟩ := mirror_inv h l.length 0 (List.replicate l.length 0) (by omega) (by simp) (fun j hj => by omega)
  have e3 : Ev (fun k => spec_l6Inverse.f k l) r' := by
    refine Ev.congr (f := fun k => spec_l6Inverse.l0 k l (List.replicate l.length 0) ((0 : Nat) : Int)) (fun k => ?_) hE
    unfold spec_l6Inverse.f
    rw [if_pos (by omega), if_pos (by omega), Int.toNat_natCast]; rfl
  have := Ev.unique h1 e3
  subst this
  have hp := Joi.sgL_per h.perm
  have at_ : ∀ e, e < l.length → ∃ d, d < l.length ∧ Joi.nx l d = e ∧ rd r (e : Int) = (d : Int) := fun e he => by
    obtain ⟨d, hd, hde⟩ := hp.pre he
    rw [Joi.sgL_lt hd] at hde
    have := hI d hd
    rw [hde] at this
    obtain ⟨q1, q2⟩ := List.getElem?_eq_some_iff.1 this
    exact ⟨d, hd, hde, by rw [rd_lt q1, q2]⟩
  have hok : Joi.PermOk r := by
    refine ⟨⟨by have := h.1.2; omega, by have := h.2.1; omega, fun e he => ?_⟩, fun i j hi hj hij => ?_⟩
    · obtain ⟨d, hd, _, k⟩ := at_ e (by omega)
      exact ⟨d, by omega, k⟩
    · obtain ⟨d1, _, k1, m1⟩ := at_ i (by omega)
      obtain ⟨d2, _, k2, m2⟩ := at_ j (by omega)
      rw [m1, m2] at hij
      have := Int.ofNat.inj hij
      subst this
      omega
  refine ⟨r, mapP_ok hok (by have := h.1.1; omega), hr, fun d hd => ?_, ?_, ?_⟩
  · obtain ⟨q1, q2⟩ := List.getElem?_eq_some_iff.1 (hI d hd)
    unfold Joi.nx at q1 q2 ⊢
    rw [rd_lt q1, q2]; rfl
  · unfold spec_MirrorMap.f
    exact Ev.bind e1 (Ev.congr (fun k => if_pos rfl) (Ev.bind h1 (Ev.now _)))
  · unfold impl_MirrorMap.f
    exact Ev.bind e2 (Ev.congr (fun k => if_pos rfl) (Ev.bind h2 (Ev.now _)))
theorem copyOf_eq (l : List Int) (hl : l.length ≤ 1048576) : impl_copyOf.f l = some l := by
  unfold impl_copyOf.f
  simp only [Option.bind_some, List.nil_append, List.length_nil, Nat.zero_add]
  rw [if_pos (by omega)]
def addL (l : List Int) (a b : Int) : List Int :=
  let y := l ++ [0, 0]
  let y := (y.set l.length (rd y a)).set a.toNat l.length
  if a = b then (y.set (l.length + 1) (rd y l.length)).set l.length ((l.length : Int) + 1) else (y.set (l.length + 1) (rd y b)).set b.toNat ((l.length : Int) + 1)
theorem addL_length (l : List Int) (a b : Int) : (addL l a b).length = l.length + 2 := by unfold addL; dsimp only; split <;> simp
theorem addEdge_ev (l : List Int) (a b : Int) (hl : l.length ≤ 1048576) : ∃ (r : List Int) (o : Bool), r.length ≤ 1048576 ∧ Ev (fun k => spec_AddEdge.f k l a b) (r, o) ∧ Ev (fun k => impl_AddEdge.f k l a b) (r, o) ∧
    (o = true ↔ MapP l ∧ (0 ≤ a ∧ a < l.length) ∧ (0 ≤ b ∧ b < l.length) ∧ l.length + 2 ≤ 24) ∧ (o = true → r = addL l a b) ∧ (o = false → r = []) := by
  obtain ⟨e1, e2⟩ := isMap_ev l hl
  have hno1 : Ev (fun k => spec_AddEdge.j0 k l a b true) (([] : List Int), false) := by
    refine Ev.shift ?_; simp only [spec_AddEdge.j0, if_true]; exact Ev.now _
  have hno2 : Ev (fun k => impl_AddEdge.j0 k l a b true) (([] : List Int), false) := by
    refine Ev.shift ?_; simp only [impl_AddEdge.j0, if_true]; exact Ev.now _
  unfold spec_AddEdge.f impl_AddEdge.f
  by_cases h : MapP l
  case neg =>
    rw [decide_eq_false h] at e1 e2
    refine ⟨[], false, by simp, Ev.bind e1 ?_, Ev.bind e2 ?_, by simp [h], by simp, by simp⟩
    · simpa using hno1
    · simpa using hno2
  rw [decide_eq_true h] at e1 e2
  have h24 := h.1.2
  have hw : wrap64 ((l.length : Int) - 1) = (l.length : Int) - 1 := w64 (by omega) (by omega)
  have hw2 : wrap64 ((l.length : Int) + 2) = (l.length : Int) + 2 := w64 (by omega) (by omega)
  have hw1 : wrap64 ((l.length : Int) + 1) = (l.length : Int) + 1 := w64 (by omega) (by omega)
  simp only [within_eq, l1In_eq, Option.bind_some, hw, hw2]
  by_cases ha : 0 ≤ a ∧ a ≤ (l.length : Int) - 1
  case neg =>
    rw [decide_eq_false ha]
    refine ⟨[], false, by simp, Ev.bind e1 ?_, Ev.bind e2 ?_, ?_, by simp, by simp⟩
    · simpa using hno1
    · simpa using hno2
    · simp only [Bool.false_eq_true, false_iff]; rintro ⟨_, hx, _⟩; exact ha ⟨hx.1, by omega⟩
  by_cases hb : 0 ≤ b ∧ b ≤ (l.length : Int) - 1
  case neg =>
    rw [decide_eq_true ha, decide_eq_false hb]
    refine ⟨[], false, by simp, Ev.bind e1 ?_, Ev.bind e2 ?_, ?_, by simp, by simp⟩
    · simpa using hno1
    · simpa using hno2
    · simp only [Bool.false_eq_true, false_iff]; rintro ⟨_, _, hx, _⟩; exact hb ⟨hx.1, by omega⟩
  rw [decide_eq_true ha, decide_eq_true hb]
  by_cases hm : (l.length : Int) + 2 > 24
  · rw [decide_eq_true hm]
    refine ⟨[], false, by simp, Ev.bind e1 ?_, Ev.bind e2 ?_, ?_, by simp, by simp⟩
    · simpa using hno1
    · simpa using hno2
    · simp only [Bool.false_eq_true, false_iff]; rintro ⟨_, _, _, hx⟩; omega
  rw [decide_eq_false hm]
  have hyl : (l ++ [0, 0]).length = l.length + 2 := by simp
  have hy2 : (((l ++ [0, 0] : List Int).length : Nat) : Int) = (l.length : Int) + 2 := by rw [hyl]; omega
  have hz : l.length + [(0 : Int), 0].length < 17592186044416 := by simp; omega
  refine ⟨addL l a b, true, by rw [addL_length]; omega, Ev.bind e1 ?_, Ev.bind e2 ?_, ?_, by simp, by simp⟩
  · simp only [if_true]
    refine Ev.shift ?_
    simp only [spec_AddEdge.j0, Bool.false_eq_true, if_false, Option.bind_some, List.nil_append, List.length_nil, Nat.zero_add, hw1, hy2]
    have c1 : l.length < 17592186044416 := by omega
    have c2 : a < (l.length : Int) + 2 := by omega
    have c3 : b < (l.length : Int) + 2 := by omega
    have c4 : (l.length : Int) < (l.length : Int) + 2 := by omega
    have c5 : (l.length : Int) + 1 < (l.length : Int) + 2 := by omega
    have c6 : (0 : Int) ≤ (l.length : Int) := by omega
    have c7 : (0 : Int) ≤ (l.length : Int) + 1 := by omega
    have t1 : ((l.length : Int) + 1).toNat = l.length + 1 := by omega
    simp only [hz, c1, c2, c3, c4, c5, c6, c7, ha.1, hb.1, if_true, Int.toNat_natCast, t1]
    unfold addL
    dsimp only
    by_cases hab : a = b
    · simp only [hab, if_true]; exact Ev.now _
    · simp only [hab, if_false]; exact Ev.now _
  · simp only [if_true]
    refine Ev.shift ?_
    simp only [impl_AddEdge.j0, Bool.false_eq_true, if_false, copyOf_eq l hl, Option.bind_some, hw1, hy2]
    have c2 : a < (l.length : Int) + 2 := by omega
    have c3 : b < (l.length : Int) + 2 := by omega
    have c4 : (l.length : Int) < (l.length : Int) + 2 := by omega
    have c5 : (l.length : Int) + 1 < (l.length : Int) + 2 := by omega
    have c6 : (0 : Int) ≤ (l.length : Int) := by omega
    have c7 : (0 : Int) ≤ (l.length : Int) + 1 := by omega
    have t1 : ((l.length : Int) + 1).toNat = l.length + 1 := by omega
    simp only [hz, c2, c3, c4, c5, c6, c7, ha.1, hb.1, if_true, Int.toNat_natCast, t1]
    unfold addL
    dsimp only
    by_cases hab : a = b
    · simp only [hab, if_true]; exact Ev.now _
    · simp only [hab, if_false]; exact Ev.now _
  · simp only [true_iff]; exact ⟨h, ⟨ha.1, by omega⟩, ⟨hb.1, by omega⟩, by omega⟩
theorem rd_set {l : List Int} {i : Nat} {x : Int} (j : Nat) (h : i < l.length) : rd (l.set i x) (j : Int) = if j = i then x else rd l (j : Int) := by
  rw [rd_nat, rd_nat, List.getD_eq_getElem?_getD, List.getD_eq_getElem?_getD, List.getElem?_set]
  by_cases e : i = j
  · subst e; rw [if_pos rfl, if_pos h, if_pos rfl]; rfl
  · rw [if_neg e, if_neg (fun k => e k.symm)]
theorem rd_left {l m : List Int} {j : Nat} (h : j < l.length) : rd (l ++ m) (j : Int) = rd l (j : Int) := by
  rw [rd_nat, rd_nat, List.getD_eq_getElem?_getD, List.getD_eq_getElem?_getD, List.getElem?_append_left h]
theorem add_nx {l : List Int} {a b : Nat} (ha : a < l.length) (hb : b < l.length) (d : Nat) (hd : d < l.length + 2) :
    rd (addL l a b) (d : Int) = if a = b then (if d = l.length then (l.length : Int) + 1 else if d = l.length + 1 then rd l a else if d = a then (l.length : Int) else rd l d)
      else (if d = b then (l.length : Int) + 1 else if d = l.length + 1 then rd l b else if d = a then (l.length : Int) else if d = l.length then rd l a else rd l d) := by
  unfold addL
  dsimp only
  have e2 : (l ++ [0, 0]).length = l.length + 2 := by simp
  have n1 : ((l.length : Int) + 1) = ((l.length + 1 : Nat) : Int) := by omega
  rw [rd_left ha]
  by_cases hab : a = b
  · subst hab
    rw [if_pos rfl, if_pos rfl]
    rw [Int.toNat_natCast, rd_set _ (by simp only [List.length_set, e2]; omega), rd_set _ (by simp only [List.length_set, e2]; omega), rd_set _ (by simp only [List.length_set, e2]; omega), rd_set _ (by simp only [List.length_set, e2]; omega), rd_set _ (by simp only [List.length_set, e2]; omega), rd_set _ (by simp only [List.length_set, e2]; omega)]
    have hna : ¬ l.length = a := by omega
    by_cases c1 : d = l.length
    · simp only [if_pos c1]
    · by_cases c2 : d = l.length + 1
      · simp only [if_neg c1, if_pos c2, if_neg hna, if_true]
      · by_cases c3 : d = a
        · simp only [if_neg c1, if_neg c2, if_pos c3]
        · simp only [if_neg c1, if_neg c2, if_neg c3]
          rw [rd_left (by omega)]
  · rw [if_neg (by omega), if_neg hab]
    rw [Int.toNat_natCast, Int.toNat_natCast, rd_set _ (by simp only [List.length_set, e2]; omega), rd_set _ (by simp only [List.length_set, e2]; omega), rd_set _ (by simp only [List.length_set, e2]; omega), rd_set _ (by simp only [List.length_set, e2]; omega), rd_set _ (by simp only [List.length_set, e2]; omega), rd_set _ (by simp only [List.length_set, e2]; omega)]
    have hba : ¬ b = a := fun e => hab e.symm
    have hbn : ¬ b = l.length := by omega
    by_cases c1 : d = b
    · simp only [if_pos c1]
    · by_cases c2 : d = l.length + 1
      · simp only [if_neg c1, if_pos c2, if_neg hba, if_neg hbn]
        rw [rd_left hb]
      · by_cases c3 : d = a
        · simp only [if_neg c1, if_neg c2, if_pos c3]
        · by_cases c4 : d = l.length
          · simp only [if_neg c1, if_neg c2, if_neg c3, if_pos c4]
          · simp only [if_neg c1, if_neg c2, if_neg c3, if_neg c4]
            rw [rd_left (by omega)]
theorem addN {l : List Int} (h : MapP l) {a b : Nat} (ha : a < l.length) (hb : b < l.length) (d : Nat) (hd : d < l.length + 2) :
    Joi.nx (addL l a b) d = (if a = b then (if d = l.length then l.length + 1 else if d = l.length + 1 then Joi.nx l a else if d = a then l.length else Joi.nx l d)
      else (if d = b then l.length + 1 else if d = l.length + 1 then Joi.nx l b else if d = a then l.length else if d = l.length then Joi.nx l a else Joi.nx l d)) ∧ rd (addL l a b) (d : Int) = ((Joi.nx (addL l a b) d : Nat) : Int) := by
  have e := add_nx ha hb d hd
  have hp := h.perm.1
  have k : ∀ z, z < l.length → rd l (z : Int) = ((Joi.nx l z : Nat) : Int) := fun z hz => (Joi.nx_lt hp hz).2
  have q : rd (addL l a b) (d : Int) = (((if a = b then (if d = l.length then l.length + 1 else if d = l.length + 1 then Joi.nx l a else if d = a then l.length else Joi.nx l d)
      else (if d = b then l.length + 1 else if d = l.length + 1 then Joi.nx l b else if d = a then l.length else if d = l.length then Joi.nx l a else Joi.nx l d)) : Nat) : Int) := by
    rw [e, k a ha, k b hb]
    by_cases hab : a = b
    · rw [if_pos hab, if_pos hab]
      by_cases c1 : d = l.length
      · rw [if_pos c1, if_pos c1]; omega
      · rw [if_neg c1, if_neg c1]
        by_cases c2 : d = l.length + 1
        · rw [if_pos c2, if_pos c2]
        · rw [if_neg c2, if_neg c2]
          by_cases c3 : d = a
          · rw [if_pos c3, if_pos c3]
          · rw [if_neg c3, if_neg c3]; exact k d (by omega)
    · rw [if_neg hab, if_neg hab]
      by_cases c1 : d = b
      · rw [if_pos c1, if_pos c1]; omega
      · rw [if_neg c1, if_neg c1]
        by_cases c2 : d = l.length + 1
        · rw [if_pos c2, if_pos c2]
        · rw [if_neg c2, if_neg c2]
          by_cases c3 : d = a
          · rw [if_pos c3, if_pos c3]
          · rw [if_neg c3, if_neg c3]
            by_cases c4 : d = l.length
            · rw [if_pos c4, if_pos c4]
            · rw [if_neg c4, if_neg c4]; exact k d (by omega)
  have q2 : Joi.nx (addL l a b) d = (if a = b then (if d = l.length then l.length + 1 else if d = l.length + 1 then Joi.nx l a else if d = a then l.length else Joi.nx l d)
      else (if d = b then l.length + 1 else if d = l.length + 1 then Joi.nx l b else if d = a then l.length else if d = l.length then Joi.nx l a else Joi.nx l d)) := by
    unfold Joi.nx at q ⊢
    rw [q, Int.toNat_natCast]
  exact ⟨q2, by rw [q2]; exact q⟩
theorem add_ok {l : List Int} (h : MapP l) {a b : Nat} (ha : a < l.length) (hb : b < l.length) (h24 : l.length + 2 ≤ 24) : Joi.PermOk (addL l a b) := by
  have hp := h.perm
  have hlen := addL_length l a b
  have lt : ∀ z, z < l.length → Joi.nx l z < l.length := fun z hz => (Joi.nx_lt hp.1 hz).1
  have inj : ∀ u v, u < l.length → v < l.length → Joi.nx l u = Joi.nx l v → u = v := fun u v hu hv e => Joi.nx_inj hp hu hv e
  refine ⟨⟨by omega, by have := h.2.1; omega, fun d hd => ?_⟩, fun i j hi hj hij => ?_⟩
  · rw [hlen] at hd ⊢
    obtain ⟨q1, q2⟩ := addN h ha hb d hd
    refine ⟨_, ?_, q2⟩
    rw [q1]
    have la := lt a ha
    have lb := lt b hb
    by_cases hd2 : d < l.length
    · have ld := lt d hd2
      repeat' split
      all_goals omega
    · repeat' split
      all_goals omega
  · rw [hlen] at hi hj
    have hper := Joi.sgL_per hp
    have key : ∀ d, d < l.length + 2 → Joi.nx (addL l a b) d = Joi.sgL l (Kl.sw a l.length (Kl.sw (if a = b then l.length else b) (l.length + 1) d)) := fun d hd => by
      rw [(addN h ha hb d hd).1]
      have sg : ∀ z, z < l.length → Joi.sgL l z = Joi.nx l z := fun z hz => Joi.sgL_lt hz
      have so : ∀ z, ¬ z < l.length → Joi.sgL l z = z := fun z hz => hper.2.2 z hz
      by_cases hab : a = b
      · rw [if_pos hab, if_pos hab]
        by_cases c1 : d = l.length
        · rw [if_pos c1, c1, Kl.sw_a, Kl.sw_ne (by omega) (by omega), so _ (by omega)]
        · rw [if_neg c1]
          by_cases c2 : d = l.length + 1
          · rw [if_pos c2, c2, Kl.sw_b, Kl.sw_b, sg a ha]
          · rw [if_neg c2, Kl.sw_ne c1 c2]
            by_cases c3 : d = a
            · rw [if_pos c3, c3, Kl.sw_a, so _ (by omega)]
            · rw [if_neg c3, Kl.sw_ne c3 c1, sg d (by omega)]
      · rw [if_neg hab, if_neg hab]
        by_cases c1 : d = b
        · rw [if_pos c1, c1, Kl.sw_a, Kl.sw_ne (by omega) (by omega), so _ (by omega)]
        · rw [if_neg c1]
          by_cases c2 : d = l.length + 1
          · rw [if_pos c2, c2, Kl.sw_b, Kl.sw_ne (fun e => hab e.symm) (by omega), sg b hb]
          · rw [if_neg c2, Kl.sw_ne c1 c2]
            by_cases c3 : d = a
            · rw [if_pos c3, c3, Kl.sw_a, so _ (by omega)]
            · rw [if_neg c3]
              by_cases c4 : d = l.length
              · rw [if_pos c4, c4, Kl.sw_b, sg a ha]
              · rw [if_neg c4, Kl.sw_ne c3 c4, sg d (by omega)]
    rw [(addN h ha hb i hi).2, (addN h ha hb j hj).2] at hij
    have hij' := Int.ofNat.inj hij
    rw [key i hi, key j hj] at hij'
    have h1 := hper.1 _ _ hij'
    have h2 : Kl.sw (if a = b then l.length else b) (l.length + 1) i = Kl.sw (if a = b then l.length else b) (l.length + 1) j := by rw [← Kl.sw_sw a l.length (Kl.sw _ _ i), h1, Kl.sw_sw]
    rw [← Kl.sw_sw (if a = b then l.length else b) (l.length + 1) i, h2, Kl.sw_sw]
theorem add_drop {l : List Int} (h : MapP l) {a b : Nat} (ha : a < l.length) (hb : b < l.length) (h24 : l.length + 2 ≤ 24) : Joi.dropTo (addL l a b) (l.length / 2) (l.length + 2) = l := by
  have hp := h.perm
  have hok := add_ok h ha hb h24
  have hev := h.2.1
  have hlen := addL_length l a b
  have hA : 2 * (l.length / 2) + 1 < (addL l a b).length := by omega
  have lt : ∀ z, z < l.length → Joi.nx l z < l.length := fun z hz => (Joi.nx_lt hp.1 hz).1
  have hd := Joi.drop_ok hok hA
  rw [hlen] at hd
  have hdl := Joi.dropTo_all hok hA
  rw [hlen] at hdl
  refine eq_nx hp hd (by omega) fun d hdd => ?_
  have hg : d / 2 ≠ l.length / 2 := by omega
  have h1 := Joi.drop_nx hok hA (d := d) (by omega) hg
  rw [hlen] at h1
  have hnm : Joi.nmN (l.length / 2) d = d := (Joi.nmN_eq _ d).1 (by omega)
  rw [hnm, Joi.sgL_lt (by omega)] at h1
  rw [h1]
  have hf : Joi.flN (addL l a b) (l.length / 2) d = Joi.nx l d := by
    have nd := (addN h ha hb d (by omega)).1
    have nn := (addN h ha hb l.length (by omega)).1
    have nm := (addN h ha hb (l.length + 1) (by omega)).1
    have ld := lt d hdd
    have la := lt a ha
    have lb := lt b hb
    unfold Joi.flN
    by_cases hab : a = b
    · rw [if_pos hab, if_neg (by omega), if_neg (by omega)] at nd
      rw [if_pos hab, if_pos rfl] at nn
      rw [if_pos hab, if_neg (by omega), if_pos rfl] at nm
      by_cases c : d = a
      · rw [if_pos c] at nd
        rw [nd, nn, nm, if_neg (by omega), if_neg (by omega), c]
      · rw [if_neg c] at nd
        rw [nd, if_pos (by omega)]
    · rw [if_neg hab, if_neg (show ¬ d = l.length + 1 by omega), if_neg (show ¬ d = l.length by omega)] at nd
      rw [if_neg hab, if_neg (by omega), if_neg (by omega), if_neg (by omega), if_pos rfl] at nn
      rw [if_neg hab, if_neg (by omega), if_pos rfl] at nm
      by_cases c0 : d = b
      · rw [if_pos c0] at nd
        rw [nd, nm, if_neg (by omega), if_pos (by omega), c0]
      · rw [if_neg c0] at nd
        by_cases c : d = a
        · rw [if_pos c] at nd
          rw [nd, nn, if_neg (by omega), if_pos (by omega), c]
        · rw [if_neg c] at nd
          rw [nd, if_pos (by omega)]
  rw [hf]
  exact (Joi.nmN_eq _ _).1 (by have := lt d hdd; omega)
theorem few_of_sub (l : List Int) : ∀ (m : List Int), l.Nodup → (∀ x ∈ l, x ∈ m) → l.length ≤ m.length := by
  induction l with
  | nil => intro m _ _; simp
  | cons x t ih =>
    intro m hn hs
    obtain ⟨h1, h2⟩ := List.nodup_cons.1 hn
    have hx : x ∈ m := hs x List.mem_cons_self
    have := ih (m.erase x) h2 (fun y hy => (List.mem_erase_of_ne (show y ≠ x by rintro rfl; exact h1 hy)).2 (hs y (List.mem_cons_of_mem _ hy)))
    rw [List.length_erase_of_mem hx] at this
    have : 0 < m.length := List.length_pos_of_mem hx
    simp only [List.length_cons]; omega
theorem perm_mem {l : List Int} (h : PermP l) {d : Nat} (hd : d < l.length) : (d : Int) ∈ l := by
  apply Classical.byContradiction
  intro hm
  have hin : (d : Int) ∈ (List.range l.length).map fun (i : Nat) => (i : Int) := List.mem_map.2 ⟨d, List.mem_range.2 hd, rfl⟩
  have := few_of_sub l (((List.range l.length).map fun (i : Nat) => (i : Int)).erase (d : Int)) h.2 (fun x hx => by
    have hr := h.1 x hx
    refine (List.mem_erase_of_ne (show x ≠ (d : Int) by rintro rfl; exact hm hx)).2 (List.mem_map.2 ⟨x.toNat, List.mem_range.2 (by omega), by omega⟩))
  rw [List.length_erase_of_mem hin, List.length_map, List.length_range] at this
  omega
theorem perm_at {l : List Int} (h : PermP l) {d : Nat} (hd : d < l.length) : ∃ p, ∃ hp : p < l.length, l[p] = (d : Int) ∧ ∀ q, ∀ hq : q < l.length, l[q] = (d : Int) → q = p := by
  obtain ⟨p, hp, e⟩ := List.getElem_of_mem (perm_mem h hd)
  exact ⟨p, hp, e, fun q hq e' => (List.getElem_inj h.2).1 (e'.trans e.symm)⟩
theorem indexOf_ev (l : List Int) (hl : l.length ≤ 1048576) (x : Int) (p : Nat) (hp : p < l.length) (hx : l[p] = x) (hu : ∀ q, ∀ hq : q < l.length, l[q] = x → q = p) : Ev (fun k => impl_indexOf.f k l x) (p : Int) := by
  unfold impl_indexOf.f
  suffices H : ∀ (d i : Nat), i + d = p → Ev (fun k => impl_indexOf.l0 k x l l.length i) (p : Int) by exact H p 0 (by omega)
  intro d
  induction d with
  | zero =>
    intro i hi
    obtain rfl : i = p := by omega
    refine Ev.step (f := fun _ => some (i : Int)) (fun k => ?_) (Ev.now _)
    simp only [impl_indexOf.l0]
    rw [if_pos (by omega), if_pos (by omega), if_pos (by omega), rd_lt hp, if_pos hx]
  | succ d ih =>
    intro i hi
    have hlt : i < l.length := by omega
    refine Ev.step (fun k => ?_) (ih (i + 1) (by omega))
    simp only [impl_indexOf.l0]
    rw [if_pos (by omega), if_pos (by omega), if_pos (by omega), rd_lt hlt, if_neg (fun e => by have := hu i hlt e; omega), w64s (n := l.length) hlt (by omega)]
def subL (l : List Int) (d p : Nat) : List Int :=
  let y := ((l ++ [(d : Int), 0]).set p ((l.length : Int) + 1)).set (l.length + 1) (rd l d)
  if rd l d = d then (y.set (l.length + 1) ((l.length : Int) + 1)).set d l.length else y.set d l.length
theorem subL_length (l : List Int) (d p : Nat) : (subL l d p).length = l.length + 2 := by unfold subL; dsimp only; split <;> simp
theorem subS_l (l : List Int) (hl : l.length ≤ 24) (d p : Nat) (hd : d < l.length) (hp : p < l.length) (hx : l[p] = (d : Int)) (hu : ∀ q, ∀ hq : q < l.length, l[q] = (d : Int) → q = p) : ∀ (e i : Nat) (y : List Int), i + e = l.length → y = (if i ≤ p then l ++ [(d : Int), 0] else (l ++ [(d : Int), 0]).set p ((l.length : Int) + 1)) → Ev (fun k => spec_SubdivideEdge.l0 k l l.length d y i) (subL l d p, true) := by
  have hw1 : wrap64 ((l.length : Int) + 1) = (l.length : Int) + 1 := w64 (by omega) (by omega)
  have hyl : ∀ z, ((l ++ [(d : Int), 0]).set p z).length = l.length + 2 := by simp
  intro e
  induction e with
  | zero =>
    intro i y hi hy
    rw [if_neg (by omega)] at hy
    refine Ev.shift ?_
    have hy2 : ((((l ++ [(d : Int), 0]).set p ((l.length : Int) + 1)).length : Nat) : Int) = (l.length : Int) + 2 := by rw [hyl]; omega
    have c1 : ¬ ((i : Int) < (l.length : Int)) := by omega
    have c2 : (0 : Int) ≤ (d : Int) := by omega
    have c3 : (d : Int) < (l.length : Int) := by omega
    have c4 : (0 : Int) ≤ (l.length : Int) + 1 := by omega
    have c5 : (l.length : Int) + 1 < (l.length : Int) + 2 := by omega
    have c6 : (d : Int) < (l.length : Int) + 2 := by omega
    have t1 : ((l.length : Int) + 1).toNat = l.length + 1 := by omega
    subst hy
    simp only [spec_SubdivideEdge.l0, hw1, hy2, c1, c2, c3, c4, c5, c6, if_true, if_false, t1, Option.bind_some, Int.toNat_natCast]
    unfold subL
    dsimp only
    by_cases h : rd l d = d
    · simp only [h, if_true]; exact Ev.now _
    · simp only [h, if_false]; exact Ev.now _
  | succ e ih =>
    intro i y hi hy
    have hlt : i < l.length := by omega
    have hyL : y.length = l.length + 2 := by rw [hy]; split <;> simp
    by_cases hip : i = p
    · refine Ev.step (fun k => ?_) (ih (i + 1) (y.set i ((l.length : Int) + 1)) (by omega) ?_)
      · simp only [spec_SubdivideEdge.l0]
        subst hip
        rw [if_pos (by omega), if_pos (by omega), if_pos (by omega), rd_lt hlt, if_pos hx, if_pos (by omega), w64s (n := l.length) hlt (by omega), hw1, Int.toNat_natCast]
      · rw [if_neg (by omega), hy, if_pos (by omega), hip]
    · refine Ev.step (fun k => ?_) (ih (i + 1) y (by omega) ?_)
      · simp only [spec_SubdivideEdge.l0]
        rw [if_pos (by omega), if_pos (by omega), if_pos (by omega), rd_lt hlt, if_neg (fun e => hip (hu i hlt e)), w64s (n := l.length) hlt (by omega)]
      · rw [hy]
        by_cases h : i ≤ p
        · rw [if_pos h, if_pos (by omega)]
        · rw [if_neg h, if_neg (by omega)]
theorem subdivide_ev (l : List Int) (e : Int) (hl : l.length ≤ 1048576) : ∃ (r : List Int) (o : Bool), r.length ≤ 1048576 ∧ Ev (fun k => spec_SubdivideEdge.f k l e) (r, o) ∧ Ev (fun k => impl_SubdivideEdge.f k l e) (r, o) ∧
    (o = true ↔ MapP l ∧ (0 ≤ e ∧ 2 * e < l.length) ∧ l.length + 2 ≤ 24) ∧ (o = true → ∃ (d p : Nat), (d : Int) = 2 * e + 1 ∧ d < l.length ∧ (∃ hp : p < l.length, l[p] = (d : Int)) ∧ r = subL l d p) ∧ (o = false → r = []) := by
  obtain ⟨e1, e2⟩ := isMap_ev l hl
  have hno1 : Ev (fun k => spec_SubdivideEdge.j0 k l e true) (([] : List Int), false) := by
    refine Ev.shift ?_; simp only [spec_SubdivideEdge.j0, if_true]; exact Ev.now _
  have hno2 : Ev (fun k => impl_SubdivideEdge.j0 k l e true) (([] : List Int), false) := by
    refine Ev.shift ?_; simp only [impl_SubdivideEdge.j0, if_true]; exact Ev.now _
  unfold spec_SubdivideEdge.f impl_SubdivideEdge.f
  by_cases h : MapP l
  case neg =>
    rw [decide_eq_false h] at e1 e2
    refine ⟨[], false, by simp, Ev.bind e1 ?_, Ev.bind e2 ?_, by simp [h], by simp, by simp⟩
    · simpa using hno1
    · simpa using hno2
  rw [decide_eq_true h] at e1 e2
  have h24 := h.1.2
  have hev := h.2.1
  have hq : wrap64 ((l.length : Int) / 2) = (l.length : Int) / 2 := w64 (by omega) (by omega)
  have hw : wrap64 ((l.length : Int) / 2 - 1) = (l.length : Int) / 2 - 1 := w64 (by omega) (by omega)
  have hw2 : wrap64 ((l.length : Int) + 2) = (l.length : Int) + 2 := w64 (by omega) (by omega)
  have hw1 : wrap64 ((l.length : Int) + 1) = (l.length : Int) + 1 := w64 (by omega) (by omega)
  simp only [within_eq, l1In_eq, Option.bind_some, hq, hw, hw2]
  by_cases ha : 0 ≤ e ∧ e ≤ (l.length : Int) / 2 - 1
  case neg =>
    rw [decide_eq_false ha]
    refine ⟨[], false, by simp, Ev.bind e1 ?_, Ev.bind e2 ?_, ?_, by simp, by simp⟩
    · simpa using hno1
    · simpa using hno2
    · simp only [Bool.false_eq_true, false_iff]; rintro ⟨_, hx, _⟩; exact ha ⟨hx.1, by omega⟩
  rw [decide_eq_true ha]
  by_cases hm : (l.length : Int) + 2 > 24
  · rw [decide_eq_true hm]
    refine ⟨[], false, by simp, Ev.bind e1 ?_, Ev.bind e2 ?_, ?_, by simp, by simp⟩
    · simpa using hno1
    · simpa using hno2
    · simp only [Bool.false_eq_true, false_iff]; rintro ⟨_, _, hx⟩; omega
  rw [decide_eq_false hm]
  obtain ⟨d, hd⟩ : ∃ d : Nat, (d : Int) = 2 * e + 1 := ⟨(2 * e + 1).toNat, by omega⟩
  have hdl : d < l.length := by omega
  obtain ⟨p, hp, hx, hu⟩ := perm_at h.2.2 hdl
  have hd1 : wrap64 (2 * e) = 2 * e := w64 (by omega) (by omega)
  have hd2 : wrap64 (2 * e + 1) = (d : Int) := by rw [w64 (by omega) (by omega)]; omega
  have hI := indexOf_ev l hl d p hp hx hu
  have hz : l.length + [(0 : Int), 0].length < 17592186044416 := by simp; omega
  have hz' : l.length + [(d : Int), 0].length < 17592186044416 := by simp; omega
  have hy2 : (((l ++ [0, 0] : List Int).length : Nat) : Int) = (l.length : Int) + 2 := by simp
  have c0 : l.length < 17592186044416 := by omega
  refine ⟨subL l d p, true, by rw [subL_length]; omega, Ev.bind e1 ?_, Ev.bind e2 ?_, ?_, fun _ => ⟨d, p, hd, hdl, ⟨hp, hx⟩, rfl⟩, by simp⟩
  · simp only [if_true]
    refine Ev.shift ?_
    simp only [spec_SubdivideEdge.j0, Bool.false_eq_true, if_false, Option.bind_some, List.nil_append, List.length_nil, Nat.zero_add, hd1, hd2, hz', c0, if_true]
    exact subS_l l h24 d p hdl hp hx hu l.length 0 _ (by omega) (by rw [if_pos (by omega)])
  · simp only [if_true]
    refine Ev.shift ?_
    have c2 : (0 : Int) ≤ (d : Int) := by omega
    have c3 : (d : Int) < (l.length : Int) := by omega
    have c4 : (0 : Int) ≤ (l.length : Int) + 1 := by omega
    have c5 : (l.length : Int) + 1 < (l.length : Int) + 2 := by omega
    have c6 : (d : Int) < (l.length : Int) + 2 := by omega
    have c7 : (0 : Int) ≤ (l.length : Int) := by omega
    have c8 : (l.length : Int) < (l.length : Int) + 2 := by omega
    have c9 : (0 : Int) ≤ (p : Int) := by omega
    have c10 : (p : Int) < (l.length : Int) + 2 := by omega
    have t1 : ((l.length : Int) + 1).toNat = l.length + 1 := by omega
    have hsw : ∀ z : Int, (l ++ [z, 0]) = (l ++ [0, 0]).set l.length z := by
      intro z; rw [List.set_append]; simp
    simp only [impl_SubdivideEdge.j0, Bool.false_eq_true, if_false, copyOf_eq l hl, Option.bind_some, hz, hd1, hd2, hw1, hy2, c2, c3, c4, c5, c6, c7, c8, if_true, t1, Int.toNat_natCast]
    by_cases hs : rd l d = d
    · have hpd : p = d := (hu d hdl (by rw [rd_lt hdl] at hs; exact hs)).symm
      have : subL l d p = ((((l ++ [0, 0]).set (l.length + 1) ((l.length : Int) + 1)).set d l.length).set l.length d) := by
        unfold subL
        dsimp only
        rw [if_pos hs, hsw, hpd]
        apply List.ext_getElem (by simp)
        intro i h1 h2
        simp only [List.getElem_set]
        by_cases i1 : d = i
        · subst i1; simp [show ¬ l.length = d by omega]
        · by_cases i2 : l.length = i
          · subst i2; simp [i1]
          · by_cases i3 : l.length + 1 = i
            · subst i3; simp [i1]
            · simp [i1, i2, i3]
      simp only [hs, if_true]
      rw [this]
      exact Ev.now _
    · have : subL l d p = (((((l ++ [0, 0]).set p ((l.length : Int) + 1)).set (l.length + 1) (rd l d)).set d l.length).set l.length d) := by
        unfold subL
        dsimp only
        rw [if_neg hs, hsw]
        apply List.ext_getElem (by simp)
        intro i h1 h2
        simp only [List.getElem_set]
        by_cases i1 : d = i
        · subst i1; simp [show ¬ l.length = d by omega]
        · by_cases i2 : l.length = i
          · subst i2; simp [i1, show ¬ p = l.length by omega]
          · by_cases i3 : l.length + 1 = i
            · subst i3; simp [i1]
            · simp [i1, i2, i3]
      simp only [hs, if_false]
      refine Ev.bind hI ?_
      simp only [c9, c10, if_true, Int.toNat_natCast]
      rw [this]
      exact Ev.now _
  · simp only [true_iff]; exact ⟨h, ⟨ha.1, by omega⟩, by omega⟩
theorem sub_rd {l : List Int} {d p : Nat} (hd : d < l.length) (hp : p < l.length) (z : Nat) (hz : z < l.length + 2) :
    rd (subL l d p) (z : Int) = if z = d then (l.length : Int) else if z = l.length + 1 then (if rd l d = d then (l.length : Int) + 1 else rd l d) else if z = p then (l.length : Int) + 1 else if z = l.length then (d : Int) else rd l z := by
  have app : ∀ z, z < l.length + 2 → rd (l ++ [(d : Int), 0]) (z : Int) = if z = l.length then (d : Int) else if z = l.length + 1 then 0 else rd l z := fun z hz => by
    by_cases c : z < l.length
    · rw [rd_left c, if_neg (by omega), if_neg (by omega)]
    · rw [rd_nat, List.getD_eq_getElem?_getD, List.getElem?_append_right (by omega)]
      rcases (show z = l.length ∨ z = l.length + 1 by omega) with rfl | rfl
      · rw [if_pos rfl, Nat.sub_self]; rfl
      · rw [if_neg (by omega), if_pos rfl, Nat.add_sub_cancel_left]; rfl
  have e2 : (l ++ [(d : Int), 0]).length = l.length + 2 := by simp
  unfold subL
  dsimp only
  by_cases hdd : rd l d = d
  · rw [if_pos hdd, if_pos hdd, rd_set _ (by simp only [List.length_set, e2]; omega), rd_set _ (by simp only [List.length_set, e2]; omega), rd_set _ (by simp only [List.length_set, e2]; omega), rd_set _ (by simp only [List.length_set, e2]; omega), app z hz]
    by_cases c1 : z = d
    · rw [if_pos c1, if_pos c1]
    · rw [if_neg c1, if_neg c1]
      by_cases c2 : z = l.length + 1
      · rw [if_pos c2, if_pos c2]
      · rw [if_neg c2, if_neg c2, if_neg c2, if_neg c2]
  · rw [if_neg hdd, if_neg hdd, rd_set _ (by simp only [List.length_set, e2]; omega), rd_set _ (by simp only [List.length_set, e2]; omega), rd_set _ (by simp only [List.length_set, e2]; omega), app z hz]
    by_cases c1 : z = d
    · rw [if_pos c1, if_pos c1]
    · rw [if_neg c1, if_neg c1]
      by_cases c2 : z = l.length + 1
      · rw [if_pos c2, if_pos c2]
      · rw [if_neg c2, if_neg c2, if_neg c2]
theorem sub_ok {l : List Int} (h : MapP l) {d p : Nat} (hd : d < l.length) (hp : p < l.length) (hx : Joi.nx l p = d) (ho : d % 2 = 1) (h24 : l.length + 2 ≤ 24) : Joi.SubOk l (subL l d p) d := by
  have hP := h.perm
  have lt : ∀ z, z < l.length → Joi.nx l z < l.length := fun z hz => (Joi.nx_lt hP.1 hz).1
  have k : ∀ z, z < l.length → rd l (z : Int) = ((Joi.nx l z : Nat) : Int) := fun z hz => (Joi.nx_lt hP.1 hz).2
  have hlen := subL_length l d p
  have q : ∀ z, z < l.length + 2 → rd (subL l d p) (z : Int) = (((if z = d then l.length else if z = l.length + 1 then (if Joi.nx l d = d then l.length + 1 else Joi.nx l d) else if z = p then l.length + 1 else if z = l.length then d else Joi.nx l z) : Nat) : Int) := fun z hz => by
    rw [sub_rd hd hp z hz, k d hd]
    by_cases c1 : z = d
    · rw [if_pos c1, if_pos c1]
    · rw [if_neg c1, if_neg c1]
      by_cases c2 : z = l.length + 1
      · rw [if_pos c2, if_pos c2]
        by_cases c5 : Joi.nx l d = d
        · rw [if_pos c5, if_pos (by omega)]; omega
        · rw [if_neg c5, if_neg (by omega)]
      · rw [if_neg c2, if_neg c2]
        by_cases c3 : z = p
        · rw [if_pos c3, if_pos c3]; omega
        · rw [if_neg c3, if_neg c3]
          by_cases c4 : z = l.length
          · rw [if_pos c4, if_pos c4]
          · rw [if_neg c4, if_neg c4]; exact k z (by omega)
  have nq : ∀ z, z < l.length + 2 → Joi.nx (subL l d p) z = if z = d then l.length else if z = l.length + 1 then (if Joi.nx l d = d then l.length + 1 else Joi.nx l d) else if z = p then l.length + 1 else if z = l.length then d else Joi.nx l z := fun z hz => by
    have := q z hz
    unfold Joi.nx at this ⊢
    rw [this, Int.toNat_natCast]
  have inj : ∀ u v, u < l.length → v < l.length → Joi.nx l u = Joi.nx l v → u = v := fun u v hu hv e => Joi.nx_inj hP hu hv e
  have ld := lt d hd
  refine ⟨hP, ⟨⟨by omega, by have := h.2.1; omega, fun z hz => ?_⟩, fun i j hi hj hij => ?_⟩, hlen, hd, ho, fun z hz hne => ?_, ?_, ?_, ?_⟩
  · rw [hlen] at hz ⊢
    refine ⟨_, ?_, q z hz⟩
    have lz : z < l.length → Joi.nx l z < l.length := lt z
    repeat' split
    all_goals omega
  · rw [hlen] at hi hj
    have hper := Joi.sgL_per hP
    have key : ∀ z, z < l.length + 2 → Joi.nx (subL l d p) z = Kl.sw d (l.length + 1) (Joi.sgL l (Kl.sw d (l.length + 1) (Kl.sw d l.length z))) := fun z hz => by
      rw [nq z hz]
      have sg : ∀ z, z < l.length → Joi.sgL l z = Joi.nx l z := fun z hz => Joi.sgL_lt hz
      have so : ∀ z, ¬ z < l.length → Joi.sgL l z = z := fun z hz => hper.2.2 z hz
      by_cases c1 : z = d
      · rw [if_pos c1, c1, Kl.sw_a, Kl.sw_ne (show l.length ≠ d by omega) (by omega), so _ (by omega), Kl.sw_ne (by omega) (by omega)]
      · rw [if_neg c1]
        by_cases c2 : z = l.length + 1
        · rw [if_pos c2, c2, Kl.sw_ne (show l.length + 1 ≠ d by omega) (by omega), Kl.sw_b, sg d hd]
          by_cases c5 : Joi.nx l d = d
          · rw [if_pos c5, c5, Kl.sw_a]
          · rw [if_neg c5, Kl.sw_ne c5 (by omega)]
        · rw [if_neg c2]
          by_cases c3 : z = p
          · rw [if_pos c3, c3, Kl.sw_ne (show p ≠ d from fun e => c1 (c3.trans e)) (by omega), Kl.sw_ne (show p ≠ d from fun e => c1 (c3.trans e)) (by omega), sg p hp, hx, Kl.sw_a]
          · rw [if_neg c3]
            by_cases c4 : z = l.length
            · rw [if_pos c4, c4, Kl.sw_b, Kl.sw_a, so _ (by omega), Kl.sw_b]
            · have hzl : z < l.length := by omega
              have := lt z hzl
              rw [if_neg c4, Kl.sw_ne c1 c4, Kl.sw_ne c1 c2, sg z hzl, Kl.sw_ne (fun e => c3 (inj z p hzl hp (e.trans hx.symm))) (by omega)]
    have n2 : ∀ z, z < l.length + 2 → rd (subL l d p) (z : Int) = ((Joi.nx (subL l d p) z : Nat) : Int) := fun z hz => by rw [q z hz, nq z hz]
    rw [n2 i hi, n2 j hj] at hij
    have hij' := Int.ofNat.inj hij
    rw [key i hi, key j hj] at hij'
    have h0 : Joi.sgL l (Kl.sw d (l.length + 1) (Kl.sw d l.length i)) = Joi.sgL l (Kl.sw d (l.length + 1) (Kl.sw d l.length j)) := by rw [← Kl.sw_sw d (l.length + 1) (Joi.sgL l _), hij', Kl.sw_sw]
    have h1 := hper.1 _ _ h0
    have h2 : Kl.sw d l.length i = Kl.sw d l.length j := by rw [← Kl.sw_sw d (l.length + 1) (Kl.sw _ _ i), h1, Kl.sw_sw]
    rw [← Kl.sw_sw d l.length i, h2, Kl.sw_sw]
  · rw [nq z (by omega), if_neg hne, if_neg (by omega)]
    by_cases c3 : z = p
    · rw [if_pos c3, if_pos (by rw [c3]; exact hx)]
    · rw [if_neg c3, if_neg (by omega), if_neg (fun e => c3 (inj z p hz hp (e.trans hx.symm)))]
  · rw [nq d (by omega), if_pos rfl]
  · rw [nq _ (by omega), if_neg (by omega), if_neg (by omega), if_neg (by omega), if_pos rfl]
  · rw [nq _ (by omega), if_neg (by omega), if_pos rfl]
theorem half_nat (d : Nat) (h : d ≤ 1048576) : wrap64 (Int.tdiv (d : Int) 2) = ((d / 2 : Nat) : Int) := by
  rw [Int.tdiv_eq_ediv_of_nonneg (by omega), w64 (by omega) (by omega)]; omega
theorem dropS_1 (l : List Int) (h : Joi.PermOk l) (a d : Nat) (acc : List Int) (ha : acc.length ≤ 1048576) (res : List Int × Bool) : ∀ (n i r : Nat), i < l.length → Joi.fol l a n i r → Ev (fun k => spec_DropEdge.l0 k l a (acc ++ [((Joi.nmN a r : Nat) : Int)]) (wrap64 ((d : Int) + 1))) res → Ev (fun k => spec_DropEdge.l1 k l a acc d i) res := by
  have h24 := h.1.1
  intro n
  induction n with
  | zero =>
    intro i r hi hf hE
    obtain ⟨rfl, hg⟩ := hf
    refine Ev.step (fun k => ?_) hE
    simp only [spec_DropEdge.l1, half_nat i (by omega)]
    have hn := Joi.nmN_eq a i
    have hv : wrap64 ((i : Int) - wrap64 (2 * (if decide (((i / 2 : Nat) : Int) > (a : Int)) = true then 1 else 0))) = ((Joi.nmN a i : Nat) : Int) := by
      by_cases c : ((i / 2 : Nat) : Int) > (a : Int)
      · rw [decide_eq_true c, if_pos rfl, w64 (x := 2 * 1) (by omega) (by omega), w64 (by omega) (by omega)]
        have := hn.2.2 (by omega); omega
      · rw [decide_eq_false c, if_neg Bool.false_ne_true, w64 (x := 2 * 0) (by omega) (by omega), w64 (by omega) (by omega)]
        have := hn.1 (by omega); omega
    have hb : ∀ b : Bool, spec_l1Bit.f b = some (if b = true then 1 else 0) := fun b => by cases b <;> rfl
    rw [if_neg (by omega), hb, Option.bind_some, if_pos (by omega), hv]
  | succ n ih =>
    intro i r hi hf hE
    obtain ⟨hg, hf⟩ := hf
    obtain ⟨h1, h2⟩ := Joi.nx_lt h.1 hi
    refine Ev.step (fun k => ?_) (ih (Joi.nx l i) r h1 hf hE)
    simp only [spec_DropEdge.l1, half_nat i (by omega)]
    rw [if_pos (by omega), if_pos (by omega), if_pos (by omega), h2]
theorem dropS_0 (l : List Int) (h : Joi.PermOk l) (a : Nat) : ∀ (e d : Nat), d + e = l.length → Ev (fun k => spec_DropEdge.l0 k l a (Joi.dropTo l a d) d) (Joi.dropTo l a l.length, true) := by
  have h24 := h.1.1
  intro e
  induction e with
  | zero =>
    intro d hd
    obtain rfl : d = l.length := by omega
    refine Ev.step (f := fun _ => some (Joi.dropTo l a l.length, true)) (fun k => ?_) (Ev.now _)
    simp only [spec_DropEdge.l0]; rw [if_neg (by omega)]
  | succ e ih =>
    intro d hd
    have hlt : d < l.length := by omega
    have hl := Joi.dropTo_len l a d
    by_cases hg : d / 2 = a
    · have := ih (d + 1) (by omega)
      rw [Joi.dropTo_neg l hg] at this
      refine Ev.step (fun k => ?_) this
      simp only [spec_DropEdge.l0, half_nat d (by omega)]
      rw [if_pos (by omega), if_pos (by omega), w64s hlt (by omega)]
    · have := ih (d + 1) (by omega)
      rw [Joi.dropTo_pos l hg] at this
      obtain ⟨n, _, hf⟩ := Joi.flN_fol h hlt hg
      obtain ⟨h1, h2⟩ := Joi.nx_lt h.1 hlt
      rw [← w64s hlt (by omega)] at this
      refine Ev.step (fun k => ?_) (dropS_1 l h a d (Joi.dropTo l a d) (by omega) _ n (Joi.nx l d) _ h1 hf this)
      simp only [spec_DropEdge.l0, half_nat d (by omega)]
      rw [if_pos (by omega), if_neg (by omega), if_pos (by omega), h2]
theorem dropEdge_ev (l : List Int) (a : Int) (hl : l.length ≤ 1048576) : ∃ (r : List Int) (o : Bool), r.length ≤ 1048576 ∧ Ev (fun k => spec_DropEdge.f k l a) (r, o) ∧ Ev (fun k => impl_DropEdge.f k l a) (r, o) ∧
    (o = true ↔ MapP l ∧ (0 ≤ a ∧ 2 * a < l.length) ∧ l.length ≠ 2) ∧ (o = true → r = Joi.dropTo l a.toNat l.length) := by
  obtain ⟨e1, e2⟩ := isMap_ev l hl
  have hno : Ev (fun k => spec_DropEdge.j0 k l a true) (([] : List Int), false) := by
    refine Ev.shift ?_; simp only [spec_DropEdge.j0, if_true]; exact Ev.now _
  unfold spec_DropEdge.f impl_DropEdge.f
  by_cases h : MapP l
  case neg =>
    rw [decide_eq_false h] at e1 e2
    refine ⟨[], false, by simp, Ev.bind e1 ?_, Ev.bind e2 (Ev.now _), by simp [h], by simp⟩
    simpa using hno
  rw [decide_eq_true h] at e1 e2
  have h24 := h.1.2
  have hev := h.2.1
  have hq : wrap64 ((l.length : Int) / 2) = (l.length : Int) / 2 := w64 (by omega) (by omega)
  have hw : wrap64 ((l.length : Int) / 2 - 1) = (l.length : Int) / 2 - 1 := w64 (by omega) (by omega)
  by_cases h2 : l.length = 2
  · refine ⟨[], false, by simp, Ev.bind e1 ?_, Ev.bind e2 ?_, by simp [h2], by simp⟩
    · simp only [if_true]; exact Ev.congr (fun k => if_pos (by omega)) hno
    · simp only [if_true]
      by_cases ha : 0 ≤ a ∧ a ≤ (l.length : Int) / 2 - 1
      · rw [if_pos ha, if_pos h2]; exact Ev.now _
      · rw [if_neg ha, if_pos hl]; exact Ev.now _
  by_cases ha : 0 ≤ a ∧ a ≤ (l.length : Int) / 2 - 1
  case neg =>
    refine ⟨[], false, by simp, Ev.bind e1 ?_, Ev.bind e2 ?_, ?_, by simp⟩
    · simp only [if_true]
      exact Ev.congr (fun k => by rw [if_neg (by omega), hq, hw, l1In_eq, Option.bind_some, decide_eq_false ha, Bool.not_false]) hno
    · simp only [if_true]; exact Ev.congr (fun k => by rw [if_neg ha, if_pos hl]) (Ev.now _)
    · simp only [Bool.false_eq_true, false_iff]; rintro ⟨_, hx, _⟩; exact ha ⟨hx.1, by omega⟩
  refine ⟨Joi.dropTo l a.toNat l.length, true, by have := Joi.dropTo_len l a.toNat l.length; omega, Ev.bind e1 ?_, Ev.bind e2 ?_, ?_, fun _ => rfl⟩
  · simp only [if_true]
    refine Ev.congr (f := fun k => spec_DropEdge.j0 k l a false) (fun k => by rw [if_neg (by omega), hq, hw, l1In_eq, Option.bind_some, decide_eq_true ha, Bool.not_true]) ?_
    refine Ev.shift ?_
    simp only [spec_DropEdge.j0, Bool.false_eq_true, if_false]
    have := dropS_0 l h.perm a.toNat l.length 0 (by omega)
    rw [show ((a.toNat : Nat) : Int) = a by omega] at this
    exact this
  · simp only [if_true]
    rw [if_pos ha, if_neg h2, if_pos h.perm]; exact Ev.now _
  · simp only [true_iff]; exact ⟨h, ⟨ha.1, by omega⟩, h2⟩
theorem cyclesOf_ev (l : List Int) (hl : l.length ≤ 1048576) : ∃ r, bulk r ≤ 1048576 ∧ Ev (fun k => spec_CyclesOf.f k l) r ∧ Ev (fun k => impl_CyclesOf.f k l) r := by
  obtain ⟨e1, e2⟩ := isMap_ev l hl
  unfold spec_CyclesOf.f impl_CyclesOf.f
  by_cases h : MapP l
  case neg =>
    rw [decide_eq_false h] at e1 e2
    exact ⟨[], by decide, Ev.bind e1 (Ev.now _), Ev.bind e2 (Ev.now _)⟩
  rw [decide_eq_true h] at e1 e2
  obtain ⟨r, hr, c1, c2⟩ := cycles_ev l (by have := h.1.2; omega) h.2.2.1
  exact ⟨r, hr, Ev.bind e1 (Ev.bind c1 (Ev.now _)), Ev.bind e2 (Ev.bind c2 (Ev.now _))⟩
theorem facesOf_ev (l : List Int) (hl : l.length ≤ 1048576) : ∃ r, bulk r ≤ 1048576 ∧ Ev (fun k => spec_FacesOf.f k l) r ∧ Ev (fun k => impl_FacesOf.f k l) r := by
  obtain ⟨e1, e2⟩ := isMap_ev l hl
  unfold spec_FacesOf.f impl_FacesOf.f
  by_cases h : MapP l
  case neg =>
    rw [decide_eq_false h] at e1 e2
    exact ⟨[], by decide, Ev.bind e1 (Ev.now _), Ev.bind e2 (Ev.now _)⟩
  rw [decide_eq_true h] at e1 e2
  have h24 := h.1.2
  have d1 := dualS_ev l h24 h.2.1
  have d2 := dualI_ev l h24 h.2.1
  obtain ⟨r, hr, c1, c2⟩ := cycles_ev (dualL l) (by rw [dualL_length]; omega) (fun x hx => by
    rw [dualL_length]
    obtain ⟨d, hd, rfl⟩ := List.mem_map.1 hx
    have hm := mt_lt (List.mem_range.1 hd) h.2.1
    rw [getD_lt hm]
    exact h.2.2.1 _ (List.getElem_mem hm))
  exact ⟨r, hr, Ev.bind e1 (Ev.bind d1 (Ev.bind c1 (Ev.now _))), Ev.bind e2 (Ev.bind d2 (Ev.bind c2 (Ev.now _)))⟩
theorem dualMap_ev (l : List Int) (hl : l.length ≤ 1048576) : ∃ r : List Int, r.length ≤ 1048576 ∧ Ev (fun k => spec_DualMap.f k l) r ∧ Ev (fun k => impl_DualMap.f k l) r := by
  obtain ⟨e1, e2⟩ := isMap_ev l hl
  unfold spec_DualMap.f impl_DualMap.f
  by_cases h : MapP l
  · rw [decide_eq_true h] at e1 e2
    have h1 := dualS_ev l h.1.2 h.2.1
    have h2 := dualI_ev l h.1.2 h.2.1
    exact ⟨dualL l, by rw [dualL_length]; omega, Ev.bind e1 (by simp only [if_true]; exact Ev.bind h1 (Ev.now _)), Ev.bind e2 (by simp only [if_true]; exact Ev.bind h2 (Ev.now _))⟩
  · rw [decide_eq_false h] at e1 e2
    exact ⟨[], by simp, Ev.bind e1 (Ev.now _), Ev.bind e2 (Ev.now _)⟩
theorem and255 (x : Int) : 0 ≤ Go.bits .and .i64 x 255 ∧ Go.bits .and .i64 x 255 ≤ 255 := by
  have h : ∃ n : Nat, n ≤ 255 ∧ Go.bits .and .i64 x 255 = IntKind.i64.wrap (n : Int) := by
    refine ⟨(BitVec.ofInt IntKind.i64.bits x &&& BitVec.ofInt IntKind.i64.bits 255).toNat, ?_, rfl⟩
    rw [BitVec.toNat_and]
    exact Nat.le_trans Nat.and_le_right (by decide)
  obtain ⟨n, hn, e⟩ := h
  rw [e, i64_w, w64 (by omega) (by omega)]
  omega
theorem byte_ok (b : List Int) (hb : b.length ≤ 1048576) (i h : Int) (hi : 0 ≤ i) : ∃ x i' h' : Int, spec_l1Byte.f b i h = some (x, i', h') ∧ 0 ≤ x ∧ x ≤ 255 ∧ 0 ≤ i' := by
  unfold spec_l1Byte.f
  by_cases c : i < (b.length : Int)
  · rw [if_pos c, if_pos hi]
    refine ⟨_, _, _, rfl, (and255 _).1, (and255 _).2, ?_⟩
    rw [w64 (by omega) (by omega)]
    omega
  · rw [if_neg c]
    exact ⟨_, _, _, rfl, (and255 _).1, (and255 _).2, hi⟩
theorem below_ok (b : List Int) (hb : b.length ≤ 1048576) (i h n : Int) (hi : 0 ≤ i) (hn : 0 < n) (hn2 : n ≤ 256) : ∃ x i' h' : Int, spec_l1Below.f b i h n = some (x, i', h') ∧ 0 ≤ x ∧ x < n ∧ 0 ≤ i' := by
  obtain ⟨x, i', h', e, h0, h1, h2⟩ := byte_ok b hb i h hi
  unfold spec_l1Below.f
  rw [if_neg (by omega), if_pos hn2, e, Option.bind_some, if_neg (by omega)]
  refine ⟨_, _, _, rfl, ?_, ?_, h2⟩
  · have := Int.tmod_nonneg n h0; exact this
  · exact Int.tmod_lt_of_pos x hn
theorem new_l (l : List Int) (hl : l.length ≤ 1048576) : ∀ (d i : Nat) (x : Int), i + d = l.length → ∃ h : Int, Ev (fun k => spec_l1New.l0 k l x i) (l, 0, h) := by
  intro d
  induction d with
  | zero =>
    intro i x hi
    refine ⟨x, Ev.step (f := fun _ => some (l, 0, x)) (fun k => ?_) (Ev.now _)⟩
    simp only [spec_l1New.l0]; rw [if_neg (by omega)]
  | succ d ih =>
    intro i x hi
    have hlt : i < l.length := by omega
    by_cases c : (i : Int) < 4000
    · obtain ⟨h, hh⟩ := ih (i + 1) (Go.bits .and .i64 (wrap64 ((wrap64 ((wrap64 (x * 131)) + (wrap64 (rd l i)))) + 7)) 1073741823) (by omega)
      refine ⟨h, Ev.step (fun k => ?_) hh⟩
      simp only [spec_l1New.l0]
      rw [if_pos (by omega), if_pos c, if_pos (by omega), w64s hlt (by omega)]
    · refine ⟨x, Ev.step (f := fun _ => some (l, 0, x)) (fun k => ?_) (Ev.now _)⟩
      simp only [spec_l1New.l0]; rw [if_pos (by omega), if_neg c]
theorem new_ok (l : List Int) (hl : l.length ≤ 1048576) : ∃ h : Int, Ev (fun k => spec_l1New.f k l) (l, 0, h) := new_l l hl l.length 0 _ (by omega)
theorem big_eq (l : List Int) : laws_big.f l = some (decide ((l.length : Int) > 1048576)) := rfl
theorem once_ok (b : List Int) (hb : b.length ≤ 1048576) (i h n : Int) (hi : 0 ≤ i) (hn : 0 < n) (hn2 : n ≤ 256) : ∃ (x : Bool) (i' h' : Int), spec_l1Once.f b i h n = some (x, i', h') ∧ 0 ≤ i' := by
  obtain ⟨x, i', h', e, _, _, h2⟩ := below_ok b hb i h n hi hn hn2
  unfold spec_l1Once.f
  rw [e, Option.bind_some]
  exact ⟨_, _, _, rfl, h2⟩
theorem pickInt_ok (b : List Int) (hb : b.length ≤ 1048576) (i h : Int) (hi : 0 ≤ i) (l : List Int) (hn : 0 < l.length) (hn2 : l.length ≤ 256) : ∃ (s i' h' : Int), spec_l1PickInt.f b i h l = some (s, i', h') ∧ s ∈ l ∧ 0 ≤ i' := by
  obtain ⟨x, i', h', e, h0, h1, h2⟩ := below_ok b hb i h l.length hi (by omega) (by omega)
  unfold spec_l1PickInt.f
  rw [e, Option.bind_some, if_pos h0, if_pos h1]
  obtain ⟨n, rfl⟩ := Int.eq_ofNat_of_zero_le h0
  have hn : n < l.length := by omega
  exact ⟨_, _, _, rfl, by rw [show ((n : Nat) : Int) = (n : Int) from rfl, rd_lt hn]; exact List.getElem_mem hn, h2⟩
theorem bit_eq (b : Bool) : spec_l1Bit.f b = some (if b = true then 1 else 0) := by cases b <;> rfl
theorem drawM_1 (b : List Int) (hb : b.length ≤ 1048576) : ∀ (d x : Nat) (m : List Int) (i h : Int), x + d = 3 → 0 < m.length → m.length ≤ 256 → 0 ≤ i → ∃ (r : List Int) (i' h' : Int), Ev (fun k => spec_l6Draw.l1 k m x b i h) (r, i', h') ∧ r.length = m.length ∧ 0 ≤ i' := by
  intro d
  induction d with
  | zero =>
    intro x m i h hx h0 h1 hi
    refine ⟨m, i, h, Ev.step (f := fun _ => some (m, i, h)) (fun k => ?_) (Ev.now _), rfl, hi⟩
    simp only [spec_l6Draw.l1]; rw [if_neg (by omega)]
  | succ d ih =>
    intro x m i h hx h0 h1 hi
    obtain ⟨u, i1, g1, e1, a1, a2, a3⟩ := below_ok b hb i h m.length hi (by omega) (by omega)
    obtain ⟨v, i2, g2, e2, b1, b2, b3⟩ := below_ok b hb i1 g1 m.length a3 (by omega) (by omega)
    obtain ⟨r, i', h', hE, hl, hi'⟩ := ih (x + 1) ((m.set u.toNat (rd m v)).set v.toNat (rd m u)) i2 g2 (by omega) (by simpa using h0) (by simpa using h1) b3
    refine ⟨r, i', h', Ev.step (fun k => ?_) hE, by simpa using hl, hi'⟩
    simp only [spec_l6Draw.l1]
    rw [if_pos (by omega), e1, Option.bind_some, e2, Option.bind_some]
    dsimp only
    rw [if_pos a1, if_pos a2, if_pos b1, if_pos b2, w64 (by omega) (by omega)]
    rfl
theorem drawM_0 (b : List Int) (hb : b.length ≤ 1048576) : ∀ (n : Nat) (m : List Int) (i h : Int), MapP m → m.length + 2 * n ≤ 24 → 0 ≤ i → ∃ (r : List Int) (i' h' : Int), Ev (fun k => spec_l6Draw.l0 k m n b i h) (r, i', h') ∧ 2 ≤ r.length ∧ r.length ≤ 24 ∧ 0 ≤ i' := by
  intro n
  induction n with
  | zero =>
    intro m i h hm hn hi
    obtain ⟨o, i1, g1, e1, a3⟩ := once_ok b hb i h 4 hi (by omega) (by omega)
    have h2 := hm.1.1
    cases o with
    | true =>
      obtain ⟨r, i', h', hE, hl, hi'⟩ := drawM_1 b hb 3 0 m i1 g1 rfl (by omega) (by omega) a3
      refine ⟨r, i', h', Ev.step (f := fun k => spec_l6Draw.l1 k m ((0 : Nat) : Int) b i1 g1) (fun k => ?_) hE, by omega, by omega, hi'⟩
      simp only [spec_l6Draw.l0]
      rw [if_neg (by omega), e1, Option.bind_some]
      rfl
    | false =>
      refine ⟨m, i1, g1, Ev.step (f := fun _ => some (m, i1, g1)) (fun k => ?_) (Ev.now _), h2, by omega, a3⟩
      simp only [spec_l6Draw.l0]
      rw [if_neg (by omega), e1, Option.bind_some]
      exact if_neg Bool.false_ne_true
  | succ n ih =>
    intro m i h hm hn hi
    have h2 := hm.1
    obtain ⟨u, i1, g1, e1, a1, a2, a3⟩ := below_ok b hb i h m.length hi (by omega) (by omega)
    obtain ⟨v, i2, g2, e2, b1, b2, b3⟩ := below_ok b hb i1 g1 m.length a3 (by omega) (by omega)
    obtain ⟨r, o, hr, s1, _, ho, hT, _⟩ := addEdge_ev m u v (by omega)
    have ho' := ho.2 ⟨hm, ⟨a1, a2⟩, ⟨b1, b2⟩, by omega⟩
    have hr' := hT ho'
    have hok := add_ok hm (a := u.toNat) (b := v.toNat) (by omega) (by omega) (by omega)
    rw [Int.toNat_of_nonneg a1, Int.toNat_of_nonneg b1, ← hr'] at hok
    have hlen : r.length = m.length + 2 := by rw [hr', addL_length]
    obtain ⟨r2, i', h', hE, q1, q2, q3⟩ := ih r i2 g2 (mapP_ok hok (by omega)) (by omega) b3
    refine ⟨r2, i', h', Ev.step (f := fun k => (spec_AddEdge.f k m u v).bind fun bt => spec_l6Draw.l0 k bt.1 (n : Int) b i2 g2) (fun k => ?_) (Ev.bind s1 hE), q1, q2, q3⟩
    simp only [spec_l6Draw.l0]
    rw [if_pos (by omega), e1, Option.bind_some, e2, Option.bind_some]
    dsimp only
    rw [w64 (x := ((n + 1 : Nat) : Int) - 1) (by omega) (by omega), show ((n + 1 : Nat) : Int) - 1 = (n : Int) by omega]
theorem map01 : MapP [0, 1] := by
  refine ⟨by decide, by decide, ?_, by decide⟩
  intro x hx
  simp only [List.mem_cons, List.not_mem_nil, or_false] at hx
  rcases hx with rfl | rfl <;> decide
theorem bentM_ok (b : List Int) (hb : b.length ≤ 1048576) (i h : Int) (hi : 0 ≤ i) : ∃ (r : List Int) (i' h' : Int), Ev (fun k => spec_l6Bent.f k b i h) (r, i', h') ∧ 2 ≤ r.length ∧ r.length ≤ 25 ∧ 0 ≤ i' := by
  obtain ⟨n, i0, g0, e0, z1, z2, z3⟩ := below_ok b hb i h 6 hi (by omega) (by omega)
  obtain ⟨n, rfl⟩ := Int.eq_ofNat_of_zero_le z1
  obtain ⟨m, i1, g1, hE, q1, q2, q3⟩ := drawM_0 b hb n [0, 1] i0 g0 map01 (by simp; omega) z3
  obtain ⟨y, i2, g2, e2, c1, c2, c3⟩ := below_ok b hb i1 g1 18 q3 (by omega) (by omega)
  have pre : ∀ (F : Option (List Int × Int × Int)) (r : List Int × Int × Int), F = some r → ((spec_l1Below.f b i1 g1 18).bind fun bt417 => (if bt417.1 = 0 then ((spec_l1PickInt.f b bt417.2.1 bt417.2.2 (([(-1), 99, 0, 1] : List Int))).bind fun bt423 => (if 0 < (m.length : Int) then (some ((m.set (0 : Int).toNat bt423.1), bt423.2.1, bt423.2.2)) else (none))) else (if bt417.1 = 1 then (if m.length < 17592186044416 then (some ((m ++ [(m.length : Int)]), bt417.2.1, bt417.2.2)) else (none)) else (some (m, bt417.2.1, bt417.2.2))))) = F → Ev (fun k => spec_l6Bent.f k b i h) r := by
    intro F r hF hk
    unfold spec_l6Bent.f
    have hd : Ev (fun k => spec_l6Draw.f k b i h 6) (m, i1, g1) := by
      unfold spec_l6Draw.f
      rw [e0]
      exact Ev.some_bind hE
    refine Ev.bind hd (Ev.congr (f := fun _ => some r) (fun _ => ?_) (Ev.now _))
    rw [← hF, ← hk]
  by_cases y0 : y = 0
  · obtain ⟨s, i4, g4, e4, _, d3⟩ := pickInt_ok b hb i2 g2 c3 [-1, 99, 0, 1] (by decide) (by decide)
    refine ⟨m.set 0 s, i4, g4, pre _ _ rfl ?_, by simpa using q1, by simp; omega, d3⟩
    rw [e2, Option.bind_some]
    dsimp only
    rw [if_pos y0, e4, Option.bind_some, if_pos (by omega)]
    rfl
  · by_cases y1 : y = 1
    · refine ⟨m ++ [(m.length : Int)], i2, g2, pre _ _ rfl ?_, by simp; omega, by simp; omega, c3⟩
      rw [e2, Option.bind_some]
      dsimp only
      rw [if_neg y0, if_pos y1, if_pos (by omega)]
    · refine ⟨m, i2, g2, pre _ _ rfl ?_, q1, by omega, c3⟩
      rw [e2, Option.bind_some]
      dsimp only
      rw [if_neg y0, if_neg y1]
theorem caseM_ok (l : List Int) (hl : l.length ≤ 1048576) : ∃ (m : List Int) (a c : Int), Ev (fun k => spec_l6Case.f k l) (m, a, c) ∧ m.length ≤ 25 := by
  obtain ⟨h, hn⟩ := new_ok l hl
  obtain ⟨m, i, g, hE, q1, q2, q3⟩ := bentM_ok l hl 0 h (by omega)
  obtain ⟨u, i1, g1, e1, a1, a2, a3⟩ := below_ok l hl i g m.length q3 (by omega) (by omega)
  obtain ⟨o, i2, g2, e2, b3⟩ := once_ok l hl i1 g1 14 a3 (by omega) (by omega)
  obtain ⟨v, i3, g3, e3, c1, c2, c3⟩ := below_ok l hl i2 g2 m.length b3 (by omega) (by omega)
  refine ⟨m, wrap64 (u - (if o = true then 1 else 0)), v, ?_, q2⟩
  unfold spec_l6Case.f
  refine Ev.bind hn (Ev.bind hE ?_)
  refine Ev.congr (f := fun _ => some (m, wrap64 (u - (if o = true then 1 else 0)), v)) (fun k => ?_) (Ev.now _)
  show (spec_l1Below.f l i g m.length).bind _ = _
  rw [e1, Option.bind_some]
  dsimp only
  rw [e2, Option.bind_some]
  dsimp only
  rw [bit_eq, Option.bind_some, e3, Option.bind_some]
theorem drawIsMap_ok (l : List Int) (hl : l.length ≤ 1048576) : ∃ m : List Int, Ev (fun k => spec_DrawIsMap.f k l) m ∧ m.length ≤ 25 := by
  obtain ⟨h, hn⟩ := new_ok l hl
  obtain ⟨m, i, g, hE, q1, q2, q3⟩ := bentM_ok l hl 0 h (by omega)
  refine ⟨m, ?_, q2⟩
  unfold spec_DrawIsMap.f
  exact Ev.bind hn (Ev.bind hE (Ev.now _))
theorem Ev.pos {α : Type} {c : Prop} [Decidable c] {f g : Nat → Option α} {r : α} (hc : c) (h : Ev f r) : Ev (fun k => if c then f k else g k) r := Ev.congr (fun _ => if_pos hc) h
theorem Ev.neg {α : Type} {c : Prop} [Decidable c] {f g : Nat → Option α} {r : α} (hc : ¬ c) (h : Ev g r) : Ev (fun k => if c then f k else g k) r := Ev.congr (fun _ => if_neg hc) h
theorem bne_no (b : Bool) : ¬ ((b != b) = true) := by cases b <;> decide
theorem sameL_l (a b : List Int) (hab : a.length = b.length) (hl : a.length ≤ 1048576) : ∀ (d i : Nat), i + d = a.length → Ev (fun k => laws_sameInts.l0 k a b i) (decide (a.drop i = b.drop i)) := by
  intro d
  induction d with
  | zero =>
    intro i hi
    have e : decide (a.drop i = b.drop i) = true := decide_eq_true (by rw [List.drop_of_length_le (by omega), List.drop_of_length_le (by omega)])
    rw [e]
    refine Ev.step (f := fun _ => some true) (fun k => ?_) (Ev.now _)
    simp only [laws_sameInts.l0]; rw [if_neg (by omega)]
  | succ d ih =>
    intro i hi
    have hlt : i < a.length := by omega
    have hlt2 : i < b.length := by omega
    have ea : a.drop i = a[i] :: a.drop (i + 1) := List.drop_eq_getElem_cons hlt
    have eb : b.drop i = b[i] :: b.drop (i + 1) := List.drop_eq_getElem_cons hlt2
    by_cases h : a[i] = b[i]
    · have h1 := ih (i + 1) (by omega)
      have e : decide (a.drop i = b.drop i) = decide (a.drop (i + 1) = b.drop (i + 1)) := by
        rw [decide_eq_decide, ea, eb, h, List.cons.injEq]
        exact ⟨fun x => x.2, fun x => ⟨rfl, x⟩⟩
      rw [e]
      refine Ev.step (fun k => ?_) h1
      simp only [laws_sameInts.l0, rd_lt hlt, rd_lt hlt2]
      rw [if_pos (by omega), if_pos (by omega), if_pos (by omega), if_pos h, w64s hlt (by omega)]
    · have e : decide (a.drop i = b.drop i) = false := decide_eq_false (by rw [ea, eb, List.cons.injEq]; exact fun x => h x.1)
      rw [e]
      refine Ev.step (f := fun _ => some false) (fun k => ?_) (Ev.now _)
      simp only [laws_sameInts.l0, rd_lt hlt, rd_lt hlt2]
      rw [if_pos (by omega), if_pos (by omega), if_pos (by omega), if_neg h]
theorem sameL_ev (a b : List Int) (hl : a.length ≤ 1048576) : Ev (fun k => laws_sameInts.f k a b) (decide (a = b)) := by
  unfold laws_sameInts.f
  by_cases h : a.length = b.length
  · have := sameL_l a b h hl a.length 0 (by omega)
    rw [List.drop_zero, List.drop_zero] at this
    exact Ev.congr (fun k => if_pos (by omega)) this
  · have e : decide (a = b) = false := decide_eq_false (fun x => h (by rw [x]))
    rw [e]
    refine Ev.congr (fun k => if_neg (by omega)) (Ev.now _)
theorem sameL_same (a : List Int) (hl : a.length ≤ 1048576) : Ev (fun k => laws_sameInts.f k a a) true := by
  have := sameL_ev a a hl
  rwa [decide_eq_true rfl] at this
theorem sameLs_l (a : List (List Int)) (hl : bulk a ≤ 1048576) : ∀ (d i : Nat), i + d = a.length → Ev (fun k => laws_sameLists.l0 k a a i) true := by
  intro d
  induction d with
  | zero =>
    intro i hi
    refine Ev.step (f := fun _ => some true) (fun k => ?_) (Ev.now _)
    simp only [laws_sameLists.l0]; rw [if_neg (by omega)]
  | succ d ih =>
    intro i hi
    have hlt : i < a.length := by omega
    have hb : a[i].length ≤ 1048576 := by have := len_le_sum (List.getElem_mem hlt); unfold bulk at hl; omega
    have hal : a.length ≤ 1048576 := by unfold bulk at hl; omega
    have h1 := ih (i + 1) (by omega)
    refine Ev.step (f := fun k => (laws_sameInts.f k a[i] a[i]).bind fun t => if t = true then laws_sameLists.l0 k a a ((i + 1 : Nat) : Int) else some false) (fun k => ?_) (Ev.bind (sameL_same _ hb) (Ev.congr (fun _ => if_pos rfl) h1))
    simp only [laws_sameLists.l0, rdL_lt hlt]
    rw [if_pos (by omega), if_pos (by omega), if_pos (by omega), w64s hlt (by omega)]
theorem sameLs (a : List (List Int)) (hl : bulk a ≤ 1048576) : Ev (fun k => laws_sameLists.f k a a) true := by
  unfold laws_sameLists.f
  exact Ev.congr (fun k => if_pos rfl) (sameLs_l a hl a.length 0 (by omega))
theorem cycVal {l : List Int} (h : MapP l) : ∃ r, bulk r ≤ 1048576 ∧ r.length = Joi.cL l ∧ Ev (fun k => spec_CyclesOf.f k l) r ∧ Ev (fun k => impl_CyclesOf.f k l) r := by
  obtain ⟨e1, e2⟩ := isMap_ev l (by have := h.1.2; omega)
  rw [decide_eq_true h] at e1 e2
  obtain ⟨r, hr, hl, c1, c2⟩ := cycLen h
  unfold spec_CyclesOf.f impl_CyclesOf.f
  exact ⟨r, hr, hl, Ev.bind e1 (Ev.bind c1 (Ev.now _)), Ev.bind e2 (Ev.bind c2 (Ev.now _))⟩
theorem dualVal {l : List Int} (h : MapP l) : Ev (fun k => impl_DualMap.f k l) (dualL l) ∧ Ev (fun k => spec_DualMap.f k l) (dualL l) := by
  obtain ⟨e1, e2⟩ := isMap_ev l (by have := h.1.2; omega)
  rw [decide_eq_true h] at e1 e2
  unfold impl_DualMap.f spec_DualMap.f
  exact ⟨Ev.bind e2 (Ev.congr (fun _ => if_pos rfl) (Ev.bind (dualI_ev l h.1.2 h.2.1) (Ev.now _))), Ev.bind e1 (Ev.congr (fun _ => if_pos rfl) (Ev.bind (dualS_ev l h.1.2 h.2.1) (Ev.now _)))⟩
theorem dualNo {l : List Int} (hl : l.length ≤ 1048576) (h : ¬ MapP l) : Ev (fun k => impl_DualMap.f k l) [] := by
  obtain ⟨e1, e2⟩ := isMap_ev l hl
  rw [decide_eq_false h] at e2
  unfold impl_DualMap.f
  exact Ev.bind e2 (Ev.congr (fun _ => if_neg Bool.false_ne_true) (Ev.now _))
theorem maps3 (m dual mirror : List Int) (hm : m.length ≤ 1048576) (hd : Ev (fun k => impl_DualMap.f k m) dual) (hr : Ev (fun k => impl_MirrorMap.f k m) mirror) : Ev (fun k => laws_FnMaps.j3 k m dual mirror false) true := by
  obtain ⟨e1, _⟩ := isMap_ev m hm
  refine Ev.shift ?_
  simp only [laws_FnMaps.j3]
  refine Ev.neg Bool.false_ne_true (Ev.bind e1 ?_)
  by_cases h : MapP m
  · rw [decide_eq_true h]
    refine Ev.pos rfl ?_
    have hlen := h.1.2
    obtain rfl := Ev.unique hd (dualVal h).1
    obtain ⟨r, rm, rl, rn, _, r2⟩ := mirrorVal h
    obtain rfl := Ev.unique hr r2
    have hdm := dual_map h
    have d2 := (dualVal hdm).1
    rw [dual_dual h] at d2
    obtain ⟨r', rm', rl', rn', _, r2'⟩ := mirrorVal rm
    have hback : r' = m := eq_nx h.perm rm'.perm (by omega) fun d hd => by
      have h1 := rn d hd
      have hlt := (Joi.nx_lt h.perm.1 hd).1
      have h2 := rn' (Joi.nx m d) (by omega)
      rw [h1] at h2
      exact h2
    subst hback
    obtain ⟨c1, c2, c3⟩ := dual_counts h
    obtain ⟨b1, b2, b3⟩ := Joi.mirror_L h.perm rm.perm rl rn
    obtain ⟨z, z1, z2, z3, z4⟩ := genVal h
    obtain ⟨y, y1, y2, y3, y4⟩ := genVal hdm
    obtain ⟨x, x1, x2, x3, x4⟩ := genVal rm
    rw [dualL_length] at y4
    have ey : y = z := by omega
    have ex : x = z := by rw [rl] at x4; omega
    subst ey ex
    obtain ⟨cy, cb, _, _, q2⟩ := cycVal hdm
    have f2 : Ev (fun k => impl_FacesOf.f k r') cy := by
      obtain ⟨i1, i2⟩ := isMap_ev r' hm
      rw [decide_eq_true h] at i2
      obtain ⟨k1, k2⟩ := isMap_ev (dualL r') (by rw [dualL_length]; exact hm)
      rw [decide_eq_true hdm] at k2
      have e3 : Ev (fun k => impl_cycles.f k (dualL r')) cy := by
        obtain ⟨cz, _, _, _, w2⟩ := cycLen hdm
        have : Ev (fun k => impl_CyclesOf.f k (dualL r')) cz := by unfold impl_CyclesOf.f; exact Ev.bind k2 (Ev.bind w2 (Ev.now _))
        rw [Ev.unique q2 this]; exact w2
      unfold impl_FacesOf.f
      exact Ev.bind i2 (Ev.bind (dualI_ev r' h.1.2 h.2.1) (Ev.bind e3 (Ev.now _)))
    refine Ev.bind d2 (Ev.bind (sameL_same _ hm) (Ev.pos rfl ?_))
    refine Ev.bind r2' (Ev.bind (sameL_same _ hm) (Ev.pos rfl ?_))
    refine Ev.bind y2 (Ev.bind z2 (Ev.pos rfl (Ev.bind x2 (Ev.bind z2 (Ev.pos rfl ?_)))))
    refine Ev.bind q2 (Ev.bind f2 (Ev.bind (sameLs _ cb) (Ev.pos rfl (Ev.bind z2 ?_))))
    rw [decide_eq_true (show _ ≥ (0 : Int) from z3)]
    exact Ev.now _
  · rw [decide_eq_false h]
    obtain rfl := Ev.unique hd (dualNo hm h)
    refine Ev.neg Bool.false_ne_true (Ev.pos rfl (Ev.bind (genNo hm h).2 (Ev.now _)))
theorem maps2 (m d less dual mirror : List Int) (ok : Bool) (hm : m.length ≤ 1048576) (hd : Ev (fun k => impl_DualMap.f k m) dual) (hr : Ev (fun k => impl_MirrorMap.f k m) mirror)
    (hk : ok = true → ∃ e : Nat, MapP d ∧ 2 * e + 1 < d.length ∧ d.length ≠ 2 ∧ less = Joi.dropTo d e d.length) : Ev (fun k => laws_FnMaps.j2 k m d less ok dual mirror false) true := by
  have h3 := maps3 m dual mirror hm hd hr
  refine Ev.shift ?_
  simp only [laws_FnMaps.j2]
  refine Ev.neg Bool.false_ne_true ?_
  cases ok with
  | false => exact Ev.neg Bool.false_ne_true h3
  | true =>
    obtain ⟨e, hD, he, hne, rfl⟩ := hk rfl
    have hlen := Joi.dropTo_all hD.perm he
    have hev := hD.2.1
    have h24 := hD.1
    have hL : MapP (Joi.dropTo d e d.length) := mapP_ok (Joi.drop_ok hD.perm he) (by omega)
    obtain ⟨z, z1, z2, z3, z4⟩ := genVal hD
    obtain ⟨y, y1, y2, y3, y4⟩ := genVal hL
    have hq := Joi.drop_L hD.perm he
    rw [hlen] at y4
    refine Ev.pos rfl (Ev.bind y1 (Ev.bind z1 ?_))
    rw [decide_eq_false (show ¬ y > z by omega)]
    exact h3
theorem maps1 (m d less s cut dual mirror : List Int) (ok four : Bool) (hm : m.length ≤ 1048576) (hd : Ev (fun k => impl_DualMap.f k m) dual) (hr : Ev (fun k => impl_MirrorMap.f k m) mirror)
    (hk : ok = true → ∃ e : Nat, MapP d ∧ 2 * e + 1 < d.length ∧ d.length ≠ 2 ∧ less = Joi.dropTo d e d.length) (hf : four = true → MapP s ∧ s.length + 2 ≤ 24 ∧ ∃ q, Joi.SubOk s cut q) : Ev (fun k => laws_FnMaps.j1 k m d less ok s cut four dual mirror) true := by
  have h2 := maps2 m d less dual mirror ok hm hd hr hk
  refine Ev.shift ?_
  simp only [laws_FnMaps.j1]
  cases four with
  | false => exact Ev.neg Bool.false_ne_true h2
  | true =>
    obtain ⟨hS, h24, q, H⟩ := hf rfl
    have hC : MapP cut := mapP_ok H.ok' (by rw [H.len]; omega)
    obtain ⟨z, z1, z2, z3, z4⟩ := genVal hS
    obtain ⟨y, y1, y2, y3, y4⟩ := genVal hC
    have k1 := H.cyc
    have k2 := H.face
    have k3 := H.parts
    have k4 := H.len
    have ey : y = z := by omega
    subst ey
    obtain ⟨a, ab, al, a1, _⟩ := cycVal hC
    obtain ⟨b, bb, bl, b1, _⟩ := cycVal hS
    refine Ev.pos rfl (Ev.bind y1 (Ev.bind z1 (Ev.pos rfl (Ev.bind a1 (Ev.bind b1 ?_)))))
    have hbl := bulk_len b
    have e : ((a.length : Int) != wrap64 ((b.length : Int) + 1)) = false := by
      rw [w64 (by omega) (by omega), al, bl, k1]
      simp only [bne_eq_false_iff_eq]
      omega
    rw [e]
    exact h2
theorem maps0 (m d less a more s cut dual mirror : List Int) (ok one four : Bool) (hm : m.length ≤ 1048576) (hd : Ev (fun k => impl_DualMap.f k m) dual) (hr : Ev (fun k => impl_MirrorMap.f k m) mirror)
    (hk : ok = true → ∃ e : Nat, MapP d ∧ 2 * e + 1 < d.length ∧ d.length ≠ 2 ∧ less = Joi.dropTo d e d.length) (hf : four = true → MapP s ∧ s.length + 2 ≤ 24 ∧ ∃ q, Joi.SubOk s cut q)
    (ho : one = true → MapP a ∧ a.length + 2 ≤ 24 ∧ ∃ u v : Nat, u < a.length ∧ v < a.length ∧ more = addL a u v) : Ev (fun k => laws_FnMaps.j0 k m d less ok a more one s cut four dual mirror false) true := by
  have h1 := maps1 m d less s cut dual mirror ok four hm hd hr hk hf
  refine Ev.shift ?_
  simp only [laws_FnMaps.j0]
  refine Ev.neg Bool.false_ne_true ?_
  cases one with
  | false => exact Ev.neg Bool.false_ne_true h1
  | true =>
    obtain ⟨hA, h24, u, v, hu, hv, rfl⟩ := ho rfl
    have hlen := addL_length a u v
    have hok := add_ok hA hu hv h24
    have hM : MapP (addL a u v) := mapP_ok hok (by omega)
    have hev := hA.2.1
    have hw : wrap64 ((a.length : Int) / 2) = ((a.length / 2 : Nat) : Int) := by rw [w64 (by omega) (by omega)]; omega
    obtain ⟨r, o, hrl, _, d2, dO, dT⟩ := dropEdge_ev (addL a u v) ((a.length / 2 : Nat) : Int) (by omega)
    have hoT := dO.2 ⟨hM, ⟨by omega, by omega⟩, by have := hA.1.1; omega⟩
    have hrr := dT hoT
    rw [Int.toNat_natCast, hlen, add_drop hA hu hv h24] at hrr
    subst hoT hrr
    obtain ⟨z, z1, z2, z3, z4⟩ := genVal hA
    obtain ⟨y, y1, y2, y3, y4⟩ := genVal hM
    have hq := Joi.drop_L hok (a := r.length / 2) (by omega)
    rw [hlen, add_drop hA hu hv h24] at hq
    rw [hlen] at y4
    refine Ev.pos rfl ?_
    rw [hw]
    refine Ev.bind d2 (Ev.pos rfl (Ev.bind (sameL_same _ hrl) (Ev.pos rfl (Ev.bind y1 (Ev.bind z1 (Ev.neg (by omega) h1))))))
theorem FnMaps : laws_FnMaps.Pure := by
  intro l h1 h2 h3
  unfold laws_FnMaps.f
  by_cases hb : (l.length : Int) > 1048576
  · exact ⟨0, by rw [big_eq, decide_eq_true hb, Option.bind_some, if_pos rfl]⟩
  refine Ev.rounds ?_
  rw [big_eq, decide_eq_false hb]
  obtain ⟨m, dm, hm⟩ := drawIsMap_ok l (by omega)
  obtain ⟨d, a1, c1, dd, hdl⟩ := caseM_ok l (by omega)
  have D1 : Ev (fun k => spec_DrawDropEdge.f k l) (d, wrap64 (Int.tdiv a1 2)) := by unfold spec_DrawDropEdge.f; exact Ev.bind dd (Ev.now _)
  have D2 : Ev (fun k => spec_DrawAddEdge.f k l) (d, a1, c1) := by unfold spec_DrawAddEdge.f; exact Ev.bind dd (Ev.now _)
  have D3 : Ev (fun k => spec_DrawSubdivideEdge.f k l) (d, wrap64 (Int.tdiv a1 2)) := by unfold spec_DrawSubdivideEdge.f; exact Ev.bind dd (Ev.now _)
  obtain ⟨less, ok, hless, l1, l2, lo, lT⟩ := dropEdge_ev d (wrap64 (Int.tdiv a1 2)) (by omega)
  obtain ⟨more, one, hmore, m1, m2, mo, mT, _⟩ := addEdge_ev d a1 c1 (by omega)
  obtain ⟨cut, four, hcut, s1, s2, so, sT, _⟩ := subdivide_ev d (wrap64 (Int.tdiv a1 2)) (by omega)
  obtain ⟨dual, hdual, u1, u2⟩ := dualMap_ev m (by omega)
  obtain ⟨mirror, hmirror, v1, v2⟩ := mirrorMap_ev m (by omega)
  obtain ⟨i1, i2⟩ := isMap_ev m (by omega)
  obtain ⟨cy, cb, y1, y2⟩ := cyclesOf_ev m (by omega)
  obtain ⟨fa, fb, f1, f2⟩ := facesOf_ev m (by omega)
  obtain ⟨pz, p1, p2⟩ := mapParts_ev m (by omega)
  obtain ⟨gz, g1, g2⟩ := genusOf_ev m (by omega)
  have hend := maps0 m d less d more d cut dual mirror ok one four (by omega) u2 v2 (fun h => by
      obtain ⟨q1, q2, q3⟩ := lo.1 h
      have hev := q1.2.1
      exact ⟨(wrap64 (Int.tdiv a1 2)).toNat, q1, by omega, q3, lT h⟩) (fun h => by
      obtain ⟨q1, q2, q3⟩ := so.1 h
      obtain ⟨e, p, r1, r2, ⟨hp, r3⟩, r4⟩ := sT h
      refine ⟨q1, q3, e, ?_⟩
      rw [r4]
      exact sub_ok q1 r2 hp (by unfold Joi.nx; rw [rd_lt hp, r3]; rfl) (by omega) q3) (fun h => by
      obtain ⟨q1, q2, q3, q4⟩ := mo.1 h
      refine ⟨q1, q4, a1.toNat, c1.toNat, by omega, by omega, ?_⟩
      rw [mT h, Int.toNat_of_nonneg q2.1, Int.toNat_of_nonneg q3.1])
  refine Ev.some_bind (Ev.neg Bool.false_ne_true ?_)
  refine Ev.bind dm (Ev.bind D1 (Ev.bind l2 (Ev.bind l1 (Ev.bind D2 (Ev.bind m2 (Ev.bind m1 (Ev.bind D3 (Ev.bind s2 (Ev.bind s1 (Ev.bind u2 (Ev.bind v2 ?_)))))))))))
  refine Ev.neg (bne_no _) (Ev.bind (sameL_same _ hless) (Ev.pos rfl ?_))
  refine Ev.neg (bne_no _) (Ev.bind (sameL_same _ hmore) (Ev.pos rfl ?_))
  refine Ev.neg (bne_no _) (Ev.bind (sameL_same _ hcut) (Ev.pos rfl ?_))
  refine Ev.bind u1 (Ev.bind (sameL_same _ hdual) (Ev.pos rfl ?_))
  refine Ev.bind v1 (Ev.bind (sameL_same _ hmirror) (Ev.pos rfl ?_))
  refine Ev.bind i2 (Ev.bind i1 (Ev.neg (bne_no _) ?_))
  refine Ev.bind y2 (Ev.bind y1 (Ev.bind (sameLs _ cb) (Ev.pos rfl ?_)))
  refine Ev.bind f2 (Ev.bind f1 (Ev.bind (sameLs _ fb) (Ev.pos rfl ?_)))
  refine Ev.bind p2 (Ev.bind p1 (Ev.pos rfl (Ev.bind g2 (Ev.bind g1 ?_))))
  rw [bne_self_eq_false]
  exact hend
end Go.Proofs.Ytdmcfbjhobbdpaa.Pure
