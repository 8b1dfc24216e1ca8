/- Join of the program and Join of the reference answer the same for every list of texts and every separator, and the argument is left as it was. Conditions: those that the printed statement itself names (lengths and numbers that fit). -/
import Derived.Test.YtehloilmokhmgaaQFnExactJoinx1
import Derived.Test.YtehloilmokhmgaaCom
namespace Go.Proofs.Ytehloilmokhmgaa.Pure
open Classical Go.RowKit Go.Proofs.Ytehloilmokhmgaa.QFnExactJoin Go.Proofs.YtehloilmokhmgaaW.PrintWords Go.Proofs.YtehloilmokhmgaaW.PrintLast Go.Proofs.Ytehloilmokhmgaa.Com

/-! szStringS -/
/-- Texts and bytes together. -/
def bulkS (l : List ByteArray) : Nat := l.length + (l.map ByteArray.size).sum
theorem sumS_drop {l : List ByteArray} {i : Nat} (h : i < l.length) : ((l.drop i).map ByteArray.size).sum = l[i].size + ((l.drop (i + 1)).map ByteArray.size).sum := by
  rw [List.drop_eq_getElem_cons h, List.map_cons, List.sum_cons]
theorem szStringS_l (l : List ByteArray) (hl : l.length ≤ 9223372036854775807) (hx : ∀ x ∈ l, x.size ≤ 9223372036854775807) : ∀ (d i : Nat) (left : Nat), i + d = l.length → left ≤ 1048576 → ∃ v : Int, Ev (fun k => laws_szStringS.l0 k l left i) v ∧ (0 ≤ v → ((l.drop i).map ByteArray.size).sum ≤ left) := by
  intro d
  induction d with
  | zero =>
    intro i left hi hle
    refine ⟨left, Ev.step (f := fun _ => some (left : Int)) (fun k => ?_) (Ev.now _), fun _ => ?_⟩
    · simp only [laws_szStringS.l0]; rw [if_neg (by omega)]
    · rw [List.drop_of_length_le (by omega)]; simp
  | succ d ih =>
    intro i left hi hle
    have hlt : i < l.length := by omega
    have hxl := hx l[i] (List.getElem_mem hlt)
    have hw : wrap64 ((left : Int) - (l[i].size : Int)) = (left : Int) - l[i].size := w64 (by omega) (by omega)
    by_cases hc : (left : Int) - (l[i].size : Int) < 0
    · refine ⟨-1, Ev.step (f := fun _ => some (-1 : Int)) (fun k => ?_) (Ev.now _), fun h => absurd h (by omega)⟩
      simp only [laws_szStringS.l0, rdOf_lt hlt, hw]
      rw [if_pos (by omega), if_pos (by omega), if_pos hc]
    · obtain ⟨v, h1, h2⟩ := ih (i + 1) (left - l[i].size) (by omega) (by omega)
      refine ⟨v, Ev.step (fun k => ?_) h1, fun h => ?_⟩
      · simp only [laws_szStringS.l0, rdOf_lt hlt, hw]
        rw [if_pos (by omega), if_pos (by omega), if_neg hc, w64s hlt hl, show (left : Int) - (l[i].size : Int) = ((left - l[i].size : Nat) : Int) by omega]
      · have := h2 h
        rw [sumS_drop hlt]
        omega
theorem szStringS_ev (l : List ByteArray) (hl : l.length ≤ 9223372036854775807) (hx : ∀ x ∈ l, x.size ≤ 9223372036854775807) : ∃ v : Int, Ev (fun k => laws_szStringS.f k l 1048576) v ∧ (0 ≤ v → bulkS l ≤ 1048576) := by
  have hw : wrap64 ((1048576 : Int) - (l.length : Int)) = (1048576 : Int) - l.length := w64 (by omega) (by omega)
  by_cases hc : (1048576 : Int) - (l.length : Int) < 0
  · refine ⟨-1, Ev.congr (f := fun _ => some (-1 : Int)) (fun k => ?_) (Ev.now _), fun h => absurd h (by omega)⟩
    unfold laws_szStringS.f; rw [hw, if_pos hc]
  · obtain ⟨v, h1, h2⟩ := szStringS_l l hl hx l.length 0 (1048576 - l.length) (by omega) (by omega)
    refine ⟨v, Ev.congr (fun k => ?_) h1, fun h => ?_⟩
    · unfold laws_szStringS.f; rw [hw, if_neg hc, show (1048576 : Int) - (l.length : Int) = ((1048576 - l.length : Nat) : Int) by omega]; rfl
    · have := h2 h
      unfold bulkS
      simp only [List.drop_zero] at this
      omega

/-! toStringS -/
theorem toStringS_l (l : List ByteArray) (hl : l.length ≤ 1048576) : ∀ (d i : Nat) (acc : List ByteArray), i + d = l.length → acc.length = l.length → acc.take i = l.take i → Ev (fun k => laws_toStringS.l0 k l acc i) l := by
  intro d
  induction d with
  | zero =>
    intro i acc hi ha ht
    refine Ev.step (f := fun _ => some acc) (fun k => ?_) ?_
    · simp only [laws_toStringS.l0]; rw [if_neg (by omega)]
    · have e : acc = l := by
        have h1 := List.take_of_length_le (l := acc) (i := i) (by omega)
        have h2 := List.take_of_length_le (l := l) (i := i) (by omega)
        rw [← h1, ← h2, ht]
      rw [e]; exact Ev.now _
  | succ d ih =>
    intro i acc hi ha ht
    have hlt : i < l.length := by omega
    refine Ev.step (fun k => ?_) (ih (i + 1) (acc.set i l[i]) (by omega) (by simpa using ha) ?_)
    · simp only [laws_toStringS.l0, rdOf_lt hlt]
      rw [if_pos (by omega), if_pos (by omega), if_pos (by omega), w64s hlt (by omega), Int.toNat_natCast]
    · rw [List.take_succ_eq_append_getElem (by simp; omega), List.take_succ_eq_append_getElem hlt, List.take_set_of_le (Nat.le_refl i), ht]
      simp
theorem toStringS_ev (l : List ByteArray) (hl : l.length ≤ 1048576) : Ev (fun k => laws_toStringS.f k l) l := by
  refine Ev.congr (f := fun k => laws_toStringS.l0 k l (List.replicate l.length (⟨#[]⟩ : ByteArray)) ((0 : Nat) : Int)) (fun k => ?_) (toStringS_l l hl l.length 0 _ (by omega) (by simp) (by simp))
  unfold laws_toStringS.f
  rw [if_pos (by omega), if_pos (by omega), Int.toNat_natCast]; rfl

/-! eqStringS -/
theorem eqStringS_l (a : List ByteArray) (hl : a.length ≤ 9223372036854775807) : ∀ (d i : Nat), i + d = a.length → Ev (fun k => laws_eqStringS.l0 k a a i) true := by
  intro d
  induction d with
  | zero =>
    intro i hi
    refine Ev.step (f := fun _ => some true) (fun k => ?_) (Ev.now _)
    simp only [laws_eqStringS.l0]; rw [if_neg (by omega)]
  | succ d ih =>
    intro i hi
    have h1 : i < a.length := by omega
    refine Ev.step (fun k => ?_) (ih (i + 1) (by omega))
    simp only [laws_eqStringS.l0]
    rw [if_pos (by omega), if_pos (by omega), if_pos (by omega), if_pos trivial, w64s h1 hl]
theorem eqStringS_same (a : List ByteArray) (hl : a.length ≤ 9223372036854775807) : Ev (fun k => laws_eqStringS.f k a a) true := by
  refine Ev.congr (f := fun k => laws_eqStringS.l0 k a a ((0 : Nat) : Int)) (fun k => ?_) (eqStringS_l a hl a.length 0 (by omega))
  unfold laws_eqStringS.f; rw [if_pos rfl]; rfl

/-! joinP -/
/-- The bytes of some texts, joined. -/
def jl (xs : List ByteArray) (sep : ByteArray) : List UInt8 := Lib.join (xs.map (·.data.toList)) sep.data.toList
def nm (l : List UInt8) : List Int := l.map fun b => (b.toNat : Int)
theorem nm_app (a b : List UInt8) : nm (a ++ b) = nm a ++ nm b := List.map_append
theorem nm_len (a : List UInt8) : (nm a).length = a.length := List.length_map ..
theorem bytesOf_nm (s : ByteArray) : bytesOf s = nm s.data.toList := rfl
theorem strOf_nm (l : List UInt8) : strOfNums (nm l) = ⟨l.toArray⟩ := by
  unfold strOfNums nm
  rw [List.map_map]
  congr 2
  exact (List.map_congr_left fun b _ => by simp).trans (List.map_id l)
theorem join_snoc (xs : List (List UInt8)) (y sep : List UInt8) (h : xs ≠ []) : Lib.join (xs ++ [y]) sep = Lib.join xs sep ++ sep ++ y := by
  cases xs with
  | nil => exact (h rfl).elim
  | cons x r =>
    rw [List.cons_append, Lib.join_cons, Lib.join_cons]
    unfold Lib.joinTail
    rw [List.map_append, List.flatten_append]
    simp
theorem join_len_le (xs : List (List UInt8)) (sep : List UInt8) : (Lib.join xs sep).length ≤ sep.length * xs.length + Lib.lens xs := by
  cases xs with
  | nil => simp [Lib.join_nil]
  | cons x r =>
    rw [Lib.join_length, List.length_cons]
    have := Nat.mul_le_mul_left sep.length (Nat.le_add_right r.length 1)
    omega
theorem lensS (l : List ByteArray) : Lib.lens (l.map (·.data.toList)) = (l.map ByteArray.size).sum := by
  unfold Lib.lens
  rw [List.map_map]
  rfl
theorem jl_len (xs : List ByteArray) (sep : ByteArray) (hb : bulkS xs ≤ 1048576) (hs : sep.size ≤ 1048576) : (jl xs sep).length ≤ 1099512676352 := by
  have h1 := join_len_le (xs.map (·.data.toList)) sep.data.toList
  rw [lensS, List.length_map] at h1
  have h2 : sep.data.toList.length * xs.length ≤ 1048576 * 1048576 := Nat.mul_le_mul hs (by unfold bulkS at hb; omega)
  unfold jl
  unfold bulkS at hb
  omega
theorem bulkS_take (l : List ByteArray) (i : Nat) : bulkS (l.take i) ≤ bulkS l := by
  unfold bulkS
  have h1 := Lib.lens_take_le (l.map (·.data.toList)) i
  rw [← List.map_take, lensS, lensS] at h1
  rw [List.length_take]
  omega

/-! joinS -/
theorem joinS_l (l : List ByteArray) (sep : ByteArray) (hb : bulkS l ≤ 1048576) (hs : sep.size ≤ 1048576) : ∀ (d i : Nat), i + d = l.length → Ev (fun k => spec_Join.l0 k l sep (nm (jl (l.take i) sep)) i) (⟨(jl l sep).toArray⟩ : ByteArray) := by
  have hlen : l.length ≤ 1048576 := by unfold bulkS at hb; omega
  intro d
  induction d with
  | zero =>
    intro i hi
    refine Ev.step (f := fun _ => some (⟨(jl l sep).toArray⟩ : ByteArray)) (fun k => ?_) (Ev.now _)
    simp only [spec_Join.l0]
    rw [if_neg (by omega), List.take_of_length_le (by omega), strOf_nm]
  | succ d ih =>
    intro i hi
    have hlt : i < l.length := by omega
    have h1 := jl_len (l.take i) sep (Nat.le_trans (bulkS_take l i) hb) hs
    have h2 := jl_len (l.take (i + 1)) sep (Nat.le_trans (bulkS_take l (i + 1)) hb) hs
    have hx : l[i].size ≤ 1048576 := by
      have := sumS_drop hlt
      have h3 := Lib.lens_take_le (l.map (·.data.toList)) (i + 1)
      rw [Lib.lens_take_succ (l.map (·.data.toList)) i l[i].data.toList (by rw [List.getElem?_map, List.getElem?_eq_getElem hlt]; rfl), lensS] at h3
      have h4 : l[i].data.toList.length = l[i].size := data_length _
      unfold bulkS at hb
      omega
    have hg := ih (i + 1) (by omega)
    have ht : l.take (i + 1) = l.take i ++ [l[i]] := by rw [List.take_succ_eq_append_getElem hlt]
    refine Ev.step (fun k => ?_) hg
    simp only [spec_Join.l0, rdOf_lt hlt]
    rw [if_pos (by omega)]
    by_cases h0 : i = 0
    · subst h0
      have e1 : jl (l.take 0) sep = [] := rfl
      have e2 : jl (l.take (0 + 1)) sep = l[0].data.toList := by
        rw [ht]; unfold jl; simp [Lib.join_one]
      rw [if_neg (by simp), e1, e2, if_pos (by omega), if_pos (by show 0 + l[0].size < _; omega), w64s hlt (by omega)]
      rfl
    · have hne : (l.take i).map (·.data.toList) ≠ [] := by
        intro h
        have := congrArg List.length h
        rw [List.length_map, List.length_take, List.length_nil] at this
        omega
      have e2 : jl (l.take (i + 1)) sep = jl (l.take i) sep ++ sep.data.toList ++ l[i].data.toList := by
        unfold jl
        rw [ht, List.map_append]
        exact join_snoc _ _ _ hne
      rw [if_pos (by omega), Option.bind_some, bytesOf_nm, bytesOf_nm, ← nm_app, if_pos (by rw [nm_len]; omega), if_pos (by omega), if_pos (by rw [nm_len, List.length_append]; have := data_length sep; omega), w64s hlt (by omega), ← nm_app, ← e2]
theorem joinS_ev (l : List ByteArray) (sep : ByteArray) (hb : bulkS l ≤ 1048576) (hs : sep.size ≤ 1048576) : Ev (fun k => spec_Join.f k l sep) (⟨(jl l sep).toArray⟩ : ByteArray) := joinS_l l sep hb hs l.length 0 (by omega)
theorem joinI_eq (l : List ByteArray) (sep : ByteArray) (hb : bulkS l ≤ 1048576) (hs : sep.size ≤ 1048576) : impl_Join.f l sep = some (⟨(jl l sep).toArray⟩ : ByteArray) := by
  have h := jl_len l sep hb hs
  unfold impl_Join.f
  rw [if_pos ⟨by unfold bulkS at hb; omega, by show (jl l sep).length ≤ _; omega⟩]
  rfl

/-! law.FnExactJoin -/
theorem FnExactJoin (l : List ByteArray) (h1 : l.length ≤ maxLen) (h2 : ∀ s ∈ l, s.size ≤ maxLen) (sep : ByteArray) (_h3 : sep.size ≤ 140737488351232) : ∃ k, laws_FnExactJoin.f k l sep = some true := by
  unfold maxLen at h1 h2
  by_cases hs : (sep.size : Int) > 1048576
  · exact ⟨0, by unfold laws_FnExactJoin.f; rw [if_pos hs]⟩
  refine Ev.rounds ?_
  unfold laws_FnExactJoin.f
  refine Ev.congr (fun k => if_neg hs) ?_
  obtain ⟨v, hv, hb⟩ := szStringS_ev l (by omega) (fun x hx => by have := h2 x hx; omega)
  refine Ev.bind hv ?_
  by_cases hn : v < 0
  · exact Ev.congr (fun k => if_pos hn) (Ev.now _)
  refine Ev.congr (fun k => if_neg hn) ?_
  have hbl := hb (by omega)
  have hll : l.length ≤ 1048576 := by unfold bulkS at hbl; omega
  have hT := toStringS_ev l hll
  refine Ev.bind hT (Ev.bind (joinS_ev l sep hbl (by omega)) (Ev.bind hT ?_))
  rw [joinI_eq l sep hbl (by omega)]
  refine Ev.some_bind ?_
  refine Ev.congr (fun k => if_pos rfl) ?_
  refine Ev.bind hT (Ev.bind (eqStringS_same l (by omega)) ?_)
  exact Ev.congr (fun k => if_pos rfl) (Ev.now _)

end Go.Proofs.Ytehloilmokhmgaa.Pure
