/- Words are parsed from their text, reducing keeps letter sums, and conjugate words have turned cores: for every drawn word. Conditions: those that the printed statement itself names (lengths and numbers that fit). -/
import Derived.Test.YtokbhekicjnglaaQFnWordsx8
import Derived.Test.YtokbhekicjnglaaCom
import Derived.Test.YtokbhekicjnglaaQLFnWords
namespace Go.Proofs.Ytokbhekicjnglaa.Pure
open Classical Go.RowKit Go.Proofs.Ytokbhekicjnglaa.QFnWords Go.Proofs.YtokbhekicjnglaaW.PrintWords Go.Proofs.YtokbhekicjnglaaW.PrintLast Go.Proofs.Ytokbhekicjnglaa.Com
theorem and255 (x : Int) : 0 ≤ Go.bits .and .i64 x 255 ∧ Go.bits .and .i64 x 255 ≤ 255 := by
  have h : ∃ n : Nat, n ≤ 255 ∧ Go.bits .and .i64 x 255 = IntKind.i64.wrap (n : Int) := by
    refine ⟨(BitVec.ofInt IntKind.i64.bits x &&& BitVec.ofInt IntKind.i64.bits 255).toNat, ?_, rfl⟩
    rw [BitVec.toNat_and]
    exact Nat.le_trans Nat.and_le_right (by decide)
  obtain ⟨n, hn, e⟩ := h
  rw [e, i64_w, w64 (by omega) (by omega)]
  omega
theorem byte_ok (b : List Int) (hb : b.length ≤ 1048576) (i h : Int) (hi : 0 ≤ i) : ∃ x i' h' : Int, spec_l1Byte.f b i h = some (x, i', h') ∧ 0 ≤ x ∧ x ≤ 255 ∧ 0 ≤ i' := by
  unfold spec_l1Byte.f
  by_cases c : i < (b.length : Int)
  · rw [if_pos c, if_pos hi]
    refine ⟨_, _, _, rfl, (and255 _).1, (and255 _).2, ?_⟩
    rw [w64 (by omega) (by omega)]
    omega
  · rw [if_neg c]
    exact ⟨_, _, _, rfl, (and255 _).1, (and255 _).2, hi⟩
theorem below_ok (b : List Int) (hb : b.length ≤ 1048576) (i h n : Int) (hi : 0 ≤ i) (hn : 0 < n) (hn2 : n ≤ 256) : ∃ x i' h' : Int, spec_l1Below.f b i h n = some (x, i', h') ∧ 0 ≤ x ∧ x < n ∧ 0 ≤ i' := by
  obtain ⟨x, i', h', e, h0, h1, h2⟩ := byte_ok b hb i h hi
  unfold spec_l1Below.f
  rw [if_neg (by omega), if_pos hn2, e, Option.bind_some, if_neg (by omega)]
  refine ⟨_, _, _, rfl, ?_, ?_, h2⟩
  · have := Int.tmod_nonneg n h0; exact this
  · exact Int.tmod_lt_of_pos x hn
theorem new_l (l : List Int) (hl : l.length ≤ 1048576) : ∀ (d i : Nat) (x : Int), i + d = l.length → ∃ h : Int, Ev (fun k => spec_l1New.l0 k l x i) (l, 0, h) := by
  intro d
  induction d with
  | zero =>
    intro i x hi
    refine ⟨x, Ev.step (f := fun _ => some (l, 0, x)) (fun k => ?_) (Ev.now _)⟩
    simp only [spec_l1New.l0]; rw [if_neg (by omega)]
  | succ d ih =>
    intro i x hi
    have hlt : i < l.length := by omega
    by_cases c : (i : Int) < 4000
    · obtain ⟨h, hh⟩ := ih (i + 1) (Go.bits .and .i64 (wrap64 ((wrap64 ((wrap64 (x * 131)) + (wrap64 (rd l i)))) + 7)) 1073741823) (by omega)
      refine ⟨h, Ev.step (fun k => ?_) hh⟩
      simp only [spec_l1New.l0]
      rw [if_pos (by omega), if_pos c, if_pos (by omega), w64s hlt (by omega)]
    · refine ⟨x, Ev.step (f := fun _ => some (l, 0, x)) (fun k => ?_) (Ev.now _)⟩
      simp only [spec_l1New.l0]; rw [if_pos (by omega), if_neg c]
theorem new_ok (l : List Int) (hl : l.length ≤ 1048576) : ∃ h : Int, Ev (fun k => spec_l1New.f k l) (l, 0, h) := new_l l hl l.length 0 _ (by omega)
theorem big_eq (l : List Int) : laws_big.f l = some (decide ((l.length : Int) > 1048576)) := rfl
theorem once_ok (b : List Int) (hb : b.length ≤ 1048576) (i h n : Int) (hi : 0 ≤ i) (hn : 0 < n) (hn2 : n ≤ 256) : ∃ (x : Bool) (i' h' : Int), spec_l1Once.f b i h n = some (x, i', h') ∧ 0 ≤ i' := by
  obtain ⟨x, i', h', e, _, _, h2⟩ := below_ok b hb i h n hi hn hn2
  unfold spec_l1Once.f
  rw [e, Option.bind_some]
  exact ⟨_, _, _, rfl, h2⟩
theorem pick_ok (b : List Int) (hb : b.length ≤ 1048576) (i h : Int) (hi : 0 ≤ i) (l : List ByteArray) (hn : 0 < l.length) (hn2 : l.length ≤ 256) : ∃ (s : ByteArray) (i' h' : Int), spec_l1Pick.f b i h l = some (s, i', h') ∧ s ∈ l ∧ 0 ≤ i' := by
  obtain ⟨x, i', h', e, h0, h1, h2⟩ := below_ok b hb i h l.length hi (by omega) (by omega)
  unfold spec_l1Pick.f
  rw [e, Option.bind_some, if_pos h0, if_pos h1]
  obtain ⟨n, rfl⟩ := Int.eq_ofNat_of_zero_le h0
  have hn : n < l.length := by omega
  exact ⟨_, _, _, rfl, by rw [show ((n : Nat) : Int) = (n : Int) from rfl, rdOf_lt hn]; exact List.getElem_mem hn, h2⟩
theorem pickInt_ok (b : List Int) (hb : b.length ≤ 1048576) (i h : Int) (hi : 0 ≤ i) (l : List Int) (hn : 0 < l.length) (hn2 : l.length ≤ 256) : ∃ (s i' h' : Int), spec_l1PickInt.f b i h l = some (s, i', h') ∧ s ∈ l ∧ 0 ≤ i' := by
  obtain ⟨x, i', h', e, h0, h1, h2⟩ := below_ok b hb i h l.length hi (by omega) (by omega)
  unfold spec_l1PickInt.f
  rw [e, Option.bind_some, if_pos h0, if_pos h1]
  obtain ⟨n, rfl⟩ := Int.eq_ofNat_of_zero_le h0
  have hn : n < l.length := by omega
  exact ⟨_, _, _, rfl, by rw [show ((n : Nat) : Int) = (n : Int) from rfl, rd_lt hn]; exact List.getElem_mem hn, h2⟩
theorem within_eq (a b c : Int) : impl_within.f a b c = some (decide (b ≤ a ∧ a ≤ c)) := by
  unfold impl_within.f
  split <;> simp <;> omega
theorem l1In_eq (a b c : Int) : spec_l1In.f a b c = some (decide (b ≤ a ∧ a ≤ c)) := by
  unfold spec_l1In.f
  split <;> simp <;> omega
def LetP (x : Int) : Prop := x ≠ 0 ∧ -8 ≤ x ∧ x ≤ 8
theorem l2Letter_eq (x : Int) : spec_l2Letter.f x = some (decide (LetP x)) := by
  unfold spec_l2Letter.f
  simp only [l1In_eq, Option.bind_some]
  by_cases h : 1 ≤ x ∧ x ≤ 8
  · rw [decide_eq_true h, decide_eq_true (show LetP x from ⟨by omega, by omega, by omega⟩)]; rfl
  · rw [decide_eq_false h]
    simp only [Bool.false_eq_true, if_false]
    congr 1
    rw [decide_eq_decide]
    unfold LetP
    omega
theorem isLetter_eq (x : Int) : impl_isLetter.f x = some (decide (LetP x)) := by
  unfold impl_isLetter.f
  simp only [within_eq, Option.bind_some]
  split
  · rename_i h
    rw [decide_eq_false (fun hh : LetP x => hh.1 h)]
  · rename_i h
    congr 1
    rw [decide_eq_decide]
    unfold LetP
    omega
def WordP (l : List Int) : Prop := (∀ x ∈ l, LetP x) ∧ l.length ≤ 24
def WordFrom (l : List Int) (i : Nat) : Prop := (∀ x ∈ l.drop i, LetP x) ∧ l.length ≤ 24
theorem isWord_l (l : List Int) (hl : l.length ≤ 9223372036854775807) : ∀ (d i : Nat), i + d = l.length → Ev (fun k => spec_IsWord.l0 k l i) (decide (WordFrom l i)) ∧ Ev (fun k => impl_IsWord.l0 k l l l.length i) (decide (WordFrom l i)) := by
  intro d
  induction d with
  | zero =>
    intro i hi
    have e : decide (WordFrom l i) = decide ((l.length : Int) ≤ 24) := by
      rw [decide_eq_decide]; unfold WordFrom; rw [List.drop_of_length_le (by omega)]
      simp
      omega
    rw [e]
    refine ⟨Ev.step (f := fun _ => some (decide ((l.length : Int) ≤ 24))) (fun k => ?_) (Ev.now _), Ev.step (f := fun _ => some (decide ((l.length : Int) ≤ 24))) (fun k => ?_) (Ev.now _)⟩
    · simp only [spec_IsWord.l0]; rw [if_neg (by omega)]
    · simp only [impl_IsWord.l0]; rw [if_neg (by omega)]
  | succ d ih =>
    intro i hi
    have hlt : i < l.length := by omega
    have e1 := rd_lt hlt
    have ed : l.drop i = l[i] :: l.drop (i + 1) := List.drop_eq_getElem_cons hlt
    by_cases hp : LetP l[i]
    · have e : decide (WordFrom l i) = decide (WordFrom l (i + 1)) := by
        rw [decide_eq_decide]; unfold WordFrom; rw [ed]
        simp only [List.mem_cons, forall_eq_or_imp, hp, true_and]
      rw [e]
      obtain ⟨h1, h2⟩ := ih (i + 1) (by omega)
      refine ⟨Ev.step (fun k => ?_) h1, Ev.step (fun k => ?_) h2⟩
      · simp only [spec_IsWord.l0, l2Letter_eq, e1, Option.bind_some, decide_eq_true hp]
        rw [if_pos (by omega), if_pos (by omega), if_pos trivial, w64s hlt hl]
      · simp only [impl_IsWord.l0, isLetter_eq, e1, Option.bind_some, decide_eq_true hp]
        rw [if_pos (by omega), if_pos (by omega), if_pos (by omega), if_pos trivial, w64s hlt hl]
    · have e : decide (WordFrom l i) = false := by
        refine decide_eq_false fun h => hp (h.1 _ ?_)
        rw [ed]; exact List.mem_cons_self
      rw [e]
      refine ⟨Ev.step (f := fun _ => some false) (fun k => ?_) (Ev.now _), Ev.step (f := fun _ => some false) (fun k => ?_) (Ev.now _)⟩
      · simp only [spec_IsWord.l0, l2Letter_eq, e1, Option.bind_some, decide_eq_false hp]
        rw [if_pos (by omega), if_pos (by omega)]; rfl
      · simp only [impl_IsWord.l0, isLetter_eq, e1, Option.bind_some, decide_eq_false hp]
        rw [if_pos (by omega), if_pos (by omega), if_pos (by omega)]; rfl
theorem isWord_ev (l : List Int) (hl : l.length ≤ 1048576) : Ev (fun k => spec_IsWord.f k l) (decide (WordP l)) ∧ Ev (fun k => impl_IsWord.f k l) (decide (WordP l)) := by
  have := isWord_l l (by omega) l.length 0 (by omega)
  have e : decide (WordFrom l 0) = decide (WordP l) := by rw [decide_eq_decide]; rfl
  rw [e] at this
  exact this
theorem LetP.neg {x : Int} (h : LetP x) : LetP (-x) := by unfold LetP at *; omega
theorem w64neg {x : Int} (h : LetP x) : wrap64 (-x) = -x := w64 (by unfold LetP at h; omega) (by unfold LetP at h; omega)
def invL (l : List Int) : List Int := (l.map (fun x => -x)).reverse
theorem invL_length (l : List Int) : (invL l).length = l.length := by simp [invL]
theorem inverse_l (l : List Int) (hl : l.length ≤ 1048576) (hp : ∀ x ∈ l, LetP x) : ∀ (i : Nat) (acc : List Int), i ≤ l.length → acc = invL (l.drop i) → Ev (fun k => spec_l2Inverse.l0 k l acc ((i : Int) - 1)) (invL l) ∧ Ev (fun k => impl_inverse.l0 k l acc ((i : Int) - 1)) (invL l) := by
  intro i
  induction i with
  | zero =>
    intro acc hi ha
    rw [List.drop_zero] at ha
    subst ha
    refine ⟨Ev.step (f := fun _ => some (invL l)) (fun k => ?_) (Ev.now _), Ev.step (f := fun _ => some (invL l)) (fun k => ?_) (Ev.now _)⟩
    · simp only [spec_l2Inverse.l0]; rw [if_neg (by omega)]
    · simp only [impl_inverse.l0]; rw [if_neg (by omega)]
  | succ i ih =>
    intro acc hi ha
    have hlt : i < l.length := by omega
    have e0 : ((i + 1 : Nat) : Int) - 1 = (i : Int) := by omega
    have ed : l.drop i = l[i] :: l.drop (i + 1) := List.drop_eq_getElem_cons hlt
    have hlen : acc.length < 17592186044416 := by rw [ha, invL_length, List.length_drop]; omega
    have hn := w64neg (hp l[i] (List.getElem_mem hlt))
    obtain ⟨h1, h2⟩ := ih (acc ++ [-l[i]]) (by omega) (by rw [ha, ed]; simp only [invL, List.map_cons, List.reverse_cons])
    rw [e0]
    refine ⟨Ev.step (fun k => ?_) h1, Ev.step (fun k => ?_) h2⟩
    · simp only [spec_l2Inverse.l0, rd_lt hlt, hn]
      rw [if_pos (by omega), if_pos (by omega), if_pos (by omega), if_pos hlen, w64 (by omega) (by omega)]
    · simp only [impl_inverse.l0, rd_lt hlt, hn]
      rw [if_pos (by omega), if_pos (by omega), if_pos (by omega), if_pos hlen, w64 (by omega) (by omega)]
theorem inverse_ev (l : List Int) (hl : l.length ≤ 1048576) (hp : ∀ x ∈ l, LetP x) : Ev (fun k => spec_l2Inverse.f k l) (invL l) ∧ Ev (fun k => impl_inverse.f k l) (invL l) := by
  have := inverse_l l hl hp l.length [] (Nat.le_refl _) (by simp [invL])
  have hw : wrap64 ((l.length : Int) - 1) = (l.length : Int) - 1 := w64 (by omega) (by omega)
  simpa [spec_l2Inverse.f, impl_inverse.f, hw] using this
def turnL (l : List Int) (k : Int) : List Int := if l.length = 0 then [] else l.drop (k % (l.length : Int)).toNat ++ l.take (k % (l.length : Int)).toNat
theorem turnL_length (l : List Int) (k : Int) : (turnL l k).length = l.length := by
  unfold turnL
  split
  · simp_all
  · simp only [List.length_append, List.length_drop, List.length_take]
    have := Int.emod_nonneg k (b := (l.length : Int)) (by omega)
    have := Int.emod_lt_of_pos k (b := (l.length : Int)) (by omega)
    omega
theorem tmod_turn (k : Int) (n : Nat) (hn : 0 < n) (h : n ≤ 1048576) : (if Int.tmod k n < 0 then wrap64 (Int.tmod k n + n) else Int.tmod k n) = k % (n : Int) := by
  have hb : -(n : Int) < Int.tmod k n ∧ Int.tmod k n < n := by
    constructor
    · have := Int.lt_tmod_of_pos k (show (0 : Int) < n by omega); omega
    · exact Int.tmod_lt_of_pos k (by omega)
  have he := Int.tmod_eq_emod (a := k) (b := (n : Int))
  have h1 := Int.emod_nonneg k (b := (n : Int)) (by omega)
  have h2 := Int.emod_lt_of_pos k (b := (n : Int)) (by omega)
  have hna : ((n : Int).natAbs : Int) = n := by omega
  split
  · rw [w64 (by omega) (by omega), he]
    split
    · rename_i hlt hc
      rw [he, if_pos hc] at hlt
      omega
    · rename_i hlt hc
      rw [he, if_neg hc] at hlt
      omega
  · rename_i hlt
    rw [he] at hlt ⊢
    split
    · omega
    · rename_i hc
      rw [if_neg hc] at hlt
      omega
theorem turnS_eq (l : List Int) (hl : l.length ≤ 1048576) (k : Int) : spec_l2Turn.f l k = some (turnL l k) := by
  unfold spec_l2Turn.f turnL
  by_cases h0 : l.length = 0
  · simp [h0]
  have hn : ¬ (l.length : Int) = 0 := by omega
  have ht := tmod_turn k l.length (by omega) hl
  have h1 := Int.emod_nonneg k (b := (l.length : Int)) (by omega)
  have h2 := Int.emod_lt_of_pos k (b := (l.length : Int)) (by omega)
  have hdl : (l.drop (k % (l.length : Int)).toNat).length < 17592186044416 := by simp; omega
  have hal : (l.drop (k % (l.length : Int)).toNat).length + (l.take (k % (l.length : Int)).toNat).length < 17592186044416 := by simp; omega
  have h3 : (k % (l.length : Int)) ≤ (l.length : Int) := by omega
  simp only [h0, hn, if_false]
  · by_cases hlt : Int.tmod k l.length < 0
    · simp only [hlt, if_true] at ht ⊢
      simp only [ht, Option.bind_some, List.nil_append, List.length_nil, Nat.zero_add, h1, h3, hdl, hal, if_true]
    · simp only [hlt, if_false] at ht ⊢
      simp only [ht, Option.bind_some, List.nil_append, List.length_nil, Nat.zero_add, h1, h3, hdl, hal, if_true]
def ltx (x : Int) : ByteArray := strOfNums [if x > 0 then 96 + x else 64 - x]
def txt (l : List Int) : ByteArray := l.foldl (fun t x => t ++ ltx x) (⟨#[]⟩ : ByteArray)
theorem letter_cases {x : Int} (h : LetP x) : x = 1 ∨ x = 2 ∨ x = 3 ∨ x = 4 ∨ x = 5 ∨ x = 6 ∨ x = 7 ∨ x = 8 ∨ x = -1 ∨ x = -2 ∨ x = -3 ∨ x = -4 ∨ x = -5 ∨ x = -6 ∨ x = -7 ∨ x = -8 := by
  unfold LetP at h; omega
theorem ltx_size (x : Int) : (ltx x).size = 1 := rfl
theorem txt_size (l : List Int) : ∀ t : ByteArray, (l.foldl (fun t x => t ++ ltx x) t).size = t.size + l.length := by
  induction l with
  | nil => intro t; simp
  | cons x l ih => intro t; rw [List.foldl_cons, ih, ByteArray.size_append, ltx_size, List.length_cons]; omega
theorem ltx_pos {x : Int} (h : LetP x) (h0 : x > 0) : (⟨#[97, 98, 99, 100, 101, 102, 103, 104]⟩ : ByteArray).extract (x - 1).toNat x.toNat = ltx x := by
  rcases letter_cases h with rfl | rfl | rfl | rfl | rfl | rfl | rfl | rfl | rfl | rfl | rfl | rfl | rfl | rfl | rfl | rfl <;> first | (exfalso; omega) | decide +kernel
theorem ltx_neg {x : Int} (h : LetP x) (h0 : ¬ x > 0) : (⟨#[65, 66, 67, 68, 69, 70, 71, 72]⟩ : ByteArray).extract (-x - 1).toNat (-x).toNat = ltx x := by
  rcases letter_cases h with rfl | rfl | rfl | rfl | rfl | rfl | rfl | rfl | rfl | rfl | rfl | rfl | rfl | rfl | rfl | rfl <;> first | (exfalso; omega) | decide +kernel
theorem letterText_eq {x : Int} (h : LetP x) : impl_letterText.f x = some (ltx x) := by
  unfold impl_letterText.f ltx
  unfold LetP at h
  split
  · rw [w64 (x := 97 + x) (by omega) (by omega), w64 (by omega) (by omega), show (97 + x - 1) % 256 = 96 + x by omega]
  · rw [w64 (x := 65 - x) (by omega) (by omega), w64 (by omega) (by omega), show (65 - x - 1) % 256 = 64 - x by omega]
theorem textS_l (l : List Int) (hl : l.length ≤ 1048576) (hp : ∀ x ∈ l, LetP x) : ∀ (d i : Nat) (t : ByteArray), i + d = l.length → t.size = i → Ev (fun k => spec_l2Text.l0 k l t i) ((l.drop i).foldl (fun t x => t ++ ltx x) t) := by
  intro d
  induction d with
  | zero =>
    intro i t hi ht
    rw [List.drop_of_length_le (by omega)]
    refine Ev.step (f := fun _ => some t) (fun k => ?_) (Ev.now _)
    simp only [spec_l2Text.l0]; rw [if_neg (by omega)]
  | succ d ih =>
    intro i t hi ht
    have hlt : i < l.length := by omega
    have ed : l.drop i = l[i] :: l.drop (i + 1) := List.drop_eq_getElem_cons hlt
    have hx := hp l[i] (List.getElem_mem hlt)
    have hn := w64neg hx
    have hx' := hx
    unfold LetP at hx'
    have h1 := ih (i + 1) (t ++ ltx l[i]) (by omega) (by rw [ByteArray.size_append, ltx_size, ht])
    rw [ed, List.foldl_cons]
    refine Ev.step (fun k => ?_) h1
    simp only [spec_l2Text.l0, rd_lt hlt, hn]
    by_cases h0 : l[i] > 0
    · have hw : wrap64 (l[i] - 1) = l[i] - 1 := w64 (by omega) (by omega)
      have hlx := ltx_pos hx h0
      simp only [hw, hlx]
      rw [if_pos (by omega), if_pos (by omega), if_pos h0, if_pos (by omega), if_pos (by omega), if_pos (by omega), if_pos (by rw [ltx_size]; omega), w64s hlt (by omega)]
    · have hw : wrap64 (-l[i] - 1) = -l[i] - 1 := w64 (by omega) (by omega)
      have hlx := ltx_neg hx h0
      simp only [hw, hlx]
      rw [if_pos (by omega), if_pos (by omega), if_neg h0, if_pos (by omega), if_pos (by omega), if_pos (by omega), if_pos (by rw [ltx_size]; omega), w64s hlt (by omega)]
theorem textI_l (l : List Int) (hl : l.length ≤ 1048576) (hp : ∀ x ∈ l, LetP x) : ∀ (d i : Nat) (t : ByteArray), i + d = l.length → t.size = i → Ev (fun k => impl_WordText.l0 k t l l.length i) (if l.length = 0 then (⟨#[45]⟩ : ByteArray) else (l.drop i).foldl (fun t x => t ++ ltx x) t) := by
  intro d
  induction d with
  | zero =>
    intro i t hi ht
    rw [List.drop_of_length_le (by omega)]
    have hl0 : t.toList = [] ↔ l.length = 0 := by
      rw [tol_nil]
      omega
    refine Ev.step (f := fun _ => some (if l.length = 0 then (⟨#[45]⟩ : ByteArray) else t)) (fun k => ?_) (Ev.now _)
    simp only [impl_WordText.l0]
    rw [if_neg (by omega)]
    by_cases h0 : l.length = 0
    · rw [if_pos (hl0.2 h0), if_pos h0]
    · rw [if_neg (fun h => h0 (hl0.1 h)), if_neg h0]
  | succ d ih =>
    intro i t hi ht
    have hlt : i < l.length := by omega
    have ed : l.drop i = l[i] :: l.drop (i + 1) := List.drop_eq_getElem_cons hlt
    have hx := hp l[i] (List.getElem_mem hlt)
    have h1 := ih (i + 1) (t ++ ltx l[i]) (by omega) (by rw [ByteArray.size_append, ltx_size, ht])
    rw [ed, List.foldl_cons]
    refine Ev.step (fun k => ?_) h1
    simp only [impl_WordText.l0, rd_lt hlt, letterText_eq hx, Option.bind_some]
    rw [if_pos (by omega), if_pos (by omega), if_pos (by omega), if_pos (by rw [ltx_size]; omega), w64s hlt (by omega)]
def textM (l : List Int) : ByteArray := if l.length = 0 then (⟨#[45]⟩ : ByteArray) else txt l
theorem wordText_ev (l : List Int) (hl : l.length ≤ 1048576) : ∃ r : ByteArray, Ev (fun k => spec_WordText.f k l) r ∧ Ev (fun k => impl_WordText.f k l) r ∧ (WordP l → r = textM l) ∧ (¬ WordP l → r = (⟨#[]⟩ : ByteArray)) := by
  obtain ⟨e1, e2⟩ := isWord_ev l hl
  unfold spec_WordText.f impl_WordText.f
  by_cases h : WordP l
  · rw [decide_eq_true h] at e1 e2
    refine ⟨textM l, Ev.bind e1 ?_, Ev.bind e2 ?_, fun _ => rfl, fun hn => absurd h hn⟩
    · simp only [if_true]
      unfold textM
      by_cases h0 : l.length = 0
      · have hq : ((l.length : Int) = 0) = True := eq_true (by omega)
        simp only [hq, if_true]; rw [if_pos h0]; exact Ev.now _
      · have hq : ((l.length : Int) = 0) = False := eq_false (by omega)
        simp only [hq, if_false]; rw [if_neg h0]
        exact Ev.bind (textS_l l hl h.1 l.length 0 _ (by omega) rfl) (Ev.now _)
    · simp only [if_true]
      exact textI_l l hl h.1 l.length 0 _ (by omega) rfl
  · rw [decide_eq_false h] at e1 e2
    exact ⟨_, Ev.bind e1 (Ev.now _), Ev.bind e2 (Ev.now _), fun hh => absurd hh h, fun _ => rfl⟩
def letOf (c : Int) : Option Int := if 97 ≤ c ∧ c ≤ 104 then some (c - 96) else if 65 ≤ c ∧ c ≤ 72 then some (-(c - 64)) else none
def pw (s : ByteArray) : Nat → Nat → List Int → List Int × Bool
  | 0, _, acc => if acc.length = 0 then ([], false) else if acc.length > 24 then ([], false) else (acc, true)
  | d + 1, i, acc => match letOf (bt s i) with
    | none => ([], false)
    | some x => pw s d (i + 1) (acc ++ [x])
theorem pw_length (s : ByteArray) : ∀ (d i : Nat) (acc : List Int), (pw s d i acc).1.length ≤ 24 := by
  intro d
  induction d with
  | zero => intro i acc; unfold pw; split <;> (try split) <;> simp <;> omega
  | succ d ih =>
    intro i acc
    unfold pw
    split
    · simp
    · exact ih _ _
theorem parseWord_l (s : ByteArray) (hs : s.size ≤ 1048576) : ∀ (d i : Nat) (acc : List Int), i + d = s.size → acc.length = i → Ev (fun k => spec_ParseWord.l0 k s acc i) (pw s d i acc) ∧ Ev (fun k => impl_ParseWord.l0 k s acc s.size i) (pw s d i acc) := by
  intro d
  induction d with
  | zero =>
    intro i acc hi ha
    unfold pw
    have hl0 : s.toList = [] ↔ acc.length = 0 := by
      rw [tol_nil]
      omega
    by_cases h0 : acc.length = 0
    · rw [if_pos h0]
      refine ⟨Ev.step (f := fun _ => some (([] : List Int), false)) (fun k => ?_) (Ev.now _), Ev.step (f := fun _ => some (([] : List Int), false)) (fun k => ?_) (Ev.now _)⟩
      · simp only [spec_ParseWord.l0]; rw [if_neg (by omega), if_pos (by omega)]
      · simp only [impl_ParseWord.l0]; rw [if_neg (by omega), if_pos (hl0.2 h0)]
    · rw [if_neg h0]
      by_cases h24 : acc.length > 24
      · rw [if_pos h24]
        refine ⟨Ev.step (f := fun _ => some (([] : List Int), false)) (fun k => ?_) (Ev.now _), Ev.step (f := fun _ => some (([] : List Int), false)) (fun k => ?_) (Ev.now _)⟩
        · simp only [spec_ParseWord.l0]; rw [if_neg (by omega), if_neg (by omega), if_pos (by omega)]
        · simp only [impl_ParseWord.l0]; rw [if_neg (by omega), if_neg (fun h => h0 (hl0.1 h)), if_pos (by omega)]
      · rw [if_neg h24]
        refine ⟨Ev.step (f := fun _ => some (acc, true)) (fun k => ?_) (Ev.now _), Ev.step (f := fun _ => some (acc, true)) (fun k => ?_) (Ev.now _)⟩
        · simp only [spec_ParseWord.l0]; rw [if_neg (by omega), if_neg (by omega), if_neg (by omega)]
        · simp only [impl_ParseWord.l0]; rw [if_neg (by omega), if_neg (fun h => h0 (hl0.1 h)), if_neg (by omega)]
  | succ d ih =>
    intro i acc hi ha
    have hlt : (i : Int) < (s.size : Int) := by omega
    have hll : acc.length < 17592186044416 := by omega
    obtain ⟨c, hc⟩ : ∃ c, bt s i = c := ⟨_, rfl⟩
    have hcr := bt_range s i
    rw [hc] at hcr
    unfold pw
    rw [hc]
    have hw : ∀ z : Int, -1000 ≤ z → z ≤ 1000 → wrap64 z = z := fun z h1 h2 => w64 (by omega) (by omega)
    have hi0 : (0 : Int) ≤ (i : Int) := by omega
    by_cases h1 : 97 ≤ c ∧ c ≤ 104
    · have hl : letOf c = some (c - 96) := by unfold letOf; rw [if_pos h1]
      rw [hl]
      obtain ⟨g1, g2⟩ := ih (i + 1) (acc ++ [c - 96]) (by omega) (by simp [ha])
      constructor
      · refine Ev.step (f := fun k => spec_ParseWord.j1 k s acc i true) (fun k => ?_) (Ev.step (fun k => ?_) g1)
        · simp only [spec_ParseWord.l0, hc]
          rw [if_pos hlt, if_pos hi0, if_pos (show c ≥ 97 from h1.1), decide_eq_true h1.2]
        · simp only [spec_ParseWord.j1, hc]
          rw [if_pos trivial, if_pos hi0, if_pos hlt, if_pos hll, hw c (by omega) (by omega), hw (c - 97) (by omega) (by omega), hw (c - 97 + 1) (by omega) (by omega), w64s (show i < s.size by omega) (by omega), show c - 97 + 1 = c - 96 by omega]
      · refine Ev.step (f := fun k => impl_ParseWord.j1 k s acc c s.size i true) (fun k => ?_) (Ev.step (fun k => ?_) g2)
        · simp only [impl_ParseWord.l0, hc]
          rw [if_pos hlt, if_pos hi0, if_pos hlt, if_pos (show c ≥ 97 from h1.1), decide_eq_true (show c < 105 by omega)]
        · simp only [impl_ParseWord.j1]
          rw [if_pos trivial, if_pos hll, w64s (show i < s.size by omega) (by omega), show (c - 97) % 256 + 1 = c - 96 by omega]
    · have hd1 : (c ≥ 97 → decide (c ≤ 104) = false) ∧ (c ≥ 97 → decide (c < 105) = false) := ⟨fun h => decide_eq_false (by omega), fun h => decide_eq_false (by omega)⟩
      by_cases h2 : 65 ≤ c ∧ c ≤ 72
      · have hl : letOf c = some (-(c - 64)) := by unfold letOf; rw [if_neg h1, if_pos h2]
        rw [hl]
        obtain ⟨g1, g2⟩ := ih (i + 1) (acc ++ [-(c - 64)]) (by omega) (by simp [ha])
        constructor
        · refine Ev.step (f := fun k => spec_ParseWord.j1 k s acc i false) (fun k => ?_) (Ev.step (fun k => ?_) g1)
          · simp only [spec_ParseWord.l0, hc]
            rw [if_pos hlt, if_pos hi0, if_neg (show ¬ c ≥ 97 by omega)]
          · simp only [spec_ParseWord.j1, hc]
            rw [if_neg (by simp), if_pos hi0, if_pos hlt, if_pos (show c ≥ 65 by omega), if_pos (show c ≤ 72 by omega), if_pos hll, hw c (by omega) (by omega), hw (c - 65) (by omega) (by omega), hw (c - 65 + 1) (by omega) (by omega), hw (-(c - 65 + 1)) (by omega) (by omega), w64s (show i < s.size by omega) (by omega), show -(c - 65 + 1) = -(c - 64) by omega]
        · refine Ev.step (f := fun k => impl_ParseWord.j1 k s acc c s.size i false) (fun k => ?_) (Ev.step (fun k => ?_) g2)
          · simp only [impl_ParseWord.l0, hc]
            rw [if_pos hlt, if_pos hi0, if_pos hlt, if_neg (show ¬ c ≥ 97 by omega)]
          · simp only [impl_ParseWord.j1]
            rw [if_neg (by simp), if_pos (show c ≥ 65 by omega), if_pos (show c < 73 by omega), if_pos hll, w64s (show i < s.size by omega) (by omega), show -((c - 65) % 256) - 1 = -(c - 64) by omega]
      · have hl : letOf c = none := by unfold letOf; rw [if_neg h1, if_neg h2]
        rw [hl]
        constructor
        · have hj : Ev (fun k => spec_ParseWord.j1 k s acc i false) (([] : List Int), false) := by
            refine Ev.step (f := fun _ => some (([] : List Int), false)) (fun k => ?_) (Ev.now _)
            simp only [spec_ParseWord.j1, hc]
            rw [if_neg (by simp), if_pos hi0, if_pos hlt]
            split
            · rw [if_neg (by omega)]
            · rfl
          refine Ev.step (f := fun k => spec_ParseWord.j1 k s acc i false) (fun k => ?_) hj
          simp only [spec_ParseWord.l0, hc]
          rw [if_pos hlt, if_pos hi0]
          split
          · rename_i h97
            rw [hd1.1 h97]
          · rfl
        · have hj : Ev (fun k => impl_ParseWord.j1 k s acc c s.size i false) (([] : List Int), false) := by
            refine Ev.step (f := fun _ => some (([] : List Int), false)) (fun k => ?_) (Ev.now _)
            simp only [impl_ParseWord.j1]
            rw [if_neg (by simp)]
            split
            · rw [if_neg (by omega)]
            · rfl
          refine Ev.step (f := fun k => impl_ParseWord.j1 k s acc c s.size i false) (fun k => ?_) hj
          simp only [impl_ParseWord.l0, hc]
          rw [if_pos hlt, if_pos hi0, if_pos hlt]
          split
          · rename_i h97
            rw [hd1.2 h97]
          · rfl
def parseM (s : ByteArray) : List Int × Bool := if s.toList = ([45] : List UInt8) then ([], true) else pw s s.size 0 []
theorem parseWord_ev (s : ByteArray) (hs : s.size ≤ 1048576) : ∃ (r : List Int) (o : Bool), r.length ≤ 1048576 ∧ Ev (fun k => spec_ParseWord.f k s) (r, o) ∧ Ev (fun k => impl_ParseWord.f k s) (r, o) ∧ (r, o) = parseM s := by
  refine ⟨(parseM s).1, (parseM s).2, ?_, ?_, ?_, rfl⟩
  · unfold parseM
    split
    · simp
    · have := pw_length s s.size 0 []; omega
  · unfold spec_ParseWord.f parseM
    simp only [Option.bind_some]
    split
    · exact Ev.now _
    · exact (parseWord_l s hs s.size 0 [] (by omega) rfl).1
  · unfold impl_ParseWord.f parseM
    split
    · exact Ev.now _
    · exact (parseWord_l s hs s.size 0 [] (by omega) rfl).2
theorem drawW_l (b : List Int) (hb : b.length ≤ 1048576) (L : Int) (h0 : 0 < L) (h8 : L ≤ 8) : ∀ (n : Nat) (acc : List Int) (i h : Int), 0 ≤ i → acc.length + n ≤ 1000 → (∀ x ∈ acc, LetP x) →
    ∃ (l : List Int) (i' h' : Int), Ev (fun k => spec_l2Draw.l0 k L acc (n : Int) b i h) (l, i', h') ∧ l.length = acc.length + n ∧ 0 ≤ i' ∧ ∀ x ∈ l, LetP x := by
  intro n
  induction n with
  | zero =>
    intro acc i h hi ha hp
    refine ⟨acc, i, h, Ev.step (f := fun _ => some (acc, i, h)) (fun k => ?_) (Ev.now _), rfl, hi, hp⟩
    simp only [spec_l2Draw.l0]; rw [if_neg (by omega)]
  | succ n ih =>
    intro acc i h hi ha hp
    obtain ⟨x, i1, g1, e1, a1, a2, a3⟩ := below_ok b hb i h L hi h0 (by omega)
    obtain ⟨y, i2, g2, e2, b3⟩ := once_ok b hb i1 g1 2 a3 (by omega) (by omega)
    have w1 : wrap64 (1 + x) = 1 + x := w64 (by omega) (by omega)
    have w2 : wrap64 (-(1 + x)) = -(1 + x) := w64 (by omega) (by omega)
    have w3 : wrap64 (((n + 1 : Nat) : Int) - 1) = (n : Int) := by rw [show ((n + 1 : Nat) : Int) - 1 = (n : Int) by omega]; exact w64 (by omega) (by omega)
    cases y with
    | true =>
      obtain ⟨l, i', h', hE, q1, q2, q3⟩ := ih (acc ++ [-(1 + x)]) i2 g2 b3 (by simp; omega) (by
        intro z hz
        rcases List.mem_append.1 hz with hz | hz
        · exact hp z hz
        · rw [List.mem_singleton.1 hz]; unfold LetP; omega)
      refine ⟨l, i', h', Ev.step (fun k => ?_) hE, by simp at q1; omega, q2, q3⟩
      simp only [spec_l2Draw.l0]
      rw [if_pos (by omega), e1, Option.bind_some, e2, Option.bind_some]
      dsimp only
      rw [if_pos rfl, if_pos (by omega), w1, w2, w3]
    | false =>
      obtain ⟨l, i', h', hE, q1, q2, q3⟩ := ih (acc ++ [1 + x]) i2 g2 b3 (by simp; omega) (by
        intro z hz
        rcases List.mem_append.1 hz with hz | hz
        · exact hp z hz
        · rw [List.mem_singleton.1 hz]; unfold LetP; omega)
      refine ⟨l, i', h', Ev.step (fun k => ?_) hE, by simp at q1; omega, q2, q3⟩
      simp only [spec_l2Draw.l0]
      rw [if_pos (by omega), e1, Option.bind_some, e2, Option.bind_some]
      dsimp only
      rw [if_neg Bool.false_ne_true, if_pos (by omega), w1, w3]
theorem drawW_ok (b : List Int) (hb : b.length ≤ 1048576) (L M : Int) (h0 : 0 < L) (h8 : L ≤ 8) (hM : 0 ≤ M) (hM2 : M ≤ 100) (i h : Int) (hi : 0 ≤ i) :
    ∃ (l : List Int) (i' h' : Int), Ev (fun k => spec_l2Draw.f k b i h L M) (l, i', h') ∧ l.length ≤ 100 ∧ (l.length : Int) ≤ M ∧ 0 ≤ i' ∧ ∀ x ∈ l, LetP x := by
  have w1 : wrap64 (M + 1) = M + 1 := w64 (by omega) (by omega)
  obtain ⟨x, i1, g1, e1, a1, a2, a3⟩ := below_ok b hb i h (M + 1) hi (by omega) (by omega)
  obtain ⟨n, rfl⟩ := Int.eq_ofNat_of_zero_le a1
  obtain ⟨l, i', h', hE, q1, q2, q3⟩ := drawW_l b hb L h0 h8 n [] i1 g1 a3 (by simp; omega) (by simp)
  rw [List.length_nil] at q1
  refine ⟨l, i', h', ?_, by omega, by omega, q2, q3⟩
  refine Ev.congr (f := fun k => spec_l2Draw.l0 k L [] (n : Int) b i1 g1) (fun k => ?_) hE
  unfold spec_l2Draw.f
  rw [w1, e1, Option.bind_some]
theorem bent_l (b : List Int) : ∀ (d : Nat) (acc : List Int) (i h : Int), acc.length + d = 25 → ∃ l : List Int, Ev (fun k => spec_l2Bent.l0 k acc b i h) (l, i, h) ∧ l.length = 25 := by
  intro d
  induction d with
  | zero =>
    intro acc i h ha
    refine ⟨acc, Ev.step (f := fun _ => some (acc, i, h)) (fun k => ?_) (Ev.now _), by omega⟩
    simp only [spec_l2Bent.l0]; rw [if_neg (by omega)]
  | succ d ih =>
    intro acc i h ha
    obtain ⟨l, hE, q⟩ := ih (acc ++ [1]) i h (by simp; omega)
    refine ⟨l, Ev.step (fun k => ?_) hE, q⟩
    simp only [spec_l2Bent.l0]; rw [if_pos (by omega), if_pos (by omega)]
theorem bent_ok (b : List Int) (hb : b.length ≤ 1048576) (i h : Int) (hi : 0 ≤ i) : ∃ (l : List Int) (i' h' : Int), Ev (fun k => spec_l2Bent.f k b i h) (l, i', h') ∧ l.length ≤ 25 ∧ 0 ≤ i' := by
  obtain ⟨x, i1, g1, e1, a1, a2, a3⟩ := below_ok b hb i h 3 hi (by omega) (by omega)
  have w1 : wrap64 (1 + x) = 1 + x := w64 (by omega) (by omega)
  obtain ⟨l, i2, g2, hE, q1, q2, q3, q4⟩ := drawW_ok b hb (1 + x) 10 (by omega) (by omega) (by omega) (by omega) i1 g1 a3
  obtain ⟨y, i3, g3, e3, c1, c2, c3⟩ := below_ok b hb i2 g2 20 q3 (by omega) (by omega)
  have pre : ∀ (F : Nat → Option (List Int × Int × Int)) (r : List Int × Int × Int), Ev F r → (∀ k, ((spec_l1Below.f b i2 g2 20).bind fun bt389 => (if bt389.1 = 0 then ((spec_l1PickInt.f b bt389.2.1 bt389.2.2 (([0, 9, (-9), 8] : List Int))).bind fun bt395 => (if l.length < 17592186044416 then (some ((l ++ [bt395.1]), bt395.2.1, bt395.2.2)) else (none))) else (if bt389.1 = 1 then (spec_l2Bent.l0 k l b bt389.2.1 bt389.2.2) else (some (l, bt389.2.1, bt389.2.2))))) = F k) → Ev (fun k => spec_l2Bent.f k b i h) r := by
    intro F r hF hk
    unfold spec_l2Bent.f
    rw [e1]
    refine Ev.some_bind ?_
    dsimp only
    rw [w1]
    refine Ev.bind hE ?_
    exact Ev.congr hk hF
  by_cases y0 : y = 0
  · obtain ⟨s, i4, g4, e4, _, d3⟩ := pickInt_ok b hb i3 g3 c3 [0, 9, -9, 8] (by decide) (by decide)
    refine ⟨l ++ [s], i4, g4, pre _ _ (Ev.now _) fun k => ?_, by simp; omega, d3⟩
    rw [e3, Option.bind_some]
    dsimp only
    rw [if_pos y0, e4, Option.bind_some, if_pos (by omega)]
  · by_cases y1 : y = 1
    · obtain ⟨r, hr, q⟩ := bent_l b (25 - l.length) l i3 g3 (by omega)
      refine ⟨r, i3, g3, pre _ _ hr fun k => ?_, by omega, c3⟩
      rw [e3, Option.bind_some]
      dsimp only
      rw [if_neg y0, if_pos y1]
    · refine ⟨l, i3, g3, pre _ _ (Ev.now _) fun k => ?_, by omega, c3⟩
      rw [e3, Option.bind_some]
      dsimp only
      rw [if_neg y0, if_neg y1]
theorem drawIsWord_ok (l : List Int) (hl : l.length ≤ 1048576) : ∃ w : List Int, Ev (fun k => spec_DrawIsWord.f k l) w ∧ w.length ≤ 25 := by
  obtain ⟨h, hn⟩ := new_ok l hl
  obtain ⟨w, i, g, hE, q1, q2⟩ := bent_ok l hl 0 h (by omega)
  refine ⟨w, ?_, q1⟩
  unfold spec_DrawIsWord.f
  exact Ev.bind hn (Ev.bind hE (Ev.now _))
theorem drawTurnWord_ok (l : List Int) (hl : l.length ≤ 1048576) : ∃ (w : List Int) (n : Int), Ev (fun k => spec_DrawTurnWord.f k l) (w, n) ∧ w.length ≤ 25 := by
  obtain ⟨h, hn⟩ := new_ok l hl
  obtain ⟨w, i, g, hE, q1, q2⟩ := bent_ok l hl 0 h (by omega)
  obtain ⟨s, i4, g4, e4, _, d3⟩ := pickInt_ok l hl i g q2 [0, 1, 2, -1, 7, -9223372036854775808] (by decide) (by decide)
  refine ⟨w, s, ?_, q1⟩
  unfold spec_DrawTurnWord.f
  refine Ev.bind hn (Ev.bind hE ?_)
  refine Ev.congr (f := fun _ => some (w, s)) (fun k => ?_) (Ev.now _)
  show (spec_l1PickInt.f l i g [0, 1, 2, -1, 7, -9223372036854775808]).bind _ = _
  rw [e4]; rfl
theorem turned_ok (b : List Int) (hb : b.length ≤ 1048576) (i h : Int) (hi : 0 ≤ i) (s : ByteArray) (hs : s.size ≤ 200) (l : List ByteArray) (hn : 0 < l.length) (hn2 : l.length ≤ 256) (hz : ∀ x ∈ l, x.size ≤ 1) :
    ∃ (t : ByteArray) (i' h' : Int), spec_l1Turned.f b i h s l = some (t, i', h') ∧ t.size ≤ 201 := by
  have w1 : wrap64 ((s.size : Int) + 1) = (s.size : Int) + 1 := w64 (by omega) (by omega)
  obtain ⟨x, i1, g1, e1, a1, a2, a3⟩ := below_ok b hb i h ((s.size : Int) + 1) hi (by omega) (by omega)
  obtain ⟨y, i2, g2, e2, b1, b2, b3⟩ := below_ok b hb i1 g1 6 a3 (by omega) (by omega)
  obtain ⟨c, i3, g3, e3, hc, c3⟩ := pick_ok b hb i2 g2 b3 l hn hn2
  have hcz := hz c hc
  have z1 : (s.extract 0 x.toNat).size = x.toNat := by rw [ByteArray.size_extract]; omega
  have z2 : (s.extract x.toNat s.size).size = s.size - x.toNat := by rw [ByteArray.size_extract]; omega
  unfold spec_l1Turned.f
  rw [w1, e1, Option.bind_some]
  dsimp only
  rw [e2, Option.bind_some]
  dsimp only
  by_cases y0 : y = 0
  · rw [if_pos y0, if_pos a1, if_pos (by omega), e3, Option.bind_some]
    dsimp only
    rw [if_pos (by rw [z1]; omega), if_pos (by rw [ByteArray.size_append, z1, z2]; omega)]
    exact ⟨_, _, _, rfl, by rw [ByteArray.size_append, ByteArray.size_append, z1, z2]; omega⟩
  · rw [if_neg y0]
    by_cases y1 : y = 1
    · rw [if_pos y1, if_pos a1, if_pos (by omega)]
      exact ⟨_, _, _, rfl, by rw [z1]; omega⟩
    · rw [if_neg y1]
      exact ⟨_, _, _, rfl, by omega⟩
theorem textM_size (l : List Int) : (textM l).size ≤ l.length + 1 := by
  unfold textM
  split
  · show 1 ≤ _; omega
  · unfold txt
    rw [txt_size]
    show 0 + l.length ≤ _
    omega
theorem drawParseWord_ok (l : List Int) (hl : l.length ≤ 1048576) : ∃ t : ByteArray, Ev (fun k => spec_DrawParseWord.f k l) t ∧ t.size ≤ 201 := by
  obtain ⟨h, hn⟩ := new_ok l hl
  obtain ⟨w, i, g, hE, q1, _, q3, q4⟩ := drawW_ok l hl 3 8 (by omega) (by omega) (by omega) (by omega) 0 h (by omega)
  obtain ⟨r, r1, _, r3, r4⟩ := wordText_ev w (by omega)
  have hr : r.size ≤ 200 := by
    by_cases hw : WordP w
    · rw [r3 hw]; have := textM_size w; omega
    · rw [r4 hw]; decide
  obtain ⟨t, i', h', e, ht⟩ := turned_ok l hl i g q3 r hr [(⟨#[97]⟩ : ByteArray), (⟨#[66]⟩ : ByteArray), (⟨#[45]⟩ : ByteArray), (⟨#[105]⟩ : ByteArray), (⟨#[104]⟩ : ByteArray)] (by decide) (by decide) (by decide)
  refine ⟨t, ?_, ht⟩
  unfold spec_DrawParseWord.f
  refine Ev.bind hn (Ev.bind hE (Ev.bind r1 ?_))
  refine Ev.congr (f := fun _ => some t) (fun k => ?_) (Ev.now _)
  show (spec_l1Turned.f l i g r _).bind _ = _
  rw [e]; rfl
theorem two_j (b : List Int) (hb : b.length ≤ 1048576) (v : List Int) (hv : v.length ≤ 25) (o : Bool) (i h : Int) (hi : 0 ≤ i) : ∃ u : List Int, Ev (fun k => spec_l2Two.j0 k v o b i h) (v, u) ∧ u.length ≤ 25 := by
  cases o with
  | true =>
    obtain ⟨g, i1, g1, hE, q1, qq, q3, q4⟩ := drawW_ok b hb 2 3 (by omega) (by omega) (by omega) (by omega) i h hi
    obtain ⟨n1, _⟩ := inverse_ev g (by omega) q4
    obtain ⟨x, i2, g2, e2, b1, b2, b3⟩ := below_ok b hb i1 g1 5 q3 (by omega) (by omega)
    have t1 := turnS_eq v (by omega) x
    have L1 := invL_length g
    have L2 := turnL_length v x
    by_cases hl : ((invL g ++ turnL v x ++ g).length : Int) ≤ 24
    · refine ⟨invL g ++ turnL v x ++ g, Ev.shift ?_, by omega⟩
      simp only [spec_l2Two.j0, if_true]
      refine Ev.bind hE (Ev.bind n1 ?_)
      refine Ev.congr (f := fun _ => some (v, invL g ++ turnL v x ++ g)) (fun k => ?_) (Ev.now _)
      show (spec_l1Below.f b i1 g1 5).bind _ = _
      rw [e2, Option.bind_some]
      dsimp only
      rw [t1, Option.bind_some, if_pos (by omega), Option.bind_some, if_pos (by rw [List.length_append]; omega), Option.bind_some, if_pos hl]
    · obtain ⟨u, i3, g3, hB, r1, _⟩ := bent_ok b hb i2 g2 b3
      refine ⟨u, Ev.shift ?_, r1⟩
      simp only [spec_l2Two.j0, if_true]
      refine Ev.bind hE (Ev.bind n1 ?_)
      refine Ev.congr (f := fun k => (spec_l2Bent.f k b i2 g2).bind fun bt493 => some (v, bt493.1)) (fun k => ?_) (Ev.bind hB (Ev.now _))
      show (spec_l1Below.f b i1 g1 5).bind _ = _
      rw [e2, Option.bind_some]
      dsimp only
      rw [t1, Option.bind_some, if_pos (by omega), Option.bind_some, if_pos (by rw [List.length_append]; omega), Option.bind_some, if_neg hl]
  | false =>
    obtain ⟨u, i3, g3, hB, r1, _⟩ := bent_ok b hb i h hi
    refine ⟨u, Ev.shift ?_, r1⟩
    simp only [spec_l2Two.j0]
    refine Ev.congr (fun k => if_neg Bool.false_ne_true) ?_
    exact Ev.bind hB (Ev.now _)
theorem two_ok (l : List Int) (hl : l.length ≤ 1048576) : ∃ v u : List Int, Ev (fun k => spec_DrawAreConjugate.f k l) (v, u) ∧ v.length ≤ 25 ∧ u.length ≤ 25 := by
  obtain ⟨h, hn⟩ := new_ok l hl
  obtain ⟨v, i, g, hE, q1, q2⟩ := bent_ok l hl 0 h (by omega)
  obtain ⟨o, i2, g2, e2, b3⟩ := once_ok l hl i g 2 q2 (by omega) (by omega)
  obtain ⟨w1, _⟩ := isWord_ev v (by omega)
  by_cases hw : WordP v
  · obtain ⟨u, hu, r⟩ := two_j l hl v q1 o i2 g2 b3
    refine ⟨v, u, ?_, q1, r⟩
    unfold spec_DrawAreConjugate.f spec_l2Two.f
    refine Ev.bind (a := (v, u)) (Ev.bind hn (Ev.bind hE (Ev.bind w1 ?_))) (Ev.now _)
    rw [decide_eq_true hw]
    refine Ev.congr (f := fun k => spec_l2Two.j0 k v o l i2 g2) (fun k => ?_) hu
    rw [if_pos rfl]
    show (spec_l1Once.f l i g 2).bind _ = _
    rw [e2]; rfl
  · obtain ⟨u, hu, r⟩ := two_j l hl v q1 false i g q2
    refine ⟨v, u, ?_, q1, r⟩
    unfold spec_DrawAreConjugate.f spec_l2Two.f
    refine Ev.bind (a := (v, u)) (Ev.bind hn (Ev.bind hE (Ev.bind w1 ?_))) (Ev.now _)
    rw [decide_eq_false hw]
    exact Ev.congr (fun k => if_neg Bool.false_ne_true) hu
theorem same_l (a b : List Int) (hab : a.length = b.length) (hl : a.length ≤ 1048576) : ∀ (d i : Nat), i + d = a.length → Ev (fun k => spec_l2Same.l0 k a b i) (decide (a.drop i = b.drop i)) ∧ Ev (fun k => impl_sameInts.l0 k a b a.length i) (decide (a.drop i = b.drop i)) := by
  intro d
  induction d with
  | zero =>
    intro i hi
    have e : decide (a.drop i = b.drop i) = true := decide_eq_true (by rw [List.drop_of_length_le (by omega), List.drop_of_length_le (by omega)])
    rw [e]
    refine ⟨Ev.step (f := fun _ => some true) (fun k => ?_) (Ev.now _), Ev.step (f := fun _ => some true) (fun k => ?_) (Ev.now _)⟩
    · simp only [spec_l2Same.l0]; rw [if_neg (by omega)]
    · simp only [impl_sameInts.l0]; rw [if_neg (by omega)]
  | succ d ih =>
    intro i hi
    have hlt : i < a.length := by omega
    have hlt2 : i < b.length := by omega
    have ea : a.drop i = a[i] :: a.drop (i + 1) := List.drop_eq_getElem_cons hlt
    have eb : b.drop i = b[i] :: b.drop (i + 1) := List.drop_eq_getElem_cons hlt2
    by_cases h : a[i] = b[i]
    · obtain ⟨h1, h2⟩ := ih (i + 1) (by omega)
      have e : decide (a.drop i = b.drop i) = decide (a.drop (i + 1) = b.drop (i + 1)) := by
        rw [decide_eq_decide, ea, eb, h, List.cons.injEq]
        exact ⟨fun x => x.2, fun x => ⟨rfl, x⟩⟩
      rw [e]
      refine ⟨Ev.step (fun k => ?_) h1, Ev.step (fun k => ?_) h2⟩
      · simp only [spec_l2Same.l0, rd_lt hlt, rd_lt hlt2]
        rw [if_pos (by omega), if_pos (by omega), if_pos (by omega), if_pos h, w64s hlt (by omega)]
      · simp only [impl_sameInts.l0, rd_lt hlt, rd_lt hlt2]
        rw [if_pos (by omega), if_pos (by omega), if_pos (by omega), if_pos (by omega), if_pos h, w64s hlt (by omega)]
    · have e : decide (a.drop i = b.drop i) = false := decide_eq_false (by rw [ea, eb, List.cons.injEq]; exact fun x => h x.1)
      rw [e]
      refine ⟨Ev.step (f := fun _ => some false) (fun k => ?_) (Ev.now _), Ev.step (f := fun _ => some false) (fun k => ?_) (Ev.now _)⟩
      · simp only [spec_l2Same.l0, rd_lt hlt, rd_lt hlt2]
        rw [if_pos (by omega), if_pos (by omega), if_pos (by omega), if_neg h]
      · simp only [impl_sameInts.l0, rd_lt hlt, rd_lt hlt2]
        rw [if_pos (by omega), if_pos (by omega), if_pos (by omega), if_pos (by omega), if_neg h]
theorem same_ev (a b : List Int) (hl : a.length ≤ 1048576) : Ev (fun k => spec_l2Same.f k a b) (decide (a = b)) ∧ Ev (fun k => impl_sameInts.f k a b) (decide (a = b)) := by
  unfold spec_l2Same.f impl_sameInts.f
  by_cases h : a.length = b.length
  · have := same_l a b h hl a.length 0 (by omega)
    rw [List.drop_zero, List.drop_zero] at this
    exact ⟨Ev.congr (fun k => if_pos (by omega)) this.1, Ev.congr (fun k => if_pos (by omega)) this.2⟩
  · have e : decide (a = b) = false := decide_eq_false (fun x => h (by rw [x]))
    rw [e]
    constructor
    · refine Ev.congr (fun k => if_neg (by omega)) (Ev.now _)
    · refine Ev.congr (fun k => if_neg (by omega)) (Ev.now _)
theorem sameL_l (a b : List Int) (hab : a.length = b.length) (hl : a.length ≤ 1048576) : ∀ (d i : Nat), i + d = a.length → Ev (fun k => laws_sameInts.l0 k a b i) (decide (a.drop i = b.drop i)) := by
  intro d
  induction d with
  | zero =>
    intro i hi
    have e : decide (a.drop i = b.drop i) = true := decide_eq_true (by rw [List.drop_of_length_le (by omega), List.drop_of_length_le (by omega)])
    rw [e]
    refine Ev.step (f := fun _ => some true) (fun k => ?_) (Ev.now _)
    simp only [laws_sameInts.l0]; rw [if_neg (by omega)]
  | succ d ih =>
    intro i hi
    have hlt : i < a.length := by omega
    have hlt2 : i < b.length := by omega
    have ea : a.drop i = a[i] :: a.drop (i + 1) := List.drop_eq_getElem_cons hlt
    have eb : b.drop i = b[i] :: b.drop (i + 1) := List.drop_eq_getElem_cons hlt2
    by_cases h : a[i] = b[i]
    · have h1 := ih (i + 1) (by omega)
      have e : decide (a.drop i = b.drop i) = decide (a.drop (i + 1) = b.drop (i + 1)) := by
        rw [decide_eq_decide, ea, eb, h, List.cons.injEq]
        exact ⟨fun x => x.2, fun x => ⟨rfl, x⟩⟩
      rw [e]
      refine Ev.step (fun k => ?_) h1
      simp only [laws_sameInts.l0, rd_lt hlt, rd_lt hlt2]
      rw [if_pos (by omega), if_pos (by omega), if_pos (by omega), if_pos h, w64s hlt (by omega)]
    · have e : decide (a.drop i = b.drop i) = false := decide_eq_false (by rw [ea, eb, List.cons.injEq]; exact fun x => h x.1)
      rw [e]
      refine Ev.step (f := fun _ => some false) (fun k => ?_) (Ev.now _)
      simp only [laws_sameInts.l0, rd_lt hlt, rd_lt hlt2]
      rw [if_pos (by omega), if_pos (by omega), if_pos (by omega), if_neg h]
theorem sameL_ev (a b : List Int) (hl : a.length ≤ 1048576) : Ev (fun k => laws_sameInts.f k a b) (decide (a = b)) := by
  unfold laws_sameInts.f
  by_cases h : a.length = b.length
  · have := sameL_l a b h hl a.length 0 (by omega)
    rw [List.drop_zero, List.drop_zero] at this
    exact Ev.congr (fun k => if_pos (by omega)) this
  · have e : decide (a = b) = false := decide_eq_false (fun x => h (by rw [x]))
    rw [e]
    refine Ev.congr (fun k => if_neg (by omega)) (Ev.now _)
theorem sameL_same (a : List Int) (hl : a.length ≤ 1048576) : Ev (fun k => laws_sameInts.f k a a) true := by
  have := sameL_ev a a hl
  rwa [decide_eq_true rfl] at this
def push (acc : List Int) (x : Int) : List Int := if acc.getLast? = some (-x) then acc.dropLast else acc ++ [x]
def red (l : List Int) : List Int := l.foldl push []
theorem push_length (acc : List Int) (x : Int) : (push acc x).length ≤ acc.length + 1 := by
  unfold push
  split
  · rw [List.length_dropLast]; omega
  · simp
theorem push_mem {acc : List Int} {x y : Int} (h : y ∈ push acc x) : y ∈ acc ∨ y = x := by
  unfold push at h
  split at h
  · exact .inl (List.dropLast_subset _ h)
  · rcases List.mem_append.1 h with h | h
    · exact .inl h
    · exact .inr (by simpa using h)
theorem foldl_push_length (l acc : List Int) : (l.foldl push acc).length ≤ acc.length + l.length := by
  induction l generalizing acc with
  | nil => simp
  | cons x l ih =>
    have := ih (push acc x)
    have h2 := push_length acc x
    simp only [List.foldl_cons, List.length_cons]
    omega
theorem foldl_push_mem {l acc : List Int} {y : Int} (h : y ∈ l.foldl push acc) : y ∈ acc ∨ y ∈ l := by
  induction l generalizing acc with
  | nil => exact .inl h
  | cons x l ih =>
    rcases ih h with h1 | h1
    · rcases push_mem h1 with h2 | h2
      · exact .inl h2
      · exact .inr (by simp [h2])
    · exact .inr (List.mem_cons_of_mem _ h1)
theorem red_length (l : List Int) : (red l).length ≤ l.length := by have := foldl_push_length l []; simpa [red] using this
theorem red_mem {l : List Int} {y : Int} (h : y ∈ red l) : y ∈ l := by
  rcases foldl_push_mem h with h | h
  · simp at h
  · exact h
theorem getLast_rd {acc : List Int} (h : 0 < acc.length) : acc.getLast? = some (rd acc ((acc.length : Int) - 1)) := by
  rw [List.getLast?_eq_getElem?, show ((acc.length : Int) - 1) = ((acc.length - 1 : Nat) : Int) by omega, rd_lt (by omega), List.getElem?_eq_getElem (by omega)]
def spush : List Int → Int → List Int
  | y :: t, x => if y = -x then t else x :: y :: t
  | [], x => [x]
theorem spush_cons (y : Int) (t : List Int) (x : Int) : spush (y :: t) x = if y = -x then t else x :: y :: t := rfl
def NR : List Int → Prop
  | a :: b :: t => a ≠ -b ∧ NR (b :: t)
  | _ => True
theorem NR_tail {a : Int} {t : List Int} (h : NR (a :: t)) : NR t := by
  cases t with
  | nil => trivial
  | cons b t => exact h.2
theorem spush_NR {s : List Int} (h : NR s) (x : Int) : NR (spush s x) := by
  cases s with
  | nil => trivial
  | cons y t =>
    rw [spush_cons]
    by_cases hn : y = -x
    · rw [if_pos hn]; exact NR_tail h
    · rw [if_neg hn]; exact ⟨fun e => hn (by omega), h⟩
theorem spush_inv {s : List Int} (h : NR s) (x : Int) : spush (spush s x) (-x) = s := by
  cases s with
  | nil => simp [spush]
  | cons y t =>
    rw [spush_cons]
    by_cases e : y = -x
    · rw [if_pos e]
      cases t with
      | nil => rw [e]; rfl
      | cons z t =>
        have : ¬ z = - -x := fun h2 => h.1 (by omega)
        rw [spush_cons, if_neg this, e]
    · rw [if_neg e, spush_cons, if_pos (by omega)]
def act (s l : List Int) : List Int := l.foldl spush s
theorem act_append (s a b : List Int) : act s (a ++ b) = act (act s a) b := List.foldl_append
theorem act_NR {s : List Int} (h : NR s) (l : List Int) : NR (act s l) := by
  induction l generalizing s with
  | nil => exact h
  | cons x l ih => exact ih (spush_NR h x)
theorem act_inv {s : List Int} (h : NR s) (l : List Int) : act (act s l) (invL l) = s := by
  induction l generalizing s with
  | nil => rfl
  | cons x l ih =>
    have e : invL (x :: l) = invL l ++ [-x] := by simp [invL]
    rw [e, act_append]
    show act (act (act (spush s x) l) (invL l)) [-x] = s
    rw [ih (spush_NR h x)]
    exact spush_inv h x
theorem push_rev (acc : List Int) (x : Int) : (push acc x).reverse = spush acc.reverse x := by
  unfold push
  rw [← List.head?_reverse]
  rcases h : acc.reverse with _ | ⟨y, t⟩
  · have : acc = [] := by simpa using h
    simp [this, spush]
  · have ha : acc = t.reverse ++ [y] := by rw [← List.reverse_reverse acc, h]; simp
    rw [spush_cons]; simp only [List.head?_cons, Option.some.injEq]
    by_cases e : y = -x
    · rw [if_pos e, if_pos e, ha]; simp
    · rw [if_neg e, if_neg e, ha]; simp
theorem foldl_push_rev (l acc : List Int) : (l.foldl push acc).reverse = act acc.reverse l := by
  induction l generalizing acc with
  | nil => rfl
  | cons x l ih => rw [List.foldl_cons, ih, push_rev]; rfl
theorem red_eq (l : List Int) : red l = (act [] l).reverse := by
  have := foldl_push_rev l []
  unfold red
  rw [← List.reverse_reverse (l.foldl push []), this]
  rfl
theorem NR_nil : NR [] := trivial
theorem act_push {s : List Int} (h : NR s) (acc : List Int) (x : Int) : act s (push acc x) = act s (acc ++ [x]) := by
  unfold push
  split
  · rename_i e
    obtain ⟨ys, rfl⟩ := List.getLast?_eq_some_iff.1 e
    rw [List.dropLast_concat, act_append, act_append]
    show _ = spush (spush (act s ys) (-x)) x
    have h2 := spush_inv (act_NR h ys) (-x)
    rw [Int.neg_neg] at h2
    exact h2.symm
  · rfl
theorem act_foldl {s : List Int} (h : NR s) (l acc : List Int) : act s (l.foldl push acc) = act s (acc ++ l) := by
  induction l generalizing acc with
  | nil => simp
  | cons x l ih =>
    rw [List.foldl_cons, ih, act_append, act_push h, ← act_append]
    simp
theorem act_red {s : List Int} (h : NR s) (l : List Int) : act s (red l) = act s l := by
  have := act_foldl h l []
  simpa [red] using this
theorem red_red (l : List Int) : red (red l) = red l := by rw [red_eq (red l), act_red NR_nil, ← red_eq]
theorem red_back (v u : List Int) : red (red (v ++ u) ++ invL u) = red v := by
  rw [red_eq, act_append, act_red NR_nil, act_append, act_inv (act_NR NR_nil v), ← red_eq]
theorem red_inv (w : List Int) : red (w ++ invL w) = [] := by
  rw [red_eq, act_append, act_inv NR_nil]; rfl
theorem invL_invL (w : List Int) : invL (invL w) = w := by
  unfold invL
  rw [List.map_reverse, List.reverse_reverse, List.map_map]
  have : ((fun x : Int => -x) ∘ fun x => -x) = id := by funext x; simp
  rw [this, List.map_id]
theorem NR_prefix {a b : List Int} (h : NR (a ++ b)) : NR a := by
  induction a with
  | nil => trivial
  | cons x a ih =>
    cases a with
    | nil => trivial
    | cons y a => exact ⟨h.1, ih h.2⟩
theorem NR_suffix {a b : List Int} (h : NR (a ++ b)) : NR b := by
  induction a with
  | nil => exact h
  | cons x a ih => exact ih (NR_tail h)
theorem act_self : ∀ (l s : List Int), NR (l.reverse ++ s) → act s l = l.reverse ++ s := by
  intro l
  induction l with
  | nil => intro s _; rfl
  | cons x l ih =>
    intro s h
    rw [List.reverse_cons, List.append_assoc] at h
    have h1 : NR ([x] ++ s) := NR_suffix h
    have e : spush s x = [x] ++ s := by
      cases s with
      | nil => rfl
      | cons y t =>
        rw [spush_cons, if_neg (fun e => h1.1 (by omega))]
        rfl
    show act (spush s x) l = _
    rw [e, ih _ h, List.reverse_cons, List.append_assoc]
theorem red_self {l : List Int} (h : NR l.reverse) : red l = l := by
  rw [red_eq, act_self l [] (by simpa using h)]; simp
theorem NR_red (l : List Int) : NR (red l).reverse := by
  rw [red_eq, List.reverse_reverse]; exact act_NR NR_nil l
theorem NR_cut {l : List Int} (h : NR l.reverse) (i j : Nat) : NR ((l.drop i).take j).reverse := by
  have e : l = l.take i ++ ((l.drop i).take j ++ (l.drop i).drop j) := by rw [List.take_append_drop, List.take_append_drop]
  rw [e, List.reverse_append, List.reverse_append] at h
  exact NR_suffix (NR_prefix h)
theorem reduceS_l (l : List Int) (hl : l.length ≤ 1048576) (hp : ∀ x ∈ l, LetP x) : ∀ (d i : Nat) (acc : List Int), i + d = l.length → acc.length ≤ i → Ev (fun k => spec_l2Reduce.l0 k l acc i) ((l.drop i).foldl push acc) ∧ Ev (fun k => impl_reduce.l0 k acc l l.length i) ((l.drop i).foldl push acc) := by
  intro d
  induction d with
  | zero =>
    intro i acc hi ha
    rw [List.drop_of_length_le (by omega)]
    refine ⟨Ev.step (f := fun _ => some acc) (fun k => ?_) (Ev.now _), Ev.step (f := fun _ => some acc) (fun k => ?_) (Ev.now _)⟩
    · simp only [spec_l2Reduce.l0]; rw [if_neg (by omega)]
    · simp only [impl_reduce.l0]; rw [if_neg (by omega)]
  | succ d ih =>
    intro i acc hi ha
    have hlt : i < l.length := by omega
    have ed : l.drop i = l[i] :: l.drop (i + 1) := List.drop_eq_getElem_cons hlt
    have hn := w64neg (hp l[i] (List.getElem_mem hlt))
    have hpl := push_length acc l[i]
    obtain ⟨h1, h2⟩ := ih (i + 1) (push acc l[i]) (by omega) (by omega)
    rw [ed, List.foldl_cons]
    have hw : wrap64 ((acc.length : Int) - 1) = (acc.length : Int) - 1 := w64 (by omega) (by omega)
    have hll : acc.length < 17592186044416 := by omega
    rcases Nat.eq_zero_or_pos acc.length with h0 | h0
    · have hpe : push acc l[i] = acc ++ [l[i]] := by
        unfold push
        rw [List.length_eq_zero_iff.1 h0]
        simp
      rw [hpe] at h1 h2 ⊢
      refine ⟨Ev.step (fun k => ?_) h1, Ev.step (fun k => ?_) h2⟩
      · simp only [spec_l2Reduce.l0, rd_lt hlt]
        rw [if_pos (by omega), if_neg (by omega), if_pos (by omega), if_pos hll, w64s hlt (by omega)]
      · simp only [impl_reduce.l0, rd_lt hlt]
        rw [if_pos (by omega), if_pos (by omega), if_pos (by omega), if_neg (by omega), if_pos hll, w64s hlt (by omega)]
    · have hg := getLast_rd h0
      by_cases he : rd acc ((acc.length : Int) - 1) = -l[i]
      · have hpe : push acc l[i] = acc.take (acc.length - 1) := by
          unfold push
          rw [hg, he, if_pos rfl, List.dropLast_eq_take]
        rw [hpe] at h1 h2 ⊢
        have ht : ((acc.length : Int) - 1).toNat = acc.length - 1 := by omega
        refine ⟨Ev.step (fun k => ?_) h1, Ev.step (fun k => ?_) h2⟩
        · simp only [spec_l2Reduce.l0, rd_lt hlt, hn, hw, he, ht]
          rw [if_pos (by omega), if_pos (by omega), if_pos (by omega), if_pos (by omega), if_pos (by omega), if_pos trivial, if_pos (by omega), w64s hlt (by omega)]
        · simp only [impl_reduce.l0, rd_lt hlt, hn, hw, he, ht]
          rw [if_pos (by omega), if_pos (by omega), if_pos (by omega), if_pos (by omega), if_pos (by omega), if_pos (by omega), if_pos trivial, if_pos (by omega), w64s hlt (by omega)]
      · have hpe : push acc l[i] = acc ++ [l[i]] := by
          unfold push
          rw [hg, if_neg (by simpa using he)]
        rw [hpe] at h1 h2 ⊢
        refine ⟨Ev.step (fun k => ?_) h1, Ev.step (fun k => ?_) h2⟩
        · simp only [spec_l2Reduce.l0, rd_lt hlt, hn, hw, he]
          rw [if_pos (by omega), if_pos (by omega), if_pos (by omega), if_pos (by omega), if_pos (by omega), if_neg (by simp), if_pos hll, w64s hlt (by omega)]
        · simp only [impl_reduce.l0, rd_lt hlt, hn, hw, he]
          rw [if_pos (by omega), if_pos (by omega), if_pos (by omega), if_pos (by omega), if_pos (by omega), if_pos (by omega), if_neg (by simp), if_pos hll, w64s hlt (by omega)]
theorem reduce_ev (l : List Int) (hl : l.length ≤ 1048576) (hp : ∀ x ∈ l, LetP x) : Ev (fun k => spec_l2Reduce.f k l) (red l) ∧ Ev (fun k => impl_reduce.f k l) (red l) := by
  have := reduceS_l l hl hp l.length 0 [] (by omega) (by simp)
  simpa [spec_l2Reduce.f, impl_reduce.f, red] using this
def coreW (l : List Int) : List Int := coreL (red l).length (red l)
theorem coreW_length (l : List Int) : (coreW l).length ≤ l.length := Nat.le_trans (coreL_len _ _) (red_length l)
theorem core_ev (l : List Int) (hl : l.length ≤ 1048576) (hw : WordP l) : Ev (fun k => spec_l2Core.f k l) (coreW l) ∧ Ev (fun k => impl_CoreWord.f k l) (coreW l) := by
  obtain ⟨h1, h2⟩ := reduce_ev l hl hw.1
  obtain ⟨_, e2⟩ := isWord_ev l hl
  rw [decide_eq_true hw] at e2
  have hr := red_length l
  unfold spec_l2Core.f impl_CoreWord.f
  refine ⟨Ev.bind h1 ?_, Ev.bind e2 ?_⟩
  · rw [if_pos (by omega)]; exact Ev.now _
  · refine Ev.congr (fun k => if_pos rfl) ?_
    refine Ev.bind h2 ?_
    rw [if_pos (by omega)]; exact Ev.now _
theorem coreI_ev (l : List Int) (hl : l.length ≤ 1048576) (hw : ¬ WordP l) : Ev (fun k => impl_CoreWord.f k l) [] := by
  obtain ⟨_, e2⟩ := isWord_ev l hl
  rw [decide_eq_false hw] at e2
  unfold impl_CoreWord.f
  refine Ev.bind e2 ?_
  exact Ev.congr (fun k => if_neg Bool.false_ne_true) (Ev.now _)
theorem copyOf_eq (l : List Int) (hl : l.length ≤ 1048576) : impl_copyOf.f l = some l := by
  unfold impl_copyOf.f
  simp only [Option.bind_some, List.nil_append, List.length_nil, Nat.zero_add]
  rw [if_pos (by omega)]
theorem turn_eq (l : List Int) (hl : l.length ≤ 1048576) (k : Int) : spec_l2Turn.f l k = some (turnL l k) ∧ impl_turn.f l k = some (turnL l k) := by
  unfold spec_l2Turn.f impl_turn.f turnL
  by_cases h0 : l.length = 0
  · simp [h0]
  have hn : ¬ (l.length : Int) = 0 := by omega
  have ht := tmod_turn k l.length (by omega) hl
  have h1 := Int.emod_nonneg k (b := (l.length : Int)) (by omega)
  have h2 := Int.emod_lt_of_pos k (b := (l.length : Int)) (by omega)
  have hdl : (l.drop (k % (l.length : Int)).toNat).length < 17592186044416 := by simp; omega
  have hdl2 : (l.drop (k % (l.length : Int)).toNat).length ≤ 1048576 := by simp; omega
  have hal : (l.drop (k % (l.length : Int)).toNat).length + (l.take (k % (l.length : Int)).toNat).length < 17592186044416 := by simp; omega
  have h3 : (k % (l.length : Int)) ≤ (l.length : Int) := by omega
  simp only [h0, hn, if_false]
  constructor
  · by_cases hlt : Int.tmod k l.length < 0
    · simp only [hlt, if_true] at ht ⊢
      simp only [ht, Option.bind_some, List.nil_append, List.length_nil, Nat.zero_add, h1, h3, hdl, hal, if_true]
    · simp only [hlt, if_false] at ht ⊢
      simp only [ht, Option.bind_some, List.nil_append, List.length_nil, Nat.zero_add, h1, h3, hdl, hal, if_true]
  · have hm : impl_mod.f k l.length = some (k % (l.length : Int)) := by
      unfold impl_mod.f
      rw [if_neg hn]
      by_cases hlt : Int.tmod k l.length < 0
      · rw [if_pos hlt] at ht ⊢; rw [ht]
      · rw [if_neg hlt] at ht ⊢; rw [ht]
    simp only [hm, Option.bind_some, h1, h3, if_true, copyOf_eq _ hdl2, hal]
def conjP (a b : List Int) : Prop := (∃ j : Nat, j < a.length ∧ turnL a j = b) ∨ (a.length = 0 ∧ b.length = 0)
def conjFrom (a b : List Int) (i : Nat) : Prop := ∃ j : Nat, i ≤ j ∧ j < a.length ∧ turnL a j = b
theorem conjFrom_end (a b : List Int) (i : Nat) (h : a.length ≤ i) : ¬ conjFrom a b i := fun ⟨j, h1, h2, _⟩ => by omega
theorem conjFrom_hit (a b : List Int) (i : Nat) (h : i < a.length) (e : turnL a i = b) : conjFrom a b i := ⟨i, Nat.le_refl _, h, e⟩
theorem conjFrom_next (a b : List Int) (i : Nat) (e : turnL a i ≠ b) : conjFrom a b i ↔ conjFrom a b (i + 1) := by
  constructor
  · rintro ⟨j, h1, h2, h3⟩
    refine ⟨j, ?_, h2, h3⟩
    by_cases he : i = j
    · subst he; exact (e h3).elim
    · omega
  · rintro ⟨j, h1, h2, h3⟩
    exact ⟨j, by omega, h2, h3⟩
theorem conj_l (a b : List Int) (hl : a.length ≤ 1048576) : ∀ (d i : Nat), i + d = a.length → Ev (fun k => spec_AreConjugate.l0 k a b i) (decide (conjFrom a b i ∨ a.length = 0 ∧ b.length = 0)) ∧ (a.length ≠ 0 → Ev (fun k => impl_AreConjugate.l0 k a b a.length i) (decide (conjFrom a b i))) := by
  intro d
  induction d with
  | zero =>
    intro i hi
    have hn := conjFrom_end a b i (by omega)
    have e1 : decide (conjFrom a b i ∨ a.length = 0 ∧ b.length = 0) = decide (a.length = 0 ∧ b.length = 0) := by rw [decide_eq_decide]; exact ⟨fun x => x.resolve_left hn, .inr⟩
    rw [e1, decide_eq_false hn]
    refine ⟨Ev.step (f := fun _ => some (decide (a.length = 0 ∧ b.length = 0))) (fun k => ?_) (Ev.now _), fun h0 => Ev.step (f := fun _ => some false) (fun k => ?_) (Ev.now _)⟩
    · simp only [spec_AreConjugate.l0]; rw [if_neg (by omega)]
    · simp only [impl_AreConjugate.l0]; rw [if_neg (by omega)]
  | succ d ih =>
    intro i hi
    have hlt : i < a.length := by omega
    obtain ⟨t1, t2⟩ := turn_eq a hl (i : Int)
    obtain ⟨s1, s2⟩ := same_ev (turnL a i) b (by rw [turnL_length]; exact hl)
    by_cases h : turnL a i = b
    · have hh := conjFrom_hit a b i hlt h
      rw [decide_eq_true h] at s1 s2
      rw [decide_eq_true hh, decide_eq_true (show conjFrom a b i ∨ a.length = 0 ∧ b.length = 0 from .inl hh)]
      refine ⟨Ev.step (f := fun k => (spec_l2Same.f k (turnL a i) b).bind fun s => if s = true then some true else spec_AreConjugate.l0 k a b (wrap64 (i + 1))) (fun k => ?_) (Ev.bind s1 ?_), fun _ => Ev.step (f := fun k => (impl_sameInts.f k (turnL a i) b).bind fun s => if s = true then some true else impl_AreConjugate.l0 k a b a.length (wrap64 (i + 1))) (fun k => ?_) (Ev.bind s2 ?_)⟩
      · simp only [spec_AreConjugate.l0, t1, Option.bind_some]; rw [if_pos (by omega)]
      · exact Ev.congr (fun k => if_pos rfl) (Ev.now _)
      · simp only [impl_AreConjugate.l0, t2, Option.bind_some]; rw [if_pos (by omega)]
      · exact Ev.congr (fun k => if_pos rfl) (Ev.now _)
    · have hn := conjFrom_next a b i h
      obtain ⟨h1, h2⟩ := ih (i + 1) (by omega)
      rw [decide_eq_false h] at s1 s2
      have e1 : decide (conjFrom a b i ∨ a.length = 0 ∧ b.length = 0) = decide (conjFrom a b (i + 1) ∨ a.length = 0 ∧ b.length = 0) := by rw [decide_eq_decide, hn]
      have e2 : decide (conjFrom a b i) = decide (conjFrom a b (i + 1)) := by rw [decide_eq_decide, hn]
      rw [e1, e2]
      refine ⟨Ev.step (f := fun k => (spec_l2Same.f k (turnL a i) b).bind fun s => if s = true then some true else spec_AreConjugate.l0 k a b (wrap64 (i + 1))) (fun k => ?_) (Ev.bind s1 ?_), fun h0 => Ev.step (f := fun k => (impl_sameInts.f k (turnL a i) b).bind fun s => if s = true then some true else impl_AreConjugate.l0 k a b a.length (wrap64 (i + 1))) (fun k => ?_) (Ev.bind s2 ?_)⟩
      · simp only [spec_AreConjugate.l0, t1, Option.bind_some]; rw [if_pos (by omega)]
      · refine Ev.congr (fun k => if_neg Bool.false_ne_true) ?_
        rw [w64s hlt (by omega)]; exact h1
      · simp only [impl_AreConjugate.l0, t2, Option.bind_some]; rw [if_pos (by omega)]
      · refine Ev.congr (fun k => if_neg Bool.false_ne_true) ?_
        rw [w64s hlt (by omega)]; exact h2 h0
theorem conj_from0 (a b : List Int) : (conjFrom a b 0 ∨ a.length = 0 ∧ b.length = 0) ↔ conjP a b := by
  unfold conjP conjFrom
  constructor
  · rintro (⟨j, _, h2, h3⟩ | h)
    · exact .inl ⟨j, h2, h3⟩
    · exact .inr h
  · rintro (⟨j, h2, h3⟩ | h)
    · exact .inl ⟨j, Nat.zero_le _, h2, h3⟩
    · exact .inr h
theorem conjS_ev (a b : List Int) (hl : a.length ≤ 1048576) : Ev (fun k => spec_AreConjugate.l0 k a b 0) (decide (conjP a b)) := by
  have h := (conj_l a b hl a.length 0 (by omega)).1
  have e : decide (conjFrom a b 0 ∨ a.length = 0 ∧ b.length = 0) = decide (conjP a b) := by rw [decide_eq_decide]; exact conj_from0 a b
  rw [e] at h
  exact h
theorem conjI_ev (a b : List Int) (hl : a.length ≤ 1048576) (hab : a.length = b.length) : Ev (fun k => impl_AreConjugate.l0 k a b (if (a.length : Int) < 1 then 1 else (a.length : Int)) 0) (decide (conjP a b)) := by
  by_cases h0 : a.length = 0
  · have ha : a = [] := List.length_eq_zero_iff.1 h0
    have hb : b = [] := List.length_eq_zero_iff.1 (by omega)
    subst ha hb
    rw [decide_eq_true (show conjP [] [] from .inr ⟨rfl, rfl⟩)]
    rw [if_pos (by simp)]
    obtain ⟨_, t2⟩ := turn_eq [] (by simp) 0
    obtain ⟨_, s2⟩ := same_ev (turnL [] 0) [] (by rw [turnL_length]; simp)
    rw [decide_eq_true (show turnL [] 0 = [] from rfl)] at s2
    refine Ev.step (f := fun k => (impl_sameInts.f k (turnL [] 0) []).bind fun s => if s = true then some true else impl_AreConjugate.l0 k [] [] 1 (wrap64 (0 + 1))) (fun k => ?_) (Ev.bind s2 ?_)
    · simp only [impl_AreConjugate.l0, t2, Option.bind_some]; rw [if_pos (by omega)]
    · exact Ev.congr (fun k => if_pos rfl) (Ev.now _)
  · rw [if_neg (by omega)]
    have h := (conj_l a b hl a.length 0 (by omega)).2 h0
    have e : decide (conjFrom a b 0) = decide (conjP a b) := by
      rw [decide_eq_decide, ← conj_from0]
      exact ⟨.inl, fun x => x.resolve_right (fun y => h0 y.1)⟩
    rw [e] at h
    exact h
theorem conj_len {a b : List Int} (h : conjP a b) : a.length = b.length := by
  rcases h with ⟨j, _, h⟩ | ⟨h1, h2⟩
  · rw [← h, turnL_length]
  · omega
theorem areConjugate_ev (v w : List Int) (hv : v.length ≤ 1048576) (hw : w.length ≤ 1048576) : ∃ o : Bool, Ev (fun k => spec_AreConjugate.f k v w) o ∧ Ev (fun k => impl_AreConjugate.f k v w) o ∧ (WordP v → WordP w → o = decide (conjP (coreW v) (coreW w))) := by
  obtain ⟨a1, a2⟩ := isWord_ev v hv
  obtain ⟨b1, b2⟩ := isWord_ev w hw
  unfold spec_AreConjugate.f impl_AreConjugate.f
  by_cases h1 : WordP v
  case neg =>
    rw [decide_eq_false h1] at a1 a2
    exact ⟨false, Ev.bind a1 (by exact Ev.congr (fun k => if_neg Bool.false_ne_true) (Ev.now _)), Ev.bind a2 (by exact Ev.congr (fun k => if_neg Bool.false_ne_true) (Ev.now _)), fun h _ => (h1 h).elim⟩
  rw [decide_eq_true h1] at a1 a2
  by_cases h2 : WordP w
  case neg =>
    rw [decide_eq_false h2] at b1 b2
    refine ⟨false, Ev.bind a1 ?_, Ev.bind a2 ?_, fun _ h => (h2 h).elim⟩
    · refine Ev.congr (fun k => if_pos rfl) ?_; exact Ev.bind b1 (by exact Ev.congr (fun k => if_neg Bool.false_ne_true) (Ev.now _))
    · refine Ev.congr (fun k => if_pos rfl) ?_; exact Ev.bind b2 (by exact Ev.congr (fun k => if_neg Bool.false_ne_true) (Ev.now _))
  rw [decide_eq_true h2] at b1 b2
  obtain ⟨c1, c2⟩ := core_ev v hv h1
  obtain ⟨d1, d2⟩ := core_ev w hw h2
  have hcl := coreW_length v
  refine ⟨decide (conjP (coreW v) (coreW w)), Ev.bind a1 ?_, Ev.bind a2 ?_, fun _ _ => rfl⟩
  · refine Ev.congr (fun k => if_pos rfl) ?_
    refine Ev.bind b1 ?_
    refine Ev.congr (fun k => if_pos rfl) ?_
    exact Ev.bind c1 (Ev.bind d1 (conjS_ev _ _ (by omega)))
  · refine Ev.congr (fun k => if_pos rfl) ?_
    refine Ev.bind b2 ?_
    refine Ev.congr (fun k => if_pos rfl) ?_
    refine Ev.bind c2 (Ev.bind d2 ?_)
    by_cases hab : (coreW v).length = (coreW w).length
    · exact Ev.congr (fun k => if_pos hab) (conjI_ev _ _ (by omega) hab)
    · rw [decide_eq_false (fun h => hab (conj_len h))]
      exact Ev.congr (fun k => if_neg hab) (Ev.now _)
def Ends (l : List Int) : Prop := ¬ (2 ≤ l.length ∧ rd l 0 = wrap64 (-(rd l ((l.length : Int) - 1))))
theorem cut_length (l : List Int) (h : 2 ≤ l.length) : ((l.drop 1).take (l.length - 2)).length = l.length - 2 := by rw [List.length_take, List.length_drop]; omega
theorem coreL_ends : ∀ (n : Nat) (l : List Int), l.length ≤ n → Ends (coreL n l) := by
  intro n
  induction n with
  | zero => intro l h hh; have := hh.1; simp only [coreL] at this; omega
  | succ n ih =>
    intro l h
    rw [coreL_succ]
    split
    · rename_i hc
      refine ih _ ?_
      rw [cut_length l hc.1]; omega
    · assumption
theorem coreL_stay {l : List Int} (h : Ends l) : ∀ n, coreL n l = l := by
  intro n
  cases n with
  | zero => rfl
  | succ n => rw [coreL_succ, if_neg h]
theorem coreL_NR : ∀ (n : Nat) (l : List Int), NR l.reverse → NR (coreL n l).reverse := by
  intro n
  induction n with
  | zero => intro l h; exact h
  | succ n ih =>
    intro l h
    rw [coreL_succ]
    split
    · exact ih _ (NR_cut h _ _)
    · exact h
theorem coreL_mem : ∀ (n : Nat) (l : List Int), ∀ x ∈ coreL n l, x ∈ l := by
  intro n
  induction n with
  | zero => intro l x h; exact h
  | succ n ih =>
    intro l x h
    rw [coreL_succ] at h
    split at h
    · exact List.mem_of_mem_drop (List.mem_of_mem_take (ih _ x h))
    · exact h
theorem coreW_mem {l : List Int} : ∀ x ∈ coreW l, x ∈ l := fun x h => red_mem (coreL_mem _ _ x h)
theorem coreW_coreW (l : List Int) : coreW (coreW l) = coreW l := by
  have h : red (coreW l) = coreW l := red_self (coreL_NR _ _ (NR_red l))
  have h2 : coreW (coreW l) = coreL (red (coreW l)).length (red (coreW l)) := rfl
  rw [h2, h]
  exact coreL_stay (coreL_ends _ _ (Nat.le_refl _)) _
theorem turnL_zero (l : List Int) : turnL l ((0 : Nat) : Int) = l := by
  unfold turnL
  split
  · have : l = [] := List.length_eq_zero_iff.1 (by assumption)
    rw [this]
  · simp
theorem conjP_refl (a : List Int) : conjP a a := by
  by_cases h : a.length = 0
  · exact .inr ⟨h, h⟩
  · exact .inl ⟨0, by omega, turnL_zero a⟩
def one (j x : Int) : Int := if x = j then 1 else if x = -j then -1 else 0
def cs (l : List Int) (j : Int) : Int := (l.map (one j)).sum
theorem cs_append (a b : List Int) (j : Int) : cs (a ++ b) j = cs a j + cs b j := by simp [cs]
theorem cs_single (x j : Int) : cs [x] j = one j x := by simp [cs]
theorem cs_cons (x : Int) (t : List Int) (j : Int) : cs (x :: t) j = one j x + cs t j := by simp [cs]
theorem one_neg (j x : Int) (hj : 0 < j) : one j (-x) = - one j x := by
  unfold one
  by_cases h1 : x = j
  · subst h1; rw [if_neg (by omega), if_pos rfl, if_pos rfl]
  · by_cases h2 : x = -j
    · subst h2; rw [if_pos (by omega), if_neg h1, if_pos rfl]; rfl
    · rw [if_neg (by omega), if_neg (by omega), if_neg h1, if_neg h2]; rfl
theorem cs_push (acc : List Int) (x j : Int) (hj : 0 < j) : cs (push acc x) j = cs acc j + one j x := by
  unfold push
  split
  · rename_i e
    obtain ⟨ys, rfl⟩ := List.getLast?_eq_some_iff.1 e
    rw [List.dropLast_concat, cs_append, cs_single, one_neg _ _ hj]; omega
  · rw [cs_append, cs_single]
theorem cs_foldl (j : Int) (hj : 0 < j) (l acc : List Int) : cs (l.foldl push acc) j = cs acc j + cs l j := by
  induction l generalizing acc with
  | nil => simp [cs]
  | cons x l ih => rw [List.foldl_cons, ih, cs_push _ _ _ hj, cs_cons]; omega
theorem cs_red (l : List Int) (j : Int) (hj : 0 < j) : cs (red l) j = cs l j := by
  have := cs_foldl j hj l []
  simpa [cs, red] using this
theorem cs_turn (l : List Int) (k j : Int) : cs (turnL l k) j = cs l j := by
  unfold turnL
  split
  · have : l = [] := List.length_eq_zero_iff.1 (by assumption)
    rw [this]
  · have e := cs_append (l.take (k % (l.length : Int)).toNat) (l.drop (k % (l.length : Int)).toNat) j
    rw [List.take_append_drop] at e
    rw [cs_append, e]; omega
theorem cs_cut (l : List Int) (j : Int) (hj : 0 < j) (hl : ∀ x ∈ l, LetP x) (h : 2 ≤ l.length ∧ rd l 0 = wrap64 (-(rd l ((l.length : Int) - 1)))) : cs ((l.drop 1).take (l.length - 2)) j = cs l j := by
  obtain ⟨h1, h2⟩ := h
  have a0 := rd_lt (l := l) (i := 0) (by omega)
  have a1 := rd_lt (l := l) (i := l.length - 1) (by omega)
  have hw := w64neg (hl (l[l.length - 1]'(by omega)) (List.getElem_mem _))
  rw [show ((l.length : Int) - 1) = ((l.length - 1 : Nat) : Int) by omega, a1, hw] at h2
  have h3 : l[0]'(by omega) = - l[l.length - 1]'(by omega) := by rw [← h2]; exact a0.symm
  have e1 : l = l[0]'(by omega) :: l.drop 1 := by
    have := List.drop_eq_getElem_cons (l := l) (i := 0) (by omega)
    simpa using this
  have e2 : l.drop 1 = (l.drop 1).take (l.length - 2) ++ [l[l.length - 1]'(by omega)] := by
    have := List.take_append_getElem (l := l.drop 1) (i := l.length - 2) (by rw [List.length_drop]; omega)
    rw [List.getElem_drop] at this
    have e3 : (l.drop 1).take (l.length - 2 + 1) = l.drop 1 := List.take_of_length_le (by rw [List.length_drop]; omega)
    rw [e3] at this
    rw [← this]
    congr 2
    · rw [this]
    · congr 1; congr 1; omega
  conv => rhs; rw [e1, cs_cons, e2, cs_append, cs_single, h3, one_neg _ _ hj]
  omega
theorem cs_coreL (j : Int) (hj : 0 < j) : ∀ (n : Nat) (l : List Int), (∀ x ∈ l, LetP x) → cs (coreL n l) j = cs l j := by
  intro n
  induction n with
  | zero => intro l _; rfl
  | succ n ih =>
    intro l h
    rw [coreL_succ]
    split
    · rename_i hc
      rw [ih _ (fun x hx => h x (List.mem_of_mem_drop (List.mem_of_mem_take hx))), cs_cut l j hj h hc]
    · rfl
theorem cs_coreW {l : List Int} (j : Int) (hj : 0 < j) (h : ∀ x ∈ l, LetP x) : cs (coreW l) j = cs l j := by
  unfold coreW
  rw [cs_coreL j hj _ _ (fun x hx => h x (red_mem hx)), cs_red l j hj]
theorem cs_conj {v w : List Int} (hv : WordP v) (hw : WordP w) (h : conjP (coreW v) (coreW w)) (j : Int) (hj : 0 < j) : cs v j = cs w j := by
  rw [← cs_coreW j hj hv.1, ← cs_coreW j hj hw.1]
  rcases h with ⟨i, _, h⟩ | ⟨h1, h2⟩
  · rw [← h, cs_turn]
  · rw [List.length_eq_zero_iff.1 h1, List.length_eq_zero_iff.1 h2]
def csL (l : List Int) : List Int := (List.range 8).map fun (j : Nat) => cs l ((j : Int) + 1)
theorem csL_eq {a b : List Int} (h : ∀ j : Int, 0 < j → cs a j = cs b j) : csL a = csL b := by
  unfold csL
  refine List.map_congr_left fun j _ => h _ (by omega)
theorem WordP_inv {l : List Int} (h : WordP l) : WordP (invL l) := by
  refine ⟨fun x hx => ?_, by rw [invL, List.length_reverse, List.length_map]; exact h.2⟩
  unfold invL at hx
  rw [List.mem_reverse, List.mem_map] at hx
  obtain ⟨y, hy, rfl⟩ := hx
  have := h.1 y hy
  unfold LetP at *
  omega
theorem WordP_red {l : List Int} (h : WordP l) : WordP (red l) := ⟨fun x hx => h.1 x (red_mem hx), by have := red_length l; have := h.2; omega⟩
theorem csL_length (l : List Int) : (csL l).length = 8 := by simp [csL]
theorem csL_get (l : List Int) (j : Nat) (h : j < 8) : (csL l)[j]'(by rw [csL_length]; exact h) = cs l ((j : Int) + 1) := by simp [csL]
theorem cs_bound (l : List Int) (j : Int) : -(l.length : Int) ≤ cs l j ∧ cs l j ≤ l.length := by
  induction l with
  | nil => simp [cs]
  | cons x t ih =>
    rw [cs_cons, List.length_cons]
    have : -1 ≤ one j x ∧ one j x ≤ 1 := by unfold one; split <;> (try split) <;> omega
    omega
theorem csL_step (t : List Int) (x : Int) (m : Nat) (d : Int) (hm : m < 8) (h : ∀ j : Nat, j < 8 → one ((j : Int) + 1) x = if j = m then d else 0) :
    (csL t).set m (rd (csL t) (m : Int) + d) = csL (t ++ [x]) := by
  refine List.ext_getElem (by rw [List.length_set, csL_length, csL_length]) fun j h1 h2 => ?_
  rw [csL_length] at h2
  rw [csL_get _ _ h2, cs_append, cs_single, h j h2, List.getElem_set]
  by_cases e : m = j
  · subst e
    rw [if_pos rfl, if_pos rfl, rd_lt (by rw [csL_length]; exact hm), csL_get _ _ hm]
  · rw [if_neg e, if_neg (fun e2 => e e2.symm), csL_get _ _ h2]; omega
theorem rd_csL (t : List Int) (m : Nat) (hm : m < 8) : rd (csL t) (m : Int) = cs t ((m : Int) + 1) := by rw [rd_lt (by rw [csL_length]; exact hm), csL_get _ _ hm]
theorem csL_pos (t : List Int) (ht : t.length ≤ 24) (x : Int) (h : LetP x) (h0 : x > 0) : (csL t).set (x - 1).toNat (wrap64 (rd (csL t) (x - 1) + 1)) = csL (t ++ [x]) := by
  unfold LetP at h
  obtain ⟨m, hm⟩ := Int.eq_ofNat_of_zero_le (show 0 ≤ x - 1 by omega)
  have hb := cs_bound t ((m : Int) + 1)
  rw [hm, w64 (by rw [show ((m : Nat) : Int) = (m : Int) from rfl, rd_csL _ _ (by omega)]; omega) (by rw [rd_csL _ _ (by omega)]; omega)]
  refine csL_step t x m 1 (by omega) fun j hj => ?_
  unfold one
  by_cases e : j = m
  · rw [if_pos (by omega), if_pos e]
  · rw [if_neg (by omega), if_neg (by omega), if_neg e]
theorem csL_neg (t : List Int) (ht : t.length ≤ 24) (x : Int) (h : LetP x) (h0 : ¬ x > 0) : (csL t).set (-x - 1).toNat (wrap64 (rd (csL t) (-x - 1) - 1)) = csL (t ++ [x]) := by
  unfold LetP at h
  obtain ⟨m, hm⟩ := Int.eq_ofNat_of_zero_le (show 0 ≤ -x - 1 by omega)
  have hb := cs_bound t ((m : Int) + 1)
  rw [hm, w64 (by rw [rd_csL _ _ (by omega)]; omega) (by rw [rd_csL _ _ (by omega)]; omega)]
  refine csL_step t x m (-1) (by omega) fun j hj => ?_
  unfold one
  by_cases e : j = m
  · rw [if_neg (by omega), if_pos (by omega), if_pos e]
  · rw [if_neg (by omega), if_neg (by omega), if_neg e]
theorem csL_nil : csL [] = List.replicate 8 0 := by decide
theorem letterSumsI_l (l : List Int) (hw : WordP l) : ∀ (d i : Nat), i + d = l.length → Ev (fun k => impl_LetterSums.l0 k (csL (l.take i)) l l.length i) (csL l) := by
  intro d
  induction d with
  | zero =>
    intro i hi
    have e : l.take i = l := List.take_of_length_le (by omega)
    rw [e]
    refine Ev.step (f := fun _ => some (csL l)) (fun k => ?_) (Ev.now _)
    simp only [impl_LetterSums.l0]; rw [if_neg (by omega)]
  | succ d ih =>
    intro i hi
    have hlt : i < l.length := by omega
    have hx := hw.1 l[i] (List.getElem_mem hlt)
    have hl := hw.2
    have hn := w64neg hx
    have h1 := ih (i + 1) (by omega)
    rw [List.take_succ_eq_append_getElem hlt] at h1
    have ht : (l.take i).length ≤ 24 := by rw [List.length_take]; omega
    have hx' := hx
    unfold LetP at hx'
    refine Ev.step (fun k => ?_) h1
    by_cases h0 : l[i] > 0
    · have hw : wrap64 (l[i] - 1) = l[i] - 1 := w64 (by omega) (by omega)
      simp only [impl_LetterSums.l0, rd_lt hlt, hw]
      rw [if_pos (by omega), if_pos (by omega), if_pos (by omega), if_pos h0, if_pos (by omega), if_pos (by rw [csL_length]; omega), w64s hlt (by omega), csL_pos _ ht _ hx h0]
    · have hw : wrap64 (-l[i] - 1) = -l[i] - 1 := w64 (by omega) (by omega)
      simp only [impl_LetterSums.l0, rd_lt hlt, hn, hw]
      rw [if_pos (by omega), if_pos (by omega), if_pos (by omega), if_neg h0, if_pos (by omega), if_pos (by rw [csL_length]; omega), w64s hlt (by omega), csL_neg _ ht _ hx h0]
theorem letterSumsI_ev (l : List Int) (hw : WordP l) : Ev (fun k => impl_LetterSums.f k l) (csL l) := by
  obtain ⟨_, e2⟩ := isWord_ev l (by have := hw.2; omega)
  rw [decide_eq_true hw] at e2
  have h := letterSumsI_l l hw l.length 0 (by omega)
  rw [List.take_zero, csL_nil] at h
  unfold impl_LetterSums.f
  refine Ev.bind e2 ?_
  exact Ev.congr (fun k => if_pos rfl) h
def byteOf (x : Int) : Int := if x > 0 then 96 + x else 64 - x
theorem toL_append (a b : ByteArray) : (a ++ b).toList = a.toList ++ b.toList := by
  rw [ByteArray.toList_eq, ByteArray.toList_eq, ByteArray.toList_eq, ByteArray.data_append, Array.toList_append]
theorem ltx_toL (x : Int) : (ltx x).toList = [UInt8.ofNat (byteOf x).toNat] := by
  rw [ByteArray.toList_eq]; rfl
theorem txt_toL (l : List Int) : ∀ t : ByteArray, (l.foldl (fun t x => t ++ ltx x) t).toList = t.toList ++ l.map fun x => UInt8.ofNat (byteOf x).toNat := by
  induction l with
  | nil => intro t; simp
  | cons x l ih => intro t; rw [List.foldl_cons, ih, toL_append, ltx_toL, List.map_cons, List.append_assoc]; rfl
theorem bt_toL {s : ByteArray} {i : Nat} (h : i < s.size) (hq : i < s.toList.length) : bt s (i : Int) = ((s.toList[i]'hq).toNat : Int) := by
  unfold bt
  rw [dif_pos (by simpa using h)]
  have e : s.toList = s.data.toList := ByteArray.toList_eq s
  have e2 : s.toList[i]'hq = s.data.toList[i]'(by rw [← e]; exact hq) := by congr 1
  rw [e2]
  rfl
theorem txt_sz (l : List Int) : (txt l).size = l.length := by
  rw [txt, txt_size l (⟨#[]⟩ : ByteArray)]
  show 0 + l.length = l.length
  omega
theorem txt_li (l : List Int) : (txt l).toList = l.map fun x => UInt8.ofNat (byteOf x).toNat := by
  rw [txt, txt_toL l (⟨#[]⟩ : ByteArray), ByteArray.toList_eq]
  rfl
theorem bt_txt {l : List Int} (hp : ∀ x ∈ l, LetP x) {i : Nat} (h : i < l.length) : bt (txt l) (i : Int) = byteOf l[i] := by
  have hs : (txt l).size = l.length := txt_sz l
  have hL : (txt l).toList = l.map fun x => UInt8.ofNat (byteOf x).toNat := txt_li l
  rw [bt_toL (by omega) (by rw [hL, List.length_map]; exact h)]
  have e : (txt l).toList[i]'(by rw [hL, List.length_map]; exact h) = UInt8.ofNat (byteOf l[i]).toNat := by
    have : ∀ (m : List UInt8) (hm : i < m.length), (txt l).toList = m → (txt l).toList[i]'(by rw [hL, List.length_map]; exact h) = m[i] := fun m hm e => by subst e; rfl
    rw [this _ (by rw [List.length_map]; exact h) hL]
    simp
  rw [e]
  have := hp _ (List.getElem_mem h)
  unfold LetP at this
  have hb : 0 ≤ byteOf l[i] ∧ byteOf l[i] ≤ 255 := by unfold byteOf; split <;> omega
  rw [UInt8.toNat_ofNat']
  omega
theorem letOf_byte {x : Int} (h : LetP x) : letOf (byteOf x) = some x := by
  unfold LetP at h
  unfold letOf byteOf
  by_cases h0 : x > 0
  · rw [if_pos h0, if_pos (by omega)]; congr 1; omega
  · rw [if_neg h0, if_neg (by omega), if_pos (by omega)]; congr 1; omega
theorem pw_txt {l : List Int} (hw : WordP l) (h0 : 0 < l.length) : ∀ (d i : Nat), i + d = l.length → pw (txt l) d i (l.take i) = (l, true) := by
  intro d
  induction d with
  | zero =>
    intro i hi
    unfold pw
    rw [List.take_of_length_le (by omega), if_neg (by omega), if_neg (by have := hw.2; omega)]
  | succ d ih =>
    intro i hi
    have hlt : i < l.length := by omega
    unfold pw
    rw [bt_txt hw.1 hlt, letOf_byte (hw.1 _ (List.getElem_mem hlt))]
    have := ih (i + 1) (by omega)
    rw [List.take_succ_eq_append_getElem hlt] at this
    exact this
theorem parse_text {l : List Int} (hw : WordP l) : parseM (textM l) = (l, true) := by
  unfold parseM textM
  by_cases h0 : l.length = 0
  · rw [if_pos h0, if_pos (by rw [ByteArray.toList_eq]), List.length_eq_zero_iff.1 h0]
  · rw [if_neg h0]
    have hs : (txt l).size = l.length := txt_sz l
    have hL : (txt l).toList = l.map fun x => UInt8.ofNat (byteOf x).toNat := txt_li l
    rw [if_neg, hs]
    · have := pw_txt hw (by omega) l.length 0 (by omega)
      simpa using this
    · intro e
      rw [hL] at e
      cases l with
      | nil => simp at h0
      | cons x t =>
        rw [List.map_cons] at e
        have e1 := (List.cons.inj e).1
        rcases letter_cases (hw.1 x List.mem_cons_self) with rfl | rfl | rfl | rfl | rfl | rfl | rfl | rfl | rfl | rfl | rfl | rfl | rfl | rfl | rfl | rfl <;> exact absurd e1 (by decide)
theorem Ev.pos {α : Type} {c : Prop} [Decidable c] {f g : Nat → Option α} {r : α} (hc : c) (h : Ev f r) : Ev (fun k => if c then f k else g k) r := Ev.congr (fun _ => if_pos hc) h
theorem Ev.neg {α : Type} {c : Prop} [Decidable c] {f g : Nat → Option α} {r : α} (hc : ¬ c) (h : Ev g r) : Ev (fun k => if c then f k else g k) r := Ev.congr (fun _ => if_neg hc) h
theorem bne_no (b : Bool) : ¬ ((b != b) = true) := by cases b <;> decide
theorem coreWord_ev (l : List Int) (hl : l.length ≤ 1048576) : ∃ r : List Int, r.length ≤ 1048576 ∧ Ev (fun k => spec_CoreWord.f k l) r ∧ Ev (fun k => impl_CoreWord.f k l) r := by
  obtain ⟨e1, _⟩ := isWord_ev l hl
  unfold spec_CoreWord.f
  by_cases hw : WordP l
  · rw [decide_eq_true hw] at e1
    obtain ⟨h1, h2⟩ := core_ev l hl hw
    have := coreW_length l
    refine ⟨coreW l, by omega, Ev.bind e1 ?_, h2⟩
    refine Ev.congr (fun k => if_pos rfl) ?_
    exact Ev.bind h1 (Ev.now _)
  · rw [decide_eq_false hw] at e1
    refine ⟨[], by simp, Ev.bind e1 ?_, coreI_ev l hl hw⟩
    exact Ev.congr (fun k => if_neg Bool.false_ne_true) (Ev.now _)
theorem productWord_ev (v w : List Int) (hv : v.length ≤ 1048576) (hw : w.length ≤ 1048576) : ∃ (r : List Int) (o : Bool), r.length ≤ 1048576 ∧ Ev (fun k => spec_ProductWord.f k v w) (r, o) ∧ Ev (fun k => impl_ProductWord.f k v w) (r, o) ∧
    (o = true ↔ WordP v ∧ WordP w ∧ v.length + w.length ≤ 24) ∧ (o = true → r = red (v ++ w)) ∧ (o = false → r = []) := by
  obtain ⟨e1, e2⟩ := isWord_ev v hv
  obtain ⟨f1, f2⟩ := isWord_ev w hw
  have hno : Ev (fun k => impl_ProductWord.j0 k v w true) (([] : List Int), false) := by
    refine Ev.shift ?_; simp only [impl_ProductWord.j0, if_true]; exact Ev.now _
  unfold spec_ProductWord.f impl_ProductWord.f
  by_cases h : WordP v
  case neg =>
    rw [decide_eq_false h] at e1 e2
    refine ⟨[], false, by simp, Ev.bind e1 ?_, Ev.bind e2 ?_, by simp [h], by simp, by simp⟩
    · simp only [Bool.false_eq_true, if_false]; exact Ev.now _
    · simpa using hno
  rw [decide_eq_true h] at e1 e2
  by_cases h' : WordP w
  case neg =>
    rw [decide_eq_false h'] at f1 f2
    refine ⟨[], false, by simp, Ev.bind e1 ?_, Ev.bind e2 ?_, by simp [h'], by simp, by simp⟩
    · simp only [if_true]; refine Ev.bind f1 ?_; simp only [Bool.false_eq_true, if_false]; exact Ev.now _
    · simp only [if_true]; refine Ev.bind f2 ?_; simpa using hno
  rw [decide_eq_true h'] at f1 f2
  have hs : wrap64 ((v.length : Int) + (w.length : Int)) = (v.length : Int) + w.length := w64 (by omega) (by omega)
  by_cases hm : (v.length : Int) + (w.length : Int) > 24
  · refine ⟨[], false, by simp, Ev.bind e1 ?_, Ev.bind e2 ?_, ?_, by simp, by simp⟩
    · simp only [if_true]; refine Ev.bind f1 ?_; simp only [if_true, hs, hm]; exact Ev.now _
    · simp only [if_true]; refine Ev.bind f2 ?_; simp only [if_true, hs, hm, decide_true]; exact hno
    · simp only [Bool.false_eq_true, false_iff]; rintro ⟨_, _, hx⟩; omega
  · have hlet : ∀ x ∈ v ++ w, LetP x := by
      intro x hx
      rcases List.mem_append.1 hx with hx | hx
      · exact h.1 x hx
      · exact h'.1 x hx
    obtain ⟨r1, r2⟩ := reduce_ev (v ++ w) (by rw [List.length_append]; omega) hlet
    have hrl := red_length (v ++ w)
    rw [List.length_append] at hrl
    have c1 : v.length < 17592186044416 := by omega
    have c2 : v.length + w.length < 17592186044416 := by omega
    refine ⟨red (v ++ w), true, by omega, Ev.bind e1 ?_, Ev.bind e2 ?_, ?_, by simp, by simp⟩
    · simp only [if_true]; refine Ev.bind f1 ?_
      simp only [if_true, hs, hm, if_false, Option.bind_some, List.nil_append, List.length_nil, Nat.zero_add, c1, c2]
      exact Ev.bind r1 (Ev.now _)
    · simp only [if_true]; refine Ev.bind f2 ?_
      simp only [if_true, hs, hm, decide_false]
      refine Ev.shift ?_
      simp only [impl_ProductWord.j0, Bool.false_eq_true, if_false, copyOf_eq v hv, Option.bind_some, c2, if_true]
      exact Ev.bind r2 (Ev.now _)
    · simp only [true_iff]; exact ⟨h, h', by omega⟩
theorem turnWord_ev (l : List Int) (k : Int) (hl : l.length ≤ 1048576) : ∃ r : List Int, r.length ≤ 1048576 ∧ Ev (fun n => spec_TurnWord.f n l k) r ∧ Ev (fun n => impl_TurnWord.f n l k) r ∧ (WordP l → r = turnL l k) ∧ (¬ WordP l → r = []) := by
  obtain ⟨e1, e2⟩ := isWord_ev l hl
  unfold spec_TurnWord.f impl_TurnWord.f
  by_cases h : WordP l
  · rw [decide_eq_true h] at e1 e2
    obtain ⟨h1, h2⟩ := turn_eq l hl k
    refine ⟨turnL l k, by rw [turnL_length]; omega, Ev.bind e1 ?_, Ev.bind e2 ?_, fun _ => rfl, fun hn => absurd h hn⟩
    · simp only [if_true, h1, Option.bind_some]; exact Ev.now _
    · simp only [if_true, h2, Option.bind_some]; exact Ev.now _
  · rw [decide_eq_false h] at e1 e2
    exact ⟨[], by simp, Ev.bind e1 (Ev.now _), Ev.bind e2 (Ev.now _), fun hh => absurd hh h, fun _ => rfl⟩
theorem inverseWord_ev (l : List Int) (hl : l.length ≤ 1048576) : ∃ r : List Int, r.length ≤ 1048576 ∧ Ev (fun k => spec_InverseWord.f k l) r ∧ Ev (fun k => impl_InverseWord.f k l) r ∧ (WordP l → r = invL l) ∧ (¬ WordP l → r = []) := by
  obtain ⟨e1, e2⟩ := isWord_ev l hl
  unfold spec_InverseWord.f impl_InverseWord.f
  by_cases h : WordP l
  · rw [decide_eq_true h] at e1 e2
    obtain ⟨h1, h2⟩ := inverse_ev l hl h.1
    exact ⟨invL l, by rw [invL_length]; omega, Ev.bind e1 (by simp only [if_true]; exact Ev.bind h1 (Ev.now _)), Ev.bind e2 (by simp only [if_true]; exact Ev.bind h2 (Ev.now _)), fun _ => rfl, fun hn => absurd h hn⟩
  · rw [decide_eq_false h] at e1 e2
    exact ⟨[], by simp, Ev.bind e1 (Ev.now _), Ev.bind e2 (Ev.now _), fun hh => absurd hh h, fun _ => rfl⟩
theorem reduceWord_ev (l : List Int) (hl : l.length ≤ 1048576) : ∃ r : List Int, r.length ≤ 1048576 ∧ Ev (fun k => spec_ReduceWord.f k l) r ∧ Ev (fun k => impl_ReduceWord.f k l) r ∧ (WordP l → r = red l) ∧ (¬ WordP l → r = []) := by
  obtain ⟨e1, e2⟩ := isWord_ev l hl
  unfold spec_ReduceWord.f impl_ReduceWord.f
  by_cases h : WordP l
  · rw [decide_eq_true h] at e1 e2
    obtain ⟨h1, h2⟩ := reduce_ev l hl h.1
    have := red_length l
    exact ⟨red l, by omega, Ev.bind e1 (by simp only [if_true]; exact Ev.bind h1 (Ev.now _)), Ev.bind e2 (by simp only [if_true]; exact Ev.bind h2 (Ev.now _)), fun _ => rfl, fun hn => absurd h hn⟩
  · rw [decide_eq_false h] at e1 e2
    exact ⟨[], by simp, Ev.bind e1 (Ev.now _), Ev.bind e2 (Ev.now _), fun hh => absurd hh h, fun _ => rfl⟩
theorem letterSums_l (l : List Int) (hl : l.length ≤ 24) (hp : ∀ x ∈ l, LetP x) : ∀ (d i : Nat) (acc : List Int), i + d = l.length → acc.length = 8 → ∃ r : List Int, r.length = 8 ∧ Ev (fun k => spec_LetterSums.l0 k l acc i) r ∧ Ev (fun k => impl_LetterSums.l0 k acc l l.length i) r := by
  intro d
  induction d with
  | zero =>
    intro i acc hi ha
    refine ⟨acc, ha, Ev.step (f := fun _ => some acc) (fun k => ?_) (Ev.now _), Ev.step (f := fun _ => some acc) (fun k => ?_) (Ev.now _)⟩
    · simp only [spec_LetterSums.l0]; rw [if_neg (by omega)]
    · simp only [impl_LetterSums.l0]; rw [if_neg (by omega)]
  | succ d ih =>
    intro i acc hi ha
    have hlt : i < l.length := by omega
    have hx := hp l[i] (List.getElem_mem hlt)
    have hn := w64neg hx
    unfold LetP at hx
    by_cases h0 : l[i] > 0
    · have hw : wrap64 (l[i] - 1) = l[i] - 1 := w64 (by omega) (by omega)
      obtain ⟨r, hr, h1, h2⟩ := ih (i + 1) (acc.set (l[i] - 1).toNat (wrap64 (rd acc (l[i] - 1) + 1))) (by omega) (by simpa using ha)
      refine ⟨r, hr, Ev.step (fun k => ?_) h1, Ev.step (fun k => ?_) h2⟩
      · simp only [spec_LetterSums.l0, rd_lt hlt, hw]
        rw [if_pos (by omega), if_pos (by omega), if_pos h0, if_pos (by omega), if_pos (by omega), w64s hlt (by omega)]
      · simp only [impl_LetterSums.l0, rd_lt hlt, hw]
        rw [if_pos (by omega), if_pos (by omega), if_pos (by omega), if_pos h0, if_pos (by omega), if_pos (by omega), w64s hlt (by omega)]
    · have hw : wrap64 (-l[i] - 1) = -l[i] - 1 := w64 (by omega) (by omega)
      obtain ⟨r, hr, h1, h2⟩ := ih (i + 1) (acc.set (-l[i] - 1).toNat (wrap64 (rd acc (-l[i] - 1) - 1))) (by omega) (by simpa using ha)
      refine ⟨r, hr, Ev.step (fun k => ?_) h1, Ev.step (fun k => ?_) h2⟩
      · simp only [spec_LetterSums.l0, rd_lt hlt, hn, hw]
        rw [if_pos (by omega), if_pos (by omega), if_neg h0, if_pos (by omega), if_pos (by omega), w64s hlt (by omega)]
      · simp only [impl_LetterSums.l0, rd_lt hlt, hn, hw]
        rw [if_pos (by omega), if_pos (by omega), if_pos (by omega), if_neg h0, if_pos (by omega), if_pos (by omega), w64s hlt (by omega)]
theorem letterSums_ev (l : List Int) (hl : l.length ≤ 1048576) : ∃ r : List Int, r.length ≤ 1048576 ∧ Ev (fun k => spec_LetterSums.f k l) r ∧ Ev (fun k => impl_LetterSums.f k l) r := by
  obtain ⟨e1, e2⟩ := isWord_ev l hl
  unfold spec_LetterSums.f impl_LetterSums.f
  by_cases h : WordP l
  · rw [decide_eq_true h] at e1 e2
    obtain ⟨r, hr, h1, h2⟩ := letterSums_l l h.2 h.1 l.length 0 (List.replicate 8 0) (by omega) (by simp)
    refine ⟨r, by omega, Ev.bind e1 ?_, Ev.bind e2 ?_⟩
    · simpa using h1
    · simpa using h2
  · rw [decide_eq_false h] at e1 e2
    exact ⟨[], by simp, Ev.bind e1 (Ev.now _), Ev.bind e2 (Ev.now _)⟩
theorem three (w i : List Int) (hw : w.length ≤ 1048576) (hi : i = invL w) (hi2 : i.length ≤ 1048576) : Ev (fun k => laws_FnWords.j3 k w i false) true := by
  obtain ⟨r, o, hr, _, e2, _, ho, hn⟩ := productWord_ev w i hw hi2
  refine Ev.shift ?_
  simp only [laws_FnWords.j3]
  refine Ev.neg Bool.false_ne_true (Ev.bind e2 ?_)
  cases o with
  | true =>
    refine Ev.pos rfl ?_
    rw [ho rfl, hi, red_inv]
    exact Ev.now _
  | false => exact Ev.neg Bool.false_ne_true (Ev.now _)
theorem two_ (w v u p : List Int) (o : Bool) (hw : w.length ≤ 1048576) (hv : v.length ≤ 1048576) (hu : u.length ≤ 1048576) (hp : p.length ≤ 1048576) (h1 : o = true → WordP v ∧ WordP u ∧ p = red (v ++ u)) (i : List Int) (hi : i = invL w) (hi2 : i.length ≤ 1048576) :
    Ev (fun k => laws_FnWords.j2 k w v u p o i false) true := by
  have h3 := three w i hw hi hi2
  refine Ev.shift ?_
  simp only [laws_FnWords.j2]
  refine Ev.neg Bool.false_ne_true ?_
  cases o with
  | false =>
    refine Ev.neg Bool.false_ne_true ?_
    obtain ⟨r, o2, hr, _, e2, _, ho, hn⟩ := productWord_ev w i hw hi2
    refine Ev.bind e2 ?_
    cases o2 with
    | true =>
      refine Ev.pos rfl ?_
      rw [ho rfl, hi, red_inv]
      exact Ev.now _
    | false => exact Ev.neg Bool.false_ne_true (Ev.now _)
  | true =>
    refine Ev.pos rfl ?_
    obtain ⟨hwv, hwu, rfl⟩ := h1 rfl
    obtain ⟨iu, hiu, _, iu2, iu3, _⟩ := inverseWord_ev u hu
    obtain rfl := iu3 hwu
    obtain ⟨b, f, hb, _, e2, _, ho, _⟩ := productWord_ev (red (v ++ u)) (invL u) hp hiu
    obtain ⟨c, _, c2, c3⟩ := areConjugate_ev v u hv hu
    have hc := c3 hwv hwu
    refine Ev.bind iu2 (Ev.bind e2 ?_)
    have tail : Ev (fun k => (impl_AreConjugate.f k v u).bind fun t => if t = true then ((impl_LetterSums.f k v).bind fun t1 => (impl_LetterSums.f k u).bind fun t2 => (laws_sameInts.f k t1 t2).bind fun t3 => laws_FnWords.j3 k w i (!t3)) else laws_FnWords.j3 k w i false) true := by
      refine Ev.bind c2 ?_
      cases c with
      | true =>
        have hcp := of_decide_eq_true hc.symm
        have e := csL_eq (cs_conj hwv hwu hcp)
        refine Ev.pos rfl (Ev.bind (letterSumsI_ev v hwv) (Ev.bind (letterSumsI_ev u hwu) ?_))
        rw [e]
        exact Ev.bind (sameL_same _ (by rw [csL_length]; omega)) h3
      | false => exact Ev.neg Bool.false_ne_true h3
    cases f with
    | true =>
      have hb2 := ho rfl
      rw [red_back] at hb2
      subst hb2
      obtain ⟨r, hr, _, r2, r3, _⟩ := reduceWord_ev v hv
      obtain rfl := r3 hwv
      refine Ev.pos rfl (Ev.bind r2 (Ev.bind (sameL_same _ hr) (Ev.pos rfl ?_)))
      exact tail
    | false => exact Ev.neg Bool.false_ne_true tail
theorem one_ (w v u p : List Int) (o : Bool) (hw : w.length ≤ 25) (hv : v.length ≤ 1048576) (hu : u.length ≤ 1048576) (hp : p.length ≤ 1048576) (h1 : o = true → WordP v ∧ WordP u ∧ p = red (v ++ u)) :
    Ev (fun k => laws_FnWords.j1 k w v u p o (decide (WordP w)) false) true := by
  refine Ev.shift ?_
  simp only [laws_FnWords.j1]
  refine Ev.neg Bool.false_ne_true ?_
  obtain ⟨r, hr, _, r2, r3, r4⟩ := reduceWord_ev w (by omega)
  by_cases hW : WordP w
  · rw [decide_eq_true hW]
    obtain rfl := r3 hW
    refine Ev.pos rfl ?_
    obtain ⟨i, hi, _, i2, i3, _⟩ := inverseWord_ev w (by omega)
    obtain rfl := i3 hW
    have hWr := WordP_red hW
    have hWi := WordP_inv hW
    obtain ⟨rr, hrr, _, rr2, rr3, _⟩ := reduceWord_ev (red w) hr
    have e1 := rr3 hWr
    rw [red_red] at e1
    subst e1
    obtain ⟨ii, hii, _, ii2, ii3, _⟩ := inverseWord_ev (invL w) hi
    have e2 := ii3 hWi
    rw [invL_invL] at e2
    subst e2
    have e3 : csL (red ii) = csL ii := csL_eq fun j hj => cs_red ii j hj
    have l1 := letterSumsI_ev ii hW
    have l2 := letterSumsI_ev (red ii) hWr
    rw [e3] at l2
    obtain ⟨_, c2⟩ := core_ev ii (by omega) hW
    have hcl := coreW_length ii
    obtain ⟨c, _, d2, d3⟩ := areConjugate_ev ii (coreW ii) (by omega) (by omega)
    have hWc : WordP (coreW ii) := ⟨fun x hx => hW.1 x (coreW_mem x hx), by have := hW.2; omega⟩
    have hc := d3 hW hWc
    rw [coreW_coreW, decide_eq_true (conjP_refl _)] at hc
    subst hc
    refine Ev.bind r2 (Ev.bind i2 (Ev.bind l1 (Ev.bind l2 (Ev.bind (sameL_same _ (by rw [csL_length]; omega)) (Ev.pos rfl ?_)))))
    refine Ev.bind rr2 (Ev.bind (sameL_same _ hr) (Ev.pos rfl ?_))
    refine Ev.bind ii2 (Ev.bind (sameL_same _ (by omega)) (Ev.pos rfl ?_))
    refine Ev.bind c2 (Ev.bind d2 ?_)
    exact two_ ii v u p o (by omega) hv hu hp h1 (invL ii) rfl hi
  · rw [decide_eq_false hW]
    obtain rfl := r4 hW
    refine Ev.neg Bool.false_ne_true (Ev.bind r2 ?_)
    exact Ev.now _
theorem zero_ (w v u p : List Int) (o : Bool) (hw : w.length ≤ 25) (hv : v.length ≤ 1048576) (hu : u.length ≤ 1048576) (hp : p.length ≤ 1048576) (h1 : o = true → WordP v ∧ WordP u ∧ p = red (v ++ u)) :
    Ev (fun k => laws_FnWords.j0 k w v u p o false) true := by
  refine Ev.shift ?_
  simp only [laws_FnWords.j0]
  refine Ev.neg Bool.false_ne_true ?_
  obtain ⟨t, t1, t2, t3, t4⟩ := wordText_ev w (by omega)
  have hts : t.size ≤ 200 := by
    by_cases hW : WordP w
    · rw [t3 hW]; have := textM_size w; omega
    · rw [t4 hW]; decide
  obtain ⟨z, b, hz, _, z2, z3⟩ := parseWord_ev t (by omega)
  obtain ⟨w1, _⟩ := isWord_ev w (by omega)
  have hzb : (z, b) = if WordP w then (w, true) else ([], false) := by
    rw [z3]
    by_cases hW : WordP w
    · rw [if_pos hW, t3 hW, parse_text hW]
    · rw [if_neg hW, t4 hW]
      unfold parseM
      rw [if_neg (by rw [ByteArray.toList_eq]; decide)]
      rfl
  have hend := one_ w v u p o hw hv hu hp h1
  refine Ev.bind t2 (Ev.bind z2 (Ev.bind t1 (Ev.pos rfl (Ev.bind w1 ?_))))
  by_cases hW : WordP w
  · rw [if_pos hW] at hzb
    obtain ⟨rfl, rfl⟩ := Prod.mk.inj hzb
    rw [decide_eq_true hW] at hend ⊢
    refine Ev.neg (bne_no _) (Ev.pos rfl (Ev.bind (sameL_same _ hz) ?_))
    exact hend
  · rw [if_neg hW] at hzb
    obtain ⟨rfl, rfl⟩ := Prod.mk.inj hzb
    rw [decide_eq_false hW] at hend ⊢
    exact Ev.neg (bne_no _) (Ev.neg Bool.false_ne_true hend)
theorem FnWords : laws_FnWords.Pure := by
  intro l h1 h2 h3
  unfold laws_FnWords.f
  by_cases hb : (l.length : Int) > 1048576
  · exact ⟨0, by rw [big_eq, decide_eq_true hb, Option.bind_some, if_pos rfl]⟩
  refine Ev.rounds ?_
  rw [big_eq, decide_eq_false hb]
  obtain ⟨w, dW, hw⟩ := drawIsWord_ok l (by omega)
  obtain ⟨t, dT, ht⟩ := drawParseWord_ok l (by omega)
  obtain ⟨x, ok, hx, px1, px2, -⟩ := parseWord_ev t (by omega)
  obtain ⟨kw, n, dK, hk⟩ := drawTurnWord_ok l (by omega)
  obtain ⟨v, u, dV, hv, hu⟩ := two_ok l (by omega)
  obtain ⟨p, o, hp, p1, p2, po, pT, _⟩ := productWord_ev v u (by omega) (by omega)
  obtain ⟨w1, w2⟩ := isWord_ev w (by omega)
  obtain ⟨tu, htu, tu1, tu2, -, -⟩ := turnWord_ev kw n (by omega)
  obtain ⟨c, c1, c2, -⟩ := areConjugate_ev v u (by omega) (by omega)
  obtain ⟨i, hi, i1, i2, -, -⟩ := inverseWord_ev w (by omega)
  obtain ⟨r, hr, r1, r2, -, -⟩ := reduceWord_ev w (by omega)
  obtain ⟨co, hco, co1, co2⟩ := coreWord_ev w (by omega)
  obtain ⟨ls, hls, ls1, ls2⟩ := letterSums_ev w (by omega)
  have hend := zero_ w v u p o hw (by omega) (by omega) hp (fun ho => ⟨(po.1 ho).1, (po.1 ho).2.1, pT ho⟩)
  refine Ev.some_bind (Ev.neg Bool.false_ne_true ?_)
  refine Ev.bind dW (Ev.bind dT (Ev.bind px2 (Ev.bind px1 (Ev.bind dK (Ev.bind dV (Ev.bind p2 (Ev.bind p1 (Ev.bind w2 (Ev.bind w1 ?_)))))))))
  refine Ev.neg (bne_no _) (Ev.neg (bne_no _) (Ev.bind (sameL_same _ hx) (Ev.pos rfl ?_)))
  refine Ev.bind tu2 (Ev.bind tu1 (Ev.bind (sameL_same _ htu) (Ev.pos rfl ?_)))
  refine Ev.bind c2 (Ev.bind c1 (Ev.neg (bne_no _) (Ev.neg (bne_no _) (Ev.bind (sameL_same _ hp) (Ev.pos rfl ?_)))))
  refine Ev.bind i2 (Ev.bind i1 (Ev.bind (sameL_same _ hi) (Ev.pos rfl ?_)))
  refine Ev.bind r2 (Ev.bind r1 (Ev.bind (sameL_same _ hr) (Ev.pos rfl ?_)))
  refine Ev.bind co2 (Ev.bind co1 (Ev.bind (sameL_same _ hco) (Ev.pos rfl ?_)))
  exact Ev.bind ls2 (Ev.bind ls1 (Ev.bind (sameL_same _ hls) hend))
end Go.Proofs.Ytokbhekicjnglaa.Pure
