/- Gluings are parsed from their text, and Euler number, borders and sides agree: for every drawn gluing. Conditions: those that the printed statement itself names (lengths and numbers that fit). -/
import Derived.Test.YtfknffpfjoalkaaQFnGluingsx14
import Derived.Lib.Join
import Derived.Test.YtfknffpfjoalkaaCom
import Derived.Test.YtfknffpfjoalkaaQLFnGluings
import Derived.Test.YtfknffpfjoalkaaSur
namespace Go.Proofs.Ytfknffpfjoalkaa.Pure
open Classical Go.RowKit Go.Proofs.Ytfknffpfjoalkaa.QFnGluings Go.Proofs.YtfknffpfjoalkaaW.PrintWords Go.Proofs.YtfknffpfjoalkaaW.PrintLast Go.Proofs.Ytfknffpfjoalkaa.Com
theorem within_eq (a b c : Int) : impl_within.f a b c = some (decide (b ≤ a ∧ a ≤ c)) := by
 unfold impl_within.f
 split <;> simp <;> omega
theorem l1In_eq (a b c : Int) : spec_l1In.f a b c = some (decide (b ≤ a ∧ a ≤ c)) := by
 unfold spec_l1In.f
 split <;> simp <;> omega
def LetP (x : Int) : Prop := x ≠ 0 ∧ -8 ≤ x ∧ x ≤ 8
theorem l2Letter_eq (x : Int) : spec_l2Letter.f x = some (decide (LetP x)) := by
 unfold spec_l2Letter.f
 simp only [l1In_eq, Option.bind_some]
 by_cases h : 1 ≤ x ∧ x ≤ 8
 ·
  rw [decide_eq_true h, decide_eq_true (show LetP x from ⟨by omega, by omega, by omega⟩)]; rfl
 ·
  rw [decide_eq_false h]
  simp only [Bool.false_eq_true, if_false]
  congr 1
  rw [decide_eq_decide]
  unfold LetP
  omega
theorem isLetter_eq (x : Int) : impl_isLetter.f x = some (decide (LetP x)) := by
 unfold impl_isLetter.f
 simp only [within_eq, Option.bind_some]
 split
 ·
  rename_i h
  rw [decide_eq_false (fun hh : LetP x => hh.1 h)]
 ·
  rename_i h
  congr 1
  rw [decide_eq_decide]
  unfold LetP
  omega
def WordP (l : List Int) : Prop := (∀ x ∈ l, LetP x) ∧ l.length ≤ 24
def WordFrom (l : List Int) (i : Nat) : Prop := (∀ x ∈ l.drop i, LetP x) ∧ l.length ≤ 24
theorem isWord_l (l : List Int) (hl : l.length ≤ 9223372036854775807) : ∀ (d i : Nat), i + d = l.length → Ev (fun k => spec_IsWord.l0 k l i) (decide (WordFrom l i)) ∧ Ev (fun k => impl_IsWord.l0 k l l l.length i) (decide (WordFrom l i)) := by
 intro d
 induction d with
 | zero =>
  intro i hi
  have e : decide (WordFrom l i) = decide ((l.length : Int) ≤ 24) := by
   rw [decide_eq_decide]; unfold WordFrom; rw [List.drop_of_length_le (by omega)]
   simp
   omega
  rw [e]
  refine ⟨Ev.step (f := fun _ => some (decide ((l.length : Int) ≤ 24))) (fun k => ?_) (Ev.now _), Ev.step (f := fun _ => some (decide ((l.length : Int) ≤ 24))) (fun k => ?_) (Ev.now _)⟩
  ·
   simp only [spec_IsWord.l0]; rw [if_neg (by omega)]
  ·
   simp only [impl_IsWord.l0]; rw [if_neg (by omega)]
 | succ d ih =>
  intro i hi
  have hlt : i < l.length := by omega
  have e1 := rd_lt hlt
  have ed : l.drop i = l[i] :: l.drop (i + 1) := List.drop_eq_getElem_cons hlt
  by_cases hp : LetP l[i]
  ·
   have e : decide (WordFrom l i) = decide (WordFrom l (i + 1)) := by
    rw [decide_eq_decide]; unfold WordFrom; rw [ed]
    simp only [List.mem_cons, forall_eq_or_imp, hp, true_and]
   rw [e]
   obtain ⟨h1, h2⟩ := ih (i + 1) (by omega)
   refine ⟨Ev.step (fun k => ?_) h1, Ev.step (fun k => ?_) h2⟩
   ·
    simp only [spec_IsWord.l0, l2Letter_eq, e1, Option.bind_some, decide_eq_true hp]
    rw [if_pos (by omega), if_pos (by omega), if_pos trivial, w64s hlt hl]
   ·
    simp only [impl_IsWord.l0, isLetter_eq, e1, Option.bind_some, decide_eq_true hp]
    rw [if_pos (by omega), if_pos (by omega), if_pos (by omega), if_pos trivial, w64s hlt hl]
  ·
   have e : decide (WordFrom l i) = false := by
    refine decide_eq_false fun h => hp (h.1 _ ?_)
    rw [ed]; exact List.mem_cons_self
   rw [e]
   refine ⟨Ev.step (f := fun _ => some false) (fun k => ?_) (Ev.now _), Ev.step (f := fun _ => some false) (fun k => ?_) (Ev.now _)⟩
   ·
    simp only [spec_IsWord.l0, l2Letter_eq, e1, Option.bind_some, decide_eq_false hp]
    rw [if_pos (by omega), if_pos (by omega)]; rfl
   ·
    simp only [impl_IsWord.l0, isLetter_eq, e1, Option.bind_some, decide_eq_false hp]
    rw [if_pos (by omega), if_pos (by omega), if_pos (by omega)]; rfl
theorem isWord_ev (l : List Int) (hl : l.length ≤ 1048576) : Ev (fun k => spec_IsWord.f k l) (decide (WordP l)) ∧ Ev (fun k => impl_IsWord.f k l) (decide (WordP l)) := by
 have := isWord_l l (by omega) l.length 0 (by omega)
 have e : decide (WordFrom l 0) = decide (WordP l) := by rw [decide_eq_decide]; rfl
 rw [e] at this
 exact this
theorem LetP.neg {x : Int} (h : LetP x) : LetP (-x) := by unfold LetP at *; omega
theorem w64neg {x : Int} (h : LetP x) : wrap64 (-x) = -x := w64 (by unfold LetP at h; omega) (by unfold LetP at h; omega)
def ltx (x : Int) : ByteArray := strOfNums [if x > 0 then 96 + x else 64 - x]
def txt (l : List Int) : ByteArray := l.foldl (fun t x => t ++ ltx x) (⟨#[]⟩ : ByteArray)
theorem letter_cases {x : Int} (h : LetP x) : x = 1 ∨ x = 2 ∨ x = 3 ∨ x = 4 ∨ x = 5 ∨ x = 6 ∨ x = 7 ∨ x = 8 ∨ x = -1 ∨ x = -2 ∨ x = -3 ∨ x = -4 ∨ x = -5 ∨ x = -6 ∨ x = -7 ∨ x = -8 := by
 unfold LetP at h; omega
theorem ltx_size (x : Int) : (ltx x).size = 1 := rfl
theorem txt_size (l : List Int) : ∀ t : ByteArray, (l.foldl (fun t x => t ++ ltx x) t).size = t.size + l.length := by
 induction l with
 | nil => intro t; simp
 | cons x l ih => intro t; rw [List.foldl_cons, ih, ByteArray.size_append, ltx_size, List.length_cons]; omega
theorem ltx_pos {x : Int} (h : LetP x) (h0 : x > 0) : (⟨#[97, 98, 99, 100, 101, 102, 103, 104]⟩ : ByteArray).extract (x - 1).toNat x.toNat = ltx x := by
 rcases letter_cases h with rfl | rfl | rfl | rfl | rfl | rfl | rfl | rfl | rfl | rfl | rfl | rfl | rfl | rfl | rfl | rfl <;> first | (exfalso; omega) | decide +kernel
theorem ltx_neg {x : Int} (h : LetP x) (h0 : ¬ x > 0) : (⟨#[65, 66, 67, 68, 69, 70, 71, 72]⟩ : ByteArray).extract (-x - 1).toNat (-x).toNat = ltx x := by
 rcases letter_cases h with rfl | rfl | rfl | rfl | rfl | rfl | rfl | rfl | rfl | rfl | rfl | rfl | rfl | rfl | rfl | rfl <;> first | (exfalso; omega) | decide +kernel
theorem letterText_eq {x : Int} (h : LetP x) : impl_letterText.f x = some (ltx x) := by
 unfold impl_letterText.f ltx
 unfold LetP at h
 split
 ·
  rw [w64 (x := 97 + x) (by omega) (by omega), w64 (by omega) (by omega), show (97 + x - 1) % 256 = 96 + x by omega]
 ·
  rw [w64 (x := 65 - x) (by omega) (by omega), w64 (by omega) (by omega), show (65 - x - 1) % 256 = 64 - x by omega]
theorem textS_l (l : List Int) (hl : l.length ≤ 1048576) (hp : ∀ x ∈ l, LetP x) : ∀ (d i : Nat) (t : ByteArray), i + d = l.length → t.size = i → Ev (fun k => spec_l2Text.l0 k l t i) ((l.drop i).foldl (fun t x => t ++ ltx x) t) := by
 intro d
 induction d with
 | zero =>
  intro i t hi ht
  rw [List.drop_of_length_le (by omega)]
  refine Ev.step (f := fun _ => some t) (fun k => ?_) (Ev.now _)
  simp only [spec_l2Text.l0]; rw [if_neg (by omega)]
 | succ d ih =>
  intro i t hi ht
  have hlt : i < l.length := by omega
  have ed : l.drop i = l[i] :: l.drop (i + 1) := List.drop_eq_getElem_cons hlt
  have hx := hp l[i] (List.getElem_mem hlt)
  have hn := w64neg hx
  have hx' := hx
  unfold LetP at hx'
  have h1 := ih (i + 1) (t ++ ltx l[i]) (by omega) (by rw [ByteArray.size_append, ltx_size, ht])
  rw [ed, List.foldl_cons]
  refine Ev.step (fun k => ?_) h1
  simp only [spec_l2Text.l0, rd_lt hlt, hn]
  by_cases h0 : l[i] > 0
  ·
   have hw : wrap64 (l[i] - 1) = l[i] - 1 := w64 (by omega) (by omega)
   have hlx := ltx_pos hx h0
   simp only [hw, hlx]
   rw [if_pos (by omega), if_pos (by omega), if_pos h0, if_pos (by omega), if_pos (by omega), if_pos (by omega), if_pos (by rw [ltx_size]; omega), w64s hlt (by omega)]
  ·
   have hw : wrap64 (-l[i] - 1) = -l[i] - 1 := w64 (by omega) (by omega)
   have hlx := ltx_neg hx h0
   simp only [hw, hlx]
   rw [if_pos (by omega), if_pos (by omega), if_neg h0, if_pos (by omega), if_pos (by omega), if_pos (by omega), if_pos (by rw [ltx_size]; omega), w64s hlt (by omega)]
theorem textI_l (l : List Int) (hl : l.length ≤ 1048576) (hp : ∀ x ∈ l, LetP x) : ∀ (d i : Nat) (t : ByteArray), i + d = l.length → t.size = i → Ev (fun k => impl_WordText.l0 k t l l.length i) (if l.length = 0 then (⟨#[45]⟩ : ByteArray) else (l.drop i).foldl (fun t x => t ++ ltx x) t) := by
 intro d
 induction d with
 | zero =>
  intro i t hi ht
  rw [List.drop_of_length_le (by omega)]
  have hl0 : t.toList = [] ↔ l.length = 0 := by
   rw [tol_nil]
   omega
  refine Ev.step (f := fun _ => some (if l.length = 0 then (⟨#[45]⟩ : ByteArray) else t)) (fun k => ?_) (Ev.now _)
  simp only [impl_WordText.l0]
  rw [if_neg (by omega)]
  by_cases h0 : l.length = 0
  ·
   rw [if_pos (hl0.2 h0), if_pos h0]
  ·
   rw [if_neg (fun h => h0 (hl0.1 h)), if_neg h0]
 | succ d ih =>
  intro i t hi ht
  have hlt : i < l.length := by omega
  have ed : l.drop i = l[i] :: l.drop (i + 1) := List.drop_eq_getElem_cons hlt
  have hx := hp l[i] (List.getElem_mem hlt)
  have h1 := ih (i + 1) (t ++ ltx l[i]) (by omega) (by rw [ByteArray.size_append, ltx_size, ht])
  rw [ed, List.foldl_cons]
  refine Ev.step (fun k => ?_) h1
  simp only [impl_WordText.l0, rd_lt hlt, letterText_eq hx, Option.bind_some]
  rw [if_pos (by omega), if_pos (by omega), if_pos (by omega), if_pos (by rw [ltx_size]; omega), w64s hlt (by omega)]
def textM (l : List Int) : ByteArray := if l.length = 0 then (⟨#[45]⟩ : ByteArray) else txt l
def bulkS (l : List ByteArray) : Nat := l.length + (l.map ByteArray.size).sum
theorem sumS_drop {l : List ByteArray} {i : Nat} (h : i < l.length) : ((l.drop i).map ByteArray.size).sum = l[i].size + ((l.drop (i + 1)).map ByteArray.size).sum := by
 rw [List.drop_eq_getElem_cons h, List.map_cons, List.sum_cons]
def jl (xs : List ByteArray) (sep : ByteArray) : List UInt8 := Lib.join (xs.map (·.data.toList)) sep.data.toList
def nm (l : List UInt8) : List Int := l.map fun b => (b.toNat : Int)
theorem nm_app (a b : List UInt8) : nm (a ++ b) = nm a ++ nm b := List.map_append
theorem nm_len (a : List UInt8) : (nm a).length = a.length := List.length_map ..
theorem bytesOf_nm (s : ByteArray) : bytesOf s = nm s.data.toList := rfl
theorem strOf_nm (l : List UInt8) : strOfNums (nm l) = ⟨l.toArray⟩ := by
 unfold strOfNums nm
 rw [List.map_map]
 congr 2
 exact (List.map_congr_left fun b _ => by simp).trans (List.map_id l)
theorem join_snoc (xs : List (List UInt8)) (y sep : List UInt8) (h : xs ≠ []) : Lib.join (xs ++ [y]) sep = Lib.join xs sep ++ sep ++ y := by
 cases xs with
 | nil => exact (h rfl).elim
 | cons x r =>
  rw [List.cons_append, Lib.join_cons, Lib.join_cons]
  unfold Lib.joinTail
  rw [List.map_append, List.flatten_append]
  simp
theorem join_len_le (xs : List (List UInt8)) (sep : List UInt8) : (Lib.join xs sep).length ≤ sep.length * xs.length + Lib.lens xs := by
 cases xs with
 | nil => simp [Lib.join_nil]
 | cons x r =>
  rw [Lib.join_length, List.length_cons]
  have := Nat.mul_le_mul_left sep.length (Nat.le_add_right r.length 1)
  omega
theorem lensS (l : List ByteArray) : Lib.lens (l.map (·.data.toList)) = (l.map ByteArray.size).sum := by
 unfold Lib.lens
 rw [List.map_map]
 rfl
theorem jl_len (xs : List ByteArray) (sep : ByteArray) (hb : bulkS xs ≤ 1048576) (hs : sep.size ≤ 1048576) : (jl xs sep).length ≤ 1099512676352 := by
 have h1 := join_len_le (xs.map (·.data.toList)) sep.data.toList
 rw [lensS, List.length_map] at h1
 have h2 : sep.data.toList.length * xs.length ≤ 1048576 * 1048576 := Nat.mul_le_mul hs (by unfold bulkS at hb; omega)
 unfold jl
 unfold bulkS at hb
 omega
theorem bulkS_take (l : List ByteArray) (i : Nat) : bulkS (l.take i) ≤ bulkS l := by
 unfold bulkS
 have h1 := Lib.lens_take_le (l.map (·.data.toList)) i
 rw [← List.map_take, lensS, lensS] at h1
 rw [List.length_take]
 omega
def cnt (l : List Int) (y : Nat) : Nat := l.countP fun x => x.natAbs == y
theorem cnt_append (a b : List Int) (y : Nat) : cnt (a ++ b) y = cnt a y + cnt b y := List.countP_append
theorem cnt_one (x : Int) (y : Nat) : cnt [x] y = if x.natAbs = y then 1 else 0 := by
 unfold cnt
 rw [List.countP_cons, List.countP_nil]
 by_cases h : x.natAbs = y <;> simp [h]
theorem cnt_le (l : List Int) (y : Nat) : cnt l y ≤ l.length := List.countP_le_length
def usesL (l : List Int) : List Int := (List.range 9).map fun y => ((cnt l y : Nat) : Int)
theorem usesL_length (l : List Int) : (usesL l).length = 9 := by simp [usesL]
theorem usesL_rd (l : List Int) {y : Nat} (h : y < 9) : rd (usesL l) (y : Int) = (cnt l y : Int) := by
 rw [rd_lt (by rw [usesL_length]; exact h)]
 simp [usesL]
theorem usesL_nil : usesL [] = List.replicate 9 0 := by decide
theorem usesL_snoc (l : List Int) (x : Int) : (usesL l).set x.natAbs ((cnt l x.natAbs : Int) + 1) = usesL (l ++ [x]) := by
 refine List.ext_getElem (by simp [usesL_length]) fun y h1 h2 => ?_
 have hy : y < 9 := by rw [usesL_length] at h2; exact h2
 rw [List.getElem_set]
 have e1 : (usesL (l ++ [x]))[y] = ((cnt (l ++ [x]) y : Nat) : Int) := by simp [usesL]
 refine Eq.trans ?_ e1.symm
 rw [cnt_append, cnt_one]
 by_cases h : x.natAbs = y
 ·
  subst h; rw [if_pos rfl, if_pos rfl]; omega
 ·
  rw [if_neg h, if_neg h]; simp [usesL]
theorem flat_take_succ {g : List (List Int)} {p : Nat} (h : p < g.length) : (g.take (p + 1)).flatten = (g.take p).flatten ++ g[p] := by
 rw [List.take_succ_eq_append_getElem h, List.flatten_append, List.flatten_singleton]
theorem flat_len (g : List (List Int)) : g.flatten.length = (g.map List.length).sum := List.length_flatten
theorem flat_take_len (g : List (List Int)) (p : Nat) : ((g.take p).flatten).length ≤ g.flatten.length := by
 have : g.flatten = (g.take p).flatten ++ (g.drop p).flatten := by rw [← List.flatten_append, List.take_append_drop]
 rw [this, List.length_append]; omega
def GluP (g : List (List Int)) : Prop := (1 ≤ g.length ∧ g.length ≤ 4) ∧ (∀ p ∈ g, p ≠ [] ∧ WordP p) ∧ g.flatten.length ≤ 20 ∧ ∀ y, y < 9 → cnt g.flatten y ≤ 2
theorem GluP.let {g : List (List Int)} (h : GluP g) : ∀ p ∈ g, ∀ x ∈ p, LetP x := fun p hp => (h.2.1 p hp).2.1
def RowsP (g : List (List Int)) (p : Nat) : Prop := ∀ w ∈ g.drop p, w ≠ [] ∧ WordP w
theorem rowsP_succ {g : List (List Int)} {p : Nat} (h : p < g.length) : RowsP g p ↔ (g[p] ≠ [] ∧ WordP g[p]) ∧ RowsP g (p + 1) := by
 unfold RowsP
 rw [List.drop_eq_getElem_cons h]
 simp only [List.mem_cons, forall_eq_or_imp]
def Few (l : List Int) (i : Nat) : Prop := ∀ y, i ≤ y → y < 9 → cnt l y ≤ 2
theorem txt_size0 (l : List Int) : (txt l).size = l.length := by
 unfold txt
 rw [txt_size]
 show 0 + l.length = _
 omega
theorem bulk_txt (g : List (List Int)) (h : GluP g) : bulkS (g.map txt) ≤ 24 := by
 have h4 := h.1.2
 have h20 := h.2.2.1
 rw [flat_len] at h20
 unfold bulkS
 rw [List.length_map, List.map_map]
 have e : (ByteArray.size ∘ txt) = List.length := funext fun l => txt_size0 l
 rw [e]
 omega
def sp : ByteArray := (⟨#[32]⟩ : ByteArray)
def gtx (g : List (List Int)) : ByteArray := (⟨(jl (g.map txt) sp).toArray⟩ : ByteArray)
def letOf (c : Int) : Option Int := if 97 ≤ c ∧ c ≤ 104 then some (c - 96) else if 65 ≤ c ∧ c ≤ 72 then some (-(c - 64)) else none
def pw (s : ByteArray) : Nat → Nat → List Int → List Int × Bool
 | 0, _, acc => if acc.length = 0 then ([], false) else if acc.length > 24 then ([], false) else (acc, true)
 | d + 1, i, acc => match letOf (bt s i) with
  | none => ([], false)
  | some x => pw s d (i + 1) (acc ++ [x])
theorem pw_length (s : ByteArray) : ∀ (d i : Nat) (acc : List Int), (pw s d i acc).1.length ≤ 24 := by
 intro d
 induction d with
 | zero => intro i acc; unfold pw; split <;> (try split) <;> simp <;> omega
 | succ d ih =>
  intro i acc
  unfold pw
  split
  ·
   simp
  ·
   exact ih _ _
theorem parseWord_l (s : ByteArray) (hs : s.size ≤ 1048576) : ∀ (d i : Nat) (acc : List Int), i + d = s.size → acc.length = i → Ev (fun k => spec_ParseWord.l0 k s acc i) (pw s d i acc) ∧ Ev (fun k => impl_ParseWord.l0 k s acc s.size i) (pw s d i acc) := by
 intro d
 induction d with
 | zero =>
  intro i acc hi ha
  unfold pw
  have hl0 : s.toList = [] ↔ acc.length = 0 := by
   rw [tol_nil]
   omega
  by_cases h0 : acc.length = 0
  ·
   rw [if_pos h0]
   refine ⟨Ev.step (f := fun _ => some (([] : List Int), false)) (fun k => ?_) (Ev.now _), Ev.step (f := fun _ => some (([] : List Int), false)) (fun k => ?_) (Ev.now _)⟩
   ·
    simp only [spec_ParseWord.l0]; rw [if_neg (by omega), if_pos (by omega)]
   ·
    simp only [impl_ParseWord.l0]; rw [if_neg (by omega), if_pos (hl0.2 h0)]
  ·
   rw [if_neg h0]
   by_cases h24 : acc.length > 24
   ·
    rw [if_pos h24]
    refine ⟨Ev.step (f := fun _ => some (([] : List Int), false)) (fun k => ?_) (Ev.now _), Ev.step (f := fun _ => some (([] : List Int), false)) (fun k => ?_) (Ev.now _)⟩
    ·
     simp only [spec_ParseWord.l0]; rw [if_neg (by omega), if_neg (by omega), if_pos (by omega)]
    ·
     simp only [impl_ParseWord.l0]; rw [if_neg (by omega), if_neg (fun h => h0 (hl0.1 h)), if_pos (by omega)]
   ·
    rw [if_neg h24]
    refine ⟨Ev.step (f := fun _ => some (acc, true)) (fun k => ?_) (Ev.now _), Ev.step (f := fun _ => some (acc, true)) (fun k => ?_) (Ev.now _)⟩
    ·
     simp only [spec_ParseWord.l0]; rw [if_neg (by omega), if_neg (by omega), if_neg (by omega)]
    ·
     simp only [impl_ParseWord.l0]; rw [if_neg (by omega), if_neg (fun h => h0 (hl0.1 h)), if_neg (by omega)]
 | succ d ih =>
  intro i acc hi ha
  have hlt : (i : Int) < (s.size : Int) := by omega
  have hll : acc.length < 17592186044416 := by omega
  obtain ⟨c, hc⟩ : ∃ c, bt s i = c := ⟨_, rfl⟩
  have hcr := bt_range s i
  rw [hc] at hcr
  unfold pw
  rw [hc]
  have hw : ∀ z : Int, -1000 ≤ z → z ≤ 1000 → wrap64 z = z := fun z h1 h2 => w64 (by omega) (by omega)
  have hi0 : (0 : Int) ≤ (i : Int) := by omega
  by_cases h1 : 97 ≤ c ∧ c ≤ 104
  ·
   have hl : letOf c = some (c - 96) := by unfold letOf; rw [if_pos h1]
   rw [hl]
   obtain ⟨g1, g2⟩ := ih (i + 1) (acc ++ [c - 96]) (by omega) (by simp [ha])
   constructor
   ·
    refine Ev.step (f := fun k => spec_ParseWord.j1 k s acc i true) (fun k => ?_) (Ev.step (fun k => ?_) g1)
    ·
     simp only [spec_ParseWord.l0, hc]
     rw [if_pos hlt, if_pos hi0, if_pos (show c ≥ 97 from h1.1), decide_eq_true h1.2]
    ·
     simp only [spec_ParseWord.j1, hc]
     rw [if_pos trivial, if_pos hi0, if_pos hlt, if_pos hll, hw c (by omega) (by omega), hw (c - 97) (by omega) (by omega), hw (c - 97 + 1) (by omega) (by omega), w64s (show i < s.size by omega) (by omega), show c - 97 + 1 = c - 96 by omega]
   ·
    refine Ev.step (f := fun k => impl_ParseWord.j1 k s acc c s.size i true) (fun k => ?_) (Ev.step (fun k => ?_) g2)
    ·
     simp only [impl_ParseWord.l0, hc]
     rw [if_pos hlt, if_pos hi0, if_pos hlt, if_pos (show c ≥ 97 from h1.1), decide_eq_true (show c < 105 by omega)]
    ·
     simp only [impl_ParseWord.j1]
     rw [if_pos trivial, if_pos hll, w64s (show i < s.size by omega) (by omega), show (c - 97) % 256 + 1 = c - 96 by omega]
  ·
   have hd1 : (c ≥ 97 → decide (c ≤ 104) = false) ∧ (c ≥ 97 → decide (c < 105) = false) := ⟨fun h => decide_eq_false (by omega), fun h => decide_eq_false (by omega)⟩
   by_cases h2 : 65 ≤ c ∧ c ≤ 72
   ·
    have hl : letOf c = some (-(c - 64)) := by unfold letOf; rw [if_neg h1, if_pos h2]
    rw [hl]
    obtain ⟨g1, g2⟩ := ih (i + 1) (acc ++ [-(c - 64)]) (by omega) (by simp [ha])
    constructor
    ·
     refine Ev.step (f := fun k => spec_ParseWord.j1 k s acc i false) (fun k => ?_) (Ev.step (fun k => ?_) g1)
     ·
      simp only [spec_ParseWord.l0, hc]
      rw [if_pos hlt, if_pos hi0, if_neg (show ¬ c ≥ 97 by omega)]
     ·
      simp only [spec_ParseWord.j1, hc]
      rw [if_neg (by simp), if_pos hi0, if_pos hlt, if_pos (show c ≥ 65 by omega), if_pos (show c ≤ 72 by omega), if_pos hll, hw c (by omega) (by omega), hw (c - 65) (by omega) (by omega), hw (c - 65 + 1) (by omega) (by omega), hw (-(c - 65 + 1)) (by omega) (by omega), w64s (show i < s.size by omega) (by omega), show -(c - 65 + 1) = -(c - 64) by omega]
    ·
     refine Ev.step (f := fun k => impl_ParseWord.j1 k s acc c s.size i false) (fun k => ?_) (Ev.step (fun k => ?_) g2)
     ·
      simp only [impl_ParseWord.l0, hc]
      rw [if_pos hlt, if_pos hi0, if_pos hlt, if_neg (show ¬ c ≥ 97 by omega)]
     ·
      simp only [impl_ParseWord.j1]
      rw [if_neg (by simp), if_pos (show c ≥ 65 by omega), if_pos (show c < 73 by omega), if_pos hll, w64s (show i < s.size by omega) (by omega), show -((c - 65) % 256) - 1 = -(c - 64) by omega]
   ·
    have hl : letOf c = none := by unfold letOf; rw [if_neg h1, if_neg h2]
    rw [hl]
    constructor
    ·
     have hj : Ev (fun k => spec_ParseWord.j1 k s acc i false) (([] : List Int), false) := by
      refine Ev.step (f := fun _ => some (([] : List Int), false)) (fun k => ?_) (Ev.now _)
      simp only [spec_ParseWord.j1, hc]
      rw [if_neg (by simp), if_pos hi0, if_pos hlt]
      split
      ·
       rw [if_neg (by omega)]
      ·
       rfl
     refine Ev.step (f := fun k => spec_ParseWord.j1 k s acc i false) (fun k => ?_) hj
     simp only [spec_ParseWord.l0, hc]
     rw [if_pos hlt, if_pos hi0]
     split
     ·
      rename_i h97
      rw [hd1.1 h97]
     ·
      rfl
    ·
     have hj : Ev (fun k => impl_ParseWord.j1 k s acc c s.size i false) (([] : List Int), false) := by
      refine Ev.step (f := fun _ => some (([] : List Int), false)) (fun k => ?_) (Ev.now _)
      simp only [impl_ParseWord.j1]
      rw [if_neg (by simp)]
      split
      ·
       rw [if_neg (by omega)]
      ·
       rfl
     refine Ev.step (f := fun k => impl_ParseWord.j1 k s acc c s.size i false) (fun k => ?_) hj
     simp only [impl_ParseWord.l0, hc]
     rw [if_pos hlt, if_pos hi0, if_pos hlt]
     split
     ·
      rename_i h97
      rw [hd1.2 h97]
     ·
      rfl
def parseM (s : ByteArray) : List Int × Bool := if s.toList = ([45] : List UInt8) then ([], true) else pw s s.size 0 []
theorem parseWord_ev (s : ByteArray) (hs : s.size ≤ 1048576) : ∃ (r : List Int) (o : Bool), r.length ≤ 1048576 ∧ Ev (fun k => spec_ParseWord.f k s) (r, o) ∧ Ev (fun k => impl_ParseWord.f k s) (r, o) ∧ (r, o) = parseM s := by
 refine ⟨(parseM s).1, (parseM s).2, ?_, ?_, ?_, rfl⟩
 ·
  unfold parseM
  split
  ·
   simp
  ·
   have := pw_length s s.size 0 []; omega
 ·
  unfold spec_ParseWord.f parseM
  simp only [Option.bind_some]
  split
  ·
   exact Ev.now _
  ·
   exact (parseWord_l s hs s.size 0 [] (by omega) rfl).1
 ·
  unfold impl_ParseWord.f parseM
  split
  ·
   exact Ev.now _
  ·
   exact (parseWord_l s hs s.size 0 [] (by omega) rfl).2
def parts (s : ByteArray) (b : Int) : Nat → Nat → Nat → List ByteArray
 | 0, i, f => [s.extract f i]
 | d + 1, i, f => if bt s i = b then s.extract f i :: parts s b d (i + 1) (i + 1) else parts s b d (i + 1) f
theorem parts_length (s : ByteArray) (b : Int) : ∀ d i f, (parts s b d i f).length ≤ d + 1 := by
 intro d
 induction d with
 | zero => intro i f; simp [parts]
 | succ d ih =>
  intro i f
  unfold parts
  split
  ·
   have := ih (i + 1) (i + 1); simp only [List.length_cons]; omega
  ·
   have := ih (i + 1) f; omega
theorem splitByte_l (s : ByteArray) (b : Int) (hs : s.size ≤ 1048576) : ∀ (d i f : Nat) (acc : List ByteArray), i + d = s.size → f ≤ i → acc.length ≤ i → Ev (fun k => spec_SplitByte.l0 k s b acc f i) (acc ++ parts s b d i f) ∧ Ev (fun k => impl_SplitByte.l0 k s b acc f s.size i) (acc ++ parts s b d i f) := by
 intro d
 induction d with
 | zero =>
  intro i f acc hi hf ha
  have hie : i = s.size := by omega
  constructor
  ·
   refine Ev.step (f := fun k => spec_SplitByte.l0 k s b (acc ++ [s.extract f i]) ((i + 1 : Nat) : Int) ((i + 1 : Nat) : Int)) (fun k => ?_) (Ev.step (f := fun _ => some (acc ++ [s.extract f i])) (fun k => ?_) ?_)
   ·
    simp only [spec_SplitByte.l0]
    rw [if_pos (by omega), if_pos (by omega), if_pos (by omega), if_pos (by omega), if_pos (by omega), w64s (n := i + 1) (by omega) (by omega), Int.toNat_natCast, Int.toNat_natCast]
   ·
    simp only [spec_SplitByte.l0]; rw [if_neg (by omega)]
   ·
    exact Ev.now _
  ·
   refine Ev.step (f := fun _ => some (acc ++ [s.extract f i])) (fun k => ?_) (Ev.now _)
   simp only [impl_SplitByte.l0]
   rw [if_neg (by omega), if_pos (by omega), if_pos (by omega), if_pos (by omega), Int.toNat_natCast, ← hie]
 | succ d ih =>
  intro i f acc hi hf ha
  have hlt : (i : Int) < (s.size : Int) := by omega
  unfold parts
  by_cases hb : bt s i = b
  ·
   rw [if_pos hb]
   obtain ⟨h1, h2⟩ := ih (i + 1) (i + 1) (acc ++ [s.extract f i]) (by omega) (by omega) (by simp; omega)
   rw [List.append_assoc, List.singleton_append] at h1 h2
   refine ⟨Ev.step (fun k => ?_) h1, Ev.step (fun k => ?_) h2⟩
   ·
    simp only [spec_SplitByte.l0]
    rw [if_pos (by omega), if_neg (by omega), if_pos (by omega), if_pos hlt, if_pos hb, if_pos (by omega), if_pos (by omega), if_pos (by omega), w64s (n := i + 1) (by omega) (by omega), Int.toNat_natCast, Int.toNat_natCast]
   ·
    simp only [impl_SplitByte.l0]
    rw [if_pos hlt, if_pos (by omega), if_pos hlt, if_pos hb, if_pos (by omega), if_pos (by omega), if_pos (by omega), if_pos (by omega), w64s (n := i + 1) (by omega) (by omega), Int.toNat_natCast, Int.toNat_natCast]
  ·
   rw [if_neg hb]
   obtain ⟨h1, h2⟩ := ih (i + 1) f acc (by omega) (by omega) (by omega)
   refine ⟨Ev.step (fun k => ?_) h1, Ev.step (fun k => ?_) h2⟩
   ·
    simp only [spec_SplitByte.l0]
    rw [if_pos (by omega), if_neg (by omega), if_pos (by omega), if_pos hlt, if_neg hb, w64s (n := i + 1) (by omega) (by omega)]
   ·
    simp only [impl_SplitByte.l0]
    rw [if_pos hlt, if_pos (by omega), if_pos hlt, if_neg hb, w64s (n := i + 1) (by omega) (by omega)]
theorem splitByte_ev (s : ByteArray) (b : Int) (hs : s.size ≤ 1048576) : Ev (fun k => spec_SplitByte.f k s b) (parts s b s.size 0 0) ∧ Ev (fun k => impl_SplitByte.f k s b) (parts s b s.size 0 0) := by
 have := splitByte_l s b hs s.size 0 0 [] (by omega) (by omega) (by simp)
 simpa [spec_SplitByte.f, impl_SplitByte.f] using this
theorem fewS_l (l : List Int) : ∀ (d i : Nat), i + d = 9 → Ev (fun k => spec_IsGluing.l1 k (usesL l) i) (decide (Few l i)) := by
 intro d
 induction d with
 | zero =>
  intro i hi
  rw [decide_eq_true (show Few l i from fun y h1 h2 => by omega)]
  refine Ev.step (f := fun _ => some true) (fun k => ?_) (Ev.now _)
  simp only [spec_IsGluing.l1, usesL_length]; rw [if_neg (by omega)]
 | succ d ih =>
  intro i hi
  by_cases hc : cnt l i ≤ 2
  ·
   have e : Few l i ↔ Few l (i + 1) := ⟨fun h y h1 h2 => h y (by omega) h2, fun h y h1 h2 => by
    rcases Nat.eq_or_lt_of_le h1 with rfl | h3
    ·
     exact hc
    ·
     exact h y h3 h2⟩
   rw [decide_eq_decide.2 e]
   refine Ev.step (fun k => ?_) (ih (i + 1) (by omega))
   simp only [spec_IsGluing.l1, usesL_length, usesL_rd l (show i < 9 by omega)]
   rw [if_pos (by omega), if_pos (by omega), if_neg (by omega), w64s (show i < 9 by omega) (by omega)]
  ·
   rw [decide_eq_false (show ¬ Few l i from fun h => hc (h i (Nat.le_refl _) (by omega)))]
   refine Ev.step (f := fun _ => some false) (fun k => ?_) (Ev.now _)
   simp only [spec_IsGluing.l1, usesL_length, usesL_rd l (show i < 9 by omega)]
   rw [if_pos (by omega), if_pos (by omega), if_pos (by omega)]
theorem LetP.abs {x : Int} (h : LetP x) : 1 ≤ x.natAbs ∧ x.natAbs ≤ 8 := by unfold LetP at h; omega
theorem l3Abs_eq {x : Int} (h : LetP x) : spec_l3Abs.f x = some (x.natAbs : Int) := by
 unfold spec_l3Abs.f spec_l1Max.f
 rw [w64neg h]
 split <;> simp only [Option.bind_some, Option.some.injEq] <;> omega
theorem rdL_lt {l : List (List Int)} {i : Nat} (h : i < l.length) : rd_L1 l (i : Int) = l[i] := by
 simp [rd_L1, List.getD_eq_getElem?_getD, h]
def bulk (l : List (List Int)) : Nat := l.length + (l.map List.length).sum
theorem len_le_sum {l : List (List Int)} {x : List Int} (h : x ∈ l) : x.length ≤ (l.map List.length).sum := by
 induction l with
 | nil => simp at h
 | cons y l ih =>
  rw [List.map_cons, List.sum_cons]
  rcases List.mem_cons.1 h with rfl | h
  ·
   omega
  ·
   have := ih h; omega
theorem usesS_row (g : List (List Int)) (hg : g.length ≤ 1048576) (p : Nat) (hp : p < g.length) (hl : ∀ x ∈ g[p], LetP x) (pre : List Int) (hb : pre.length + g[p].length ≤ 1048576) (r : List Int) (h : Ev (fun k => spec_l3Uses.l0 k g (usesL (pre ++ g[p])) ((p + 1 : Nat) : Int)) r) :
  ∀ (d i : Nat), i + d = g[p].length → Ev (fun k => spec_l3Uses.l1 k g (usesL (pre ++ g[p].take i)) p i) r := by
 intro d
 induction d with
 | zero =>
  intro i hi
  rw [List.take_of_length_le (by omega)]
  refine Ev.step (fun k => ?_) h
  simp only [spec_l3Uses.l1, rdL_lt hp]
  rw [if_pos (by omega), if_pos (by omega), if_neg (by omega), w64s hp (by omega)]
 | succ d ih =>
  intro i hi
  have hlt : i < g[p].length := by omega
  have hx := hl g[p][i] (List.getElem_mem hlt)
  have ha := hx.abs
  have hc := cnt_le (pre ++ g[p].take i) g[p][i].natAbs
  rw [List.length_append, List.length_take] at hc
  have hw : wrap64 ((cnt (pre ++ g[p].take i) g[p][i].natAbs : Int) + 1) = (cnt (pre ++ g[p].take i) g[p][i].natAbs : Int) + 1 := w64 (by omega) (by omega)
  have := ih (i + 1) (by omega)
  rw [List.take_succ_eq_append_getElem hlt, ← List.append_assoc, ← usesL_snoc] at this
  refine Ev.step (fun k => ?_) this
  simp only [spec_l3Uses.l1, rdL_lt hp, rd_lt hlt, l3Abs_eq hx, Option.bind_some, usesL_length]
  rw [if_pos (by omega), if_pos (by omega), if_pos (by omega), if_pos (by omega), if_pos (by omega), if_pos (by omega), if_pos (by omega), if_pos (by omega), usesL_rd _ (by omega), hw, w64s hlt (by omega), Int.toNat_natCast]
theorem usesS_l (g : List (List Int)) (hg : g.length ≤ 1048576) (hl : ∀ p ∈ g, ∀ x ∈ p, LetP x) (hb : g.flatten.length ≤ 1048576) : ∀ (d p : Nat), p + d = g.length → Ev (fun k => spec_l3Uses.l0 k g (usesL (g.take p).flatten) p) (usesL g.flatten) := by
 intro d
 induction d with
 | zero =>
  intro p hp
  rw [List.take_of_length_le (by omega)]
  refine Ev.step (f := fun _ => some (usesL g.flatten)) (fun k => ?_) (Ev.now _)
  simp only [spec_l3Uses.l0]; rw [if_neg (by omega)]
 | succ d ih =>
  intro p hp
  have hlt : p < g.length := by omega
  have h1 := ih (p + 1) (by omega)
  rw [flat_take_succ hlt] at h1
  have h2 := usesS_row g hg p hlt (hl _ (List.getElem_mem hlt)) (g.take p).flatten (by have := flat_take_len g (p + 1); rw [flat_take_succ hlt, List.length_append] at this; omega) _ h1 g[p].length 0 (by omega)
  rw [List.take_zero, List.append_nil] at h2
  refine Ev.step (fun k => ?_) h2
  simp only [spec_l3Uses.l0]; rw [if_pos (by omega)]; rfl
theorem usesS_ev (g : List (List Int)) (hg : g.length ≤ 1048576) (hl : ∀ p ∈ g, ∀ x ∈ p, LetP x) (hb : g.flatten.length ≤ 1048576) : Ev (fun k => spec_l3Uses.f k g) (usesL g.flatten) := by
 refine Ev.congr (fun k => ?_) (usesS_l g hg hl hb g.length 0 (by omega))
 unfold spec_l3Uses.f
 rw [if_pos (by omega), List.take_zero, List.flatten_nil, usesL_nil]; rfl
theorem isGluingS_l (g : List (List Int)) (hg : g.length ≤ 1048576) (hb : g.flatten.length ≤ 1048576) (r : Bool) (hr : RowsP g 0 → (Ev (fun k => spec_IsGluing.l0 k g (g.flatten.length : Nat) g.length) r)) : ∀ (d p : Nat), p + d = g.length → (RowsP g p ↔ RowsP g 0) → Ev (fun k => spec_IsGluing.l0 k g (((g.take p).flatten.length : Nat) : Int) p) (if RowsP g 0 then r else false) := by
 intro d
 induction d with
 | zero =>
  intro p hp hrow
  have h0 : RowsP g 0 := hrow.1 (by unfold RowsP; rw [List.drop_of_length_le (by omega)]; simp)
  rw [if_pos h0, List.take_of_length_le (by omega), show p = g.length by omega]
  exact hr h0
 | succ d ih =>
  intro p hp hrow
  have hlt : p < g.length := by omega
  have hs := rowsP_succ hlt
  have hxl : g[p].length ≤ 1048576 := by have := flat_take_len g (p + 1); rw [flat_take_succ hlt, List.length_append] at this; omega
  by_cases hz : g[p] = []
  ·
   rw [if_neg (fun h0 => (hs.1 (hrow.2 h0)).1.1 hz)]
   refine Ev.step (f := fun _ => some false) (fun k => ?_) (Ev.now _)
   simp only [spec_IsGluing.l0, rdL_lt hlt, hz]
   rw [if_pos (by omega), if_pos (by omega), if_pos (by simp)]
  have hzl : 0 < g[p].length := List.length_pos_iff.2 hz
  have hw := (isWord_ev g[p] hxl).1
  refine Ev.step (f := fun k => (spec_IsWord.f k g[p]).bind fun t => if t = true then spec_IsGluing.l0 k g (wrap64 ((((g.take p).flatten.length : Nat) : Int) + (g[p].length : Int))) ((p + 1 : Nat) : Int) else some false) (fun k => ?_) (Ev.bind hw ?_)
  ·
   simp only [spec_IsGluing.l0, rdL_lt hlt]
   rw [if_pos (by omega), if_pos (by omega), if_neg (by omega), w64s hlt (by omega)]
  ·
   by_cases hwp : WordP g[p]
   ·
    rw [decide_eq_true hwp]
    simp only [if_true]
    have h1 := ih (p + 1) (by omega) ⟨fun h => hrow.1 (hs.2 ⟨⟨hz, hwp⟩, h⟩), fun h => (hs.1 (hrow.2 h)).2⟩
    have hl : ((g.take (p + 1)).flatten.length : Nat) = (g.take p).flatten.length + g[p].length := by rw [flat_take_succ hlt, List.length_append]
    have hle := flat_take_len g (p + 1)
    have e : wrap64 ((((g.take p).flatten.length : Nat) : Int) + (g[p].length : Int)) = (((g.take (p + 1)).flatten.length : Nat) : Int) := by
     rw [w64 (by omega) (by omega)]; omega
    rw [e]
    exact h1
   ·
    rw [decide_eq_false hwp, if_neg (fun h0 => hwp (hs.1 (hrow.2 h0)).1.2)]
    exact Ev.now _
theorem isGluingS_ev (g : List (List Int)) (hg : g.length ≤ 1048576) (hb : g.flatten.length ≤ 1048576) : Ev (fun k => spec_IsGluing.f k g) (decide (GluP g)) := by
 have hend : RowsP g 0 → Ev (fun k => spec_IsGluing.l0 k g (g.flatten.length : Nat) g.length) (decide (GluP g)) := by
  intro h0
  have h0' : ∀ p ∈ g, p ≠ [] ∧ WordP p := fun p hp => h0 p (by rw [List.drop_zero]; exact hp)
  by_cases hl : (1 : Int) ≤ g.length ∧ (g.length : Int) ≤ 4
  ·
   by_cases h20 : (g.flatten.length : Int) > 20
   ·
    rw [decide_eq_false (fun h : GluP g => by have := h.2.2.1; omega)]
    refine Ev.step (f := fun k => spec_IsGluing.j1 k g true) (fun k => ?_) (Ev.step (f := fun _ => some false) (fun k => ?_) (Ev.now _))
    ·
     simp only [spec_IsGluing.l0, l1In_eq, Option.bind_some, decide_eq_true hl, decide_eq_true h20]; rw [if_neg (by omega), if_pos trivial]
    ·
     simp only [spec_IsGluing.j1]; rw [if_pos trivial]
   ·
    have e : Few g.flatten 0 ↔ GluP g := ⟨fun h => ⟨⟨by omega, by omega⟩, h0', by omega, fun y hy => h y (by omega) hy⟩, fun h y _ hy => h.2.2.2 y hy⟩
    rw [← decide_eq_decide.2 e]
    refine Ev.step (f := fun k => spec_IsGluing.j1 k g false) (fun k => ?_) (Ev.step (f := fun k => (spec_l3Uses.f k g).bind fun t => spec_IsGluing.l1 k t ((0 : Nat) : Int)) (fun k => ?_) (Ev.bind (usesS_ev g hg (fun p hp => (h0' p hp).2.1) hb) (fewS_l g.flatten 9 0 (by omega))))
    ·
     simp only [spec_IsGluing.l0, l1In_eq, Option.bind_some, decide_eq_true hl, decide_eq_false h20]; rw [if_neg (by omega), if_pos trivial]
    ·
     simp only [spec_IsGluing.j1]; rw [if_neg (by simp)]; rfl
  ·
   rw [decide_eq_false (fun h : GluP g => hl ⟨by have := h.1.1; omega, by have := h.1.2; omega⟩)]
   refine Ev.step (f := fun k => spec_IsGluing.j1 k g true) (fun k => ?_) (Ev.step (f := fun _ => some false) (fun k => ?_) (Ev.now _))
   ·
    simp only [spec_IsGluing.l0, l1In_eq, Option.bind_some, decide_eq_false hl]; rw [if_neg (by omega), if_neg (by simp)]
   ·
    simp only [spec_IsGluing.j1]; rw [if_pos trivial]
 have h := isGluingS_l g hg hb _ hend g.length 0 (by omega) Iff.rfl
 have e : (if RowsP g 0 then decide (GluP g) else false) = decide (GluP g) := by
  split
  ·
   rfl
  ·
   rename_i hn
   rw [decide_eq_false (fun h : GluP g => hn (fun p hp => h.2.1 p (by rw [List.drop_zero] at hp; exact hp)))]
 rw [e] at h
 simpa [spec_IsGluing.f] using h
theorem fewI_l (l : List Int) : ∀ (d i : Nat), i + d = 9 → Ev (fun k => impl_IsGluing.l1 k (usesL l) 9 i) (decide (Few l i)) := by
 intro d
 induction d with
 | zero =>
  intro i hi
  rw [decide_eq_true (show Few l i from fun y h1 h2 => by omega)]
  refine Ev.step (f := fun _ => some true) (fun k => ?_) (Ev.now _)
  simp only [impl_IsGluing.l1]; rw [if_neg (by omega)]
 | succ d ih =>
  intro i hi
  by_cases hc : cnt l i ≤ 2
  ·
   have e : Few l i ↔ Few l (i + 1) := ⟨fun h y h1 h2 => h y (by omega) h2, fun h y h1 h2 => by
    rcases Nat.eq_or_lt_of_le h1 with rfl | h3
    ·
     exact hc
    ·
     exact h y h3 h2⟩
   rw [decide_eq_decide.2 e]
   refine Ev.step (fun k => ?_) (ih (i + 1) (by omega))
   simp only [impl_IsGluing.l1, usesL_length, usesL_rd l (show i < 9 by omega)]
   rw [if_pos (by omega), if_pos (by omega), if_pos (by omega), if_neg (by omega), w64s (show i < 9 by omega) (by omega)]
  ·
   rw [decide_eq_false (show ¬ Few l i from fun h => hc (h i (Nat.le_refl _) (by omega)))]
   refine Ev.step (f := fun _ => some false) (fun k => ?_) (Ev.now _)
   simp only [impl_IsGluing.l1, usesL_length, usesL_rd l (show i < 9 by omega)]
   rw [if_pos (by omega), if_pos (by omega), if_pos (by omega), if_pos (by omega)]
theorem size_eq {x : Int} (h : LetP x) : impl_size.f x = some (x.natAbs : Int) := by
 unfold impl_size.f
 rw [w64neg h]
 unfold mx
 congr 1
 omega
theorem usesI_row (g : List (List Int)) (hg : g.length ≤ 1048576) (p : Nat) (hp : p < g.length) (hl : ∀ x ∈ g[p], LetP x) (pre : List Int) (hb : pre.length + g[p].length ≤ 1048576) (r : List Int) (h : Ev (fun k => impl_letterCounts.l0 k (usesL (pre ++ g[p])) g g.length ((p + 1 : Nat) : Int)) r) :
  ∀ (d i : Nat), i + d = g[p].length → Ev (fun k => impl_letterCounts.l1 k (usesL (pre ++ g[p].take i)) g g.length p g[p] g[p].length i) r := by
 intro d
 induction d with
 | zero =>
  intro i hi
  rw [List.take_of_length_le (by omega)]
  refine Ev.step (fun k => ?_) h
  simp only [impl_letterCounts.l1]
  rw [if_neg (by omega), w64s hp (by omega)]
 | succ d ih =>
  intro i hi
  have hlt : i < g[p].length := by omega
  have hx := hl g[p][i] (List.getElem_mem hlt)
  have ha := hx.abs
  have hc := cnt_le (pre ++ g[p].take i) g[p][i].natAbs
  rw [List.length_append, List.length_take] at hc
  have hw : wrap64 ((cnt (pre ++ g[p].take i) g[p][i].natAbs : Int) + 1) = (cnt (pre ++ g[p].take i) g[p][i].natAbs : Int) + 1 := w64 (by omega) (by omega)
  have := ih (i + 1) (by omega)
  rw [List.take_succ_eq_append_getElem hlt, ← List.append_assoc, ← usesL_snoc] at this
  refine Ev.step (fun k => ?_) this
  simp only [impl_letterCounts.l1, rd_lt hlt, size_eq hx, Option.bind_some, usesL_length]
  rw [if_pos (by omega), if_pos (by omega), if_pos (by omega), if_pos (by omega), if_pos (by omega), usesL_rd _ (by omega), hw, w64s hlt (by omega), Int.toNat_natCast]
theorem usesI_l (g : List (List Int)) (hg : g.length ≤ 1048576) (hl : ∀ p ∈ g, ∀ x ∈ p, LetP x) (hb : g.flatten.length ≤ 1048576) : ∀ (d p : Nat), p + d = g.length → Ev (fun k => impl_letterCounts.l0 k (usesL (g.take p).flatten) g g.length p) (usesL g.flatten) := by
 intro d
 induction d with
 | zero =>
  intro p hp
  rw [List.take_of_length_le (by omega)]
  refine Ev.step (f := fun _ => some (usesL g.flatten)) (fun k => ?_) (Ev.now _)
  simp only [impl_letterCounts.l0]; rw [if_neg (by omega)]
 | succ d ih =>
  intro p hp
  have hlt : p < g.length := by omega
  have h1 := ih (p + 1) (by omega)
  rw [flat_take_succ hlt] at h1
  have h2 := usesI_row g hg p hlt (hl _ (List.getElem_mem hlt)) (g.take p).flatten (by have := flat_take_len g (p + 1); rw [flat_take_succ hlt, List.length_append] at this; omega) _ h1 g[p].length 0 (by omega)
  rw [List.take_zero, List.append_nil] at h2
  refine Ev.step (fun k => ?_) h2
  simp only [impl_letterCounts.l0, rdL_lt hlt]; rw [if_pos (by omega), if_pos (by omega), if_pos (by omega)]; rfl
theorem usesI_ev (g : List (List Int)) (hg : g.length ≤ 1048576) (hl : ∀ p ∈ g, ∀ x ∈ p, LetP x) (hb : g.flatten.length ≤ 1048576) : Ev (fun k => impl_letterCounts.f k g) (usesL g.flatten) := by
 refine Ev.congr (fun k => ?_) (usesI_l g hg hl hb g.length 0 (by omega))
 unfold impl_letterCounts.f
 rw [if_pos (by omega), List.take_zero, List.flatten_nil, usesL_nil]; rfl
theorem isGluingI_l (g : List (List Int)) (hg : g.length ≤ 1048576) (hb : g.flatten.length ≤ 1048576) (r : Bool) (hr : RowsP g 0 → (Ev (fun k => impl_IsGluing.l0 k g (g.flatten.length : Nat) g g.length g.length) r)) : ∀ (d p : Nat), p + d = g.length → (RowsP g p ↔ RowsP g 0) → Ev (fun k => impl_IsGluing.l0 k g (((g.take p).flatten.length : Nat) : Int) g g.length p) (if RowsP g 0 then r else false) := by
 intro d
 induction d with
 | zero =>
  intro p hp hrow
  have h0 : RowsP g 0 := hrow.1 (by unfold RowsP; rw [List.drop_of_length_le (by omega)]; simp)
  rw [if_pos h0, List.take_of_length_le (by omega), show p = g.length by omega]
  exact hr h0
 | succ d ih =>
  intro p hp hrow
  have hlt : p < g.length := by omega
  have hs := rowsP_succ hlt
  have hxl : g[p].length ≤ 1048576 := by have := flat_take_len g (p + 1); rw [flat_take_succ hlt, List.length_append] at this; omega
  by_cases hz : g[p] = []
  ·
   rw [if_neg (fun h0 => (hs.1 (hrow.2 h0)).1.1 hz)]
   refine Ev.step (f := fun _ => some false) (fun k => ?_) (Ev.now _)
   simp only [impl_IsGluing.l0, rdL_lt hlt, hz]
   rw [if_pos (by omega), if_pos (by omega), if_pos (by omega), if_pos (by simp)]
  have hzl : 0 < g[p].length := List.length_pos_iff.2 hz
  have hw := (isWord_ev g[p] hxl).2
  refine Ev.step (f := fun k => (impl_IsWord.f k g[p]).bind fun t => if t = true then impl_IsGluing.l0 k g (wrap64 ((((g.take p).flatten.length : Nat) : Int) + (g[p].length : Int))) g g.length ((p + 1 : Nat) : Int) else some false) (fun k => ?_) (Ev.bind hw ?_)
  ·
   simp only [impl_IsGluing.l0, rdL_lt hlt]
   rw [if_pos (by omega), if_pos (by omega), if_pos (by omega), if_neg (by omega), w64s hlt (by omega)]
  ·
   by_cases hwp : WordP g[p]
   ·
    rw [decide_eq_true hwp]
    simp only [if_true]
    have h1 := ih (p + 1) (by omega) ⟨fun h => hrow.1 (hs.2 ⟨⟨hz, hwp⟩, h⟩), fun h => (hs.1 (hrow.2 h)).2⟩
    have hl : ((g.take (p + 1)).flatten.length : Nat) = (g.take p).flatten.length + g[p].length := by rw [flat_take_succ hlt, List.length_append]
    have hle := flat_take_len g (p + 1)
    have e : wrap64 ((((g.take p).flatten.length : Nat) : Int) + (g[p].length : Int)) = (((g.take (p + 1)).flatten.length : Nat) : Int) := by
     rw [w64 (by omega) (by omega)]; omega
    rw [e]
    exact h1
   ·
    rw [decide_eq_false hwp, if_neg (fun h0 => hwp (hs.1 (hrow.2 h0)).1.2)]
    exact Ev.now _
theorem isGluingI_ev (g : List (List Int)) (hg : g.length ≤ 1048576) (hb : g.flatten.length ≤ 1048576) : Ev (fun k => impl_IsGluing.f k g) (decide (GluP g)) := by
 unfold impl_IsGluing.f
 simp only [within_eq, Option.bind_some]
 by_cases hl : (1 : Int) ≤ g.length ∧ (g.length : Int) ≤ 4
 case neg =>
  rw [decide_eq_false hl, decide_eq_false (fun h : GluP g => hl ⟨by have := h.1.1; omega, by have := h.1.2; omega⟩)]
  exact Ev.now _
 rw [decide_eq_true hl]
 simp only [if_true]
 have hend : RowsP g 0 → Ev (fun k => impl_IsGluing.l0 k g (g.flatten.length : Nat) g g.length g.length) (decide (GluP g)) := by
  intro h0
  have h0' : ∀ p ∈ g, p ≠ [] ∧ WordP p := fun p hp => h0 p (by rw [List.drop_zero]; exact hp)
  by_cases h20 : (g.flatten.length : Int) > 20
  ·
   rw [decide_eq_false (fun h : GluP g => by have := h.2.2.1; omega)]
   refine Ev.step (f := fun _ => some false) (fun k => ?_) (Ev.now _)
   simp only [impl_IsGluing.l0]; rw [if_neg (by omega), if_pos h20]
  ·
   have e : Few g.flatten 0 ↔ GluP g := ⟨fun h => ⟨⟨by omega, by omega⟩, h0', by omega, fun y hy => h y (by omega) hy⟩, fun h y _ hy => h.2.2.2 y hy⟩
   rw [← decide_eq_decide.2 e]
   refine Ev.step (f := fun k => (impl_letterCounts.f k g).bind fun t => impl_IsGluing.l1 k t (t.length : Int) 0) (fun k => ?_) (Ev.bind (usesI_ev g hg (fun p hp => (h0' p hp).2.1) hb) ?_)
   ·
    simp only [impl_IsGluing.l0]; rw [if_neg (by omega), if_neg h20]
   ·
    simp only [usesL_length]
    exact fewI_l g.flatten 9 0 (by omega)
 have h := isGluingI_l g hg hb _ hend g.length 0 (by omega) Iff.rfl
 have e : (if RowsP g 0 then decide (GluP g) else false) = decide (GluP g) := by
  split
  ·
   rfl
  ·
   rename_i hn
   rw [decide_eq_false (fun h : GluP g => hn (fun p hp => h.2.1 p (by rw [List.drop_zero] at hp; exact hp)))]
 rw [e] at h
 simpa using h
theorem pw_true (s : ByteArray) : ∀ (d i : Nat) (acc : List Int), (pw s d i acc).2 = true → (pw s d i acc).1.length = acc.length + d ∧ 1 ≤ acc.length + d := by
 intro d
 induction d with
 | zero =>
  intro i acc h
  unfold pw at h ⊢
  by_cases h1 : acc.length = 0
  ·
   rw [if_pos h1] at h; simp at h
  ·
   rw [if_neg h1] at h ⊢
   by_cases h2 : acc.length > 24
   ·
    rw [if_pos h2] at h; simp at h
   ·
    rw [if_neg h2]; exact ⟨rfl, by omega⟩
 | succ d ih =>
  intro i acc h
  unfold pw at h ⊢
  split at h
  ·
   simp at h
  ·
   have := ih _ _ h
   simp only [List.length_append, List.length_singleton] at this ⊢
   omega
theorem parse_true {s : ByteArray} (h : (parseM s).2 = true) : 1 ≤ s.size ∧ (parseM s).1.length ≤ s.size ∧ ((parseM s).1 ≠ [] → (parseM s).1.length = s.size) := by
 unfold parseM at h ⊢
 by_cases hs : s.toList = ([45] : List UInt8)
 ·
  rw [if_pos hs]
  have := tol_len s
  rw [hs] at this
  simp only [List.length_singleton] at this
  exact ⟨by omega, by simp, fun h => absurd rfl h⟩
 ·
  rw [if_neg hs] at h ⊢
  have := pw_true s s.size 0 [] h
  simp only [List.length_nil, Nat.zero_add] at this
  exact ⟨this.2, by omega, fun _ => this.1⟩
noncomputable def pgl : List ByteArray → List (List Int) → List (List Int) × Bool
 | [], acc => if GluP acc then (acc, true) else ([], false)
 | s :: t, acc => if (parseM s).2 = true then pgl t (acc ++ [(parseM s).1]) else ([], false)
theorem pgl_or : ∀ (t : List ByteArray) (acc : List (List Int)), pgl t acc = ([], false) ∨ (pgl t acc = (acc ++ t.map (fun s => (parseM s).1), true) ∧ (∀ s ∈ t, (parseM s).2 = true) ∧ GluP (acc ++ t.map fun s => (parseM s).1)) := by
 intro t
 induction t with
 | nil =>
  intro acc
  unfold pgl
  by_cases h : GluP acc
  ·
   rw [if_pos h]; exact .inr ⟨by simp, by simp, by simpa using h⟩
  ·
   rw [if_neg h]; exact .inl rfl
 | cons s t ih =>
  intro acc
  unfold pgl
  by_cases h : (parseM s).2 = true
  ·
   rw [if_pos h]
   rcases ih (acc ++ [(parseM s).1]) with h1 | ⟨h1, h2, h3⟩
   ·
    exact .inl h1
   ·
    refine .inr ⟨by rw [h1]; simp, ?_, by simpa using h3⟩
    intro x hx
    rcases List.mem_cons.1 hx with rfl | hx
    ·
     exact h
    ·
     exact h2 x hx
  ·
   rw [if_neg h]; exact .inl rfl
theorem pgl_empty (t : List ByteArray) (acc : List (List Int)) (h : [] ∈ acc) : pgl t acc = ([], false) := by
 rcases pgl_or t acc with h1 | ⟨_, _, h3⟩
 ·
  exact h1
 ·
  exact absurd rfl (h3.2.1 [] (List.mem_append_left _ h)).1
theorem parseGlI_l (P : List ByteArray) (hP : P.length ≤ 1048577) : ∀ (d i : Nat) (acc : List (List Int)) (C : Nat), i + d = P.length → acc.length ≤ C → acc.flatten.length ≤ C → C + ((P.drop i).map ByteArray.size).sum ≤ 1048576 → Ev (fun k => impl_ParseGluing.l0 k acc P P.length i) (pgl (P.drop i) acc) := by
 intro d
 induction d with
 | zero =>
  intro i acc C hi h1 h2 h3
  rw [List.drop_of_length_le (by omega)]
  have hI := isGluingI_ev acc (by omega) (by omega)
  refine Ev.step (f := fun k => (impl_IsGluing.f k acc).bind fun t => if t = true then some (acc, true) else some (([] : List (List Int)), false)) (fun k => ?_) (Ev.bind hI ?_)
  ·
   simp only [impl_ParseGluing.l0]; rw [if_neg (by omega)]
  ·
   unfold pgl
   by_cases hg : GluP acc
   ·
    rw [decide_eq_true hg, if_pos hg]; exact Ev.now _
   ·
    rw [decide_eq_false hg, if_neg hg]; exact Ev.now _
 | succ d ih =>
  intro i acc C hi h1 h2 h3
  have hlt : i < P.length := by omega
  have ed : P.drop i = P[i] :: P.drop (i + 1) := List.drop_eq_getElem_cons hlt
  rw [ed, List.map_cons, List.sum_cons] at h3
  obtain ⟨r, o, hr, _, e2, hM⟩ := parseWord_ev P[i] (by omega)
  have hM1 : (parseM P[i]).1 = r := by rw [← hM]
  have hM2 : (parseM P[i]).2 = o := by rw [← hM]
  refine Ev.step (f := fun k => (impl_ParseWord.f k P[i]).bind fun bt => if bt.2 = true then impl_ParseGluing.l0 k (acc ++ [bt.1]) P P.length ((i + 1 : Nat) : Int) else some (([] : List (List Int)), false)) (fun k => ?_) (Ev.bind e2 ?_)
  ·
   simp only [impl_ParseGluing.l0, rdOf_lt hlt]
   rw [if_pos (by omega), if_pos (by omega), if_pos (by omega), w64s hlt (by omega)]
   congr 1
   funext bt
   rw [if_pos (show acc.length < 5864062014805 by omega)]
  ·
   rw [ed]
   unfold pgl
   rw [hM1, hM2]
   by_cases ho : o = true
   ·
    subst ho
    have hp := parse_true hM2
    rw [hM1] at hp
    simp only [if_true]
    exact ih (i + 1) (acc ++ [r]) (C + P[i].size) (by omega) (by simp; omega) (by rw [List.flatten_append, List.length_append]; simp only [List.flatten_cons, List.flatten_nil, List.append_nil]; omega) (by omega)
   ·
    simp only [ho]; exact Ev.now _
theorem parseGlS_l (P : List ByteArray) (hP : P.length ≤ 1048577) : ∀ (d i : Nat) (acc : List (List Int)) (C : Nat), i + d = P.length → acc.length ≤ C → acc.flatten.length ≤ C → C + ((P.drop i).map ByteArray.size).sum ≤ 1048576 → Ev (fun k => spec_ParseGluing.l0 k acc P i) (pgl (P.drop i) acc) := by
 intro d
 induction d with
 | zero =>
  intro i acc C hi h1 h2 h3
  rw [List.drop_of_length_le (by omega)]
  have hI := isGluingS_ev acc (by omega) (by omega)
  refine Ev.step (f := fun k => (spec_IsGluing.f k acc).bind fun t => if t = true then some (acc, true) else some (([] : List (List Int)), false)) (fun k => ?_) (Ev.bind hI ?_)
  ·
   simp only [spec_ParseGluing.l0]; rw [if_neg (by omega)]
  ·
   unfold pgl
   by_cases hg : GluP acc
   ·
    rw [decide_eq_true hg, if_pos hg]; exact Ev.now _
   ·
    rw [decide_eq_false hg, if_neg hg]; exact Ev.now _
 | succ d ih =>
  intro i acc C hi h1 h2 h3
  have hlt : i < P.length := by omega
  have ed : P.drop i = P[i] :: P.drop (i + 1) := List.drop_eq_getElem_cons hlt
  rw [ed, List.map_cons, List.sum_cons] at h3
  obtain ⟨r, o, hr, e1, _, hM⟩ := parseWord_ev P[i] (by omega)
  have hM1 : (parseM P[i]).1 = r := by rw [← hM]
  have hM2 : (parseM P[i]).2 = o := by rw [← hM]
  refine Ev.step (f := fun k => (spec_ParseWord.f k P[i]).bind fun bt => if bt.2 = true then (if (bt.1.length : Int) = 0 then some (([] : List (List Int)), false) else spec_ParseGluing.l0 k (acc ++ [bt.1]) P ((i + 1 : Nat) : Int)) else some (([] : List (List Int)), false)) (fun k => ?_) (Ev.bind e1 ?_)
  ·
   simp only [spec_ParseGluing.l0, rdOf_lt hlt]
   rw [if_pos (by omega), if_pos (by omega), w64s hlt (by omega)]
   congr 1
   funext bt
   rw [if_pos (show acc.length < 5864062014805 by omega)]
  ·
   rw [ed]
   unfold pgl
   rw [hM1, hM2]
   by_cases ho : o = true
   ·
    subst ho
    have hp := parse_true hM2
    rw [hM1] at hp
    simp only [if_true]
    by_cases hz : r = []
    ·
     subst hz
     rw [pgl_empty _ _ (by simp)]
     simp only [List.length_nil]
     exact Ev.now _
    ·
     have : ¬ ((r.length : Int) = 0) := by have := List.length_pos_iff.2 hz; omega
     simp only [this, if_false]
     exact ih (i + 1) (acc ++ [r]) (C + P[i].size) (by omega) (by simp; omega) (by rw [List.flatten_append, List.length_append]; simp only [List.flatten_cons, List.flatten_nil, List.append_nil]; omega) (by omega)
   ·
    simp only [ho]; exact Ev.now _
theorem parts_sum (s : ByteArray) (b : Int) : ∀ (d i f : Nat), i + d = s.size → f ≤ i → ((parts s b d i f).map ByteArray.size).sum + (parts s b d i f).length + f = s.size + 1 := by
 intro d
 induction d with
 | zero => intro i f hi hf; simp [parts, ByteArray.size_extract]; omega
 | succ d ih =>
  intro i f hi hf
  unfold parts
  split
  ·
   have := ih (i + 1) (i + 1) (by omega) (by omega)
   simp only [List.map_cons, List.sum_cons, List.length_cons, ByteArray.size_extract]
   omega
  ·
   exact ih (i + 1) f (by omega) (by omega)
theorem sum_map_le {t : List ByteArray} (h : ∀ s ∈ t, (parseM s).2 = true) (hne : ∀ s ∈ t, (parseM s).1 ≠ []) : (t.map ByteArray.size).sum = (t.map fun s => (parseM s).1).flatten.length := by
 induction t with
 | nil => rfl
 | cons s t ih =>
  simp only [List.map_cons, List.sum_cons, List.flatten_cons, List.length_append]
  rw [ih (fun x hx => h x (List.mem_cons_of_mem _ hx)) (fun x hx => hne x (List.mem_cons_of_mem _ hx)), (parse_true (h s List.mem_cons_self)).2.2 (hne s List.mem_cons_self)]
theorem parseGluing_ev (s : ByteArray) (hs : s.size ≤ 1048576) : ∃ (r : List (List Int)) (o : Bool), bulk r ≤ 1048576 ∧ Ev (fun k => spec_ParseGluing.f k s) (r, o) ∧ Ev (fun k => impl_ParseGluing.f k s) (r, o) ∧ (r, o) = pgl (parts s 32 s.size 0 0) [] := by
 obtain ⟨e1, e2⟩ := splitByte_ev s 32 hs
 have hsum := parts_sum s 32 s.size 0 0 (by omega) (by omega)
 have hlen := parts_length s 32 s.size 0 0
 generalize parts s 32 s.size 0 0 = P at *
 have hor := pgl_or P []
 have i1 := parseGlS_l P (by omega) P.length 0 [] 0 (by omega) (by simp) (by simp)
 have i2 := parseGlI_l P (by omega) P.length 0 [] 0 (by omega) (by simp) (by simp)
 simp only [List.drop_zero, Nat.zero_add] at i1 i2
 by_cases h0 : P = []
 ·
  subst h0
  simp only [List.map_nil, List.sum_nil, List.length_nil] at hsum
  omega
 have hpos := List.length_pos_iff.2 h0
 replace i1 := i1 (by omega)
 replace i2 := i2 (by omega)
 have hb : bulk (pgl P []).1 ≤ 1048576 := by
  rcases hor with h1 | ⟨h1, h2, h3⟩
  ·
   rw [h1]; decide
  ·
   rw [h1]
   obtain ⟨⟨_, g1⟩, _, g2, _⟩ := h3
   unfold bulk
   rw [flat_len] at g2
   dsimp only
   omega
 refine ⟨(pgl P []).1, (pgl P []).2, hb, ?_, ?_, rfl⟩
 ·
  unfold spec_ParseGluing.f
  exact Ev.bind e1 i1
 ·
  unfold impl_ParseGluing.f
  by_cases hl : (s.size : Int) > 24
  ·
   have : pgl P [] = ([], false) := by
    rcases hor with h1 | ⟨h1, h2, h3⟩
    ·
     exact h1
    ·
     exfalso
     obtain ⟨⟨_, g1⟩, gn, g2, _⟩ := h3
     simp only [List.nil_append] at g1 g2 gn
     have := sum_map_le h2 (fun x hx => (gn _ (List.mem_map.2 ⟨x, hx, rfl⟩)).1)
     rw [List.length_map] at g1
     omega
   simp only [hl, if_true, this]
   exact Ev.now _
  ·
   simp only [hl, if_false]
   exact Ev.bind e2 i2
def byteOf (x : Int) : Int := if x > 0 then 96 + x else 64 - x
theorem toL_append (a b : ByteArray) : (a ++ b).toList = a.toList ++ b.toList := by
 rw [ByteArray.toList_eq, ByteArray.toList_eq, ByteArray.toList_eq, ByteArray.data_append, Array.toList_append]
theorem ltx_toL (x : Int) : (ltx x).toList = [UInt8.ofNat (byteOf x).toNat] := by
 rw [ByteArray.toList_eq]; rfl
theorem txt_toL (l : List Int) : ∀ t : ByteArray, (l.foldl (fun t x => t ++ ltx x) t).toList = t.toList ++ l.map fun x => UInt8.ofNat (byteOf x).toNat := by
 induction l with
 | nil => intro t; simp
 | cons x l ih => intro t; rw [List.foldl_cons, ih, toL_append, ltx_toL, List.map_cons, List.append_assoc]; rfl
theorem bt_toL {s : ByteArray} {i : Nat} (h : i < s.size) (hq : i < s.toList.length) : bt s (i : Int) = ((s.toList[i]'hq).toNat : Int) := by
 unfold bt
 rw [dif_pos (by simpa using h)]
 have e : s.toList = s.data.toList := ByteArray.toList_eq s
 have e2 : s.toList[i]'hq = s.data.toList[i]'(by rw [← e]; exact hq) := by congr 1
 rw [e2]
 rfl
theorem txt_sz (l : List Int) : (txt l).size = l.length := by
 rw [txt, txt_size l (⟨#[]⟩ : ByteArray)]
 show 0 + l.length = l.length
 omega
theorem txt_li (l : List Int) : (txt l).toList = l.map fun x => UInt8.ofNat (byteOf x).toNat := by
 rw [txt, txt_toL l (⟨#[]⟩ : ByteArray), ByteArray.toList_eq]
 rfl
theorem bt_txt {l : List Int} (hp : ∀ x ∈ l, LetP x) {i : Nat} (h : i < l.length) : bt (txt l) (i : Int) = byteOf l[i] := by
 have hs : (txt l).size = l.length := txt_sz l
 have hL : (txt l).toList = l.map fun x => UInt8.ofNat (byteOf x).toNat := txt_li l
 rw [bt_toL (by omega) (by rw [hL, List.length_map]; exact h)]
 have e : (txt l).toList[i]'(by rw [hL, List.length_map]; exact h) = UInt8.ofNat (byteOf l[i]).toNat := by
  have : ∀ (m : List UInt8) (hm : i < m.length), (txt l).toList = m → (txt l).toList[i]'(by rw [hL, List.length_map]; exact h) = m[i] := fun m hm e => by subst e; rfl
  rw [this _ (by rw [List.length_map]; exact h) hL]
  simp
 rw [e]
 have := hp _ (List.getElem_mem h)
 unfold LetP at this
 have hb : 0 ≤ byteOf l[i] ∧ byteOf l[i] ≤ 255 := by unfold byteOf; split <;> omega
 rw [UInt8.toNat_ofNat']
 omega
theorem letOf_byte {x : Int} (h : LetP x) : letOf (byteOf x) = some x := by
 unfold LetP at h
 unfold letOf byteOf
 by_cases h0 : x > 0
 ·
  rw [if_pos h0, if_pos (by omega)]; congr 1; omega
 ·
  rw [if_neg h0, if_neg (by omega), if_pos (by omega)]; congr 1; omega
theorem pw_txt {l : List Int} (hw : WordP l) (h0 : 0 < l.length) : ∀ (d i : Nat), i + d = l.length → pw (txt l) d i (l.take i) = (l, true) := by
 intro d
 induction d with
 | zero =>
  intro i hi
  unfold pw
  rw [List.take_of_length_le (by omega), if_neg (by omega), if_neg (by have := hw.2; omega)]
 | succ d ih =>
  intro i hi
  have hlt : i < l.length := by omega
  unfold pw
  rw [bt_txt hw.1 hlt, letOf_byte (hw.1 _ (List.getElem_mem hlt))]
  have := ih (i + 1) (by omega)
  rw [List.take_succ_eq_append_getElem hlt] at this
  exact this
theorem parse_text {l : List Int} (hw : WordP l) : parseM (textM l) = (l, true) := by
 unfold parseM textM
 by_cases h0 : l.length = 0
 ·
  rw [if_pos h0, if_pos (by rw [ByteArray.toList_eq]), List.length_eq_zero_iff.1 h0]
 ·
  rw [if_neg h0]
  have hs : (txt l).size = l.length := txt_sz l
  have hL : (txt l).toList = l.map fun x => UInt8.ofNat (byteOf x).toNat := txt_li l
  rw [if_neg, hs]
  ·
   have := pw_txt hw (by omega) l.length 0 (by omega)
   simpa using this
  ·
   intro e
   rw [hL] at e
   cases l with
   | nil => simp at h0
   | cons x t =>
    rw [List.map_cons] at e
    have e1 := (List.cons.inj e).1
    rcases letter_cases (hw.1 x List.mem_cons_self) with rfl | rfl | rfl | rfl | rfl | rfl | rfl | rfl | rfl | rfl | rfl | rfl | rfl | rfl | rfl | rfl <;> exact absurd e1 (by decide)
theorem parts_run (s : ByteArray) (b : Int) (f : Nat) : ∀ (m d i : Nat), (∀ j, i ≤ j → j < i + m → bt s (j : Int) ≠ b) → parts s b (m + d) i f = parts s b d (i + m) f := by
 intro m
 induction m with
 | zero => intro d i _; rw [Nat.zero_add, Nat.add_zero]
 | succ m ih =>
  intro d i h
  rw [show m + 1 + d = (m + d) + 1 by omega]
  show (if bt s (i : Int) = b then _ else _) = _
  rw [if_neg (h i (Nat.le_refl _) (by omega)), ih d (i + 1) (fun j h1 h2 => h j (by omega) (by omega)), show i + 1 + m = i + (m + 1) by omega]
theorem parts_hit (s : ByteArray) (b : Int) (f d i : Nat) (h : bt s (i : Int) = b) : parts s b (d + 1) i f = s.extract f i :: parts s b d (i + 1) (i + 1) := if_pos h
theorem bt_pre {s : ByteArray} {pre x post : List UInt8} (hs : s.toList = pre ++ x ++ post) {j : Nat} (h1 : pre.length ≤ j) (h2 : j < pre.length + x.length) : ∃ c, c ∈ x ∧ bt s (j : Int) = ((c.toNat : Nat) : Int) := by
 have hl : s.toList.length = pre.length + x.length + post.length := by rw [hs]; simp; omega
 rw [tol_len] at hl
 have hj : j < s.toList.length := by rw [tol_len]; omega
 refine ⟨s.toList[j], ?_, bt_toL (by omega) hj⟩
 have : s.toList[j]? = x[j - pre.length]? := by
  rw [hs, List.append_assoc, List.getElem?_append_right h1, List.getElem?_append_left (by omega)]
 rw [List.getElem?_eq_getElem hj] at this
 exact List.mem_of_getElem? this.symm
theorem extract_mid {s x : ByteArray} {pre post : List UInt8} (hs : s.toList = pre ++ x.toList ++ post) : s.extract pre.length (pre.length + x.toList.length) = x := by
 apply ByteArray.ext
 apply Array.ext'
 rw [ByteArray.data_extract, Array.toList_extract]
 rw [ByteArray.toList_eq] at hs
 rw [hs, ByteArray.toList_eq]
 simp
theorem join_two (x y : List UInt8) (r : List (List UInt8)) (sep : List UInt8) : Lib.join (x :: y :: r) sep = x ++ (sep ++ Lib.join (y :: r) sep) := by
 rw [Lib.join_cons, Lib.join_cons]
 unfold Lib.joinTail
 simp
theorem parts_join (s : ByteArray) : ∀ (xs : List ByteArray) (pre : List UInt8), xs ≠ [] → (∀ x ∈ xs, ∀ c ∈ x.toList, c.toNat ≠ 32) → s.toList = pre ++ Lib.join (xs.map ByteArray.toList) [32] → parts s 32 (Lib.join (xs.map ByteArray.toList) [32]).length pre.length pre.length = xs := by
 intro xs
 induction xs with
 | nil => intro pre h; exact (h rfl).elim
 | cons x r ih =>
  intro pre _ hc hs
  have hx : ∀ post, s.toList = pre ++ x.toList ++ post → ∀ j, pre.length ≤ j → j < pre.length + x.toList.length → bt s (j : Int) ≠ 32 := by
   intro post hp j h1 h2 h3
   obtain ⟨c, hcx, he⟩ := bt_pre hp h1 h2
   have := hc x List.mem_cons_self c hcx
   rw [he] at h3
   omega
  cases r with
  | nil =>
   have e : Lib.join ([x].map ByteArray.toList) [32] = x.toList := by simp [Lib.join_one]
   rw [e] at hs ⊢
   have hs' : s.toList = pre ++ x.toList ++ [] := by rw [List.append_nil]; exact hs
   have h1 := parts_run s 32 pre.length x.toList.length 0 pre.length (hx [] hs')
   rw [Nat.add_zero] at h1
   rw [h1]
   show [s.extract _ _] = _
   rw [extract_mid hs']
  | cons y t =>
   have e : Lib.join ((x :: y :: t).map ByteArray.toList) [32] = x.toList ++ ([32] ++ Lib.join ((y :: t).map ByteArray.toList) [32]) := join_two _ _ _ _
   rw [e] at hs ⊢
   have hs1 : s.toList = pre ++ x.toList ++ ([32] ++ Lib.join ((y :: t).map ByteArray.toList) [32]) := by rw [hs, List.append_assoc]
   have hs2 : s.toList = (pre ++ x.toList) ++ [32] ++ Lib.join ((y :: t).map ByteArray.toList) [32] := by rw [hs1, List.append_assoc (pre ++ x.toList)]
   have el : (x.toList ++ ([32] ++ Lib.join ((y :: t).map ByteArray.toList) [32])).length = x.toList.length + ((Lib.join ((y :: t).map ByteArray.toList) [32]).length + 1) := by
    simp only [List.length_append, List.length_cons, List.length_nil]; omega
   rw [el, parts_run s 32 pre.length x.toList.length _ pre.length (hx _ hs1)]
   have hb : bt s ((pre.length + x.toList.length : Nat) : Int) = 32 := by
    obtain ⟨c, hcx, he⟩ := bt_pre (j := pre.length + x.toList.length) hs2 (by rw [List.length_append]; exact Nat.le_refl _) (by rw [List.length_append]; simp)
    rw [List.mem_singleton] at hcx
    rw [he, hcx]
    rfl
   rw [parts_hit s 32 pre.length _ _ hb, extract_mid hs1]
   have h2 := ih ((pre ++ x.toList) ++ [32]) (by simp) (fun z hz => hc z (List.mem_cons_of_mem _ hz)) hs2
   have e2 : ((pre ++ x.toList) ++ [32]).length = pre.length + x.toList.length + 1 := by simp only [List.length_append, List.length_singleton]
   rw [e2] at h2
   rw [h2]
theorem pgl_all : ∀ (t : List ByteArray) (acc : List (List Int)), (∀ s ∈ t, (parseM s).2 = true) → pgl t acc = if GluP (acc ++ t.map fun s => (parseM s).1) then (acc ++ t.map (fun s => (parseM s).1), true) else ([], false) := by
 intro t
 induction t with
 | nil => intro acc _; unfold pgl; simp
 | cons s t ih =>
  intro acc h
  unfold pgl
  rw [if_pos (h s List.mem_cons_self), ih _ (fun x hx => h x (List.mem_cons_of_mem _ hx))]
  simp
theorem gluTrip {g : List (List Int)} (h : GluP g) : pgl (parts (gtx g) 32 (gtx g).size 0 0) [] = (g, true) := by
 have hne : g.map txt ≠ [] := by
  intro e
  have := h.1.1
  rw [List.map_eq_nil_iff.1 e] at this
  simp at this
 have hp : ∀ w ∈ g, parseM (txt w) = (w, true) := by
  intro w hw
  have h1 := h.2.1 w hw
  have := parse_text h1.2
  unfold textM at this
  rwa [if_neg (fun e => h1.1 (List.length_eq_zero_iff.1 e))] at this
 have hL : (gtx g).toList = Lib.join ((g.map txt).map ByteArray.toList) [32] := by
  unfold gtx jl
  rw [ByteArray.toList_eq]
  show (Lib.join ((g.map txt).map (·.data.toList)) sp.data.toList).toArray.toList = _
  rw [List.toList_toArray]
  have : (fun x : ByteArray => x.data.toList) = ByteArray.toList := funext fun x => (ByteArray.toList_eq x).symm
  rw [this]
  rfl
 have hc : ∀ x ∈ g.map txt, ∀ c ∈ x.toList, c.toNat ≠ 32 := by
  intro x hx c hcx
  obtain ⟨w, hw, rfl⟩ := List.mem_map.1 hx
  rw [txt_li] at hcx
  obtain ⟨z, hz, rfl⟩ := List.mem_map.1 hcx
  have h1 := (h.2.1 w hw).2.1 z hz
  rcases letter_cases h1 with rfl | rfl | rfl | rfl | rfl | rfl | rfl | rfl | rfl | rfl | rfl | rfl | rfl | rfl | rfl | rfl <;> decide
 have h1 := parts_join (gtx g) (g.map txt) [] hne hc (by rw [hL]; rfl)
 have hsz : (gtx g).size = (Lib.join ((g.map txt).map ByteArray.toList) [32]).length := by rw [← tol_len, hL]
 rw [hsz]
 rw [List.length_nil] at h1
 rw [h1, pgl_all _ _ (fun s hs => by obtain ⟨w, hw, rfl⟩ := List.mem_map.1 hs; rw [hp w hw])]
 have e : (g.map txt).map (fun s => (parseM s).1) = g := by
  rw [List.map_map]
  exact (List.map_congr_left fun w hw => by show (parseM (txt w)).1 = w; rw [hp w hw]).trans (List.map_id g)
 rw [e, List.nil_append, if_pos h]
theorem joinS_l (l : List ByteArray) (sep : ByteArray) (hb : bulkS l ≤ 1048576) (hs : sep.size ≤ 1048576) : ∀ (d i : Nat), i + d = l.length → Ev (fun k => spec_Join.l0 k l sep (nm (jl (l.take i) sep)) i) (⟨(jl l sep).toArray⟩ : ByteArray) := by
 have hlen : l.length ≤ 1048576 := by unfold bulkS at hb; omega
 intro d
 induction d with
 | zero =>
  intro i hi
  refine Ev.step (f := fun _ => some (⟨(jl l sep).toArray⟩ : ByteArray)) (fun k => ?_) (Ev.now _)
  simp only [spec_Join.l0]
  rw [if_neg (by omega), List.take_of_length_le (by omega), strOf_nm]
 | succ d ih =>
  intro i hi
  have hlt : i < l.length := by omega
  have h1 := jl_len (l.take i) sep (Nat.le_trans (bulkS_take l i) hb) hs
  have h2 := jl_len (l.take (i + 1)) sep (Nat.le_trans (bulkS_take l (i + 1)) hb) hs
  have hx : l[i].size ≤ 1048576 := by
   have := sumS_drop hlt
   have h3 := Lib.lens_take_le (l.map (·.data.toList)) (i + 1)
   rw [Lib.lens_take_succ (l.map (·.data.toList)) i l[i].data.toList (by rw [List.getElem?_map, List.getElem?_eq_getElem hlt]; rfl), lensS] at h3
   have h4 : l[i].data.toList.length = l[i].size := data_length _
   unfold bulkS at hb
   omega
  have hg := ih (i + 1) (by omega)
  have ht : l.take (i + 1) = l.take i ++ [l[i]] := by rw [List.take_succ_eq_append_getElem hlt]
  refine Ev.step (fun k => ?_) hg
  simp only [spec_Join.l0, rdOf_lt hlt]
  rw [if_pos (by omega)]
  by_cases h0 : i = 0
  ·
   subst h0
   have e1 : jl (l.take 0) sep = [] := rfl
   have e2 : jl (l.take (0 + 1)) sep = l[0].data.toList := by
    rw [ht]; unfold jl; simp [Lib.join_one]
   rw [if_neg (by simp), e1, e2, if_pos (by omega), if_pos (by show 0 + l[0].size < _; omega), w64s hlt (by omega)]
   rfl
  ·
   have hne : (l.take i).map (·.data.toList) ≠ [] := by
    intro h
    have := congrArg List.length h
    rw [List.length_map, List.length_take, List.length_nil] at this
    omega
   have e2 : jl (l.take (i + 1)) sep = jl (l.take i) sep ++ sep.data.toList ++ l[i].data.toList := by
    unfold jl
    rw [ht, List.map_append]
    exact join_snoc _ _ _ hne
   rw [if_pos (by omega), Option.bind_some, bytesOf_nm, bytesOf_nm, ← nm_app, if_pos (by rw [nm_len]; omega), if_pos (by omega), if_pos (by rw [nm_len, List.length_append]; have := data_length sep; omega), w64s hlt (by omega), ← nm_app, ← e2]
theorem joinS_ev (l : List ByteArray) (sep : ByteArray) (hb : bulkS l ≤ 1048576) (hs : sep.size ≤ 1048576) : Ev (fun k => spec_Join.f k l sep) (⟨(jl l sep).toArray⟩ : ByteArray) := joinS_l l sep hb hs l.length 0 (by omega)
theorem joinI_eq (l : List ByteArray) (sep : ByteArray) (hb : bulkS l ≤ 1048576) (hs : sep.size ≤ 1048576) : impl_Join.f l sep = some (⟨(jl l sep).toArray⟩ : ByteArray) := by
 have h := jl_len l sep hb hs
 unfold impl_Join.f
 rw [if_pos ⟨by unfold bulkS at hb; omega, by show (jl l sep).length ≤ _; omega⟩]
 rfl
theorem gtS_l (g : List (List Int)) (h : GluP g) : ∀ (d p : Nat), p + d = g.length → Ev (fun k => spec_GluingText.l0 k g ((g.take p).map txt) p) (gtx g) := by
 have hb := bulk_txt g h
 have h4 := h.1.2
 intro d
 induction d with
 | zero =>
  intro p hp
  have hJ := joinS_ev (g.map txt) sp (by omega) (by decide)
  refine Ev.step (f := fun k => (spec_Join.f k (g.map txt) sp).bind fun t => some t) (fun k => ?_) (Ev.bind hJ (Ev.now _))
  simp only [spec_GluingText.l0]
  rw [if_neg (by omega), List.take_of_length_le (by omega)]
  rfl
 | succ d ih =>
  intro p hp
  have hlt : p < g.length := by omega
  have hw := h.2.1 g[p] (List.getElem_mem hlt)
  have ht := textS_l g[p] (by have := hw.2.2; omega) hw.2.1 g[p].length 0 (⟨#[]⟩ : ByteArray) (by omega) rfl
  have hg := ih (p + 1) (by omega)
  rw [List.take_succ_eq_append_getElem hlt, List.map_append] at hg
  refine Ev.step (f := fun k => (spec_l2Text.f k g[p]).bind fun t => spec_GluingText.l0 k g ((g.take p).map txt ++ [t]) ((p + 1 : Nat) : Int)) (fun k => ?_) (Ev.bind ht hg)
  simp only [spec_GluingText.l0, rdL_lt hlt]
  rw [if_pos (by omega), if_pos (by omega), w64s hlt (by omega)]
  congr 1
  funext t
  rw [if_pos (by rw [List.length_map, List.length_take]; omega)]
theorem gtI_l (g : List (List Int)) (h : GluP g) : ∀ (d p : Nat), p + d = g.length → Ev (fun k => impl_GluingText.l0 k ((g.take p).map txt) g g.length p) (gtx g) := by
 have hb := bulk_txt g h
 have h4 := h.1.2
 intro d
 induction d with
 | zero =>
  intro p hp
  have hJ := joinI_eq (g.map txt) sp (by omega) (by decide)
  refine Ev.step (f := fun _ => some (gtx g)) (fun k => ?_) (Ev.now _)
  simp only [impl_GluingText.l0]
  rw [if_neg (by omega), List.take_of_length_le (by omega)]
  show (impl_Join.f (g.map txt) sp).bind _ = _
  rw [hJ]
  rfl
 | succ d ih =>
  intro p hp
  have hlt : p < g.length := by omega
  have hw := h.2.1 g[p] (List.getElem_mem hlt)
  have hl24 := hw.2.2
  have hne : g[p].length ≠ 0 := fun e => hw.1 (List.length_eq_zero_iff.1 e)
  have e2 := (isWord_ev g[p] (by omega)).2
  rw [decide_eq_true hw.2] at e2
  have ht := textI_l g[p] (by omega) hw.2.1 g[p].length 0 (⟨#[]⟩ : ByteArray) (by omega) rfl
  rw [if_neg hne] at ht
  have hf : Ev (fun k => impl_WordText.f k g[p]) (txt g[p]) := by
   unfold impl_WordText.f
   exact Ev.bind e2 (Ev.congr (fun k => if_pos rfl) ht)
  have hg := ih (p + 1) (by omega)
  rw [List.take_succ_eq_append_getElem hlt, List.map_append] at hg
  refine Ev.step (f := fun k => (impl_WordText.f k g[p]).bind fun t => impl_GluingText.l0 k ((g.take p).map txt ++ [t]) g g.length ((p + 1 : Nat) : Int)) (fun k => ?_) (Ev.bind hf hg)
  simp only [impl_GluingText.l0, rdL_lt hlt]
  rw [if_pos (by omega), if_pos (by omega), if_pos (by omega), w64s hlt (by omega)]
  congr 1
  funext t
  rw [if_pos (by rw [List.length_map, List.length_take]; omega)]
theorem gluText_ev (g : List (List Int)) (hl1 : g.length ≤ 1048576) (hl2 : g.flatten.length ≤ 1048576) : Ev (fun k => spec_GluingText.f k g) (if GluP g then gtx g else (⟨#[]⟩ : ByteArray)) ∧ Ev (fun k => impl_GluingText.f k g) (if GluP g then gtx g else (⟨#[]⟩ : ByteArray)) := by
 have e1 := isGluingS_ev g hl1 hl2
 have e2 := isGluingI_ev g hl1 hl2
 unfold spec_GluingText.f impl_GluingText.f
 by_cases h : GluP g
 ·
  rw [decide_eq_true h] at e1 e2
  rw [if_pos h]
  exact ⟨Ev.bind e1 (Ev.congr (fun k => if_pos rfl) (gtS_l g h g.length 0 (by omega))), Ev.bind e2 (Ev.congr (fun k => if_pos rfl) (gtI_l g h g.length 0 (by omega)))⟩
 ·
  rw [decide_eq_false h] at e1 e2
  rw [if_neg h]
  exact ⟨Ev.bind e1 (Ev.congr (fun k => if_neg Bool.false_ne_true) (Ev.now _)), Ev.bind e2 (Ev.congr (fun k => if_neg Bool.false_ne_true) (Ev.now _))⟩
theorem find_ev (xs : List Int) (_hl : xs.length ≤ 1048576) : ∀ (n i r : Nat), Joi.rch xs n i r → Ev (fun k => spec_l3Find.f k xs i) (r : Int) := by
 unfold spec_l3Find.f
 intro n
 induction n with
 | zero =>
  intro i r h
  obtain ⟨rfl, h⟩ := h
  obtain ⟨hi, he⟩ := List.getElem?_eq_some_iff.1 h
  refine Ev.step (f := fun _ => some (i : Int)) (fun k => ?_) (Ev.now _)
  simp only [spec_l3Find.l0, rd_lt hi, he]
  rw [if_pos (by omega), if_pos (by omega), if_pos trivial]
 | succ n ih =>
  intro i r h
  obtain ⟨j, h, hne, hr⟩ := h
  obtain ⟨hi, he⟩ := List.getElem?_eq_some_iff.1 h
  refine Ev.step (fun k => ?_) (ih j r hr)
  simp only [spec_l3Find.l0, rd_lt hi, he]
  rw [if_pos (by omega), if_pos (by omega), if_neg (by omega)]
theorem find_root (xs : List Int) (hl : xs.length ≤ 1048576) {i r : Nat} (h : Kl.Reach xs i r) : Ev (fun k => spec_l3Find.f k xs i) (r : Int) := by
 obtain ⟨n, hn⟩ := Joi.rch_of h
 exact find_ev xs hl n i r hn
theorem bit_eq (b : Bool) : spec_l1Bit.f b = some (if b = true then 1 else 0) := by cases b <;> rfl
theorem row_lt {g : List (List Int)} {p : Nat} (hp : p < g.length) : Joi.row g p = g[p] := by simp [Joi.row, List.getD_eq_getElem?_getD, hp]
theorem ltr_lt {g : List (List Int)} {p i : Nat} (hp : p < g.length) (hi : i < g[p].length) : Joi.ltr g p i = g[p][i] := by
 unfold Joi.ltr; rw [row_lt hp, rd_lt hi]
theorem sidesN_flat (g : List (List Int)) : Joi.sidesN g = g.flatten.length := by
 unfold Joi.sidesN Joi.fst
 rw [List.take_length, flat_len]
theorem GluP.cor {g : List (List Int)} (h : GluP g) : Joi.CorOk g ∧ Joi.NZ g := by
 refine ⟨⟨h.1.2, fun p hp => ?_, by rw [sidesN_flat]; have := h.2.2.1; omega⟩, fun p i hs => ?_⟩
 ·
  rw [row_lt hp]
  obtain ⟨h1, h2⟩ := h.2.1 g[p] (List.getElem_mem hp)
  refine ⟨List.length_pos_iff.2 h1, h2.2, fun x hx => ?_⟩
  have := h2.1 x hx
  unfold LetP at this
  omega
 ·
  have hp := hs.1
  have hi := hs.2
  rw [row_lt hp] at hi
  rw [ltr_lt hp hi]
  have := h.let _ (List.getElem_mem hp) _ (List.getElem_mem hi)
  unfold LetP at this
  omega
def Tm (g : List (List Int)) (p i : Nat) : Nat → Nat → Prop := fun e f => ∃ q j, Joi.Side g q j ∧ (q < p ∨ q = p ∧ j < i) ∧ e = Joi.tailE g q j ∧ f = Joi.headE g q ((j + 1) % (Joi.row g q).length)
theorem tail_lt {g : List (List Int)} (hc : Joi.CorOk g) {p i : Nat} (hs : Joi.Side g p i) : Joi.tailE g p i < 18 ∧ Joi.headE g p i < 18 := by
 have := Joi.ltr_ok hc hs
 unfold Joi.tailE Joi.headE
 constructor <;> split <;> omega
theorem ends_2 (g : List (List Int)) (h : GluP g) (p : Nat) (hp : p < g.length) (hE : ∀ xs, Joi.PInv 18 (Joi.Sl g) xs (Tm g p g[p].length) → ∃ r : List Int, Ev (fun k => spec_l3Ends.l1 k g xs (wrap64 ((p : Int) + 1))) r ∧ Joi.PInv 18 (Joi.Sl g) r (Tm g g.length 0)) :
  ∀ (d i : Nat), i + d = g[p].length → ∀ xs, Joi.PInv 18 (Joi.Sl g) xs (Tm g p i) → ∃ r : List Int, Ev (fun k => spec_l3Ends.l2 k g xs p i) r ∧ Joi.PInv 18 (Joi.Sl g) r (Tm g g.length 0) := by
 obtain ⟨hc, hz⟩ := h.cor
 have h4 := h.1.2
 have hrow := row_lt hp
 have hlen : g[p].length ≤ 24 := by have := (hc.2.1 p hp).2.1; rw [hrow] at this; exact this
 intro d
 induction d with
 | zero =>
  intro i hi xs hI
  obtain ⟨r, hr, hJ⟩ := hE xs (by rw [← (show i = g[p].length by omega)]; exact hI)
  refine ⟨r, Ev.step (fun k => ?_) hr, hJ⟩
  simp only [spec_l3Ends.l2, rdL_lt hp]
  rw [if_pos (by omega), if_pos (by omega), if_neg (by omega)]
 | succ d ih =>
  intro i hi xs hI
  have hlt : i < g[p].length := by omega
  have hml : (i + 1) % g[p].length < g[p].length := Nat.mod_lt _ (by omega)
  have hs : Joi.Side g p i := ⟨hp, by rw [hrow]; exact hlt⟩
  have hs2 := Joi.side_next hs
  have hx := h.let _ (List.getElem_mem hp) _ (List.getElem_mem hlt)
  have hy := h.let _ (List.getElem_mem hp) _ (List.getElem_mem hml)
  have hxl : xs.length = 18 := hI.1
  have hmod : Int.tmod (wrap64 ((i : Int) + 1)) (g[p].length : Int) = (((i + 1) % g[p].length : Nat) : Int) := by
   rw [w64 (by omega) (by omega), Int.tmod_eq_emod_of_nonneg (by omega)]
   simp
  have ht := tail_lt hc hs
  have ht2 := tail_lt hc hs2
  have htl : wrap64 (wrap64 (2 * (g[p][i].natAbs : Int)) + (if decide (g[p][i] > 0) = true then 1 else 0)) = ((Joi.tailE g p i : Nat) : Int) := by
   have hb := hx.abs
   unfold Joi.tailE
   rw [ltr_lt hp hlt, w64 (x := 2 * (g[p][i].natAbs : Int)) (by omega) (by omega)]
   by_cases c : g[p][i] > 0
   ·
    rw [if_pos (decide_eq_true c), if_pos c, w64 (by omega) (by omega)]; omega
   ·
    rw [if_neg (by simp [c]), if_neg c, w64 (by omega) (by omega)]; omega
  have hhd : wrap64 (wrap64 (2 * (g[p][(i + 1) % g[p].length].natAbs : Int)) + (if decide (g[p][(i + 1) % g[p].length] < 0) = true then 1 else 0)) = ((Joi.headE g p ((i + 1) % (Joi.row g p).length) : Nat) : Int) := by
   have hb := hy.abs
   unfold Joi.headE
   rw [hrow, ltr_lt hp hml, w64 (x := 2 * (g[p][(i + 1) % g[p].length].natAbs : Int)) (by omega) (by omega)]
   by_cases c : g[p][(i + 1) % g[p].length] < 0
   ·
    rw [if_pos (decide_eq_true c), if_pos c, w64 (by omega) (by omega)]; omega
   ·
    rw [if_neg (by simpa using c), if_neg c, w64 (by omega) (by omega)]; omega
  obtain ⟨ra, hra⟩ := hI.root ht.1
  obtain ⟨rb, hrb⟩ := hI.root ht2.2
  have hI2 := (hI.hang hra hrb (.base ⟨p, i, hs, rfl, rfl⟩)).weaken (T' := Tm g p (i + 1)) (fun a b hab => by
   obtain ⟨q, j, h1, h2, h3, h4⟩ := hab
   by_cases e : q = p ∧ j = i
   ·
    obtain ⟨rfl, rfl⟩ := e
    exact .inr ⟨h3, h4⟩
   ·
    exact .inl ⟨q, j, h1, by omega, h3, h4⟩)
  have hral := hra.lt.2
  have hstep : ∀ k, spec_l3Ends.l2 (k + 1) g xs p i = (spec_l3Find.f k xs ((Joi.tailE g p i : Nat) : Int)).bind fun a => (spec_l3Find.f k xs ((Joi.headE g p ((i + 1) % (Joi.row g p).length) : Nat) : Int)).bind fun b => if 0 ≤ a then (if a < (xs.length : Int) then spec_l3Ends.l2 k g (xs.set (a : Int).toNat b) p (wrap64 ((i : Int) + 1)) else none) else none := fun k => by
   simp only [spec_l3Ends.l2, rdL_lt hp, rd_lt hlt, hmod, rd_lt hml, l3Abs_eq hx, l3Abs_eq hy, bit_eq, Option.bind_some]
   rw [if_pos (by omega), if_pos (by omega), if_pos (by omega), if_pos (by omega), if_neg (by omega), if_pos (by omega), if_pos (by omega), htl, hhd]
  obtain ⟨r, hr, hJ⟩ := ih (i + 1) (by omega) _ hI2
  refine ⟨r, Ev.step hstep (Ev.bind (find_root xs (by omega) hra) (Ev.bind (find_root xs (by omega) hrb) ?_)), hJ⟩
  refine Ev.congr (fun k => ?_) hr
  rw [if_pos (by omega), if_pos (by omega), Int.toNat_natCast, w64s hlt (by omega)]
theorem ends_1 (g : List (List Int)) (h : GluP g) : ∀ (d p : Nat), p + d = g.length → ∀ xs, Joi.PInv 18 (Joi.Sl g) xs (Tm g p 0) → ∃ r : List Int, Ev (fun k => spec_l3Ends.l1 k g xs p) r ∧ Joi.PInv 18 (Joi.Sl g) r (Tm g g.length 0) := by
 have h4 := h.1.2
 intro d
 induction d with
 | zero =>
  intro p hp xs hI
  obtain rfl : p = g.length := by omega
  refine ⟨xs, Ev.step (f := fun _ => some xs) (fun k => ?_) (Ev.now _), hI⟩
  simp only [spec_l3Ends.l1]; rw [if_neg (by omega)]
 | succ d ih =>
  intro p hp xs hI
  have hlt : p < g.length := by omega
  obtain ⟨r, hr, hJ⟩ := ends_2 g h p hlt (fun ys hK => by
   rw [w64s (n := g.length) hlt (by omega)]
   exact ih (p + 1) (by omega) ys (hK.weaken fun a b hab => by
    obtain ⟨q, j, h1, h2, h3, h4⟩ := hab
    refine ⟨q, j, h1, ?_, h3, h4⟩
    by_cases e : q = p
    ·
     subst e
     have := h1.2
     rw [row_lt hlt] at this
     exact .inr ⟨rfl, this⟩
    ·
     exact .inl (by omega))) g[p].length 0 (by omega) xs hI
  refine ⟨r, Ev.step (fun k => ?_) hr, hJ⟩
  simp only [spec_l3Ends.l1]; rw [if_pos (by omega)]; rfl
theorem ends_0 (g : List (List Int)) (h : GluP g) : ∀ (d i : Nat), i + d = 18 → ∃ r : List Int, Ev (fun k => spec_l3Ends.l0 k g (Joi.iota i) i) r ∧ Joi.PInv 18 (Joi.Sl g) r (Tm g g.length 0) := by
 intro d
 induction d with
 | zero =>
  intro i hi
  obtain rfl : i = 18 := by omega
  obtain ⟨r, hr, hJ⟩ := ends_1 g h g.length 0 (by omega) (Joi.iota 18) ((Joi.PInv.start _ _).weaken fun a b hab => by obtain ⟨q, j, _, h2, _⟩ := hab; omega)
  refine ⟨r, Ev.step (fun k => ?_) hr, hJ⟩
  simp only [spec_l3Ends.l0]; rw [if_neg (by omega)]; rfl
 | succ d ih =>
  intro i hi
  obtain ⟨r, hr, hJ⟩ := ih (i + 1) (by omega)
  refine ⟨r, Ev.step (fun k => ?_) hr, hJ⟩
  simp only [spec_l3Ends.l0, Joi.iota_length, Joi.iota_succ]
  rw [if_pos (by omega), if_pos (by omega), w64s (n := 18) (by omega) (by omega)]
theorem ends_ev (g : List (List Int)) (h : GluP g) : ∃ r : List Int, Ev (fun k => spec_l3Ends.f k g) r ∧ r.length = 18 ∧ Kl.UF r (Joi.EG (Joi.Sl g)) := by
 obtain ⟨r, hr, hJ⟩ := ends_0 g h 18 0 (by omega)
 exact ⟨r, hr, hJ.1, hJ.uf fun a b _ _ e => Joi.EG_min (Joi.EG_eqv _) (fun a b hs => by
  obtain ⟨p, i, hs, rfl, rfl⟩ := hs
  exact .base ⟨p, i, hs, .inl hs.1, rfl, rfl⟩) e⟩
def pickL (q : Int → Bool) (u : List Int) : Nat → Nat → List Int
 | 0, _ => []
 | d + 1, i => if q (u.getD i 0) then (i : Int) :: pickL q u d (i + 1) else pickL q u d (i + 1)
theorem pickL_len (q : Int → Bool) (u : List Int) : ∀ d i, (pickL q u d i).length ≤ d := by
 intro d
 induction d with
 | zero => intro i; simp [pickL]
 | succ d ih => intro i; unfold pickL; have := ih (i + 1); split <;> simp <;> omega
theorem pickL_congr (q q' : Int → Bool) (u : List Int) : ∀ d i, (∀ j, i ≤ j → j < i + d → q (u.getD j 0) = q' (u.getD j 0)) → pickL q u d i = pickL q' u d i := by
 intro d
 induction d with
 | zero => intro i _; rfl
 | succ d ih =>
  intro i h
  unfold pickL
  rw [h i (Nat.le_refl _) (by omega), ih (i + 1) (fun j h1 h2 => h j (by omega) (by omega))]
theorem pickL_range (q : Int → Bool) (u : List Int) : ∀ d i, pickL q u d i = ((List.range' i d).filter (fun j => q (u.getD j 0))).map (fun j : Nat => (j : Int)) := by
 intro d
 induction d with
 | zero => intro i; rfl
 | succ d ih =>
  intro i
  unfold pickL
  rw [List.range'_succ, List.filter_cons, ih (i + 1)]
  split <;> simp
theorem lettersS_l (a2 : Int) (u : List Int) (hu : u.length ≤ 1048576) : ∀ (d i : Nat) (acc : List Int), i + d = u.length → acc.length ≤ i → Ev (fun k => spec_l3Letters.l0 k 1 a2 acc u i) (acc ++ pickL (fun n => decide (1 ≤ n ∧ n ≤ a2)) u d i) := by
 intro d
 induction d with
 | zero =>
  intro i acc hi ha
  refine Ev.step (f := fun _ => some acc) (fun k => ?_) ?_
  ·
   simp only [spec_l3Letters.l0]; rw [if_neg (by omega)]
  ·
   simpa [pickL] using Ev.now acc
 | succ d ih =>
  intro i acc hi ha
  have hlt : i < u.length := by omega
  unfold pickL
  rw [getD_lt hlt]
  by_cases hc : 1 ≤ u[i] ∧ u[i] ≤ a2
  ·
   have := ih (i + 1) (acc ++ [(i : Int)]) (by omega) (by simp; omega)
   refine Ev.step (fun k => ?_) (show Ev _ (acc ++ if (decide (1 ≤ u[i] ∧ u[i] ≤ a2)) = true then (i : Int) :: pickL (fun n => decide (1 ≤ n ∧ n ≤ a2)) u d (i + 1) else pickL (fun n => decide (1 ≤ n ∧ n ≤ a2)) u d (i + 1)) by rw [decide_eq_true hc, if_pos rfl]; rw [List.append_assoc] at this; exact this)
   simp only [spec_l3Letters.l0, l1In_eq, rd_lt hlt, Option.bind_some]
   rw [if_pos (by omega), if_pos (by omega), decide_eq_true hc, if_pos rfl, if_pos (by omega), w64s hlt (by omega)]
  ·
   have := ih (i + 1) acc (by omega) (by omega)
   refine Ev.step (fun k => ?_) (show Ev _ (acc ++ if (decide (1 ≤ u[i] ∧ u[i] ≤ a2)) = true then (i : Int) :: pickL (fun n => decide (1 ≤ n ∧ n ≤ a2)) u d (i + 1) else pickL (fun n => decide (1 ≤ n ∧ n ≤ a2)) u d (i + 1)) by rw [decide_eq_false hc, if_neg (by decide)]; exact this)
   simp only [spec_l3Letters.l0, l1In_eq, rd_lt hlt, Option.bind_some]
   rw [if_pos (by omega), if_pos (by omega), decide_eq_false hc, if_neg (by decide), w64s hlt (by omega)]
theorem zero_rd {g : List (List Int)} (h : GluP g) : (usesL g.flatten).getD 0 0 = 0 := by
 have h0 := usesL_rd g.flatten (y := 0) (by omega)
 rw [rd_nat] at h0
 rw [h0]
 have : cnt g.flatten 0 = 0 := by
  unfold cnt
  rw [List.countP_eq_zero]
  intro x hx hb
  obtain ⟨p, hp, hxp⟩ := List.mem_flatten.1 hx
  have := (h.let p hp x hxp).1
  simp only [beq_iff_eq] at hb
  omega
 omega
theorem two_rd {g : List (List Int)} (h : GluP g) : ∀ j, j < 9 → (usesL g.flatten).getD j 0 ≤ 2 := by
 intro j hj
 have h0 := usesL_rd g.flatten hj
 rw [rd_nat] at h0
 rw [h0]
 have := h.2.2.2 j hj
 omega
def endsOf (ys : List Nat) : List Nat := ys.flatMap fun y => [2 * y, 2 * y + 1]
theorem mem_endsOf (ys : List Nat) (e : Nat) : e ∈ endsOf ys ↔ e / 2 ∈ ys := by
 unfold endsOf
 rw [List.mem_flatMap]
 constructor
 ·
  rintro ⟨y, hy, he⟩
  simp only [List.mem_cons, List.not_mem_nil, or_false] at he
  have : e / 2 = y := by omega
  rw [this]; exact hy
 ·
  intro h
  exact ⟨e / 2, h, by simp only [List.mem_cons, List.not_mem_nil, or_false]; omega⟩
theorem nodup_endsOf (ys : List Nat) (h : ys.Nodup) : (endsOf ys).Nodup := by
 induction ys with
 | nil => simp [endsOf]
 | cons y ys ih =>
  obtain ⟨h1, h2⟩ := List.nodup_cons.1 h
  have h3 : endsOf (y :: ys) = 2 * y :: (2 * y + 1) :: endsOf ys := by simp [endsOf]
  rw [h3, List.nodup_cons, List.nodup_cons]
  refine ⟨fun hm => ?_, fun hm => ?_, ih h2⟩
  ·
   rcases List.mem_cons.1 hm with hm | hm
   ·
    omega
   ·
    rw [mem_endsOf] at hm; exact h1 (by rw [show 2 * y / 2 = y by omega] at hm; exact hm)
  ·
   rw [mem_endsOf] at hm; exact h1 (by rw [show (2 * y + 1) / 2 = y by omega] at hm; exact hm)
def ownB (up : List Int) (e : Nat) : Bool := decide (up[e]? = some (e : Int))
theorem verts_0 (up : List Int) (hu : up.length = 18) (ys : List Nat) (hy : ∀ y ∈ ys, y < 9) (hl : ys.length ≤ 8) : ∀ (d i : Nat) (acc : Nat), i + d = ys.length → acc ≤ 2 * i → Ev (fun k => spec_CountVertices.l0 k up (ys.map fun y : Nat => (y : Int)) acc i) ((acc + (endsOf (ys.drop i)).countP (ownB up) : Nat) : Int) := by
 intro d
 induction d with
 | zero =>
  intro i acc hi ha
  rw [List.drop_of_length_le (by omega)]
  refine Ev.step (f := fun _ => some (acc : Int)) (fun k => ?_) ?_
  ·
   simp only [spec_CountVertices.l0, List.length_map]; rw [if_neg (by omega)]
  ·
   simpa [endsOf] using Ev.now (acc : Int)
 | succ d ih =>
  intro i acc hi ha
  have hlt : i < ys.length := by omega
  have hyi := hy _ (List.getElem_mem hlt)
  have hdrop : endsOf (ys.drop i) = 2 * ys[i] :: (2 * ys[i] + 1) :: endsOf (ys.drop (i + 1)) := by
   unfold endsOf; rw [List.drop_eq_getElem_cons hlt, List.flatMap_cons]; rfl
  have hrd : rd (ys.map fun y : Nat => (y : Int)) (i : Int) = (ys[i] : Int) := by rw [rd_lt (by rw [List.length_map]; exact hlt), List.getElem_map]
  have hw1 : wrap64 (2 * (ys[i] : Int)) = ((2 * ys[i] : Nat) : Int) := by rw [w64 (by omega) (by omega)]; omega
  have hw2 : wrap64 (((2 * ys[i] : Nat) : Int) + 1) = ((2 * ys[i] + 1 : Nat) : Int) := by rw [w64 (by omega) (by omega)]; omega
  have hb : ∀ e : Nat, e < 18 → (if (rd up (e : Int) == (e : Int)) = true then (1 : Int) else 0) = ((if ownB up e = true then 1 else 0 : Nat) : Int) := fun e he => by
   have hel : e < up.length := by omega
   unfold ownB
   rw [rd_lt hel, List.getElem?_eq_getElem hel]
   by_cases c : up[e] = (e : Int)
   ·
    rw [if_pos (by rw [beq_iff_eq]; exact c), if_pos (decide_eq_true (by rw [c]))]; rfl
   ·
    rw [if_neg (by rw [beq_iff_eq]; exact c), if_neg (by simp [c])]; rfl
  have h1 := ih (i + 1) (acc + (if ownB up (2 * ys[i]) = true then 1 else 0) + (if ownB up (2 * ys[i] + 1) = true then 1 else 0)) (by omega) (by split <;> split <;> omega)
  have hsum : acc + (if ownB up (2 * ys[i]) = true then 1 else 0) + (if ownB up (2 * ys[i] + 1) = true then 1 else 0) + (endsOf (ys.drop (i + 1))).countP (ownB up) = acc + (endsOf (ys.drop i)).countP (ownB up) := by
   rw [hdrop, List.countP_cons, List.countP_cons]; omega
  rw [hsum] at h1
  refine Ev.step (fun k => ?_) h1
  simp only [spec_CountVertices.l0, hrd, hw1, hw2, bit_eq, Option.bind_some, List.length_map]
  rw [if_pos (by omega), if_pos (by omega), if_pos (by omega), if_pos (by omega), if_pos (by omega), if_pos (by omega), hb _ (by omega), hb _ (by omega), w64s hlt (by omega), w64 (x := (acc : Int) + _) (by split <;> omega) (by split <;> omega), w64 (by split <;> split <;> omega) (by split <;> split <;> omega)]
  congr 1
theorem edgesL (g : List (List Int)) (h : GluP g) : ∃ ys : List Nat, ys.Nodup ∧ ys.length ≤ 8 ∧ (∀ y ∈ ys, y < 9) ∧ (∀ y, y ∈ ys ↔ ∃ p i, Joi.Side g p i ∧ (Joi.ltr g p i).natAbs = y) ∧ Ev (fun k => spec_l3Letters.f k g 1 2) (ys.map fun y : Nat => (y : Int)) := by
 have hu := usesS_ev g (by have := h.1.2; omega) h.let (by have := h.2.2.1; omega)
 refine ⟨(List.range' 1 8).filter (fun j => decide (1 ≤ (usesL g.flatten).getD j 0 ∧ (usesL g.flatten).getD j 0 ≤ 2)), List.Pairwise.filter _ List.nodup_range', ?_, ?_, ?_, ?_⟩
 ·
  have := List.length_filter_le (fun j => decide (1 ≤ (usesL g.flatten).getD j 0 ∧ (usesL g.flatten).getD j 0 ≤ 2)) (List.range' 1 8)
  rwa [List.length_range'] at this
 ·
  intro y hy
  have := List.mem_range'_1.1 (List.mem_filter.1 hy).1
  omega
 ·
  intro y
  rw [List.mem_filter, List.mem_range'_1]
  have key : 1 ≤ cnt g.flatten y ↔ ∃ p i, Joi.Side g p i ∧ (Joi.ltr g p i).natAbs = y := by
   unfold cnt
   rw [Nat.one_le_iff_ne_zero, ← Nat.pos_iff_ne_zero, List.countP_pos_iff]
   constructor
   ·
    rintro ⟨x, hx, hxy⟩
    obtain ⟨w, hw, hxw⟩ := List.mem_flatten.1 hx
    obtain ⟨p, hp, rfl⟩ := List.getElem_of_mem hw
    obtain ⟨i, hi, rfl⟩ := List.getElem_of_mem hxw
    exact ⟨p, i, ⟨hp, by rw [row_lt hp]; exact hi⟩, by rw [ltr_lt hp hi]; simpa using hxy⟩
   ·
    rintro ⟨p, i, hs, e⟩
    have hp := hs.1
    have hi := hs.2
    rw [row_lt hp] at hi
    rw [ltr_lt hp hi] at e
    exact ⟨g[p][i], List.mem_flatten.2 ⟨g[p], List.getElem_mem hp, List.getElem_mem hi⟩, by simpa using e⟩
  constructor
  ·
   rintro ⟨h1, h2⟩
   have h3 := of_decide_eq_true h2
   have h4 := usesL_rd g.flatten (y := y) (by omega)
   rw [rd_nat] at h4
   rw [h4] at h3
   exact key.1 (by omega)
  ·
   intro hk
   have h1 := key.2 hk
   obtain ⟨p, i, hs, e⟩ := hk
   have hok := Joi.ltr_ok h.cor.1 hs
   have hnz := h.cor.2 p i hs
   have hy9 : y < 9 := by omega
   have h4 := usesL_rd g.flatten hy9
   rw [rd_nat] at h4
   refine ⟨by omega, decide_eq_true ?_⟩
   rw [h4]
   have := h.2.2.2 y hy9
   omega
 ·
  unfold spec_l3Letters.f
  refine Ev.bind hu ?_
  have := lettersS_l 2 (usesL g.flatten) (by rw [usesL_length]; omega) 8 1 [] (by rw [usesL_length]) (by simp)
  rw [pickL_range, List.nil_append] at this
  exact this
theorem vertsS_ev (g : List (List Int)) (h : GluP g) : Ev (fun k => spec_CountVertices.f k g) ((Joi.vertsN g : Nat) : Int) := by
 have e1 := isGluingS_ev g (by have := h.1.2; omega) (by have := h.2.2.1; omega)
 rw [decide_eq_true h] at e1
 obtain ⟨up, hup, hlen, hUF⟩ := ends_ev g h
 obtain ⟨ys, hnd, h8, h9, hmem, hys⟩ := edgesL g h
 have hz := h.cor.2
 have hin : ∀ e, e ∈ endsOf ys ↔ ∃ d, Joi.Inc g d e := fun e => by
  rw [mem_endsOf, hmem]
  constructor
  ·
   rintro ⟨p, i, hs, he⟩
   exact ⟨_, p, i, e % 2, hs, by omega, rfl, by omega⟩
  ·
   rintro ⟨d, p, i, k, hs, hk, _, he⟩
   exact ⟨p, i, hs, by omega⟩
 have hcount := hUF.count (endsOf ys) (fun e he => by rw [mem_endsOf] at he; have := h9 _ he; omega) (nodup_endsOf ys hnd) (fun i r hi hr => by
  have hE : Joi.EG (Joi.Sl g) i r := (hUF.iff hr (.root hr.isRoot)).1 rfl
  rcases Joi.sl_in hz hE with rfl | ⟨_, h2⟩
  ·
   exact hi
  ·
   exact (hin r).2 h2)
 rw [Joi.verts_ends hz (endsOf ys) hin] at hcount
 have := verts_0 up hlen ys h9 h8 ys.length 0 0 (by omega) (by omega)
 rw [List.drop_zero, Nat.zero_add] at this
 have hc2 : (endsOf ys).countP (ownB up) = Joi.vertsN g := hcount
 rw [hc2] at this
 unfold spec_CountVertices.f
 refine Ev.bind e1 ?_
 simp only [if_true]
 exact Ev.bind hup (Ev.bind hys this)
theorem countVertices_ev (g : List (List Int)) (hl1 : g.length ≤ 1048576) (hl2 : g.flatten.length ≤ 1048576) : Ev (fun k => spec_CountVertices.f k g) (if GluP g then ((Joi.vertsN g : Nat) : Int) else -1) ∧ Ev (fun k => impl_CountVertices.f k g) (if GluP g then ((Joi.vertsN g : Nat) : Int) else -1) := by
 have e1 := isGluingS_ev g hl1 hl2
 have e2 := isGluingI_ev g hl1 hl2
 by_cases h : GluP g
 ·
  rw [if_pos h]
  refine ⟨vertsS_ev g h, ?_⟩
  rw [decide_eq_true h] at e2
  unfold impl_CountVertices.f
  refine Ev.bind e2 ?_
  simp only [if_true]
  rw [if_pos h.cor.1]
  exact Ev.now _
 ·
  rw [decide_eq_false h] at e1 e2
  rw [if_neg h]
  unfold spec_CountVertices.f impl_CountVertices.f
  exact ⟨Ev.bind e1 (Ev.now _), Ev.bind e2 (Ev.now _)⟩
theorem edgeI_l (u : List Int) (hu : u.length ≤ 1048576) : ∀ (d i : Nat) (acc : List Int), i + d = u.length → acc.length ≤ i → Ev (fun k => impl_EdgeLetters.l0 k acc u u.length i) (acc ++ pickL (fun n => decide (n > 0)) u d i) := by
 intro d
 induction d with
 | zero =>
  intro i acc hi ha
  refine Ev.step (f := fun _ => some acc) (fun k => ?_) ?_
  ·
   simp only [impl_EdgeLetters.l0]; rw [if_neg (by omega)]
  ·
   simpa [pickL] using Ev.now acc
 | succ d ih =>
  intro i acc hi ha
  have hlt : i < u.length := by omega
  unfold pickL
  rw [getD_lt hlt]
  by_cases hc : u[i] > 0
  ·
   have := ih (i + 1) (acc ++ [(i : Int)]) (by omega) (by simp; omega)
   rw [decide_eq_true hc, if_pos rfl]
   refine Ev.step (fun k => ?_) (show Ev _ (acc ++ (i : Int) :: pickL (fun n => decide (n > 0)) u d (i + 1)) by rw [List.append_assoc] at this; exact this)
   simp only [impl_EdgeLetters.l0, rd_lt hlt]
   rw [if_pos (by omega), if_pos (by omega), if_pos (by omega), if_pos hc, if_pos (by omega), w64s hlt (by omega)]
  ·
   have := ih (i + 1) acc (by omega) (by omega)
   rw [decide_eq_false hc, if_neg (by decide)]
   refine Ev.step (fun k => ?_) this
   simp only [impl_EdgeLetters.l0, rd_lt hlt]
   rw [if_pos (by omega), if_pos (by omega), if_pos (by omega), if_neg hc, w64s hlt (by omega)]
theorem verts_le (g : List (List Int)) (h : GluP g) : Joi.vertsN g ≤ 96 := by
 have := Joi.K_len (Joi.EG (Joi.Sc g)) (List.range (Joi.sidesN g))
 rw [List.length_range] at this
 exact Nat.le_trans this h.cor.1.2.2
theorem edgesI (g : List (List Int)) (h : GluP g) (ys : List Nat) (hys : Ev (fun k => spec_l3Letters.f k g 1 2) (ys.map fun y : Nat => (y : Int))) : Ev (fun k => impl_EdgeLetters.f k g) (ys.map fun y : Nat => (y : Int)) := by
 have hg : g.length ≤ 1048576 := by have := h.1.2; omega
 have hb : g.flatten.length ≤ 1048576 := by have := h.2.2.1; omega
 have e2 := isGluingI_ev g hg hb
 rw [decide_eq_true h] at e2
 have u1 := usesS_ev g hg h.let hb
 have u2 := usesI_ev g hg h.let hb
 have hz := zero_rd h
 have hle := two_rd h
 generalize hU : usesL g.flatten = u at *
 have hu : u.length = 9 := by rw [← hU]; exact usesL_length _
 have hq : pickL (fun n => decide (n > 0)) u 9 0 = pickL (fun n => decide (1 ≤ n ∧ n ≤ 2)) u 8 1 := by
  rw [pickL, hz, if_neg (by decide)]
  refine pickL_congr _ _ u 8 1 (fun j h1 h2 => ?_)
  have := hle j (by omega)
  rw [decide_eq_decide]
  omega
 have i1 := lettersS_l 2 u (by omega) 8 1 [] (by omega) (by simp)
 have i2 := edgeI_l u (by omega) 9 0 [] (by omega) (by simp)
 rw [hq] at i2
 have e : Ev (fun k => spec_l3Letters.f k g 1 2) (pickL (fun n => decide (1 ≤ n ∧ n ≤ 2)) u 8 1) := by
  unfold spec_l3Letters.f
  exact Ev.bind u1 (by simpa using i1)
 rw [Ev.unique hys e]
 unfold impl_EdgeLetters.f
 refine Ev.bind e2 ?_
 simp only [if_true]
 exact Ev.bind u2 (by simpa using i2)
theorem eulerOf_ev (g : List (List Int)) (hl1 : g.length ≤ 1048576) (hl2 : g.flatten.length ≤ 1048576) : ∃ z : Int, Ev (fun k => spec_EulerOf.f k g) z ∧ Ev (fun k => impl_EulerOf.f k g) z := by
 have e1 := isGluingS_ev g hl1 hl2
 have e2 := isGluingI_ev g hl1 hl2
 obtain ⟨v1, v2⟩ := countVertices_ev g hl1 hl2
 unfold spec_EulerOf.f impl_EulerOf.f
 by_cases h : GluP g
 ·
  rw [if_pos h] at v1 v2
  rw [decide_eq_true h] at e1 e2
  obtain ⟨ys, _, h8, _, _, hS⟩ := edgesL g h
  have r2 := edgesI g h ys hS
  have hr : (ys.map fun y : Nat => (y : Int)).length ≤ 1048576 := by rw [List.length_map]; omega
  generalize (ys.map fun y : Nat => (y : Int)) = r at *
  have hv := verts_le g h
  refine ⟨((Joi.vertsN g : Nat) : Int) - (r.length : Int) + (g.length : Int), Ev.bind e1 ?_, Ev.bind e2 ?_⟩
  ·
   simp only [if_true]
   refine Ev.bind v1 (Ev.bind hS ?_)
   rw [w64 (x := ((Joi.vertsN g : Nat) : Int) - (r.length : Int)) (by omega) (by omega), w64 (by omega) (by omega)]
   exact Ev.now _
  ·
   simp only [if_true]
   refine Ev.bind v2 (Ev.bind r2 ?_)
   rw [if_pos ⟨by omega, hr, hl1⟩]
   exact Ev.now _
 ·
  rw [decide_eq_false h] at e1 e2
  exact ⟨-100, Ev.bind e1 (Ev.now _), Ev.bind e2 (Ev.now _)⟩
theorem freeI_l (u : List Int) (hu : u.length ≤ 1048576) : ∀ (d i : Nat) (acc : List Int), i + d = u.length → acc.length ≤ i → Ev (fun k => impl_FreeLetters.l0 k acc u u.length i) (acc ++ pickL (fun n => decide (n = 1)) u d i) := by
 intro d
 induction d with
 | zero =>
  intro i acc hi ha
  refine Ev.step (f := fun _ => some acc) (fun k => ?_) ?_
  ·
   simp only [impl_FreeLetters.l0]; rw [if_neg (by omega)]
  ·
   simpa [pickL] using Ev.now acc
 | succ d ih =>
  intro i acc hi ha
  have hlt : i < u.length := by omega
  unfold pickL
  rw [getD_lt hlt]
  by_cases hc : u[i] = 1
  ·
   have := ih (i + 1) (acc ++ [(i : Int)]) (by omega) (by simp; omega)
   rw [decide_eq_true hc, if_pos rfl]
   refine Ev.step (fun k => ?_) (show Ev _ (acc ++ (i : Int) :: pickL (fun n => decide (n = 1)) u d (i + 1)) by rw [List.append_assoc] at this; exact this)
   simp only [impl_FreeLetters.l0, rd_lt hlt]
   rw [if_pos (by omega), if_pos (by omega), if_pos (by omega), if_pos hc, if_pos (by omega), w64s hlt (by omega)]
  ·
   have := ih (i + 1) acc (by omega) (by omega)
   rw [decide_eq_false hc, if_neg (by decide)]
   refine Ev.step (fun k => ?_) this
   simp only [impl_FreeLetters.l0, rd_lt hlt]
   rw [if_pos (by omega), if_pos (by omega), if_pos (by omega), if_neg hc, w64s hlt (by omega)]
theorem freesL (g : List (List Int)) (h : GluP g) : ∃ ys : List Nat, ys.Nodup ∧ Joi.Occ g ys ∧ (∀ y, y ∈ ys ↔ y < 9 ∧ cnt g.flatten y = 1) ∧ Ev (fun k => spec_l3Letters.f k g 1 1) (ys.map fun y : Nat => (y : Int)) ∧ Ev (fun k => impl_FreeLetters.f k g) (ys.map fun y : Nat => (y : Int)) := by
 have hg1 : g.length ≤ 1048576 := by have := h.1.2; omega
 have hb1 : g.flatten.length ≤ 1048576 := by have := h.2.2.1; omega
 have hu := usesS_ev g hg1 h.let hb1
 have hu2 := usesI_ev g hg1 h.let hb1
 have hgi := isGluingI_ev g hg1 hb1
 rw [decide_eq_true h] at hgi
 have hmem : ∀ y, y ∈ (List.range' 1 8).filter (fun j => decide (1 ≤ (usesL g.flatten).getD j 0 ∧ (usesL g.flatten).getD j 0 ≤ 1)) ↔ y < 9 ∧ cnt g.flatten y = 1 := fun y => by
  rw [List.mem_filter, List.mem_range'_1, decide_eq_true_eq]
  constructor
  ·
   rintro ⟨h1, h2⟩
   have h4 := usesL_rd g.flatten (y := y) (by omega)
   rw [rd_nat] at h4
   rw [h4] at h2
   exact ⟨by omega, by omega⟩
  ·
   rintro ⟨h1, h2⟩
   have h4 := usesL_rd g.flatten h1
   rw [rd_nat] at h4
   have h0 := zero_rd h
   have hne : y ≠ 0 := fun e => by subst e; rw [h4] at h0; omega
   refine ⟨by omega, ?_⟩
   rw [h4]
   omega
 refine ⟨(List.range' 1 8).filter (fun j => decide (1 ≤ (usesL g.flatten).getD j 0 ∧ (usesL g.flatten).getD j 0 ≤ 1)), List.Pairwise.filter _ List.nodup_range', ⟨?_, ?_⟩, hmem, ?_, ?_⟩
 ·
  have := List.length_filter_le (fun j => decide (1 ≤ (usesL g.flatten).getD j 0 ∧ (usesL g.flatten).getD j 0 ≤ 1)) (List.range' 1 8)
  rwa [List.length_range'] at this
 ·
  intro y hy
  have hk := ((hmem y).1 hy).2
  have hpos : 0 < g.flatten.countP (fun x => x.natAbs == y) := by unfold cnt at hk; omega
  obtain ⟨x, hx, hxy⟩ := List.countP_pos_iff.1 hpos
  obtain ⟨w, hw, hxw⟩ := List.mem_flatten.1 hx
  obtain ⟨p, hp, rfl⟩ := List.getElem_of_mem hw
  obtain ⟨i, hi, rfl⟩ := List.getElem_of_mem hxw
  exact ⟨p, i, ⟨hp, by rw [row_lt hp]; exact hi⟩, by rw [ltr_lt hp hi]; simpa using hxy⟩
 ·
  unfold spec_l3Letters.f
  refine Ev.bind hu ?_
  have := lettersS_l 1 (usesL g.flatten) (by rw [usesL_length]; omega) 8 1 [] (by rw [usesL_length]) (by simp)
  rw [pickL_range, List.nil_append] at this
  exact this
 ·
  unfold impl_FreeLetters.f
  refine Ev.bind hgi ?_
  simp only [if_true]
  refine Ev.bind hu2 ?_
  have hz := zero_rd h
  have hl9 := usesL_length g.flatten
  have hq : pickL (fun n => decide (n = 1)) (usesL g.flatten) 9 0 = pickL (fun n => decide (1 ≤ n ∧ n ≤ 1)) (usesL g.flatten) 8 1 := by
   rw [pickL, hz, if_neg (by decide)]
   refine pickL_congr _ _ _ 8 1 (fun j h1 h2 => ?_)
   rw [decide_eq_decide]
   omega
  have := freeI_l (usesL g.flatten) (by omega) 9 0 [] (by omega) (by simp)
  rw [hq, pickL_range, List.nil_append] at this
  simpa using this
theorem countBorders_ev (g : List (List Int)) (hl1 : g.length ≤ 1048576) (hl2 : g.flatten.length ≤ 1048576) : ∃ z : Int, Ev (fun k => spec_CountBorders.f k g) z ∧ Ev (fun k => impl_CountBorders.f k g) z := by
 have e1 := isGluingS_ev g hl1 hl2
 have e2 := isGluingI_ev g hl1 hl2
 unfold spec_CountBorders.f impl_CountBorders.f
 by_cases h : GluP g
 ·
  rw [decide_eq_true h] at e1 e2
  obtain ⟨ys, _, hoc, _, hS, hI⟩ := freesL g h
  obtain ⟨up, hup, hlen, hUF⟩ := ends_ev g h
  obtain ⟨fs, hfs⟩ : ∃ fs : List Int, (ys.map fun y : Nat => (y : Int)) = fs := ⟨_, rfl⟩
  rw [hfs] at hS hI
  refine ⟨((Joi.bordN g (fs.map Int.toNat) : Nat) : Int), Ev.bind e1 ?_, Ev.bind e2 ?_⟩
  ·
   simp only [if_true]
   refine Ev.bind hS (Ev.bind hup ?_)
   rw [if_pos ⟨⟨h.cor.1, hlen, hUF⟩, ys, hfs.symm, hoc⟩]
   exact Ev.now _
  ·
   simp only [if_true]
   refine Ev.bind hI ?_
   rw [if_pos ⟨h.cor, ys, hfs.symm, hoc⟩]
   exact Ev.now _
 ·
  rw [decide_eq_false h] at e1 e2
  exact ⟨-1, Ev.bind e1 (Ev.now _), Ev.bind e2 (Ev.now _)⟩
def hasL (w : List Int) (x : Nat) : Prop := ∃ y ∈ w, y.natAbs = x
theorem has_ev (w : List Int) (hl : w.length ≤ 1048576) (hw : ∀ x ∈ w, LetP x) (x : Nat) : Ev (fun k => spec_l3Has.f k w x) (decide (hasL w x)) := by
 unfold spec_l3Has.f
 have key : ∀ (d i : Nat), i + d = w.length → Ev (fun k => spec_l3Has.l0 k w x i) (decide (hasL (w.drop i) x)) := by
  intro d
  induction d with
  | zero =>
   intro i hi
   rw [decide_eq_false (show ¬ hasL (w.drop i) x by rw [List.drop_of_length_le (by omega)]; rintro ⟨y, hy, _⟩; simp at hy)]
   refine Ev.step (f := fun _ => some false) (fun k => ?_) (Ev.now _)
   simp only [spec_l3Has.l0]; rw [if_neg (by omega)]
  | succ d ih =>
   intro i hi
   have hlt : i < w.length := by omega
   have hx := hw _ (List.getElem_mem hlt)
   have e : hasL (w.drop i) x ↔ w[i].natAbs = x ∨ hasL (w.drop (i + 1)) x := by
    unfold hasL
    rw [List.drop_eq_getElem_cons hlt]
    simp only [List.mem_cons, exists_eq_or_imp]
   by_cases hc : w[i].natAbs = x
   ·
    rw [decide_eq_true (e.2 (.inl hc))]
    refine Ev.step (f := fun _ => some true) (fun k => ?_) (Ev.now _)
    simp only [spec_l3Has.l0, rd_lt hlt, l3Abs_eq hx, Option.bind_some]
    rw [if_pos (by omega), if_pos (by omega), if_pos (by omega)]
   ·
    have e2 : hasL (w.drop i) x ↔ hasL (w.drop (i + 1)) x := by rw [e]; simp [hc]
    rw [decide_eq_decide.2 e2]
    refine Ev.step (fun k => ?_) (ih (i + 1) (by omega))
    simp only [spec_l3Has.l0, rd_lt hlt, l3Abs_eq hx, Option.bind_some]
    rw [if_pos (by omega), if_pos (by omega), if_neg (by omega), w64s hlt (by omega)]
 exact key w.length 0 (by omega)
theorem GluP.gok {g : List (List Int)} (h : GluP g) : Joi.GOk g := by
 refine ⟨h.1.2, fun p hp => ?_⟩
 have hm : g.getD p [] = g[p] := by simp [List.getD_eq_getElem?_getD, hp]
 rw [hm]
 have hw := (h.2.1 g[p] (List.getElem_mem hp)).2
 refine ⟨hw.2, fun x hx => ?_⟩
 have := hw.1 x hx
 unfold LetP at this
 omega
def T1s (g : List (List Int)) (p : Nat) : Nat → Nat → Prop := fun a b => b < a ∧ a < p ∧ Joi.Sh g a b
def T2s (g : List (List Int)) (p q : Nat) : Nat → Nat → Prop := fun a b => b < a ∧ (a < p ∨ a = p ∧ b < q) ∧ Joi.Sh g a b
def T3s (g : List (List Int)) (p q x : Nat) : Nat → Nat → Prop := fun a b => T2s g p q a b ∨ (a = p ∧ b = q ∧ ∃ y, 1 ≤ y ∧ y < x ∧ hasL (g.getD p []) y ∧ hasL (g.getD q []) y)
theorem sh_symm {g : List (List Int)} {a b : Nat} (h : Joi.Sh g a b) : Joi.Sh g b a := by
 obtain ⟨h1, h2, x, hx, y, hy, e⟩ := h
 exact ⟨h2, h1, y, hy, x, hx, e.symm⟩
theorem partsOf_4 (g : List (List Int)) (hg : g.length ≤ 4) (xs : List Int) (hx : xs.length = g.length) : ∀ (d j : Nat), j + d = g.length → Ev (fun k => spec_PartsOf.l4 k g xs ((Joi.ownsTo xs j : Nat) : Int) j) ((Joi.ownsTo xs g.length : Nat) : Int) := by
 intro d
 induction d with
 | zero =>
  intro j hj
  obtain rfl : j = g.length := by omega
  refine Ev.step (f := fun _ => some _) (fun k => ?_) (Ev.now _)
  simp only [spec_PartsOf.l4]; rw [if_neg (by omega)]
 | succ d ih =>
  intro j hj
  have hlt : j < xs.length := by omega
  have hz := Joi.ownsTo_succ xs j
  have hzl := Joi.ownsTo_le xs j
  refine Ev.step (fun k => ?_) (ih (j + 1) (by omega))
  simp only [spec_PartsOf.l4, rd_lt hlt]
  rw [if_pos (by omega), if_pos (by omega), if_pos (by omega), bit_eq, Option.bind_some, w64s hlt (by omega)]
  by_cases hr : xs[j]? = some (j : Int)
  ·
   rw [if_pos hr] at hz
   have he := (List.getElem?_eq_some_iff.1 hr).2
   rw [if_pos (by rw [he]; simp), w64 (by omega) (by omega), hz]; rfl
  ·
   rw [if_neg hr] at hz
   have he : xs[j] ≠ (j : Int) := fun e => hr (by rw [List.getElem?_eq_getElem hlt, e])
   rw [if_neg (by rw [beq_iff_eq]; exact he), w64 (by omega) (by omega), hz]; rfl
theorem partsOf_3 (g : List (List Int)) (h : GluP g) (p q : Nat) (hp : p < g.length) (hq : q < g.length) (r : Int) (hE : ∀ xs, Joi.PInv g.length (Joi.Sh g) xs (T3s g p q 9) → Ev (fun k => spec_PartsOf.l2 k g xs p (wrap64 ((q : Int) + 1))) r) :
  ∀ (f x : Nat), x + f = 9 → 1 ≤ x → ∀ xs, Joi.PInv g.length (Joi.Sh g) xs (T3s g p q x) → Ev (fun k => spec_PartsOf.l3 k g xs p q x) r := by
 have h4 := h.1.2
 have hgp : g.getD p [] = g[p] := by simp [List.getD_eq_getElem?_getD, hp]
 have hgq : g.getD q [] = g[q] := by simp [List.getD_eq_getElem?_getD, hq]
 have lp : g[p].length ≤ 1048576 := by have := (h.gok.2 p hp).1; rw [hgp] at this; omega
 have lq : g[q].length ≤ 1048576 := by have := (h.gok.2 q hq).1; rw [hgq] at this; omega
 intro f
 induction f with
 | zero =>
  intro x hx h1 xs hI
  obtain rfl : x = 9 := by omega
  refine Ev.step (fun k => ?_) (hE xs hI)
  simp only [spec_PartsOf.l3]; rw [if_neg (by omega)]
 | succ f ih =>
  intro x hx h1 xs hI
  have hxl : xs.length ≤ 1048576 := by rw [hI.1]; omega
  have hw : wrap64 ((x : Int) + 1) = ((x + 1 : Nat) : Int) := w64s (n := 9) (by omega) (by omega)
  have e1 := has_ev g[p] lp (h.let _ (List.getElem_mem hp)) x
  have e2 := has_ev g[q] lq (h.let _ (List.getElem_mem hq)) x
  have hskip : ¬ (hasL g[p] x ∧ hasL g[q] x) → Ev (fun k => spec_PartsOf.j4 k g xs p q x false) r := fun hn => by
   refine Ev.step (fun k => ?_) (ih (x + 1) (by omega) (by omega) xs (hI.weaken fun a b hab => ?_))
   ·
    simp only [spec_PartsOf.j4]; rw [if_neg Bool.false_ne_true, hw]
   ·
    rcases hab with hab | ⟨ha, hb, y, y1, y2, y3, y4⟩
    ·
     exact .inl hab
    ·
     by_cases hy : y = x
     ·
      subst hy; rw [hgp] at y3; rw [hgq] at y4; exact (hn ⟨y3, y4⟩).elim
     ·
      exact .inr ⟨ha, hb, y, y1, by omega, y3, y4⟩
  have hl3 : ∀ k, spec_PartsOf.l3 (k + 1) g xs p q x = ((spec_l3Has.f k g[p] x).bind fun t159 => (if t159 = true then ((spec_l3Has.f k g[q] x).bind fun t161 => (spec_PartsOf.j4 k g xs p q x t161)) else (spec_PartsOf.j4 k g xs p q x false))) := fun k => by
   simp only [spec_PartsOf.l3, rdL_lt hp, rdL_lt hq]
   rw [if_pos (by omega), if_pos (by omega), if_pos (by omega)]
   congr 1
   funext t
   cases t
   ·
    rw [if_neg Bool.false_ne_true, if_neg Bool.false_ne_true]
   ·
    rw [if_pos rfl, if_pos rfl, if_pos (by omega), if_pos (by omega)]
  refine Ev.step hl3 (Ev.bind e1 ?_)
  by_cases c1 : hasL g[p] x
  case neg =>
   rw [decide_eq_false c1]
   exact Ev.congr (fun k => if_neg Bool.false_ne_true) (hskip fun hh => c1 hh.1)
  rw [decide_eq_true c1]
  refine Ev.congr (fun k => if_pos rfl) (Ev.bind e2 ?_)
  by_cases c2 : hasL g[q] x
  case neg => rw [decide_eq_false c2]; exact hskip fun hh => c2 hh.2
  rw [decide_eq_true c2]
  obtain ⟨ra, hra⟩ := hI.root hp
  obtain ⟨rb, hrb⟩ := hI.root hq
  obtain ⟨u, hu, hux⟩ := c1
  obtain ⟨v, hv, hvx⟩ := c2
  have hS : Joi.EG (Joi.Sh g) p q := .base ⟨hp, hq, u, by rw [hgp]; exact hu, v, by rw [hgq]; exact hv, by omega⟩
  have hI2 := (hI.hang hra hrb hS).weaken (T' := T3s g p q (x + 1)) (fun a b hab => by
   rcases hab with hab | ⟨ha, hb, _⟩
   ·
    exact .inl (.inl hab)
   ·
    exact .inr ⟨ha, hb⟩)
  have hral := hra.lt.2
  refine Ev.shift ?_
  simp only [spec_PartsOf.j4]
  refine Ev.congr (fun k => if_pos trivial) (Ev.bind (find_root xs hxl hra) (Ev.bind (find_root xs hxl hrb) ?_))
  refine Ev.congr (fun k => ?_) (ih (x + 1) (by omega) (by omega) _ hI2)
  rw [if_pos (by omega), if_pos (by omega), Int.toNat_natCast, hw]
theorem partsOf_2 (g : List (List Int)) (h : GluP g) (p : Nat) (hp : p < g.length) (r : Int) (hE : ∀ xs, Joi.PInv g.length (Joi.Sh g) xs (T2s g p p) → Ev (fun k => spec_PartsOf.l1 k g xs (wrap64 ((p : Int) + 1))) r) :
  ∀ (e q : Nat), q + e = p → ∀ xs, Joi.PInv g.length (Joi.Sh g) xs (T2s g p q) → Ev (fun k => spec_PartsOf.l2 k g xs p q) r := by
 have h4 := h.1.2
 intro e
 induction e with
 | zero =>
  intro q hq xs hI
  obtain rfl : q = p := by omega
  refine Ev.step (fun k => ?_) (hE xs hI)
  simp only [spec_PartsOf.l2]; rw [if_neg (by omega)]
 | succ e ih =>
  intro q hq xs hI
  refine Ev.step (fun k => ?_) (partsOf_3 g h p q hp (by omega) r (fun ys hJ => ?_) 8 1 rfl (by omega) xs (hI.weaken fun a b hab => ?_))
  ·
   simp only [spec_PartsOf.l2]; rw [if_pos (by omega)]; rfl
  ·
   rw [w64s (n := p) (by omega) (by omega)]
   refine ih (q + 1) (by omega) ys (hJ.weaken fun a b hab => ?_)
   obtain ⟨h1, h2, h3⟩ := hab
   by_cases he : a = p ∧ b = q
   ·
    obtain ⟨rfl, rfl⟩ := he
    obtain ⟨_, _, u, hu, v, hv, huv⟩ := h3
    refine .inr ⟨rfl, rfl, u.natAbs, ?_, ?_, ⟨u, hu, rfl⟩, ⟨v, hv, huv.symm⟩⟩
    all_goals
     have hgp : g.getD a [] = g[a] := by simp [List.getD_eq_getElem?_getD, hp]
     rw [hgp] at hu
     have := (h.let _ (List.getElem_mem hp) u hu).abs
     omega
   ·
    exact .inl ⟨h1, by omega, h3⟩
  ·
   rcases hab with hab | ⟨_, _, y, y1, y2, _⟩
   ·
    exact hab
   ·
    omega
theorem partsOf_1 (g : List (List Int)) (h : GluP g) : ∀ (d p : Nat), p + d = g.length → ∀ xs, Joi.PInv g.length (Joi.Sh g) xs (T1s g p) → Ev (fun k => spec_PartsOf.l1 k g xs p) ((Joi.partsG g : Nat) : Int) := by
 have h4 := h.1.2
 intro d
 induction d with
 | zero =>
  intro p hp xs hI
  obtain rfl : p = g.length := by omega
  have hc := hI.count (fun a b ha hb e => Joi.EG_min (Joi.EG_eqv _) (fun a b hs => by
   rcases Nat.lt_trichotomy a b with hab | hab | hab
   ·
    exact .symm (.base ⟨hab, hs.2.1, sh_symm hs⟩)
   ·
    subst hab; exact .refl a
   ·
    exact .base ⟨hab, hs.1, hs⟩) e)
  have := partsOf_4 g h4 xs hI.1 g.length 0 (by omega)
  rw [hc] at this
  refine Ev.step (fun k => ?_) this
  simp only [spec_PartsOf.l1]; rw [if_neg (by omega)]; rfl
 | succ d ih =>
  intro p hp xs hI
  refine Ev.step (fun k => ?_) (partsOf_2 g h p (by omega) _ (fun ys hJ => ?_) p 0 (by omega) xs (hI.weaken fun a b hab => ?_))
  ·
   simp only [spec_PartsOf.l1]; rw [if_pos (by omega)]; rfl
  ·
   rw [w64s (n := g.length) (by omega) (by omega)]
   exact ih (p + 1) (by omega) ys (hJ.weaken fun a b hab => ⟨hab.1, by have := hab.1; have := hab.2.1; omega, hab.2.2⟩)
  ·
   exact ⟨hab.1, by have := hab.2.1; omega, hab.2.2⟩
theorem partsOf_0 (g : List (List Int)) (h : GluP g) : ∀ (d p : Nat), p + d = g.length → Ev (fun k => spec_PartsOf.l0 k g (Joi.iota p) p) ((Joi.partsG g : Nat) : Int) := by
 have h4 := h.1.2
 intro d
 induction d with
 | zero =>
  intro p hp
  obtain rfl : p = g.length := by omega
  refine Ev.step (fun k => ?_) (partsOf_1 g h g.length 0 (by omega) (Joi.iota g.length) ((Joi.PInv.start _ _).weaken fun a b hab => by have := hab.2.1; omega))
  simp only [spec_PartsOf.l0]; rw [if_neg (by omega)]; rfl
 | succ d ih =>
  intro p hp
  refine Ev.step (fun k => ?_) (ih (p + 1) (by omega))
  simp only [spec_PartsOf.l0, Joi.iota_length, Joi.iota_succ]
  rw [if_pos (by omega), if_pos (by omega), w64s (n := g.length) (by omega) (by omega)]
theorem partsOf_ev (g : List (List Int)) (hl1 : g.length ≤ 1048576) (hl2 : g.flatten.length ≤ 1048576) : Ev (fun k => spec_PartsOf.f k g) (if GluP g then ((Joi.partsG g : Nat) : Int) else -1) ∧ Ev (fun k => impl_PartsOf.f k g) (if GluP g then ((Joi.partsG g : Nat) : Int) else -1) := by
 have e1 := isGluingS_ev g hl1 hl2
 have e2 := isGluingI_ev g hl1 hl2
 unfold spec_PartsOf.f impl_PartsOf.f
 by_cases h : GluP g
 ·
  rw [decide_eq_true h] at e1 e2
  rw [if_pos h]
  refine ⟨Ev.bind e1 ?_, Ev.bind e2 ?_⟩
  ·
   simp only [if_true]; exact partsOf_0 g h g.length 0 (by omega)
  ·
   simp only [if_true]; rw [if_pos h.gok]; exact Ev.now _
 ·
  rw [decide_eq_false h] at e1 e2
  rw [if_neg h]
  exact ⟨Ev.bind e1 (Ev.now _), Ev.bind e2 (Ev.now _)⟩
def tb (set : Int) (p : Nat) : Bool := Go.bits .and .i64 (shr .i64 set (p : Int)) 1 == 1
def sg (set : Int) (p : Nat) (x : Int) : Int := if (decide (x > 0) != tb set p) = true then 1 else -1
theorem sg_one (set : Int) (p : Nat) (x : Int) : sg set p x = 1 ∨ sg set p x = -1 := by unfold sg; split <;> simp
def occR (set : Int) (p : Nat) (w : List Int) : List (Nat × Int) := w.map fun x => (x.natAbs, sg set p x)
def occ (set : Int) (g : List (List Int)) : Nat → List (Nat × Int)
 | 0 => []
 | p + 1 => occ set g p ++ occR set p (g.getD p [])
def sgs (y : Nat) (L : List (Nat × Int)) : List Int := (L.filter fun q => q.1 == y).map fun q => q.2
theorem sgs_append (y : Nat) (A B : List (Nat × Int)) : sgs y (A ++ B) = sgs y A ++ sgs y B := by simp [sgs]
theorem sgs_one (y z : Nat) (s : Int) : sgs y [(z, s)] = if z = y then [s] else [] := by
 unfold sgs
 by_cases h : z = y <;> simp [h]
theorem sgs_length_le (y : Nat) (L : List (Nat × Int)) : (sgs y L).length ≤ L.length := by
 unfold sgs; rw [List.length_map]; exact List.length_filter_le _ _
theorem occR_snoc (set : Int) (p : Nat) (w : List Int) (i : Nat) (h : i < w.length) : occR set p (w.take (i + 1)) = occR set p (w.take i) ++ [(w[i].natAbs, sg set p w[i])] := by
 rw [List.take_succ_eq_append_getElem h]
 simp only [occR, List.map_append, List.map_cons, List.map_nil]
theorem occR_length (set : Int) (p : Nat) (w : List Int) : (occR set p w).length = w.length := by simp [occR]
theorem sg_pos {set : Int} {p : Nat} {x : Int} (h : (decide (x > 0) != (Go.bits .and .i64 (shr .i64 set (p : Int)) 1 == 1)) = true) : sg set p x = 1 := if_pos h
theorem sg_neg {set : Int} {p : Nat} {x : Int} (h : ¬ (decide (x > 0) != (Go.bits .and .i64 (shr .i64 set (p : Int)) 1 == 1)) = true) : sg set p x = -1 := if_neg h
theorem sgs_occR_length (y : Nat) (set : Int) (p : Nat) (w : List Int) : (sgs y (occR set p w)).length = cnt w y := by
 unfold sgs occR cnt
 rw [List.length_map, List.countP_eq_length_filter, List.filter_map, List.length_map]
 rfl
theorem sgs_occ_length (y : Nat) (set : Int) (g : List (List Int)) : ∀ p, p ≤ g.length → (sgs y (occ set g p)).length = cnt (g.take p).flatten y := by
 intro p
 induction p with
 | zero => intro _; simp [occ, sgs, cnt]
 | succ p ih =>
  intro hp
  rw [flat_take_succ (show p < g.length by omega), cnt_append, ← ih (by omega)]
  show (sgs y (occ set g p ++ occR set p (g.getD p []))).length = _
  rw [sgs_append, List.length_append, sgs_occR_length, getD_lt (show p < g.length by omega)]
theorem occ_length (set : Int) (g : List (List Int)) : ∀ p, p ≤ g.length → (occ set g p).length = (g.take p).flatten.length := by
 intro p
 induction p with
 | zero => intro _; simp [occ]
 | succ p ih =>
  intro hp
  rw [flat_take_succ (show p < g.length by omega), List.length_append, ← ih (by omega)]
  show (occ set g p ++ occR set p (g.getD p [])).length = _
  rw [List.length_append, getD_lt (show p < g.length by omega)]
  simp [occR]
theorem sgs_pm {y : Nat} {set : Int} {g : List (List Int)} {p : Nat} {s : Int} (h : s ∈ sgs y (occ set g p)) : s = 1 ∨ s = -1 := by
 induction p with
 | zero => simp [occ, sgs] at h
 | succ p ih =>
  have h' : s ∈ sgs y (occ set g p ++ occR set p (g.getD p [])) := h
  rw [sgs_append] at h'
  rcases List.mem_append.1 h' with h' | h'
  ·
   exact ih h'
  ·
   unfold sgs occR at h'
   obtain ⟨q, hq, rfl⟩ := List.mem_map.1 h'
   obtain ⟨x, _, rfl⟩ := List.mem_map.1 (List.mem_filter.1 hq).1
   exact sg_one _ _ _
theorem sum_pm (l : List Int) (h : ∀ s ∈ l, s = 1 ∨ s = -1) : -(l.length : Int) ≤ l.sum ∧ l.sum ≤ l.length := by
 induction l with
 | nil => simp
 | cons a l ih =>
  have h1 := ih fun s hs => h s (List.mem_cons_of_mem _ hs)
  have h2 := h a List.mem_cons_self
  rw [List.sum_cons, List.length_cons]
  omega
def alt : List Int → Bool
 | [] => true
 | [_] => true
 | a :: b :: t => decide (a ≠ b) && alt (b :: t)
theorem alt_snoc : ∀ (l : List Int) (s : Int), alt (l ++ [s]) = (alt l && decide (l.getLast? ≠ some s))
 | [], s => by simp [alt]
 | [a], s => by simp [alt]
 | a :: b :: t, s => by
  have := alt_snoc (b :: t) s
  simp only [List.cons_append, alt] at this ⊢
  rw [this, Bool.and_assoc]
  rw [List.getLast?_cons_cons]
theorem alt_two {l : List Int} (h : ∀ s ∈ l, s = 1 ∨ s = -1) (h2 : l.length ≤ 2) : alt l = true ↔ (l.length < 2 ∨ l.sum = 0) := by
 match l, h2 with
 | [], _ => simp [alt]
 | [a], _ => simp [alt]
 | [a, b], _ =>
  have ha := h a (by simp)
  have hb := h b (by simp)
  simp [alt]
  omega
def Fine (set : Int) (g : List (List Int)) : Prop := ∀ y, 1 ≤ y → y < 9 → (sgs y (occ set g g.length)).length < 2 ∨ (sgs y (occ set g g.length)).sum = 0
def sgnV (set : Int) (g : List (List Int)) (y : Nat) : Int := if (sgs y (occ set g g.length)).length < 2 then 0 else (sgs y (occ set g g.length)).sum
theorem sgnV_zero (set : Int) (g : List (List Int)) (y : Nat) : sgnV set g y = 0 ↔ (sgs y (occ set g g.length)).length < 2 ∨ (sgs y (occ set g g.length)).sum = 0 := by
 unfold sgnV
 split
 ·
  rename_i h; simp [h]
 ·
  rename_i h; simp [h]
theorem u64nat (n : Nat) (h : n < 1000) : IntKind.u64.wrap (n : Int) = (n : Int) := by
 simp [IntKind.wrap, IntKind.bits, IntKind.signed]; omega
def lastL (L : List (Nat × Int)) : List Int := (List.range 9).map fun y => ((sgs y L).getLast?).getD 0
theorem lastL_length (L : List (Nat × Int)) : (lastL L).length = 9 := by simp [lastL]
theorem lastL_nil : lastL [] = List.replicate 9 0 := by decide
theorem lastL_rd (L : List (Nat × Int)) {y : Nat} (h : y < 9) : rd (lastL L) (y : Int) = ((sgs y L).getLast?).getD 0 := by
 rw [rd_lt (by rw [lastL_length]; exact h)]
 simp [lastL]
theorem lastL_snoc (L : List (Nat × Int)) (z : Nat) (s : Int) : (lastL L).set z s = lastL (L ++ [(z, s)]) := by
 refine List.ext_getElem (by simp [lastL_length]) fun y h1 h2 => ?_
 have hy : y < 9 := by rw [lastL_length] at h2; exact h2
 have e1 : (lastL (L ++ [(z, s)]))[y] = ((sgs y (L ++ [(z, s)])).getLast?).getD 0 := by simp [lastL]
 refine Eq.trans ?_ e1.symm
 rw [List.getElem_set, sgs_append, sgs_one]
 by_cases h : z = y
 ·
  subst h; simp
 ·
  rw [if_neg h, if_neg h]; simp [lastL]
def altB (L : List (Nat × Int)) : Prop := ∀ y, y < 9 → alt (sgs y L) = true
theorem altB_snoc (L : List (Nat × Int)) (z : Nat) (s : Int) (hz : z < 9) : altB (L ++ [(z, s)]) ↔ altB L ∧ (sgs z L).getLast? ≠ some s := by
 unfold altB
 constructor
 ·
  intro h
  have hz' := h z hz
  rw [sgs_append, sgs_one, if_pos rfl, alt_snoc] at hz'
  simp only [Bool.and_eq_true, decide_eq_true_eq] at hz'
  refine ⟨fun y hy => ?_, hz'.2⟩
  have := h y hy
  rw [sgs_append, sgs_one] at this
  split at this
  ·
   rw [alt_snoc] at this
   simp only [Bool.and_eq_true] at this
   exact this.1
  ·
   simpa using this
 ·
  rintro ⟨h, hl⟩ y hy
  rw [sgs_append, sgs_one]
  split
  ·
   rename_i he; subst he
   rw [alt_snoc, h z hz]
   simpa using hl
  ·
   simpa using h y hy
theorem shl_one (n : Nat) (h : n ≤ 4) : shl .i64 1 (n : Int) = ((2 ^ n : Nat) : Int) := by
 have : n = 0 ∨ n = 1 ∨ n = 2 ∨ n = 3 ∨ n = 4 := by omega
 rcases this with rfl | rfl | rfl | rfl | rfl <;> decide +kernel
theorem pow_le16 (n : Nat) (h : n ≤ 4) : 2 ^ n ≤ 16 := by
 have : n = 0 ∨ n = 1 ∨ n = 2 ∨ n = 3 ∨ n = 4 := by omega
 rcases this with rfl | rfl | rfl | rfl | rfl <;> decide
def TwoFrom (g : List (List Int)) (s : Nat) : Prop := ∃ t, s ≤ t ∧ t < 2 ^ g.length ∧ Fine (t : Int) g
def Two (g : List (List Int)) : Prop := GluP g ∧ TwoFrom g 0
theorem sgn_same {x : Int} (h : LetP x) (set : Int) (p : Nat) : ((decide (x < 0) != (Go.bits .and .i64 (shr .i64 set (p : Int)) 1 == 1)) = true ∧ sg set p x = -1) ∨ (¬ (decide (x < 0) != (Go.bits .and .i64 (shr .i64 set (p : Int)) 1 == 1)) = true ∧ sg set p x = 1) := by
 unfold sg tb
 generalize (Go.bits .and .i64 (shr .i64 set (p : Int)) 1 == 1) = b
 have h0 := h.1
 by_cases hx : x > 0
 ·
  have h1 : ¬ x < 0 := by omega
  cases b <;> simp [hx, h1]
 ·
  have h1 : x < 0 := by omega
  cases b <;> simp [hx, h1]
theorem twoI_row (set B : Int) (g : List (List Int)) (hg : GluP g) (p : Nat) (hp : p < g.length) (pre : List (Nat × Int)) (r : Bool)
  (h : ∀ b : Bool, (b = true ↔ altB (pre ++ occR set p g[p])) → Ev (fun k => impl_IsTwoSided.l1 k g set (lastL (pre ++ occR set p g[p])) b B set g g.length ((p + 1 : Nat) : Int)) r) :
  ∀ (d i : Nat) (b : Bool), i + d = g[p].length → (b = true ↔ altB (pre ++ occR set p (g[p].take i))) → Ev (fun k => impl_IsTwoSided.l2 k g set (lastL (pre ++ occR set p (g[p].take i))) b p B set g g.length p g[p] g[p].length i) r := by
 intro d
 have hl := hg.let g[p] (List.getElem_mem hp)
 have h4 := hg.1.2
 have h24 := (hg.2.1 g[p] (List.getElem_mem hp)).2.2
 induction d with
 | zero =>
  intro i b hi hb
  rw [List.take_of_length_le (by omega)] at hb ⊢
  refine Ev.step (fun k => ?_) (h b hb)
  simp only [impl_IsTwoSided.l2]
  rw [if_neg (by omega), w64s hp (by omega)]
 | succ d ih =>
  intro i b hi hb
  have hlt : i < g[p].length := by omega
  have hx := hl g[p][i] (List.getElem_mem hlt)
  have ha := hx.abs
  have eo : occR set p (g[p].take (i + 1)) = occR set p (g[p].take i) ++ [(g[p][i].natAbs, sg set p g[p][i])] := occR_snoc set p g[p] i hlt
  have hs1 := sg_one set p g[p][i]
  -- behind the sign
  have hj : Ev (fun k => impl_IsTwoSided.j3 k g set (lastL (pre ++ occR set p (g[p].take i))) b p g[p][i] (sg set p g[p][i]) B set g g.length p g[p] g[p].length i) r := by
   have hrd := lastL_rd (pre ++ occR set p (g[p].take i)) (show g[p][i].natAbs < 9 by omega)
   have hal := altB_snoc (pre ++ occR set p (g[p].take i)) g[p][i].natAbs (sg set p g[p][i]) (by omega)
   have hls := lastL_snoc (pre ++ occR set p (g[p].take i)) g[p][i].natAbs (sg set p g[p][i])
   rw [List.append_assoc, ← eo] at hal hls
   have hq : ((sgs g[p][i].natAbs (pre ++ occR set p (g[p].take i))).getLast?).getD 0 = sg set p g[p][i] ↔ (sgs g[p][i].natAbs (pre ++ occR set p (g[p].take i))).getLast? = some (sg set p g[p][i]) := by
    cases (sgs g[p][i].natAbs (pre ++ occR set p (g[p].take i))).getLast? with
    | none => simp; omega
    | some v => simp
   by_cases he : ((sgs g[p][i].natAbs (pre ++ occR set p (g[p].take i))).getLast?).getD 0 = sg set p g[p][i]
   ·
    refine Ev.step (fun k => ?_) (ih (i + 1) false (by omega) ?_)
    ·
     simp only [impl_IsTwoSided.j3, size_eq hx, Option.bind_some, lastL_length, hrd]
     rw [if_pos (by omega), if_pos (by omega), if_pos he, Int.toNat_natCast, hls, w64s hlt (by omega), if_pos (by omega), if_pos (by omega)]
    ·
     constructor
     ·
      intro hf; cases hf
     ·
      intro hh; exact absurd (hq.1 he) (hal.1 hh).2
   ·
    refine Ev.step (fun k => ?_) (ih (i + 1) b (by omega) ?_)
    ·
     simp only [impl_IsTwoSided.j3, size_eq hx, Option.bind_some, lastL_length, hrd]
     rw [if_pos (by omega), if_pos (by omega), if_neg he, Int.toNat_natCast, hls, w64s hlt (by omega), if_pos (by omega), if_pos (by omega)]
    ·
     rw [hb, hal]
     exact ⟨fun hh => ⟨hh, fun hc => he (hq.2 hc)⟩, fun hh => hh.1⟩
  rcases sgn_same hx set p with ⟨h1, h2⟩ | ⟨h1, h2⟩
  ·
   rw [h2] at hj
   refine Ev.step (fun k => ?_) hj
   simp only [impl_IsTwoSided.l2, rd_lt hlt]
   rw [if_pos (by omega), if_pos (by omega), if_pos (by omega), if_pos (by omega), if_pos h1]
  ·
   rw [h2] at hj
   refine Ev.step (fun k => ?_) hj
   simp only [impl_IsTwoSided.l2, rd_lt hlt]
   rw [if_pos (by omega), if_pos (by omega), if_pos (by omega), if_pos (by omega), if_neg h1]
theorem fine_alt (set : Int) (g : List (List Int)) (hg : GluP g) : altB (occ set g g.length) ↔ Fine set g := by
 have hlen : ∀ y, y < 9 → (sgs y (occ set g g.length)).length ≤ 2 := by
  intro y hy
  rw [sgs_occ_length y set g g.length (Nat.le_refl _), List.take_length]
  exact hg.2.2.2 y hy
 unfold altB Fine
 constructor
 ·
  intro h y h1 h2
  exact (alt_two (fun s hs => sgs_pm hs) (hlen y h2)).1 (h y h2)
 ·
  intro h y h2
  rcases Nat.eq_zero_or_pos y with rfl | h1
  ·
   have h0 : (sgs 0 (occ set g g.length)).length = 0 := by
    rw [sgs_occ_length 0 set g g.length (Nat.le_refl _), List.take_length]
    unfold cnt
    rw [List.countP_eq_zero]
    intro x hx
    obtain ⟨p, hp, hxp⟩ := List.mem_flatten.1 hx
    have := (hg.let p hp x hxp).abs
    simp
    omega
   rw [List.length_eq_zero_iff.1 h0]; rfl
  ·
   exact (alt_two (fun s hs => sgs_pm hs) (hlen y h2)).2 (h y h1 h2)
theorem twoI_in (set B : Int) (g : List (List Int)) (hg : GluP g) (r : Bool) (hn : ¬ Fine set g → Ev (fun k => impl_IsTwoSided.l0 k g B (wrap64 (set + 1))) r) : ∀ (d p : Nat) (b : Bool), p + d = g.length → (b = true ↔ altB (occ set g p)) → Ev (fun k => impl_IsTwoSided.l1 k g set (lastL (occ set g p)) b B set g g.length p) (if Fine set g then true else r) := by
 intro d
 induction d with
 | zero =>
  intro p b hp hb
  have hpe : p = g.length := by omega
  subst hpe
  have hf := hb.trans (fine_alt set g hg)
  by_cases hF : Fine set g
  ·
   rw [if_pos hF]
   refine Ev.step (f := fun _ => some true) (fun k => ?_) (Ev.now _)
   simp only [impl_IsTwoSided.l1]; rw [if_neg (by omega), if_pos (hf.2 hF)]
  ·
   rw [if_neg hF]
   refine Ev.step (fun k => ?_) (hn hF)
   simp only [impl_IsTwoSided.l1]; rw [if_neg (by omega), if_neg (fun h => hF (hf.1 h))]
 | succ d ih =>
  intro p b hp hb
  have hlt : p < g.length := by omega
  have e : occ set g (p + 1) = occ set g p ++ occR set p g[p] := by
   show occ set g p ++ occR set p (g.getD p []) = _
   rw [getD_lt hlt]
  have h2 := twoI_row set B g hg p hlt (occ set g p) _ (fun b' hb' => by have := ih (p + 1) b' (by omega) (by rw [e]; exact hb'); rw [e] at this; exact this) g[p].length 0 b (by omega) (by rw [List.take_zero, show occR set p [] = [] from rfl, List.append_nil]; exact hb)
  rw [List.take_zero, show occR set p [] = [] from rfl, List.append_nil] at h2
  refine Ev.step (fun k => ?_) h2
  simp only [impl_IsTwoSided.l1, rdL_lt hlt]; rw [if_pos (by omega), if_pos (by omega), if_pos (by omega)]; rfl
theorem twoI_l (g : List (List Int)) (hg : GluP g) : ∀ (d s : Nat), s + d = 2 ^ g.length → Ev (fun k => impl_IsTwoSided.l0 k g ((2 ^ g.length : Nat) : Int) s) (decide (TwoFrom g s)) := by
 intro d
 have hp := pow_le16 g.length hg.1.2
 induction d with
 | zero =>
  intro s hs
  rw [decide_eq_false (by rintro ⟨t, h1, h2, _⟩; omega)]
  refine Ev.step (f := fun _ => some false) (fun k => ?_) (Ev.now _)
  simp only [impl_IsTwoSided.l0]; rw [if_neg (by omega)]
 | succ d ih =>
  intro s hs
  have h1 := ih (s + 1) (by omega)
  have h2 := twoI_in (s : Int) ((2 ^ g.length : Nat) : Int) g hg (decide (TwoFrom g (s + 1))) (fun _ => by rw [show wrap64 ((s : Int) + 1) = ((s + 1 : Nat) : Int) from w64s (show s < 17 by omega) (by omega)]; exact h1) g.length 0 true (by omega) (by simp [altB, occ, sgs, alt])
  have e : (if Fine (s : Int) g then true else decide (TwoFrom g (s + 1))) = decide (TwoFrom g s) := by
   split
   ·
    rename_i hf
    exact (decide_eq_true (show TwoFrom g s from ⟨s, Nat.le_refl _, by omega, hf⟩)).symm
   ·
    rename_i hf
    rw [decide_eq_decide]
    constructor
    ·
     rintro ⟨t, h3, h4, h5⟩; exact ⟨t, by omega, h4, h5⟩
    ·
     rintro ⟨t, h3, h4, h5⟩
     rcases Nat.eq_or_lt_of_le h3 with rfl | h6
     ·
      exact absurd h5 hf
     ·
      exact ⟨t, h6, h4, h5⟩
  rw [e, show lastL (occ (s : Int) g 0) = List.replicate 9 0 from lastL_nil] at h2
  refine Ev.step (fun k => ?_) h2
  simp only [impl_IsTwoSided.l0]; rw [if_pos (by omega), if_pos (by omega)]; rfl
theorem twoI_ev (g : List (List Int)) (hg : g.length ≤ 1048576) (hb : g.flatten.length ≤ 1048576) : Ev (fun k => impl_IsTwoSided.f k g) (decide (Two g)) := by
 unfold impl_IsTwoSided.f
 refine Ev.bind (isGluingI_ev g hg hb) ?_
 by_cases h : GluP g
 ·
  rw [decide_eq_true h]
  simp only [if_true]
  have e : decide (Two g) = decide (TwoFrom g 0) := decide_eq_decide.2 ⟨fun h => h.2, fun h' => ⟨h, h'⟩⟩
  rw [e, shl_one g.length h.1.2]
  exact twoI_l g h (2 ^ g.length) 0 (by omega)
 ·
  rw [decide_eq_false h, decide_eq_false (fun h' : Two g => h h'.1)]
  exact Ev.now _
theorem occ_get (set : Int) (g : List (List Int)) : ∀ p, p ≤ g.length → ∀ q i, q < p → i < (Joi.row g q).length → (occ set g p)[Joi.fst g q + i]? = some ((Joi.ltr g q i).natAbs, sg set q (Joi.ltr g q i)) := by
 intro p
 induction p with
 | zero => intro _ q i hq; omega
 | succ p ih =>
  intro hp q i hq hi
  have hlen : (occ set g p).length = Joi.fst g p := by rw [occ_length set g p (by omega), Joi.flat_take_len]
  show (occ set g p ++ occR set p (g.getD p []))[Joi.fst g q + i]? = _
  by_cases e : q < p
  ·
   have h1 := ih (by omega) q i e hi
   have h2 := Joi.fst_mono (g := g) (Nat.le_of_lt (show p < g.length by omega)) (show q + 1 ≤ p by omega)
   rw [Joi.fst_succ (show q < g.length by omega)] at h2
   rw [List.getElem?_append_left (by omega)]
   exact h1
  ·
   obtain rfl : q = p := by omega
   rw [List.getElem?_append_right (by omega), hlen, show Joi.fst g q + i - Joi.fst g q = i by omega]
   unfold occR
   have hrow : g.getD q [] = Joi.row g q := rfl
   rw [List.getElem?_map, hrow, List.getElem?_eq_getElem hi]
   unfold Joi.ltr
   rw [rd_lt hi]
   rfl
theorem sgs_two {L : List (Nat × Int)} {y a b : Nat} {s t : Int} (hab : a < b) (ha : L[a]? = some (y, s)) (hb : L[b]? = some (y, t)) (h2 : (sgs y L).length ≤ 2) : sgs y L = [s, t] := by
 have hal := (List.getElem?_eq_some_iff.1 ha).1
 have hbl := (List.getElem?_eq_some_iff.1 hb).1
 have e1 : L = L.take a ++ ((y, s) :: L.drop (a + 1)) := by
  have := List.drop_eq_getElem_cons hal
  rw [(List.getElem?_eq_some_iff.1 ha).2] at this
  rw [← this, List.take_append_drop]
 have hb' : (L.drop (a + 1))[b - (a + 1)]? = some (y, t) := by rw [List.getElem?_drop, show a + 1 + (b - (a + 1)) = b by omega, hb]
 generalize L.drop (a + 1) = M at *
 generalize b - (a + 1) = c at *
 have hcl := (List.getElem?_eq_some_iff.1 hb').1
 have e2 : M = M.take c ++ ((y, t) :: M.drop (c + 1)) := by
  have := List.drop_eq_getElem_cons hcl
  rw [(List.getElem?_eq_some_iff.1 hb').2] at this
  rw [← this, List.take_append_drop]
 have e3 : sgs y L = sgs y (L.take a) ++ ([s] ++ (sgs y (M.take c) ++ ([t] ++ sgs y (M.drop (c + 1))))) := by
  conv => lhs; rw [e1, e2]
  rw [sgs_append, show ((y, s) :: (M.take c ++ (y, t) :: M.drop (c + 1)) : List (Nat × Int)) = [(y, s)] ++ (M.take c ++ ([(y, t)] ++ M.drop (c + 1))) by simp, sgs_append, sgs_append, sgs_append, sgs_one, sgs_one, if_pos rfl, if_pos rfl]
 rw [e3] at h2 ⊢
 simp only [List.length_append, List.length_singleton] at h2
 have n1 : sgs y (L.take a) = [] := List.length_eq_zero_iff.1 (by omega)
 have n2 : sgs y (M.take c) = [] := List.length_eq_zero_iff.1 (by omega)
 have n3 : sgs y (M.drop (c + 1)) = [] := List.length_eq_zero_iff.1 (by omega)
 rw [n1, n2, n3]
 rfl
theorem ltr_let {g : List (List Int)} (h : GluP g) {p i : Nat} (hs : Joi.Side g p i) : LetP (Joi.ltr g p i) := by
 obtain ⟨hp, hi⟩ := hs
 have hi' : i < g[p].length := by rw [← row_lt hp]; exact hi
 rw [ltr_lt hp hi']
 exact h.let g[p] (List.getElem_mem hp) _ (List.getElem_mem hi')
theorem sg_ne {set : Int} {p q : Nat} {x y : Int} : sg set p x ≠ sg set q y ↔ (decide (0 < x) != tb set p) ≠ (decide (0 < y) != tb set q) := by
 unfold sg
 have e1 : decide (x > 0) = decide (0 < x) := rfl
 have e2 : decide (y > 0) = decide (0 < y) := rfl
 rw [e1, e2]
 cases (decide (0 < x) != tb set p) <;> cases (decide (0 < y) != tb set q) <;> simp
theorem fine_opp {set : Int} {g : List (List Int)} (h : GluP g) : Fine set g ↔ Joi.OppL g (tb set) := by
 have main : ∀ p i q j, Joi.Side g p i → Joi.Side g q j → Joi.cor g p i < Joi.cor g q j → (Joi.ltr g p i).natAbs = (Joi.ltr g q j).natAbs → sgs (Joi.ltr g p i).natAbs (occ set g g.length) = [sg set p (Joi.ltr g p i), sg set q (Joi.ltr g q j)] := by
  intro p i q j hs ht hlt he
  have h1 := occ_get set g g.length (Nat.le_refl _) p i hs.1 hs.2
  have h2 := occ_get set g g.length (Nat.le_refl _) q j ht.1 ht.2
  rw [← he] at h2
  refine sgs_two hlt h1 h2 ?_
  rw [sgs_occ_length _ _ _ _ (Nat.le_refl _), List.take_length]
  have := (ltr_let h hs).abs
  exact h.2.2.2 _ (by omega)
 constructor
 ·
  intro hF p i q j hs ht hne he
  have hl := (ltr_let h hs).abs
  have hF1 := hF (Joi.ltr g p i).natAbs hl.1 (by omega)
  rw [← sg_ne]
  rcases Nat.lt_trichotomy (Joi.cor g p i) (Joi.cor g q j) with hlt | heq | hlt
  ·
   rw [main p i q j hs ht hlt he] at hF1
   simp only [List.length_cons, List.length_nil, List.sum_cons, List.sum_nil] at hF1
   have := sg_one set p (Joi.ltr g p i)
   omega
  ·
   obtain ⟨e1, e2⟩ := Joi.cor_inj hs ht heq
   rcases hne with h | h
   ·
    exact absurd e1 h
   ·
    exact absurd e2 h
  ·
   have hm := main q j p i ht hs hlt he.symm
   rw [← he] at hm
   rw [hm] at hF1
   simp only [List.length_cons, List.length_nil, List.sum_cons, List.sum_nil] at hF1
   have := sg_one set p (Joi.ltr g p i)
   omega
 ·
  intro hO y hy1 hy9
  by_cases hc : (sgs y (occ set g g.length)).length < 2
  ·
   exact .inl hc
  ·
   refine .inr ?_
   rw [sgs_occ_length _ _ _ _ (Nat.le_refl _), List.take_length] at hc
   -- two sides with that letter
   have hcnt : 2 ≤ g.flatten.countP (fun x => x.natAbs == y) := by unfold cnt at hc; omega
   rw [Joi.countP_places _ 0] at hcnt
   have hnd : ((List.range g.flatten.length).filter fun i => ((g.flatten.getD i 0).natAbs == y)).Pairwise (· < ·) := List.pairwise_lt_range.filter _
   have hm : ∀ c, c ∈ ((List.range g.flatten.length).filter fun i => ((g.flatten.getD i 0).natAbs == y)) → c < Joi.sidesN g ∧ (Joi.xF g c).natAbs = y := fun c hc => by
    rw [List.mem_filter, List.mem_range, Joi.sides_flat] at hc
    exact ⟨hc.1, by simpa [Joi.xF] using hc.2⟩
   generalize ((List.range g.flatten.length).filter fun i => ((g.flatten.getD i 0).natAbs == y)) = L at *
   match L, hcnt, hnd, hm with
   | a :: b :: t, _, hnd, hm =>
    obtain ⟨a1, a2⟩ := hm a (by simp)
    obtain ⟨b1, b2⟩ := hm b (by simp)
    have hab : a < b := (List.pairwise_cons.1 hnd).1 b (by simp)
    obtain ⟨p, i, hs, rfl⟩ := Joi.side_of a1
    obtain ⟨q, j, ht, rfl⟩ := Joi.side_of b1
    rw [Joi.xF_cor hs] at a2
    rw [Joi.xF_cor ht] at b2
    have hmm := main p i q j hs ht hab (by omega)
    rw [a2] at hmm
    rw [hmm]
    have hne : p ≠ q ∨ i ≠ j := by
     by_cases e : p = q
     ·
      subst e
      refine .inr fun e2 => ?_
      subst e2
      omega
     ·
      exact .inl e
    have := hO p i q j hs ht hne (by omega)
    rw [← sg_ne] at this
    have s1 := sg_one set p (Joi.ltr g p i)
    have s2 := sg_one set q (Joi.ltr g q j)
    simp only [List.sum_cons, List.sum_nil]
    omega
theorem map_toNat (fs : List Nat) : (fs.map fun y : Nat => (y : Int)).map Int.toNat = fs := by
 induction fs with
 | nil => rfl
 | cons a t ih => rw [List.map_cons, List.map_cons, ih]; rfl
theorem GluP.twice {g : List (List Int)} (h : GluP g) : Joi.Twice g := fun y => by
 by_cases hy : y < 9
 ·
  exact h.2.2.2 y hy
 ·
  have : g.flatten.countP (fun x => x.natAbs == y) = 0 := by
   rw [List.countP_eq_zero]
   intro x hx
   obtain ⟨w, hw, hxw⟩ := List.mem_flatten.1 hx
   have := (h.let w hw x hxw).abs
   simp only [beq_iff_eq]
   omega
  omega
theorem glVals {g : List (List Int)} (h : GluP g) : ∃ es fs : List Nat, Joi.EdgeL g es ∧ Joi.FreeL g fs ∧ es.length ≤ 8 ∧ fs.length ≤ 8 ∧
  Ev (fun k => spec_EulerOf.f k g) (((Joi.vertsN g : Nat) : Int) - (es.length : Int) + (g.length : Int)) ∧ Ev (fun k => impl_EulerOf.f k g) (((Joi.vertsN g : Nat) : Int) - (es.length : Int) + (g.length : Int)) ∧
  Ev (fun k => spec_CountBorders.f k g) ((Joi.bordN g fs : Nat) : Int) ∧ Ev (fun k => impl_CountBorders.f k g) ((Joi.bordN g fs : Nat) : Int) := by
 have hl1 : g.length ≤ 1048576 := by have := h.1.2; omega
 have hl2 : g.flatten.length ≤ 1048576 := by have := h.2.2.1; omega
 have e1 := isGluingS_ev g hl1 hl2
 have e2 := isGluingI_ev g hl1 hl2
 rw [decide_eq_true h] at e1 e2
 obtain ⟨v1, v2⟩ := countVertices_ev g hl1 hl2
 rw [if_pos h] at v1 v2
 obtain ⟨es, hn, h8, _, hm, hS⟩ := edgesL g h
 have r2 := edgesI g h es hS
 have hr : (es.map fun y : Nat => (y : Int)).length = es.length := List.length_map _
 have hv := verts_le g h
 obtain ⟨fs, fn, hoc, fm, fS, fI⟩ := freesL g h
 obtain ⟨up, hup, hlen, hUF⟩ := ends_ev g h
 refine ⟨es, fs, ⟨hn, hm⟩, ⟨fn, fun y => ?_⟩, h8, hoc.1, ?_, ?_, ?_, ?_⟩
 ·
  rw [fm]
  constructor
  ·
   exact fun hy => hy.2
  ·
   intro hy
   refine ⟨?_, hy⟩
   by_cases h9 : y < 9
   ·
    exact h9
   ·
    exfalso
    have : g.flatten.countP (fun x => x.natAbs == y) = 0 := by
     rw [List.countP_eq_zero]
     intro x hx
     obtain ⟨w, hw, hxw⟩ := List.mem_flatten.1 hx
     have := (h.let w hw x hxw).abs
     simp only [beq_iff_eq]
     omega
    omega
 ·
  unfold spec_EulerOf.f
  refine Ev.bind e1 (Ev.congr (fun k => if_pos rfl) (Ev.bind v1 (Ev.bind hS ?_)))
  rw [hr, w64 (x := ((Joi.vertsN g : Nat) : Int) - (es.length : Int)) (by omega) (by omega), w64 (by omega) (by omega)]
  exact Ev.now _
 ·
  unfold impl_EulerOf.f
  refine Ev.bind e2 (Ev.congr (fun k => if_pos rfl) (Ev.bind v2 (Ev.bind r2 ?_)))
  rw [if_pos ⟨by omega, by omega, hl1⟩, hr]
  exact Ev.now _
 ·
  unfold spec_CountBorders.f
  have hmm := map_toNat fs
  refine Ev.bind e1 (Ev.congr (fun k => if_pos rfl) (Ev.bind fS (Ev.bind hup ?_)))
  rw [if_pos ⟨⟨h.cor.1, hlen, hUF⟩, fs, rfl, hoc⟩, hmm]
  exact Ev.now _
 ·
  unfold impl_CountBorders.f
  have hmm := map_toNat fs
  refine Ev.bind e2 (Ev.congr (fun k => if_pos rfl) (Ev.bind fI ?_))
  rw [if_pos ⟨h.cor, fs, rfl, hoc⟩, hmm]
  exact Ev.now _
theorem signsS_row (set : Int) (y : Nat) (g : List (List Int)) (hg : GluP g) (p : Nat) (hp : p < g.length) (pre : List (Nat × Int)) (hpre : pre.length ≤ 20) (hpm : ∀ s ∈ sgs y pre, s = 1 ∨ s = -1) (r : Int)
  (h : Ev (fun k => spec_l3Signs.l0 k g set y (sgs y (pre ++ occR set p g[p])).sum ((sgs y (pre ++ occR set p g[p])).length : Nat) ((p + 1 : Nat) : Int)) r) :
  ∀ (d i : Nat), i + d = g[p].length → Ev (fun k => spec_l3Signs.l1 k g set y (sgs y (pre ++ occR set p (g[p].take i))).sum ((sgs y (pre ++ occR set p (g[p].take i))).length : Nat) p i) r := by
 intro d
 have hl := hg.let g[p] (List.getElem_mem hp)
 have h4 := hg.1.2
 have h24 := (hg.2.1 g[p] (List.getElem_mem hp)).2.2
 induction d with
 | zero =>
  intro i hi
  rw [List.take_of_length_le (by omega)]
  refine Ev.step (fun k => ?_) h
  simp only [spec_l3Signs.l1, rdL_lt hp]
  rw [if_pos (by omega), if_pos (by omega), if_neg (by omega), w64s hp (by omega)]
 | succ d ih =>
  intro i hi
  have hlt : i < g[p].length := by omega
  have hx := hl g[p][i] (List.getElem_mem hlt)
  have h1 := ih (i + 1) (by omega)
  have eo : occR set p (g[p].take (i + 1)) = occR set p (g[p].take i) ++ [(g[p][i].natAbs, sg set p g[p][i])] := occR_snoc set p g[p] i hlt
  have hlen : (sgs y (pre ++ occR set p (g[p].take i))).length ≤ 44 := by
   have := sgs_length_le y (pre ++ occR set p (g[p].take i))
   rw [List.length_append, occR_length, List.length_take] at this
   omega
  have hpm' : ∀ s ∈ sgs y (pre ++ occR set p (g[p].take i)), s = 1 ∨ s = -1 := by
   intro s hs
   rw [sgs_append] at hs
   rcases List.mem_append.1 hs with hs | hs
   ·
    exact hpm s hs
   ·
    unfold sgs occR at hs
    obtain ⟨q, hq, rfl⟩ := List.mem_map.1 hs
    obtain ⟨x, _, rfl⟩ := List.mem_map.1 (List.mem_filter.1 hq).1
    exact sg_one _ _ _
  have hsum := sum_pm _ hpm'
  rw [eo, ← List.append_assoc, sgs_append, sgs_one] at h1
  generalize sgs y (pre ++ occR set p (g[p].take i)) = l at h1 hlen hpm' hsum ⊢
  have hu := u64nat p (by omega)
  have c1 : (0 : Int) ≤ (p : Int) := by omega
  have c2 : (p : Int) < (g.length : Int) := by omega
  have c3 : (i : Int) < (g[p].length : Int) := by omega
  have c4 : (0 : Int) ≤ (i : Int) := by omega
  have c5 := w64s hlt (show g[p].length ≤ 9223372036854775807 by omega)
  have e2 : wrap64 ((l.length : Int) + 1) = ((l.length + (0 + 1) : Nat) : Int) := w64s (show l.length < 45 by omega) (by omega)
  obtain ⟨S, hS⟩ : ∃ S, l.sum = S := ⟨_, rfl⟩
  rw [hS] at hsum
  have e3 : wrap64 (S + 1) = S + (1 + 0) := w64 (by omega) (by omega)
  have e4 : wrap64 (S - 1) = S + (-1 + 0) := w64 (by omega) (by omega)
  rw [hS]
  clear hpre hpm h hl h4 h24 ih hlen hpm' hsum eo hi hg
  by_cases hy : g[p][i].natAbs = y
  ·
   rw [if_pos hy, List.sum_append, List.length_append, hS] at h1
   simp only [List.sum_cons, List.sum_nil, List.length_cons, List.length_nil] at h1
   have hy' : ((g[p][i].natAbs : Nat) : Int) = (y : Int) := by omega
   by_cases hc : (decide (g[p][i] > 0) != (Go.bits .and .i64 (shr .i64 set (p : Int)) 1 == 1)) = true
   ·
    rw [sg_pos hc] at h1
    refine Ev.step (fun k => ?_) h1
    simp only [spec_l3Signs.l1, rdL_lt hp, rd_lt hlt, l3Abs_eq hx, Option.bind_some, hu]
    rw [if_pos c1, if_pos c2, if_pos c3, if_pos c4, if_pos hy', if_pos c1, if_pos hc, e3, e2, c5]
   ·
    rw [sg_neg hc] at h1
    refine Ev.step (fun k => ?_) h1
    simp only [spec_l3Signs.l1, rdL_lt hp, rd_lt hlt, l3Abs_eq hx, Option.bind_some, hu]
    rw [if_pos c1, if_pos c2, if_pos c3, if_pos c4, if_pos hy', if_pos c1, if_neg hc, e4, e2, c5]
  ·
   rw [if_neg hy, List.append_nil, hS] at h1
   have hy' : ¬ ((g[p][i].natAbs : Nat) : Int) = (y : Int) := by omega
   refine Ev.step (fun k => ?_) h1
   simp only [spec_l3Signs.l1, rdL_lt hp, rd_lt hlt, l3Abs_eq hx, Option.bind_some]
   rw [if_pos c1, if_pos c2, if_pos c3, if_pos c4, if_neg hy', c5]
theorem signsS_l (set : Int) (y : Nat) (g : List (List Int)) (hg : GluP g) : ∀ (d p : Nat), p + d = g.length → Ev (fun k => spec_l3Signs.l0 k g set y (sgs y (occ set g p)).sum ((sgs y (occ set g p)).length : Nat) p) (sgnV set g y) := by
 intro d
 induction d with
 | zero =>
  intro p hp
  have hpe : p = g.length := by omega
  subst hpe
  refine Ev.step (f := fun _ => some (sgnV set g y)) (fun k => ?_) (Ev.now _)
  simp only [spec_l3Signs.l0]
  rw [if_neg (by omega)]
  unfold sgnV
  split
  ·
   rw [if_pos (by omega)]
  ·
   rw [if_neg (by omega)]
 | succ d ih =>
  intro p hp
  have hlt : p < g.length := by omega
  have h1 := ih (p + 1) (by omega)
  have e : occ set g (p + 1) = occ set g p ++ occR set p g[p] := by
   show occ set g p ++ occR set p (g.getD p []) = _
   rw [getD_lt hlt]
  rw [e] at h1
  have h2 := signsS_row set y g hg p hlt (occ set g p) (by rw [occ_length set g p (by omega)]; have := flat_take_len g p; have := hg.2.2.1; omega) (fun s hs => sgs_pm hs) _ h1 g[p].length 0 (by omega)
  rw [List.take_zero, show occR set p [] = [] from rfl, List.append_nil] at h2
  refine Ev.step (fun k => ?_) h2
  simp only [spec_l3Signs.l0]; rw [if_pos (by omega)]; rfl
theorem signsS_ev (set : Int) (y : Nat) (g : List (List Int)) (hg : GluP g) : Ev (fun k => spec_l3Signs.f k g set y) (sgnV set g y) :=
 signsS_l set y g hg g.length 0 (by omega)
theorem twoS_in (set : Int) (g : List (List Int)) (hg : GluP g) (r : Bool) (hn : ¬ Fine set g → Ev (fun k => spec_IsTwoSided.l0 k g (wrap64 (set + 1))) r) : ∀ (d y : Nat) (b : Bool), y + d = 9 → 1 ≤ y → (b = true ↔ ∀ z, 1 ≤ z → z < y → sgnV set g z = 0) → Ev (fun k => spec_IsTwoSided.l1 k g set b y) (if Fine set g then true else r) := by
 intro d
 induction d with
 | zero =>
  intro y b hy h1 hb
  have hf : b = true ↔ Fine set g := by
   rw [hb]
   unfold Fine
   constructor
   ·
    intro h z hz1 hz2; exact (sgnV_zero set g z).1 (h z hz1 (by omega))
   ·
    intro h z hz1 hz2; exact (sgnV_zero set g z).2 (h z hz1 (by omega))
  by_cases hF : Fine set g
  ·
   rw [if_pos hF]
   refine Ev.step (f := fun _ => some true) (fun k => ?_) (Ev.now _)
   simp only [spec_IsTwoSided.l1]; rw [if_neg (by omega), if_pos (hf.2 hF)]
  ·
   rw [if_neg hF]
   refine Ev.step (fun k => ?_) (hn hF)
   simp only [spec_IsTwoSided.l1]; rw [if_neg (by omega), if_neg (fun h => hF (hf.1 h))]
 | succ d ih =>
  intro y b hy h1 hb
  cases b with
  | true =>
   have hb' := hb.1 rfl
   refine Ev.step (f := fun k => (spec_l3Signs.f k g set y).bind fun t => spec_IsTwoSided.l1 k g set (t == 0) ((y + 1 : Nat) : Int)) (fun k => ?_) (Ev.bind (signsS_ev set y g hg) (ih (y + 1) (sgnV set g y == 0) (by omega) (by omega) ?_))
   ·
    simp only [spec_IsTwoSided.l1]; rw [if_pos (by omega), if_pos trivial, w64s (show y < 9 by omega) (by omega)]
   ·
    rw [beq_iff_eq]
    constructor
    ·
     intro h z hz1 hz2
     rcases Nat.lt_or_ge z y with hz | hz
     ·
      exact hb' z hz1 hz
     ·
      rw [show z = y by omega]; exact h
    ·
     intro h; exact h y h1 (by omega)
  | false =>
   refine Ev.step (fun k => ?_) (ih (y + 1) false (by omega) (by omega) ?_)
   ·
    simp only [spec_IsTwoSided.l1]; rw [if_pos (by omega), if_neg (by simp), w64s (show y < 9 by omega) (by omega)]
   ·
    constructor
    ·
     intro h; cases h
    ·
     intro h; exact hb.2 fun z hz1 hz2 => h z hz1 (by omega)
theorem twoS_l (g : List (List Int)) (hg : GluP g) : ∀ (d s : Nat), s + d = 2 ^ g.length → Ev (fun k => spec_IsTwoSided.l0 k g s) (decide (TwoFrom g s)) := by
 intro d
 have hp := pow_le16 g.length hg.1.2
 have hsh := shl_one g.length hg.1.2
 have hu := u64nat g.length (by have := hg.1.2; omega)
 induction d with
 | zero =>
  intro s hs
  rw [decide_eq_false (by rintro ⟨t, h1, h2, _⟩; omega)]
  refine Ev.step (f := fun _ => some false) (fun k => ?_) (Ev.now _)
  simp only [spec_IsTwoSided.l0, hu, hsh]; rw [if_pos (by omega), if_neg (by omega)]
 | succ d ih =>
  intro s hs
  have h1 := ih (s + 1) (by omega)
  have h2 := twoS_in (s : Int) g hg (decide (TwoFrom g (s + 1))) (fun _ => by rw [show wrap64 ((s : Int) + 1) = ((s + 1 : Nat) : Int) from w64s (show s < 17 by omega) (by omega)]; exact h1) 8 1 true (by omega) (by omega) (by simp; omega)
  have e : (if Fine (s : Int) g then true else decide (TwoFrom g (s + 1))) = decide (TwoFrom g s) := by
   split
   ·
    rename_i hf
    exact (decide_eq_true (show TwoFrom g s from ⟨s, Nat.le_refl _, by omega, hf⟩)).symm
   ·
    rename_i hf
    rw [decide_eq_decide]
    constructor
    ·
     rintro ⟨t, h3, h4, h5⟩; exact ⟨t, by omega, h4, h5⟩
    ·
     rintro ⟨t, h3, h4, h5⟩
     rcases Nat.eq_or_lt_of_le h3 with rfl | h6
     ·
      exact absurd h5 hf
     ·
      exact ⟨t, h6, h4, h5⟩
  rw [e] at h2
  refine Ev.step (fun k => ?_) h2
  simp only [spec_IsTwoSided.l0, hu, hsh]; rw [if_pos (by omega), if_pos (by omega)]; rfl
theorem twoS_ev (g : List (List Int)) (hg : g.length ≤ 1048576) (hb : g.flatten.length ≤ 1048576) : Ev (fun k => spec_IsTwoSided.f k g) (decide (Two g)) := by
 unfold spec_IsTwoSided.f
 refine Ev.bind (isGluingS_ev g hg hb) ?_
 by_cases h : GluP g
 ·
  rw [decide_eq_true h]
  simp only [if_true]
  have e : decide (Two g) = decide (TwoFrom g 0) := decide_eq_decide.2 ⟨fun h => h.2, fun h' => ⟨h, h'⟩⟩
  rw [e]
  exact twoS_l g h (2 ^ g.length) 0 (by omega)
 ·
  rw [decide_eq_false h, decide_eq_false (fun h' : Two g => h h'.1)]
  exact Ev.now _
theorem edgeLetters_ev (g : List (List Int)) (hg : g.length ≤ 1048576) (hb : g.flatten.length ≤ 1048576) : ∃ r : List Int, r.length ≤ 1048576 ∧ Ev (fun k => spec_EdgeLetters.f k g) r ∧ Ev (fun k => impl_EdgeLetters.f k g) r := by
 have e1 := isGluingS_ev g hg hb
 have e2 := isGluingI_ev g hg hb
 unfold spec_EdgeLetters.f impl_EdgeLetters.f
 by_cases h : GluP g
 case neg =>
  rw [decide_eq_false h] at e1 e2
  exact ⟨[], by simp, Ev.bind e1 (Ev.now _), Ev.bind e2 (Ev.now _)⟩
 rw [decide_eq_true h] at e1 e2
 have u1 := usesS_ev g hg h.let hb
 have u2 := usesI_ev g hg h.let hb
 have hz := zero_rd h
 have hle := two_rd h
 generalize hU : usesL g.flatten = u at *
 have hu : u.length = 9 := by rw [← hU]; exact usesL_length _
 have hq : pickL (fun n => decide (n > 0)) u 9 0 = pickL (fun n => decide (1 ≤ n ∧ n ≤ 2)) u 8 1 := by
  rw [pickL, hz, if_neg (by decide)]
  refine pickL_congr _ _ u 8 1 (fun j h1 h2 => ?_)
  have := hle j (by omega)
  rw [decide_eq_decide]
  omega
 have i1 := lettersS_l 2 u (by omega) 8 1 [] (by omega) (by simp)
 have i2 := edgeI_l u (by omega) 9 0 [] (by omega) (by simp)
 rw [hq] at i2
 refine ⟨pickL (fun n => decide (1 ≤ n ∧ n ≤ 2)) u 8 1, by have := pickL_len (fun n => decide (1 ≤ n ∧ n ≤ 2)) u 8 1; omega, Ev.bind e1 ?_, Ev.bind e2 ?_⟩
 ·
  simp only [if_true]
  refine Ev.bind (r := pickL (fun n => decide (1 ≤ n ∧ n ≤ 2)) u 8 1) (a := pickL (fun n => decide (1 ≤ n ∧ n ≤ 2)) u 8 1) ?_ (Ev.now _)
  unfold spec_l3Letters.f
  exact Ev.bind u1 (by simpa using i1)
 ·
  simp only [if_true]
  exact Ev.bind u2 (by simpa using i2)
theorem freeLetters_ev (g : List (List Int)) (hg : g.length ≤ 1048576) (hb : g.flatten.length ≤ 1048576) : ∃ r : List Int, r.length ≤ 1048576 ∧ Ev (fun k => spec_FreeLetters.f k g) r ∧ Ev (fun k => impl_FreeLetters.f k g) r := by
 have e1 := isGluingS_ev g hg hb
 have e2 := isGluingI_ev g hg hb
 unfold spec_FreeLetters.f impl_FreeLetters.f
 by_cases h : GluP g
 case neg =>
  rw [decide_eq_false h] at e1 e2
  exact ⟨[], by simp, Ev.bind e1 (Ev.now _), Ev.bind e2 (Ev.now _)⟩
 rw [decide_eq_true h] at e1 e2
 have u1 := usesS_ev g hg h.let hb
 have u2 := usesI_ev g hg h.let hb
 have hz := zero_rd h
 generalize hU : usesL g.flatten = u at *
 have hu : u.length = 9 := by rw [← hU]; exact usesL_length _
 have hq : pickL (fun n => decide (n = 1)) u 9 0 = pickL (fun n => decide (1 ≤ n ∧ n ≤ 1)) u 8 1 := by
  rw [pickL, hz, if_neg (by decide)]
  refine pickL_congr _ _ u 8 1 (fun j h1 h2 => ?_)
  rw [decide_eq_decide]
  omega
 have i1 := lettersS_l 1 u (by omega) 8 1 [] (by omega) (by simp)
 have i2 := freeI_l u (by omega) 9 0 [] (by omega) (by simp)
 rw [hq] at i2
 refine ⟨pickL (fun n => decide (1 ≤ n ∧ n ≤ 1)) u 8 1, by have := pickL_len (fun n => decide (1 ≤ n ∧ n ≤ 1)) u 8 1; omega, Ev.bind e1 ?_, Ev.bind e2 ?_⟩
 ·
  simp only [if_true]
  refine Ev.bind (r := pickL (fun n => decide (1 ≤ n ∧ n ≤ 1)) u 8 1) (a := pickL (fun n => decide (1 ≤ n ∧ n ≤ 1)) u 8 1) ?_ (Ev.now _)
  unfold spec_l3Letters.f
  exact Ev.bind u1 (by simpa using i1)
 ·
  simp only [if_true]
  exact Ev.bind u2 (by simpa using i2)
theorem sameL_l (a b : List Int) (hab : a.length = b.length) (hl : a.length ≤ 1048576) : ∀ (d i : Nat), i + d = a.length → Ev (fun k => laws_sameInts.l0 k a b i) (decide (a.drop i = b.drop i)) := by
 intro d
 induction d with
 | zero =>
  intro i hi
  have e : decide (a.drop i = b.drop i) = true := decide_eq_true (by rw [List.drop_of_length_le (by omega), List.drop_of_length_le (by omega)])
  rw [e]
  refine Ev.step (f := fun _ => some true) (fun k => ?_) (Ev.now _)
  simp only [laws_sameInts.l0]; rw [if_neg (by omega)]
 | succ d ih =>
  intro i hi
  have hlt : i < a.length := by omega
  have hlt2 : i < b.length := by omega
  have ea : a.drop i = a[i] :: a.drop (i + 1) := List.drop_eq_getElem_cons hlt
  have eb : b.drop i = b[i] :: b.drop (i + 1) := List.drop_eq_getElem_cons hlt2
  by_cases h : a[i] = b[i]
  ·
   have h1 := ih (i + 1) (by omega)
   have e : decide (a.drop i = b.drop i) = decide (a.drop (i + 1) = b.drop (i + 1)) := by
    rw [decide_eq_decide, ea, eb, h, List.cons.injEq]
    exact ⟨fun x => x.2, fun x => ⟨rfl, x⟩⟩
   rw [e]
   refine Ev.step (fun k => ?_) h1
   simp only [laws_sameInts.l0, rd_lt hlt, rd_lt hlt2]
   rw [if_pos (by omega), if_pos (by omega), if_pos (by omega), if_pos h, w64s hlt (by omega)]
  ·
   have e : decide (a.drop i = b.drop i) = false := decide_eq_false (by rw [ea, eb, List.cons.injEq]; exact fun x => h x.1)
   rw [e]
   refine Ev.step (f := fun _ => some false) (fun k => ?_) (Ev.now _)
   simp only [laws_sameInts.l0, rd_lt hlt, rd_lt hlt2]
   rw [if_pos (by omega), if_pos (by omega), if_pos (by omega), if_neg h]
theorem sameL_ev (a b : List Int) (hl : a.length ≤ 1048576) : Ev (fun k => laws_sameInts.f k a b) (decide (a = b)) := by
 unfold laws_sameInts.f
 by_cases h : a.length = b.length
 ·
  have := sameL_l a b h hl a.length 0 (by omega)
  rw [List.drop_zero, List.drop_zero] at this
  exact Ev.congr (fun k => if_pos (by omega)) this
 ·
  have e : decide (a = b) = false := decide_eq_false (fun x => h (by rw [x]))
  rw [e]
  refine Ev.congr (fun k => if_neg (by omega)) (Ev.now _)
theorem sameL_same (a : List Int) (hl : a.length ≤ 1048576) : Ev (fun k => laws_sameInts.f k a a) true := by
 have := sameL_ev a a hl
 rwa [decide_eq_true rfl] at this
theorem sameLs_l (a : List (List Int)) (hl : bulk a ≤ 1048576) : ∀ (d i : Nat), i + d = a.length → Ev (fun k => laws_sameLists.l0 k a a i) true := by
 intro d
 induction d with
 | zero =>
  intro i hi
  refine Ev.step (f := fun _ => some true) (fun k => ?_) (Ev.now _)
  simp only [laws_sameLists.l0]; rw [if_neg (by omega)]
 | succ d ih =>
  intro i hi
  have hlt : i < a.length := by omega
  have hb : a[i].length ≤ 1048576 := by have := len_le_sum (List.getElem_mem hlt); unfold bulk at hl; omega
  have hal : a.length ≤ 1048576 := by unfold bulk at hl; omega
  have h1 := ih (i + 1) (by omega)
  refine Ev.step (f := fun k => (laws_sameInts.f k a[i] a[i]).bind fun t => if t = true then laws_sameLists.l0 k a a ((i + 1 : Nat) : Int) else some false) (fun k => ?_) (Ev.bind (sameL_same _ hb) (Ev.congr (fun _ => if_pos rfl) h1))
  simp only [laws_sameLists.l0, rdL_lt hlt]
  rw [if_pos (by omega), if_pos (by omega), if_pos (by omega), w64s hlt (by omega)]
theorem sameLs (a : List (List Int)) (hl : bulk a ≤ 1048576) : Ev (fun k => laws_sameLists.f k a a) true := by
 unfold laws_sameLists.f
 exact Ev.congr (fun k => if_pos rfl) (sameLs_l a hl a.length 0 (by omega))
theorem Ev.pos {α : Type} {c : Prop} [Decidable c] {f g : Nat → Option α} {r : α} (hc : c) (h : Ev f r) : Ev (fun k => if c then f k else g k) r := Ev.congr (fun _ => if_pos hc) h
theorem Ev.neg {α : Type} {c : Prop} [Decidable c] {f g : Nat → Option α} {r : α} (hc : ¬ c) (h : Ev g r) : Ev (fun k => if c then f k else g k) r := Ev.congr (fun _ => if_neg hc) h
theorem bne_no (b : Bool) : ¬ ((b != b) = true) := by cases b <;> decide
theorem and255 (x : Int) : 0 ≤ Go.bits .and .i64 x 255 ∧ Go.bits .and .i64 x 255 ≤ 255 := by
 have h : ∃ n : Nat, n ≤ 255 ∧ Go.bits .and .i64 x 255 = IntKind.i64.wrap (n : Int) := by
  refine ⟨(BitVec.ofInt IntKind.i64.bits x &&& BitVec.ofInt IntKind.i64.bits 255).toNat, ?_, rfl⟩
  rw [BitVec.toNat_and]
  exact Nat.le_trans Nat.and_le_right (by decide)
 obtain ⟨n, hn, e⟩ := h
 rw [e, i64_w, w64 (by omega) (by omega)]
 omega
theorem byte_ok (b : List Int) (hb : b.length ≤ 1048576) (i h : Int) (hi : 0 ≤ i) : ∃ x i' h' : Int, spec_l1Byte.f b i h = some (x, i', h') ∧ 0 ≤ x ∧ x ≤ 255 ∧ 0 ≤ i' := by
 unfold spec_l1Byte.f
 by_cases c : i < (b.length : Int)
 ·
  rw [if_pos c, if_pos hi]
  refine ⟨_, _, _, rfl, (and255 _).1, (and255 _).2, ?_⟩
  rw [w64 (by omega) (by omega)]
  omega
 ·
  rw [if_neg c]
  exact ⟨_, _, _, rfl, (and255 _).1, (and255 _).2, hi⟩
theorem below_ok (b : List Int) (hb : b.length ≤ 1048576) (i h n : Int) (hi : 0 ≤ i) (hn : 0 < n) (hn2 : n ≤ 256) : ∃ x i' h' : Int, spec_l1Below.f b i h n = some (x, i', h') ∧ 0 ≤ x ∧ x < n ∧ 0 ≤ i' := by
 obtain ⟨x, i', h', e, h0, h1, h2⟩ := byte_ok b hb i h hi
 unfold spec_l1Below.f
 rw [if_neg (by omega), if_pos hn2, e, Option.bind_some, if_neg (by omega)]
 refine ⟨_, _, _, rfl, ?_, ?_, h2⟩
 ·
  have := Int.tmod_nonneg n h0; exact this
 ·
  exact Int.tmod_lt_of_pos x hn
theorem new_l (l : List Int) (hl : l.length ≤ 1048576) : ∀ (d i : Nat) (x : Int), i + d = l.length → ∃ h : Int, Ev (fun k => spec_l1New.l0 k l x i) (l, 0, h) := by
 intro d
 induction d with
 | zero =>
  intro i x hi
  refine ⟨x, Ev.step (f := fun _ => some (l, 0, x)) (fun k => ?_) (Ev.now _)⟩
  simp only [spec_l1New.l0]; rw [if_neg (by omega)]
 | succ d ih =>
  intro i x hi
  have hlt : i < l.length := by omega
  by_cases c : (i : Int) < 4000
  ·
   obtain ⟨h, hh⟩ := ih (i + 1) (Go.bits .and .i64 (wrap64 ((wrap64 ((wrap64 (x * 131)) + (wrap64 (rd l i)))) + 7)) 1073741823) (by omega)
   refine ⟨h, Ev.step (fun k => ?_) hh⟩
   simp only [spec_l1New.l0]
   rw [if_pos (by omega), if_pos c, if_pos (by omega), w64s hlt (by omega)]
  ·
   refine ⟨x, Ev.step (f := fun _ => some (l, 0, x)) (fun k => ?_) (Ev.now _)⟩
   simp only [spec_l1New.l0]; rw [if_pos (by omega), if_neg c]
theorem new_ok (l : List Int) (hl : l.length ≤ 1048576) : ∃ h : Int, Ev (fun k => spec_l1New.f k l) (l, 0, h) := new_l l hl l.length 0 _ (by omega)
theorem big_eq (l : List Int) : laws_big.f l = some (decide ((l.length : Int) > 1048576)) := rfl
theorem once_ok (b : List Int) (hb : b.length ≤ 1048576) (i h n : Int) (hi : 0 ≤ i) (hn : 0 < n) (hn2 : n ≤ 256) : ∃ (x : Bool) (i' h' : Int), spec_l1Once.f b i h n = some (x, i', h') ∧ 0 ≤ i' := by
 obtain ⟨x, i', h', e, _, _, h2⟩ := below_ok b hb i h n hi hn hn2
 unfold spec_l1Once.f
 rw [e, Option.bind_some]
 exact ⟨_, _, _, rfl, h2⟩
theorem pick_ok (b : List Int) (hb : b.length ≤ 1048576) (i h : Int) (hi : 0 ≤ i) (l : List ByteArray) (hn : 0 < l.length) (hn2 : l.length ≤ 256) : ∃ (s : ByteArray) (i' h' : Int), spec_l1Pick.f b i h l = some (s, i', h') ∧ s ∈ l ∧ 0 ≤ i' := by
 obtain ⟨x, i', h', e, h0, h1, h2⟩ := below_ok b hb i h l.length hi (by omega) (by omega)
 unfold spec_l1Pick.f
 rw [e, Option.bind_some, if_pos h0, if_pos h1]
 obtain ⟨n, rfl⟩ := Int.eq_ofNat_of_zero_le h0
 have hn : n < l.length := by omega
 exact ⟨_, _, _, rfl, by rw [show ((n : Nat) : Int) = (n : Int) from rfl, rdOf_lt hn]; exact List.getElem_mem hn, h2⟩
theorem turned_ok (b : List Int) (hb : b.length ≤ 1048576) (i h : Int) (hi : 0 ≤ i) (s : ByteArray) (hs : s.size ≤ 200) (l : List ByteArray) (hn : 0 < l.length) (hn2 : l.length ≤ 256) (hz : ∀ x ∈ l, x.size ≤ 1) :
  ∃ (t : ByteArray) (i' h' : Int), spec_l1Turned.f b i h s l = some (t, i', h') ∧ t.size ≤ 201 := by
 have w1 : wrap64 ((s.size : Int) + 1) = (s.size : Int) + 1 := w64 (by omega) (by omega)
 obtain ⟨x, i1, g1, e1, a1, a2, a3⟩ := below_ok b hb i h ((s.size : Int) + 1) hi (by omega) (by omega)
 obtain ⟨y, i2, g2, e2, b1, b2, b3⟩ := below_ok b hb i1 g1 6 a3 (by omega) (by omega)
 obtain ⟨c, i3, g3, e3, hc, c3⟩ := pick_ok b hb i2 g2 b3 l hn hn2
 have hcz := hz c hc
 have z1 : (s.extract 0 x.toNat).size = x.toNat := by rw [ByteArray.size_extract]; omega
 have z2 : (s.extract x.toNat s.size).size = s.size - x.toNat := by rw [ByteArray.size_extract]; omega
 unfold spec_l1Turned.f
 rw [w1, e1, Option.bind_some]
 dsimp only
 rw [e2, Option.bind_some]
 dsimp only
 by_cases y0 : y = 0
 ·
  rw [if_pos y0, if_pos a1, if_pos (by omega), e3, Option.bind_some]
  dsimp only
  rw [if_pos (by rw [z1]; omega), if_pos (by rw [ByteArray.size_append, z1, z2]; omega)]
  exact ⟨_, _, _, rfl, by rw [ByteArray.size_append, ByteArray.size_append, z1, z2]; omega⟩
 ·
  rw [if_neg y0]
  by_cases y1 : y = 1
  ·
   rw [if_pos y1, if_pos a1, if_pos (by omega)]
   exact ⟨_, _, _, rfl, by rw [z1]; omega⟩
  ·
   rw [if_neg y1]
   exact ⟨_, _, _, rfl, by omega⟩
theorem gtx_size {g : List (List Int)} (h : GluP g) : (gtx g).size ≤ 100 := by
 have hb := bulk_txt g h
 have h1 := join_len_le ((g.map txt).map (·.data.toList)) sp.data.toList
 rw [lensS, List.length_map, List.length_map] at h1
 unfold bulkS at hb
 rw [List.length_map] at hb
 have h2 : sp.data.toList.length = 1 := rfl
 rw [h2] at h1
 have h3 : (gtx g).size = (Lib.join ((g.map txt).map (·.data.toList)) sp.data.toList).length := by
  unfold gtx jl
  rfl
 omega
theorem emptyGl : pgl (parts (⟨#[]⟩ : ByteArray) 32 (⟨#[]⟩ : ByteArray).size 0 0) [] = ([], false) := by
 have e : parts (⟨#[]⟩ : ByteArray) 32 (⟨#[]⟩ : ByteArray).size 0 0 = [(⟨#[]⟩ : ByteArray)] := rfl
 have e2 : parseM (⟨#[]⟩ : ByteArray) = ([], false) := by
  unfold parseM
  rw [if_neg (by rw [ByteArray.toList_eq]; decide)]
  rfl
 rw [e]
 unfold pgl
 rw [e2, if_neg Bool.false_ne_true]
theorem K_pos {α : Type} (R : α → α → Prop) : ∀ l : List α, l ≠ [] → 1 ≤ Kl.K R l := by
 intro l
 induction l with
 | nil => exact fun h => (h rfl).elim
 | cons a t ih =>
  intro _
  cases t with
  | nil =>
   unfold Kl.K
   rw [if_neg (by rintro ⟨b, hb, _⟩; cases hb)]
   omega
  | cons b t =>
   have := ih (by simp)
   unfold Kl.K
   omega
theorem bord_zero (g : List (List Int)) (fs : List Nat) : Joi.bordN g fs = 0 ↔ fs = [] := by
 constructor
 ·
  intro h
  by_cases e : fs = []
  ·
   exact e
  ·
   exfalso
   have h1 : List.range fs.length ≠ [] := by
    intro e2
    have := congrArg List.length e2
    rw [List.length_range] at this
    exact e (List.length_eq_zero_iff.1 this)
   have := K_pos (Joi.EG (Joi.Tch g fs)) _ h1
   unfold Joi.bordN at h
   omega
 ·
  intro h
  subst h
  have := Joi.bordN_le g []
  simp at this
  exact this
theorem free_same {g : List (List Int)} {fs gs : List Nat} (hf : Joi.FreeL g fs) (hg : ∀ y, y ∈ gs ↔ y < 9 ∧ cnt g.flatten y = 1) (h : GluP g) : fs = [] ↔ gs = [] := by
 have hm : ∀ y, y ∈ fs ↔ y ∈ gs := fun y => by
  rw [hf.2, hg]
  constructor
  ·
   intro hy
   refine ⟨?_, hy⟩
   by_cases h9 : y < 9
   ·
    exact h9
   ·
    exfalso
    have : g.flatten.countP (fun x => x.natAbs == y) = 0 := by
     rw [List.countP_eq_zero]
     intro x hx
     obtain ⟨w, hw, hxw⟩ := List.mem_flatten.1 hx
     have := (h.let w hw x hxw).abs
     simp only [beq_iff_eq]
     omega
    omega
  ·
   exact fun hy => hy.2
 constructor
 ·
  intro e
  exact List.eq_nil_iff_forall_not_mem.2 fun y hy => by have := (hm y).2 hy; rw [e] at this; cases this
 ·
  intro e
  exact List.eq_nil_iff_forall_not_mem.2 fun y hy => by have := (hm y).1 hy; rw [e] at this; cases this
theorem pickInt_ok (b : List Int) (hb : b.length ≤ 1048576) (i h : Int) (hi : 0 ≤ i) (l : List Int) (hn : 0 < l.length) (hn2 : l.length ≤ 256) : ∃ (s i' h' : Int), spec_l1PickInt.f b i h l = some (s, i', h') ∧ s ∈ l ∧ 0 ≤ i' := by
 obtain ⟨x, i', h', e, h0, h1, h2⟩ := below_ok b hb i h l.length hi (by omega) (by omega)
 unfold spec_l1PickInt.f
 rw [e, Option.bind_some, if_pos h0, if_pos h1]
 obtain ⟨n, rfl⟩ := Int.eq_ofNat_of_zero_le h0
 have hn : n < l.length := by omega
 exact ⟨_, _, _, rfl, by rw [show ((n : Nat) : Int) = (n : Int) from rfl, rd_lt hn]; exact List.getElem_mem hn, h2⟩
theorem sum_set_len : ∀ (l : List (List Int)) (p : Nat) (h : p < l.length) (w : List Int), ((l.set p w).map List.length).sum + l[p].length = (l.map List.length).sum + w.length := by
 intro l
 induction l with
 | nil => intro p h; simp at h
 | cons a t ih =>
  intro p h w
  cases p with
  | zero => simp; omega
  | succ p =>
   have := ih p (by simpa using h) w
   simp at this ⊢
   omega
def insL (r : List Int) (at_ : Nat) (x : Int) : List Int := r.take at_ ++ [x] ++ ([] ++ r.drop at_)
theorem insL_len (r : List Int) (a : Nat) (x : Int) : (insL r a x).length = r.length + 1 := by
 unfold insL
 simp only [List.length_append, List.length_take, List.length_drop, List.length_cons, List.length_nil]
 omega
theorem drawG_3 (b : List Int) (hb : b.length ≤ 1048576) (S : List Int) (hS : S.length ≤ 20) (n : Nat) (hn : 1 ≤ n) (hn2 : n ≤ 20) : ∀ (d k : Nat) (g : List (List Int)) (i h : Int), k + d = S.length → g.length = n → (g.map List.length).sum = k → (0 < k → g.getD 0 [] ≠ []) → 0 ≤ i →
  ∃ (r : List (List Int)) (i' h' : Int), Ev (fun K => spec_l3Draw.l3 K n S g k b i h) (r, i', h') ∧ r.length = n ∧ (r.map List.length).sum = S.length ∧ (0 < S.length → r.getD 0 [] ≠ []) ∧ 0 ≤ i' := by
 intro d
 induction d with
 | zero =>
  intro k g i h hk hg hs h0 hi
  refine ⟨g, i, h, Ev.step (f := fun _ => some (g, i, h)) (fun K => ?_) (Ev.now _), hg, by omega, fun hS => h0 (by omega), hi⟩
  simp only [spec_l3Draw.l3]; rw [if_neg (by omega)]
 | succ d ih =>
  intro k g i h hk hg hs h0 hi
  have hkS : k < S.length := by omega
  obtain ⟨u, i1, g1, e1, a1, a2, a3⟩ := below_ok b hb i h n hi (by omega) (by omega)
  obtain ⟨un, rfl⟩ := Int.eq_ofNat_of_zero_le a1
  have main : ∀ p : Nat, p < n → (k = 0 → p = 0) → ∃ (r : List (List Int)) (i' h' : Int) (v i2 g2 : Int) (rest : Option (List (List Int) × Int × Int) → Prop), spec_l1Below.f b i1 g1 (wrap64 (((rd_L1 g (p : Int)).length : Int) + 1)) = some (v, i2, g2) ∧ 0 ≤ v ∧ v ≤ ((rd_L1 g (p : Int)).length : Int) ∧ (rd_L1 g (p : Int)).length ≤ 20 ∧
    Ev (fun K => spec_l3Draw.l3 K n S (g.set p ((rd_L1 g (p : Int)).take v.toNat ++ [rd S (k : Int)] ++ ([] ++ (rd_L1 g (p : Int)).drop v.toNat))) ((k + 1 : Nat) : Int) b i2 g2) (r, i', h') ∧ r.length = n ∧ (r.map List.length).sum = S.length ∧ (0 < S.length → r.getD 0 [] ≠ []) ∧ 0 ≤ i' := by
   intro p hp hp0
   have hpg : p < g.length := by omega
   have hlen : g[p].length ≤ 20 := by have := len_le_sum (List.getElem_mem hpg); omega
   rw [rdL_lt hpg]
   obtain ⟨v, i2, g2, e2, b1, b2, b3⟩ := below_ok b hb i1 g1 ((g[p].length : Int) + 1) a3 (by omega) (by omega)
   have hil := insL_len g[p] v.toNat (rd S (k : Int))
   have hss := sum_set_len g p hpg (insL g[p] v.toNat (rd S (k : Int)))
   obtain ⟨r, i', h', q1, q2, q3, q4, q5⟩ := ih (k + 1) (g.set p (insL g[p] v.toNat (rd S (k : Int)))) i2 g2 (by omega) (by simpa using hg) (by omega) (fun _ => by
    by_cases hp00 : p = 0
    ·
     subst hp00
     rw [List.getD_eq_getElem?_getD, List.getElem?_set_self hpg, Option.getD_some]
     intro e
     rw [e] at hil
     simp at hil
    ·
     rw [List.getD_eq_getElem?_getD, List.getElem?_set_ne hp00, ← List.getD_eq_getElem?_getD]
     exact h0 (by omega)) b3
   exact ⟨r, i', h', v, i2, g2, fun _ => True, by rw [w64 (by omega) (by omega)]; exact e2, b1, by omega, hlen, q1, q2, q3, q4, q5⟩
  by_cases hkn : k < n
  ·
   obtain ⟨r, i', h', v, i2, g2, _, e2, b1, b2, b3, q1, q2, q3, q4, q5⟩ := main k hkn (fun e => e)
   refine ⟨r, i', h', Ev.step (fun K => ?_) q1, q2, q3, q4, q5⟩
   simp only [spec_l3Draw.l3]
   rw [if_pos (by omega), e1, Option.bind_some]
   dsimp only
   rw [if_pos (by omega), if_pos (by omega), if_pos (by omega), e2, Option.bind_some, Option.bind_some]
   dsimp only
   rw [if_pos b1, if_pos b2, Option.bind_some, if_pos (by simp only [List.length_drop, List.length_nil]; omega), Option.bind_some, Option.bind_some, if_pos (by simp only [List.length_take]; omega), Option.bind_some, if_pos (by simp only [List.length_append, List.length_take, List.length_drop, List.length_cons, List.length_nil]; omega), w64s hkS (by omega), Int.toNat_natCast]
  ·
   obtain ⟨r, i', h', v, i2, g2, _, e2, b1, b2, b3, q1, q2, q3, q4, q5⟩ := main un (by omega) (fun e => by omega)
   refine ⟨r, i', h', Ev.step (fun K => ?_) q1, q2, q3, q4, q5⟩
   simp only [spec_l3Draw.l3]
   rw [if_pos (by omega), e1, Option.bind_some]
   dsimp only
   rw [if_neg (by omega), if_pos (by omega), if_pos (by omega), e2, Option.bind_some, Option.bind_some]
   dsimp only
   rw [if_pos b1, if_pos b2, Option.bind_some, if_pos (by simp only [List.length_drop, List.length_nil]; omega), Option.bind_some, Option.bind_some, if_pos (by omega), if_pos (by simp only [List.length_take]; omega), Option.bind_some, if_pos (by simp only [List.length_append, List.length_take, List.length_drop, List.length_cons, List.length_nil]; omega), w64s hkS (by omega), Int.toNat_natCast]
theorem drawG_2 (b : List Int) (hb : b.length ≤ 1048576) (S : List Int) (hS : S.length ≤ 20) (n : Nat) (hn : 1 ≤ n) (hn2 : n ≤ 20) : ∀ (d j : Nat) (i h : Int), j + d = n → 0 ≤ i →
  ∃ (r : List (List Int)) (i' h' : Int), Ev (fun K => spec_l3Draw.l2 K n S (List.replicate j ([] : List Int)) j b i h) (r, i', h') ∧ r.length = n ∧ (r.map List.length).sum = S.length ∧ (0 < S.length → r.getD 0 [] ≠ []) ∧ 0 ≤ i' := by
 intro d
 induction d with
 | zero =>
  intro j i h hj hi
  obtain rfl : j = n := by omega
  obtain ⟨r, i', h', q1, q⟩ := drawG_3 b hb S hS j hn hn2 S.length 0 (List.replicate j ([] : List Int)) i h (by omega) (by simp) (by simp) (fun k => by omega) hi
  refine ⟨r, i', h', Ev.step (fun K => ?_) q1, q⟩
  simp only [spec_l3Draw.l2]; rw [if_neg (by omega)]; rfl
 | succ d ih =>
  intro j i h hj hi
  obtain ⟨r, i', h', q1, q⟩ := ih (j + 1) i h (by omega) hi
  refine ⟨r, i', h', Ev.step (fun K => ?_) q1, q⟩
  simp only [spec_l3Draw.l2]
  rw [if_pos (by omega), if_pos (by simp; omega), w64s (n := n) (by omega) (by omega), ← List.replicate_succ']
theorem drawG_1 (b : List Int) (hb : b.length ≤ 1048576) (S : List Int) (hS : S.length ≤ 12) (n : Nat) (hn : 1 ≤ n) (_hn2 : n ≤ 4) (i h : Int) (hi : 0 ≤ i) :
  ∃ (r : List (List Int)) (i' h' : Int), Ev (fun K => spec_l3Draw.l1 K n S b i h) (r, i', h') ∧ (1 ≤ r.length ∧ r.length ≤ 13) ∧ (r.map List.length).sum ≤ 13 ∧ r.getD 0 [] ≠ [] ∧ 0 ≤ i' := by
 have last : ∀ (m : Nat) (T : List Int), 1 ≤ m → m ≤ T.length → T.length ≤ 13 → ∃ (r : List (List Int)) (i' h' : Int), Ev (fun K => spec_l3Draw.l1 K m T b i h) (r, i', h') ∧ (1 ≤ r.length ∧ r.length ≤ 13) ∧ (r.map List.length).sum ≤ 13 ∧ r.getD 0 [] ≠ [] ∧ 0 ≤ i' := by
  intro m T h1 h2 h3
  obtain ⟨r, i', h', q1, q2, q3, q4, q5⟩ := drawG_2 b hb T (by omega) m h1 (by omega) m 0 i h (by omega) hi
  refine ⟨r, i', h', Ev.step (fun K => ?_) q1, by omega, by omega, q4 (by omega), q5⟩
  simp only [spec_l3Draw.l1]; rw [if_neg (by omega)]; rfl
 by_cases c : S.length < n
 ·
  obtain ⟨r, i', h', q1, q⟩ := last (S ++ [8]).length (S ++ [8]) (by simp) (Nat.le_refl _) (by simp; omega)
  refine ⟨r, i', h', Ev.step (fun K => ?_) q1, q⟩
  simp only [spec_l3Draw.l1]
  rw [if_pos (by omega), if_pos (by omega), Option.bind_some]
 ·
  exact last n S hn (by omega) (by omega)
theorem drawG_0 (b : List Int) (hb : b.length ≤ 1048576) (n : Nat) (hn : 1 ≤ n) (hn2 : n ≤ 4) : ∀ (d x : Nat) (S : List Int) (i h : Int), x + d = 7 → 1 ≤ x → S.length ≤ 2 * (x - 1) → 0 ≤ i →
  ∃ (r : List (List Int)) (i' h' : Int), Ev (fun K => spec_l3Draw.l0 K n S x b i h) (r, i', h') ∧ (1 ≤ r.length ∧ r.length ≤ 13) ∧ (r.map List.length).sum ≤ 13 ∧ r.getD 0 [] ≠ [] ∧ 0 ≤ i' := by
 intro d
 induction d with
 | zero =>
  intro x S i h hx h1 hS hi
  obtain ⟨u, i1, g1, e1, a1, a2, a3⟩ := below_ok b hb i h 5 hi (by omega) (by omega)
  obtain ⟨r, i', h', q1, q⟩ := drawG_1 b hb S (by omega) n hn hn2 i1 g1 a3
  refine ⟨r, i', h', Ev.step (fun K => ?_) q1, q⟩
  simp only [spec_l3Draw.l0]
  rw [e1, Option.bind_some]
  dsimp only
  rw [w64 (x := 2 + u) (by omega) (by omega), if_neg (by omega)]
 | succ d ih =>
  intro x S i h hx h1 hS hi
  obtain ⟨u, i1, g1, e1, a1, a2, a3⟩ := below_ok b hb i h 5 hi (by omega) (by omega)
  by_cases c : (x : Int) ≤ 2 + u
  ·
   obtain ⟨o, i2, g2, e2, b3⟩ := once_ok b hb i1 g1 4 a3 (by omega) (by omega)
   cases o with
   | true =>
    obtain ⟨r, i', h', q1, q⟩ := ih (x + 1) (S ++ [(x : Int)]) i2 g2 (by omega) (by omega) (by simp; omega) b3
    refine ⟨r, i', h', Ev.step (fun K => ?_) q1, q⟩
    simp only [spec_l3Draw.l0]
    rw [e1, Option.bind_some]
    dsimp only
    rw [w64 (x := 2 + u) (by omega) (by omega), if_pos c, if_pos (by omega), Option.bind_some, e2, Option.bind_some]
    dsimp only
    rw [if_pos rfl, w64s (n := 7) (by omega) (by omega)]
   | false =>
    obtain ⟨v, i3, g3, e3, c1, c2, c3⟩ := below_ok b hb i2 g2 2 b3 (by omega) (by omega)
    obtain ⟨r, i', h', q1, q⟩ := ih (x + 1) (S ++ [(x : Int)] ++ [wrap64 ((x : Int) * (wrap64 (1 - (wrap64 (2 * v)))))]) i3 g3 (by omega) (by omega) (by simp; omega) c3
    refine ⟨r, i', h', Ev.step (fun K => ?_) q1, q⟩
    simp only [spec_l3Draw.l0]
    rw [e1, Option.bind_some]
    dsimp only
    rw [w64 (x := 2 + u) (by omega) (by omega), if_pos c, if_pos (by omega), Option.bind_some, e2, Option.bind_some]
    dsimp only
    rw [if_neg Bool.false_ne_true, e3, Option.bind_some]
    dsimp only
    rw [if_pos (by simp; omega), w64s (n := 7) (by omega) (by omega)]
  ·
   obtain ⟨r, i', h', q1, q⟩ := drawG_1 b hb S (by omega) n hn hn2 i1 g1 a3
   refine ⟨r, i', h', Ev.step (fun K => ?_) q1, q⟩
   simp only [spec_l3Draw.l0]
   rw [e1, Option.bind_some]
   dsimp only
   rw [w64 (x := 2 + u) (by omega) (by omega), if_neg c]
theorem l3Draw_ok (b : List Int) (hb : b.length ≤ 1048576) (i h : Int) (hi : 0 ≤ i) : ∃ (r : List (List Int)) (i' h' : Int), Ev (fun K => spec_l3Draw.f K b i h) (r, i', h') ∧ (1 ≤ r.length ∧ r.length ≤ 13) ∧ (r.map List.length).sum ≤ 13 ∧ r.getD 0 [] ≠ [] ∧ 0 ≤ i' := by
 obtain ⟨s, i1, g1, e1, hs, a3⟩ := pickInt_ok b hb i h hi [0, 0, 1, 2] (by decide) (by decide)
 have hs2 : 0 ≤ s ∧ s ≤ 2 := by
  simp only [List.mem_cons, List.not_mem_nil, or_false] at hs
  omega
 obtain ⟨n, rfl⟩ := Int.eq_ofNat_of_zero_le hs2.1
 obtain ⟨r, i', h', q1, q⟩ := drawG_0 b hb (n + 1) (by omega) (by omega) 6 1 [] i1 g1 rfl (by omega) (by simp) a3
 refine ⟨r, i', h', ?_, q⟩
 refine Ev.congr (f := fun K => spec_l3Draw.l0 K ((n + 1 : Nat) : Int) [] 1 b i1 g1) (fun K => ?_) q1
 unfold spec_l3Draw.f
 rw [e1, Option.bind_some]
 dsimp only
 rw [w64 (x := 1 + (n : Int)) (by omega) (by omega), show (1 + (n : Int)) = ((n + 1 : Nat) : Int) by omega]
theorem l3Bent_ok (b : List Int) (hb : b.length ≤ 1048576) (i h : Int) (hi : 0 ≤ i) : ∃ (r : List (List Int)) (i' h' : Int), Ev (fun K => spec_l3Bent.f K b i h) (r, i', h') ∧ r.length ≤ 14 ∧ (r.map List.length).sum ≤ 15 ∧ 0 ≤ i' := by
 obtain ⟨r, i1, g1, q1, q2, q3, q4, q5⟩ := l3Draw_ok b hb i h hi
 obtain ⟨y, i2, g2, e2, b1, b2, b3⟩ := below_ok b hb i1 g1 20 q5 (by omega) (by omega)
 have pre : ∀ (F : Option (List (List Int) × Int × Int)) (z : List (List Int) × Int × Int), F = some z → ((spec_l1Below.f b i1 g1 20).bind fun bt551 => (if bt551.1 = 0 then (if r.length < 5864062014805 then (some ((r ++ [(([] : List Int))]), bt551.2.1, bt551.2.2)) else (none)) else (if bt551.1 = 1 then (if 0 < (r.length : Int) then (if 0 < ((rd_L1 r 0).length : Int) then ((spec_l1PickInt.f b bt551.2.1 bt551.2.2 (([rd (rd_L1 r 0) 0, 8, 9] : List Int))).bind fun bt568 => ((some (([rd (rd_L1 r 0) 0, bt568.1] : List Int) : List Int)).bind fun y571 => (if (rd_L1 r 0).length + y571.length < 17592186044416 then (some ((r.set (0 : Int).toNat ((rd_L1 r 0) ++ y571)), bt568.2.1, bt568.2.2)) else (none)))) else (none)) else (none)) else (if bt551.1 = 2 then (some ((([] : List (List Int))), bt551.2.1, bt551.2.2)) else (some (r, bt551.2.1, bt551.2.2)))))) = F → Ev (fun k => spec_l3Bent.f k b i h) z := by
  intro F z hF hk
  unfold spec_l3Bent.f
  refine Ev.bind q1 (Ev.congr (f := fun _ => some z) (fun _ => ?_) (Ev.now _))
  rw [← hF, ← hk]
 by_cases y0 : y = 0
 ·
  refine ⟨r ++ [[]], i2, g2, pre _ _ rfl ?_, by simp; omega, by simp; omega, b3⟩
  rw [e2, Option.bind_some]
  dsimp only
  rw [if_pos y0, if_pos (by omega)]
 ·
  by_cases y1 : y = 1
  ·
   have hr0 : 0 < r.length := by omega
   have e0 : rd_L1 r 0 = r[0] := rdL_lt (i := 0) hr0
   have hne : r[0] ≠ [] := by
    have := q4
    rwa [List.getD_eq_getElem?_getD, List.getElem?_eq_getElem hr0, Option.getD_some] at this
   have hlen0 : 0 < r[0].length := List.length_pos_iff.2 hne
   have hle := len_le_sum (List.getElem_mem hr0)
   obtain ⟨s, i4, g4, e4, _, d3⟩ := pickInt_ok b hb i2 g2 b3 [rd r[0] 0, 8, 9] (by simp) (by simp)
   have hss := sum_set_len r 0 hr0 (r[0] ++ [rd r[0] 0, s])
   have hl2 : (r[0] ++ [rd r[0] 0, s]).length = r[0].length + 2 := by simp
   refine ⟨r.set 0 (r[0] ++ [rd r[0] 0, s]), i4, g4, pre _ _ rfl ?_, by simp; omega, by omega, d3⟩
   rw [e2, Option.bind_some]
   dsimp only
   rw [if_neg y0, if_pos y1, if_pos (by omega), e0, if_pos (by omega), e4, Option.bind_some]
   dsimp only
   rw [Option.bind_some, if_pos (by simp; omega)]
   rfl
  ·
   by_cases y2 : y = 2
   ·
    refine ⟨[], i2, g2, pre _ _ rfl ?_, by simp, by simp, b3⟩
    rw [e2, Option.bind_some]
    dsimp only
    rw [if_neg y0, if_neg y1, if_pos y2]
   ·
    refine ⟨r, i2, g2, pre _ _ rfl ?_, by omega, by omega, b3⟩
    rw [e2, Option.bind_some]
    dsimp only
    rw [if_neg y0, if_neg y1, if_neg y2]
theorem drawIsGluing_ok (l : List Int) (hl : l.length ≤ 1048576) : ∃ g : List (List Int), Ev (fun k => spec_DrawIsGluing.f k l) g ∧ bulk g ≤ 100 := by
 obtain ⟨h, hn⟩ := new_ok l hl
 obtain ⟨g, i, q, hE, q1, q2, q3⟩ := l3Bent_ok l hl 0 h (by omega)
 refine ⟨g, ?_, by unfold bulk; omega⟩
 unfold spec_DrawIsGluing.f
 exact Ev.bind hn (Ev.bind hE (Ev.now _))
theorem drawParseGluing_ok (l : List Int) (hl : l.length ≤ 1048576) : ∃ t : ByteArray, Ev (fun k => spec_DrawParseGluing.f k l) t ∧ t.size ≤ 201 := by
 obtain ⟨h, hn⟩ := new_ok l hl
 obtain ⟨g, i, q, hE, q1, q2, _, q3⟩ := l3Draw_ok l hl 0 h (by omega)
 have hfl : g.flatten.length ≤ 1048576 := by rw [flat_len]; omega
 obtain ⟨t1, _⟩ := gluText_ev g (by omega) hfl
 have hs : (if GluP g then gtx g else (⟨#[]⟩ : ByteArray)).size ≤ 200 := by
  by_cases hG : GluP g
  ·
   rw [if_pos hG]; have := gtx_size hG; omega
  ·
   rw [if_neg hG]; decide
 obtain ⟨t, i', h', e, ht⟩ := turned_ok l hl i q q3 _ hs [(⟨#[32]⟩ : ByteArray), (⟨#[97]⟩ : ByteArray), (⟨#[65]⟩ : ByteArray), (⟨#[45]⟩ : ByteArray), (⟨#[120]⟩ : ByteArray)] (by decide) (by decide) (by decide)
 refine ⟨t, ?_, ht⟩
 unfold spec_DrawParseGluing.f
 refine Ev.bind hn (Ev.bind hE (Ev.bind t1 ?_))
 refine Ev.congr (f := fun _ => some t) (fun k => ?_) (Ev.now _)
 show (spec_l1Turned.f l i q _ _).bind _ = _
 rw [e]; rfl
theorem glu2 {g : List (List Int)} (h : GluP g) : Ev (fun k => laws_FnGluings.j2 k g false) true := by
 have hl1 : g.length ≤ 1048576 := by have := h.1.2; omega
 have hl2 : g.flatten.length ≤ 1048576 := by have := h.2.2.1; omega
 obtain ⟨es, fs, he, hf, h8, hf8, v1, v2, b1, b2⟩ := glVals h
 have t2 := twoI_ev g hl1 hl2
 have hB := Joi.bordN_le g fs
 have hV := verts_le g h
 have hg4 := h.1
 refine Ev.shift ?_
 simp only [laws_FnGluings.j2]
 refine Ev.neg Bool.false_ne_true (Ev.bind t2 ?_)
 by_cases ht : Two g
 ·
  have hev : ∃ q, Joi.vertsN g + g.length + Joi.bordN g fs + es.length = 2 * q := by
   obtain ⟨_, s, _, _, hF⟩ := ht
   exact Joi.surface_even h.cor.1 h.cor.2 h.twice he hf _ ((fine_opp h).1 hF)
  obtain ⟨q, hq⟩ := hev
  rw [decide_eq_true ht]
  refine Ev.pos rfl (Ev.bind v2 (Ev.bind b2 ?_))
  have e : ((Int.tmod (wrap64 ((((Joi.vertsN g : Nat) : Int) - (es.length : Int) + (g.length : Int)) + ((Joi.bordN g fs : Nat) : Int))) 2) == 0) = true := by
   rw [w64 (by omega) (by omega)]
   have : (((Joi.vertsN g : Nat) : Int) - (es.length : Int) + (g.length : Int)) + ((Joi.bordN g fs : Nat) : Int) = 2 * ((q : Int) - (es.length : Int)) := by omega
   rw [this, Int.mul_tmod_right]
   rfl
  rw [e]
  exact Ev.now _
 ·
  rw [decide_eq_false ht]
  exact Ev.neg Bool.false_ne_true (Ev.now _)
theorem glu1 (g : List (List Int)) (hl1 : g.length ≤ 1048576) (hl2 : g.flatten.length ≤ 1048576) : Ev (fun k => laws_FnGluings.j1 k g (decide (GluP g)) false) true := by
 obtain ⟨p1, p2⟩ := partsOf_ev g hl1 hl2
 have i2 := isGluingI_ev g hl1 hl2
 refine Ev.shift ?_
 simp only [laws_FnGluings.j1]
 refine Ev.neg Bool.false_ne_true ?_
 by_cases h : GluP g
 ·
  rw [if_pos h] at p1 p2
  rw [decide_eq_true h]
  obtain ⟨es, fs, he, hf, h8, hf8, v1, v2, b1, b2⟩ := glVals h
  obtain ⟨gs, _, _, gm, _, gI⟩ := freesL g h
  have hle := Joi.surface_le h.cor.1 h.cor.2 h.twice he hf
  have hB := Joi.bordN_le g fs
  have hV := verts_le g h
  have hg4 := h.1
  have hz := bord_zero g fs
  have hsame := free_same hf gm h
  have h2 := glu2 h
  have hP : Joi.partsG g ≤ 1000000 := by
   have := Joi.partsG_le g
   omega
  have hb : ((((Joi.bordN g fs : Nat) : Int) == 0) != (((gs.map fun y : Nat => (y : Int)).length : Int) == 0)) = false := by
   rw [List.length_map]
   by_cases e : fs = []
   ·
    have e1 := hz.2 e
    have e2 := hsame.1 e
    rw [e1, e2]
    rfl
   ·
    have e1 : Joi.bordN g fs ≠ 0 := fun k => e (hz.1 k)
    have e2 : gs.length ≠ 0 := fun k => e (hsame.2 (List.length_eq_zero_iff.1 k))
    have a1 : (((Joi.bordN g fs : Nat) : Int) == 0) = false := by simp only [beq_eq_false_iff_ne, ne_eq]; omega
    have a2 : ((gs.length : Int) == 0) = false := by simp only [beq_eq_false_iff_ne, ne_eq]; omega
    rw [a1, a2]
    rfl
  have w1 : wrap64 ((wrap64 (2 * ((Joi.partsG g : Nat) : Int))) - ((Joi.bordN g fs : Nat) : Int)) = 2 * ((Joi.partsG g : Nat) : Int) - ((Joi.bordN g fs : Nat) : Int) := by
   rw [w64 (x := 2 * ((Joi.partsG g : Nat) : Int)) (by omega) (by omega), w64 (by omega) (by omega)]
  refine Ev.pos rfl (Ev.bind v2 (Ev.bind p2 (Ev.bind b2 ?_)))
  rw [w1]
  clear w1
  refine Ev.neg (by omega) (Ev.bind b2 (Ev.bind gI ?_))
  rw [hb]
  exact h2
 ·
  rw [if_neg h] at p1 p2
  rw [decide_eq_false h]
  rw [decide_eq_false h] at i2
  have ev : Ev (fun k => impl_EulerOf.f k g) (-100) := by
   unfold impl_EulerOf.f
   exact Ev.bind i2 (Ev.neg Bool.false_ne_true (Ev.now _))
  have eb : Ev (fun k => impl_CountBorders.f k g) (-1) := by
   unfold impl_CountBorders.f
   exact Ev.bind i2 (Ev.neg Bool.false_ne_true (Ev.now _))
  refine Ev.neg Bool.false_ne_true (Ev.bind ev (Ev.pos rfl (Ev.bind p2 (Ev.pos rfl (Ev.bind eb ?_)))))
  exact Ev.now _
theorem glu0 (g : List (List Int)) (hb : bulk g ≤ 1048576) (hl1 : g.length ≤ 1048576) (hl2 : g.flatten.length ≤ 1048576) : Ev (fun k => laws_FnGluings.j0 k g false) true := by
 obtain ⟨t1, t2⟩ := gluText_ev g hl1 hl2
 have i1 := isGluingS_ev g hl1 hl2
 have hend := glu1 g hl1 hl2
 refine Ev.shift ?_
 simp only [laws_FnGluings.j0]
 refine Ev.neg Bool.false_ne_true ?_
 by_cases h : GluP g
 ·
  rw [if_pos h] at t1 t2
  rw [decide_eq_true h] at i1 hend
  have hs := gtx_size h
  obtain ⟨r, o, hr, _, z2, z3⟩ := parseGluing_ev (gtx g) (by omega)
  rw [gluTrip h] at z3
  obtain ⟨rfl, rfl⟩ := Prod.mk.inj z3
  refine Ev.bind t2 (Ev.bind z2 (Ev.bind t1 (Ev.pos rfl (Ev.bind i1 (Ev.neg (bne_no _) (Ev.pos rfl (Ev.bind (sameLs _ hr) ?_)))))))
  exact hend
 ·
  rw [if_neg h] at t1 t2
  rw [decide_eq_false h] at i1 hend
  obtain ⟨r, o, hr, _, z2, z3⟩ := parseGluing_ev (⟨#[]⟩ : ByteArray) (by decide)
  have hz : (r, o) = ([], false) := by
   rw [z3]
   exact emptyGl
  obtain ⟨rfl, rfl⟩ := Prod.mk.inj hz
  refine Ev.bind t2 (Ev.bind z2 (Ev.bind t1 (Ev.pos rfl (Ev.bind i1 (Ev.neg (bne_no _) (Ev.neg Bool.false_ne_true ?_))))))
  exact hend
theorem FnGluings : laws_FnGluings.Pure := by
 intro l h1 h2 h3
 unfold laws_FnGluings.f
 by_cases hb : (l.length : Int) > 1048576
 ·
  exact ⟨0, by rw [big_eq, decide_eq_true hb, Option.bind_some, if_pos rfl]⟩
 refine Ev.rounds ?_
 rw [big_eq, decide_eq_false hb]
 obtain ⟨g, dG, hg⟩ := drawIsGluing_ok l (by omega)
 obtain ⟨t, dT, ht⟩ := drawParseGluing_ok l (by omega)
 have hl1 : g.length ≤ 1048576 := by unfold bulk at hg; omega
 have hl2 : g.flatten.length ≤ 1048576 := by rw [flat_len]; unfold bulk at hg; omega
 obtain ⟨r, o, hr, z1, z2, z3⟩ := parseGluing_ev t (by omega)
 have i1 := isGluingS_ev g hl1 hl2
 have i2 := isGluingI_ev g hl1 hl2
 obtain ⟨e, he, e1, e2⟩ := edgeLetters_ev g hl1 hl2
 obtain ⟨f, hf, f1, f2⟩ := freeLetters_ev g hl1 hl2
 obtain ⟨v1, v2⟩ := countVertices_ev g hl1 hl2
 obtain ⟨x, x1, x2⟩ := eulerOf_ev g hl1 hl2
 obtain ⟨p1, p2⟩ := partsOf_ev g hl1 hl2
 have t1 := twoS_ev g hl1 hl2
 have t2 := twoI_ev g hl1 hl2
 obtain ⟨b, b1, b2⟩ := countBorders_ev g hl1 hl2
 have hend := glu0 g (by omega) hl1 hl2
 refine Ev.some_bind (Ev.neg Bool.false_ne_true ?_)
 refine Ev.bind dG (Ev.bind dT (Ev.bind z2 (Ev.bind z1 (Ev.neg (bne_no _) (Ev.bind (sameLs _ hr) (Ev.pos rfl ?_))))))
 refine Ev.bind i2 (Ev.bind i1 (Ev.neg (bne_no _) ?_))
 refine Ev.bind e2 (Ev.bind e1 (Ev.bind (sameL_same _ he) (Ev.pos rfl ?_)))
 refine Ev.bind f2 (Ev.bind f1 (Ev.bind (sameL_same _ hf) (Ev.pos rfl ?_)))
 refine Ev.bind v2 (Ev.bind v1 (Ev.pos rfl (Ev.bind x2 (Ev.bind x1 (Ev.pos rfl (Ev.bind p2 (Ev.bind p1 (Ev.pos rfl ?_))))))))
 refine Ev.bind t2 (Ev.bind t1 (Ev.neg (bne_no _) (Ev.bind b2 (Ev.bind b1 ?_))))
 rw [bne_self_eq_false]
 exact hend
end Go.Proofs.Ytfknffpfjoalkaa.Pure
