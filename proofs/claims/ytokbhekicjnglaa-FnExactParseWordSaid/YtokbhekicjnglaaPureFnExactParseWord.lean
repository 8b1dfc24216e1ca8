/- ParseWord of the program and ParseWord of the reference answer the same for all arguments; the arguments are left as they were and share nothing with the results. Conditions: those that the printed statement itself names (lengths and numbers that fit). -/
import Derived.Test.YtokbhekicjnglaaPFnExactParseWordx2
import Derived.Test.YtokbhekicjnglaaCom
namespace Go.Proofs.Ytokbhekicjnglaa.Pure
open Classical Go.RowKit Go.Proofs.Ytokbhekicjnglaa.PFnExactParseWord Go.Proofs.YtokbhekicjnglaaW.PrintWords Go.Proofs.YtokbhekicjnglaaW.PrintLast Go.Proofs.Ytokbhekicjnglaa.Com

/-! eqIntS -/
theorem eqIntS_l (a b : List Int) (hn : a.length = b.length) (hl : a.length ≤ 9223372036854775807) : ∀ (d i : Nat), i + d = a.length → Ev (fun k => laws_eqIntS.l0 k a b i) (decide (a.drop i = b.drop i)) := by
  intro d
  induction d with
  | zero =>
    intro i hi
    refine Ev.step (f := fun _ => some true) (fun k => ?_) ?_
    · simp only [laws_eqIntS.l0]; rw [if_neg (by omega)]
    · rw [List.drop_of_length_le (by omega), List.drop_of_length_le (by omega)]; exact Ev.now _
  | succ d ih =>
    intro i hi
    have h1 : i < a.length := by omega
    have h2 : i < b.length := by omega
    have e1 : a.drop i = a[i] :: a.drop (i + 1) := List.drop_eq_getElem_cons h1
    have e2 : b.drop i = b[i] :: b.drop (i + 1) := List.drop_eq_getElem_cons h2
    by_cases he : a[i] = b[i]
    · refine Ev.step (f := fun k => laws_eqIntS.l0 k a b ((i + 1 : Nat) : Int)) (fun k => ?_) ?_
      · simp only [laws_eqIntS.l0]
        rw [if_pos (by omega), if_pos (by omega), if_pos (by omega), rd_lt h1, rd_lt h2, if_pos he, w64s h1 hl]
      · have hd : decide (a.drop i = b.drop i) = decide (a.drop (i + 1) = b.drop (i + 1)) := by
          rw [decide_eq_decide, e1, e2, he]; simp only [List.cons.injEq, true_and]
        rw [hd]; exact ih (i + 1) (by omega)
    · refine Ev.step (f := fun _ => some false) (fun k => ?_) ?_
      · simp only [laws_eqIntS.l0]
        rw [if_pos (by omega), if_pos (by omega), if_pos (by omega), rd_lt h1, rd_lt h2, if_neg he]
      · have hd : decide (a.drop i = b.drop i) = false := by
          refine decide_eq_false fun e => he ?_
          rw [e1, e2] at e
          exact (List.cons.inj e).1
        rw [hd]; exact Ev.now _
theorem eqIntS_ev (a b : List Int) (hl : a.length ≤ 9223372036854775807) : Ev (fun k => laws_eqIntS.f k a b) (decide (a = b)) := by
  by_cases hn : a.length = b.length
  · refine Ev.congr (f := fun k => laws_eqIntS.l0 k a b ((0 : Nat) : Int)) (fun k => ?_) (eqIntS_l a b hn hl a.length 0 (by omega))
    unfold laws_eqIntS.f; rw [if_pos (by omega)]; rfl
  · refine Ev.congr (f := fun _ => some false) (fun k => ?_) ?_
    · unfold laws_eqIntS.f; rw [if_neg (by omega)]
    · rw [decide_eq_false (fun e => hn (by rw [e]))]; exact Ev.now _
theorem eqIntS_same (a : List Int) (hl : a.length ≤ 9223372036854775807) : Ev (fun k => laws_eqIntS.f k a a) true := by simpa using eqIntS_ev a a hl

/-! markIntS -/
theorem markIntS_l (n : Nat) (m : Int) (hm : 0 ≤ m) (hb : m + n ≤ 9223372036854775807) : ∀ (d i : Nat) (acc : List Int), i + d = n → acc.length = n → acc.take i = (from_ m n).take i → Ev (fun k => laws_markIntS.l0 k acc (m + i) i) (m + n, from_ m n) := by
  intro d
  induction d with
  | zero =>
    intro i acc hi ha ht
    refine Ev.step (f := fun _ => some (m + i, acc)) (fun k => ?_) ?_
    · simp only [laws_markIntS.l0]; rw [if_neg (by omega)]
    · have e : acc = from_ m n := by
        have h1 := List.take_of_length_le (l := acc) (i := i) (by omega)
        have h2 := List.take_of_length_le (l := from_ m n) (i := i) (by rw [from_length]; omega)
        rw [← h1, ← h2, ht]
      rw [e, show i = n by omega]; exact Ev.now _
  | succ d ih =>
    intro i acc hi ha ht
    have hlt : i < n := by omega
    have := ih (i + 1) (acc.set i (m + i)) (by omega) (by simpa using ha) (by
      rw [List.take_succ_eq_append_getElem (by simp; omega), List.take_succ_eq_append_getElem (by rw [from_length]; exact hlt), List.take_set_of_le (Nat.le_refl i), ht, from_get m n i hlt]
      simp)
    refine Ev.step (f := fun k => laws_markIntS.l0 k (acc.set i (m + i)) (m + ((i + 1 : Nat) : Int)) ((i + 1 : Nat) : Int)) (fun k => ?_) this
    simp only [laws_markIntS.l0]
    rw [if_pos (by omega), if_pos (by omega), w64 (by omega) (by omega), w64 (by omega) (by omega), Int.toNat_natCast, show m + (i : Int) + 1 = m + ((i + 1 : Nat) : Int) by omega, show (i : Int) + 1 = ((i + 1 : Nat) : Int) by omega]
theorem markIntS_ev (l : List Int) (m : Int) (hm : 0 ≤ m) (hb : m + l.length ≤ 9223372036854775807) : Ev (fun k => laws_markIntS.f k l m) (m + l.length, from_ m l.length) := by
  have := markIntS_l l.length m hm hb l.length 0 l (by omega) rfl (by simp)
  simpa [laws_markIntS.f] using this

/-! heldIntS -/
theorem heldIntS_l (n : Nat) (m : Int) (hm : 0 ≤ m) (hb : m + n ≤ 9223372036854775807) : ∀ (d i : Nat), i + d = n → Ev (fun k => laws_heldIntS.l0 k (from_ m n) (m + i) i) (m + n) := by
  intro d
  induction d with
  | zero =>
    intro i hi
    refine Ev.step (f := fun _ => some (m + i)) (fun k => ?_) ?_
    · simp only [laws_heldIntS.l0]; rw [if_neg (by rw [from_length]; omega)]
    · rw [show i = n by omega]; exact Ev.now _
  | succ d ih =>
    intro i hi
    have hlt : i < n := by omega
    refine Ev.step (f := fun k => laws_heldIntS.l0 k (from_ m n) (m + ((i + 1 : Nat) : Int)) ((i + 1 : Nat) : Int)) (fun k => ?_) (ih (i + 1) (by omega))
    simp only [laws_heldIntS.l0]
    rw [if_pos (by rw [from_length]; omega), if_pos (by omega), rd_lt (by rw [from_length]; omega), from_get m n i hlt, if_pos rfl, w64 (by omega) (by omega), w64 (by omega) (by omega), show m + (i : Int) + 1 = m + ((i + 1 : Nat) : Int) by omega, show (i : Int) + 1 = ((i + 1 : Nat) : Int) by omega]
theorem heldIntS_ev (n : Nat) (m : Int) (hm : 0 ≤ m) (hb : m + n ≤ 9223372036854775807) : Ev (fun k => laws_heldIntS.f k (from_ m n) m) (m + n) := by
  have := heldIntS_l n m hm hb n 0 (by omega)
  simpa [laws_heldIntS.f] using this

/-! parseWord -/
/-- The letter of a byte. -/
def letOf (c : Int) : Option Int := if 97 ≤ c ∧ c ≤ 104 then some (c - 96) else if 65 ≤ c ∧ c ≤ 72 then some (-(c - 64)) else none
/-- What is read of bytes from i on, behind letters that have been read. -/
def pw (s : ByteArray) : Nat → Nat → List Int → List Int × Bool
  | 0, _, acc => if acc.length = 0 then ([], false) else if acc.length > 24 then ([], false) else (acc, true)
  | d + 1, i, acc => match letOf (bt s i) with
    | none => ([], false)
    | some x => pw s d (i + 1) (acc ++ [x])
theorem pw_length (s : ByteArray) : ∀ (d i : Nat) (acc : List Int), (pw s d i acc).1.length ≤ 24 := by
  intro d
  induction d with
  | zero => intro i acc; unfold pw; split <;> (try split) <;> simp <;> omega
  | succ d ih =>
    intro i acc
    unfold pw
    split
    · simp
    · exact ih _ _
theorem parseWord_l (s : ByteArray) (hs : s.size ≤ 1048576) : ∀ (d i : Nat) (acc : List Int), i + d = s.size → acc.length = i → Ev (fun k => spec_ParseWord.l0 k s acc i) (pw s d i acc) ∧ Ev (fun k => impl_ParseWord.l0 k s acc s.size i) (pw s d i acc) := by
  intro d
  induction d with
  | zero =>
    intro i acc hi ha
    unfold pw
    have hl0 : s.toList = [] ↔ acc.length = 0 := by
      rw [tol_nil]
      omega
    by_cases h0 : acc.length = 0
    · rw [if_pos h0]
      refine ⟨Ev.step (f := fun _ => some (([] : List Int), false)) (fun k => ?_) (Ev.now _), Ev.step (f := fun _ => some (([] : List Int), false)) (fun k => ?_) (Ev.now _)⟩
      · simp only [spec_ParseWord.l0]; rw [if_neg (by omega), if_pos (by omega)]
      · simp only [impl_ParseWord.l0]; rw [if_neg (by omega), if_pos (hl0.2 h0)]
    · rw [if_neg h0]
      by_cases h24 : acc.length > 24
      · rw [if_pos h24]
        refine ⟨Ev.step (f := fun _ => some (([] : List Int), false)) (fun k => ?_) (Ev.now _), Ev.step (f := fun _ => some (([] : List Int), false)) (fun k => ?_) (Ev.now _)⟩
        · simp only [spec_ParseWord.l0]; rw [if_neg (by omega), if_neg (by omega), if_pos (by omega)]
        · simp only [impl_ParseWord.l0]; rw [if_neg (by omega), if_neg (fun h => h0 (hl0.1 h)), if_pos (by omega)]
      · rw [if_neg h24]
        refine ⟨Ev.step (f := fun _ => some (acc, true)) (fun k => ?_) (Ev.now _), Ev.step (f := fun _ => some (acc, true)) (fun k => ?_) (Ev.now _)⟩
        · simp only [spec_ParseWord.l0]; rw [if_neg (by omega), if_neg (by omega), if_neg (by omega)]
        · simp only [impl_ParseWord.l0]; rw [if_neg (by omega), if_neg (fun h => h0 (hl0.1 h)), if_neg (by omega)]
  | succ d ih =>
    intro i acc hi ha
    have hlt : (i : Int) < (s.size : Int) := by omega
    have hll : acc.length < 17592186044416 := by omega
    obtain ⟨c, hc⟩ : ∃ c, bt s i = c := ⟨_, rfl⟩
    have hcr := bt_range s i
    rw [hc] at hcr
    unfold pw
    rw [hc]
    have hw : ∀ z : Int, -1000 ≤ z → z ≤ 1000 → wrap64 z = z := fun z h1 h2 => w64 (by omega) (by omega)
    have hi0 : (0 : Int) ≤ (i : Int) := by omega
    by_cases h1 : 97 ≤ c ∧ c ≤ 104
    · have hl : letOf c = some (c - 96) := by unfold letOf; rw [if_pos h1]
      rw [hl]
      obtain ⟨g1, g2⟩ := ih (i + 1) (acc ++ [c - 96]) (by omega) (by simp [ha])
      constructor
      · refine Ev.step (f := fun k => spec_ParseWord.j1 k s acc i true) (fun k => ?_) (Ev.step (fun k => ?_) g1)
        · simp only [spec_ParseWord.l0, hc]
          rw [if_pos hlt, if_pos hi0, if_pos (show c ≥ 97 from h1.1), decide_eq_true h1.2]
        · simp only [spec_ParseWord.j1, hc]
          rw [if_pos trivial, if_pos hi0, if_pos hlt, if_pos hll, hw c (by omega) (by omega), hw (c - 97) (by omega) (by omega), hw (c - 97 + 1) (by omega) (by omega), w64s (show i < s.size by omega) (by omega), show c - 97 + 1 = c - 96 by omega]
      · refine Ev.step (f := fun k => impl_ParseWord.j1 k s acc c s.size i true) (fun k => ?_) (Ev.step (fun k => ?_) g2)
        · simp only [impl_ParseWord.l0, hc]
          rw [if_pos hlt, if_pos hi0, if_pos hlt, if_pos (show c ≥ 97 from h1.1), decide_eq_true (show c < 105 by omega)]
        · simp only [impl_ParseWord.j1]
          rw [if_pos trivial, if_pos hll, w64s (show i < s.size by omega) (by omega), show (c - 97) % 256 + 1 = c - 96 by omega]
    · have hd1 : (c ≥ 97 → decide (c ≤ 104) = false) ∧ (c ≥ 97 → decide (c < 105) = false) := ⟨fun h => decide_eq_false (by omega), fun h => decide_eq_false (by omega)⟩
      by_cases h2 : 65 ≤ c ∧ c ≤ 72
      · have hl : letOf c = some (-(c - 64)) := by unfold letOf; rw [if_neg h1, if_pos h2]
        rw [hl]
        obtain ⟨g1, g2⟩ := ih (i + 1) (acc ++ [-(c - 64)]) (by omega) (by simp [ha])
        constructor
        · refine Ev.step (f := fun k => spec_ParseWord.j1 k s acc i false) (fun k => ?_) (Ev.step (fun k => ?_) g1)
          · simp only [spec_ParseWord.l0, hc]
            rw [if_pos hlt, if_pos hi0, if_neg (show ¬ c ≥ 97 by omega)]
          · simp only [spec_ParseWord.j1, hc]
            rw [if_neg (by simp), if_pos hi0, if_pos hlt, if_pos (show c ≥ 65 by omega), if_pos (show c ≤ 72 by omega), if_pos hll, hw c (by omega) (by omega), hw (c - 65) (by omega) (by omega), hw (c - 65 + 1) (by omega) (by omega), hw (-(c - 65 + 1)) (by omega) (by omega), w64s (show i < s.size by omega) (by omega), show -(c - 65 + 1) = -(c - 64) by omega]
        · refine Ev.step (f := fun k => impl_ParseWord.j1 k s acc c s.size i false) (fun k => ?_) (Ev.step (fun k => ?_) g2)
          · simp only [impl_ParseWord.l0, hc]
            rw [if_pos hlt, if_pos hi0, if_pos hlt, if_neg (show ¬ c ≥ 97 by omega)]
          · simp only [impl_ParseWord.j1]
            rw [if_neg (by simp), if_pos (show c ≥ 65 by omega), if_pos (show c < 73 by omega), if_pos hll, w64s (show i < s.size by omega) (by omega), show -((c - 65) % 256) - 1 = -(c - 64) by omega]
      · have hl : letOf c = none := by unfold letOf; rw [if_neg h1, if_neg h2]
        rw [hl]
        constructor
        · have hj : Ev (fun k => spec_ParseWord.j1 k s acc i false) (([] : List Int), false) := by
            refine Ev.step (f := fun _ => some (([] : List Int), false)) (fun k => ?_) (Ev.now _)
            simp only [spec_ParseWord.j1, hc]
            rw [if_neg (by simp), if_pos hi0, if_pos hlt]
            split
            · rw [if_neg (by omega)]
            · rfl
          refine Ev.step (f := fun k => spec_ParseWord.j1 k s acc i false) (fun k => ?_) hj
          simp only [spec_ParseWord.l0, hc]
          rw [if_pos hlt, if_pos hi0]
          split
          · rename_i h97
            rw [hd1.1 h97]
          · rfl
        · have hj : Ev (fun k => impl_ParseWord.j1 k s acc c s.size i false) (([] : List Int), false) := by
            refine Ev.step (f := fun _ => some (([] : List Int), false)) (fun k => ?_) (Ev.now _)
            simp only [impl_ParseWord.j1]
            rw [if_neg (by simp)]
            split
            · rw [if_neg (by omega)]
            · rfl
          refine Ev.step (f := fun k => impl_ParseWord.j1 k s acc c s.size i false) (fun k => ?_) hj
          simp only [impl_ParseWord.l0, hc]
          rw [if_pos hlt, if_pos hi0, if_pos hlt]
          split
          · rename_i h97
            rw [hd1.2 h97]
          · rfl
/-- The word with a text. -/
def parseM (s : ByteArray) : List Int × Bool := if s.toList = ([45] : List UInt8) then ([], true) else pw s s.size 0 []
theorem parseWord_ev (s : ByteArray) (hs : s.size ≤ 1048576) : ∃ (r : List Int) (o : Bool), r.length ≤ 1048576 ∧ Ev (fun k => spec_ParseWord.f k s) (r, o) ∧ Ev (fun k => impl_ParseWord.f k s) (r, o) ∧ (r, o) = parseM s := by
  refine ⟨(parseM s).1, (parseM s).2, ?_, ?_, ?_, rfl⟩
  · unfold parseM
    split
    · simp
    · have := pw_length s s.size 0 []; omega
  · unfold spec_ParseWord.f parseM
    simp only [Option.bind_some]
    split
    · exact Ev.now _
    · exact (parseWord_l s hs s.size 0 [] (by omega) rfl).1
  · unfold impl_ParseWord.f parseM
    split
    · exact Ev.now _
    · exact (parseWord_l s hs s.size 0 [] (by omega) rfl).2

/-! law.FnExactParseWord -/
theorem FnExactParseWord : laws_FnExactParseWord.Pure := by
  intro s h1
  by_cases hb : (s.size : Int) > 1048576
  · exact ⟨0, by unfold laws_FnExactParseWord.f; rw [if_pos hb]⟩
  refine Ev.rounds ?_
  obtain ⟨r, o, hr, e1, e2, -⟩ := parseWord_ev s (by omega)
  have hE := eqIntS_same r (by omega)
  have hM := markIntS_ev r 1 (by omega) (by omega)
  have hH := heldIntS_ev r.length 1 (by omega) (by omega)
  have n1 : ¬ (1 + (r.length : Int) < 0) := by omega
  have hj1 : Ev (fun k => laws_FnExactParseWord.j1 k (from_ 1 r.length) (1 + (r.length : Int)) false) true := by
    refine Ev.shift ?_
    simp only [laws_FnExactParseWord.j1, Bool.false_eq_true, if_false]
    refine Ev.bind hH ?_
    simp only [n1, if_false, if_true]
    exact Ev.now _
  have hj : Ev (fun k => laws_FnExactParseWord.j0 k s r o r false) true := by
    refine Ev.shift ?_
    simp only [laws_FnExactParseWord.j0, Bool.false_eq_true, if_false]
    refine Ev.bind hM (Ev.bind hH ?_)
    simp only [n1, if_false, if_true]
    refine Ev.bind e2 (Ev.bind hE ?_)
    simp only [if_true, bne_self_eq_false]
    exact hj1
  unfold laws_FnExactParseWord.f
  simp only [if_neg hb]
  refine Ev.bind e1 (Ev.bind e2 (Ev.bind hE ?_))
  simp only [if_true, bne_self_eq_false]
  exact hj

end Go.Proofs.Ytokbhekicjnglaa.Pure
