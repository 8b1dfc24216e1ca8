/- SplitByte of the program and SplitByte of the reference answer the same for every string and byte; the result shares nothing with that of another call. Conditions: those that the printed statement itself names (lengths and numbers that fit). -/
import Derived.Test.YtehloilmokhmgaaPFnExactSplitBytex2
import Derived.Test.YtehloilmokhmgaaCom
namespace Go.Proofs.Ytehloilmokhmgaa.Pure
open Classical Go.RowKit Go.Proofs.Ytehloilmokhmgaa.PFnExactSplitByte Go.Proofs.YtehloilmokhmgaaW.PrintWords Go.Proofs.YtehloilmokhmgaaW.PrintLast Go.Proofs.Ytehloilmokhmgaa.Com

/-! eqStringS -/
theorem eqStringS_l (a : List ByteArray) (hl : a.length ≤ 9223372036854775807) : ∀ (d i : Nat), i + d = a.length → Ev (fun k => laws_eqStringS.l0 k a a i) true := by
  intro d
  induction d with
  | zero =>
    intro i hi
    refine Ev.step (f := fun _ => some true) (fun k => ?_) (Ev.now _)
    simp only [laws_eqStringS.l0]; rw [if_neg (by omega)]
  | succ d ih =>
    intro i hi
    have h1 : i < a.length := by omega
    refine Ev.step (fun k => ?_) (ih (i + 1) (by omega))
    simp only [laws_eqStringS.l0]
    rw [if_pos (by omega), if_pos (by omega), if_pos (by omega), if_pos trivial, w64s h1 hl]
theorem eqStringS_same (a : List ByteArray) (hl : a.length ≤ 9223372036854775807) : Ev (fun k => laws_eqStringS.f k a a) true := by
  refine Ev.congr (f := fun k => laws_eqStringS.l0 k a a ((0 : Nat) : Int)) (fun k => ?_) (eqStringS_l a hl a.length 0 (by omega))
  unfold laws_eqStringS.f; rw [if_pos rfl]; rfl

/-! markText -/
theorem markText_l : ∀ (n : Nat) (k : Int) (t : ByteArray), 0 ≤ k → k.toNat ≤ n → (t.size : Int) + k ≤ 4611686018427387904 → ∃ r, Ev (fun m => laws_markText.l0 m k t) r := by
  intro n
  induction n with
  | zero =>
    intro k t h0 hn hb
    refine ⟨(⟨#[109]⟩ : ByteArray) ++ t, Ev.step (f := fun _ => some ((⟨#[109]⟩ : ByteArray) ++ t)) (fun m => ?_) (Ev.now _)⟩
    simp only [laws_markText.l0]
    rw [if_neg (by omega), if_pos (by omega)]
  | succ n ih =>
    intro k t h0 hn hb
    by_cases hk : k > 0
    · have hq : Int.tdiv k 10 = k / 10 := by rw [Int.tdiv_eq_ediv_of_nonneg h0]
      have hw : wrap64 (Int.tdiv k 10) = k / 10 := by rw [hq]; exact w64 (by omega) (by omega)
      have hs : ∀ x : Int, (strOfNums [x]).size = 1 := fun _ => rfl
      obtain ⟨r, hr⟩ := ih (k / 10) (strOfNums [(wrap64 (48 + (Int.tmod k 10))) % 256] ++ t) (by omega) (by omega) (by rw [ByteArray.size_append, hs]; omega)
      refine ⟨r, Ev.step (fun m => ?_) hr⟩
      simp only [laws_markText.l0, Option.bind_some, hw]
      rw [if_pos hk, if_pos (by rw [hs]; omega)]
    · refine ⟨(⟨#[109]⟩ : ByteArray) ++ t, Ev.step (f := fun _ => some ((⟨#[109]⟩ : ByteArray) ++ t)) (fun m => ?_) (Ev.now _)⟩
      simp only [laws_markText.l0]
      rw [if_neg hk, if_pos (by omega)]
theorem markText_ex (k : Int) (h : k ≤ 4611686018427387904) : ∃ r, Ev (fun m => laws_markText.f m k) r := by
  by_cases hk : k ≤ 0
  · exact ⟨_, Ev.congr (f := fun _ => some (⟨#[109, 48]⟩ : ByteArray)) (fun m => by unfold laws_markText.f; rw [if_pos hk]) (Ev.now _)⟩
  · obtain ⟨r, hr⟩ := markText_l k.toNat k (⟨#[]⟩ : ByteArray) (by omega) (Nat.le_refl _) (by show ((0 : Nat) : Int) + k ≤ _; omega)
    exact ⟨r, Ev.congr (fun m => by unfold laws_markText.f; rw [if_neg hk]) hr⟩
/-- The text of a mark. -/
noncomputable def mkT (k : Int) : ByteArray := if h : ∃ r, Ev (fun m => laws_markText.f m k) r then h.choose else ByteArray.empty
theorem mkT_ev (k : Int) (h : k ≤ 4611686018427387904) : Ev (fun m => laws_markText.f m k) (mkT k) := by
  unfold mkT
  rw [dif_pos (markText_ex k h)]
  exact (markText_ex k h).choose_spec
noncomputable def marks (m : Int) (n : Nat) : List ByteArray := (List.range n).map fun (i : Nat) => mkT (m + (i : Int))
theorem marks_length (m : Int) (n : Nat) : (marks m n).length = n := by simp [marks]
theorem marks_get (m : Int) (n i : Nat) (h : i < n) : (marks m n)[i]'(by rw [marks_length]; exact h) = mkT (m + i) := by simp [marks]

/-! markStringS -/
theorem markStringS_l (n : Nat) (m : Int) (hm : 0 ≤ m) (hb : m + n ≤ 4611686018427387904) : ∀ (d i : Nat) (acc : List ByteArray), i + d = n → acc.length = n → acc.take i = (marks m n).take i → Ev (fun k => laws_markStringS.l0 k acc (m + i) i) (m + n, marks m n) := by
  intro d
  induction d with
  | zero =>
    intro i acc hi ha ht
    refine Ev.step (f := fun _ => some (m + i, acc)) (fun k => ?_) ?_
    · simp only [laws_markStringS.l0]; rw [if_neg (by omega)]
    · have e : acc = marks m n := by
        have h1 := List.take_of_length_le (l := acc) (i := i) (by omega)
        have h2 := List.take_of_length_le (l := marks m n) (i := i) (by rw [marks_length]; omega)
        rw [← h1, ← h2, ht]
      rw [e, show i = n by omega]; exact Ev.now _
  | succ d ih =>
    intro i acc hi ha ht
    have hlt : i < n := by omega
    have := ih (i + 1) (acc.set i (mkT (m + i))) (by omega) (by simpa using ha) (by
      rw [List.take_succ_eq_append_getElem (by simp; omega), List.take_succ_eq_append_getElem (by rw [marks_length]; exact hlt), List.take_set_of_le (Nat.le_refl i), ht, marks_get m n i hlt]
      simp)
    refine Ev.step (f := fun k => (laws_markText.f k (m + i)).bind fun t => laws_markStringS.l0 k (acc.set i t) (m + ((i + 1 : Nat) : Int)) ((i + 1 : Nat) : Int)) (fun k => ?_) (Ev.bind (mkT_ev (m + i) (by omega)) this)
    simp only [laws_markStringS.l0]
    rw [if_pos (by omega)]
    congr 1
    funext t
    rw [if_pos (by omega), w64 (x := m + i + 1) (by omega) (by omega), w64 (by omega) (by omega), Int.toNat_natCast, show m + (i : Int) + 1 = m + ((i + 1 : Nat) : Int) by omega, show (i : Int) + 1 = ((i + 1 : Nat) : Int) by omega]
theorem markStringS_ev (l : List ByteArray) (m : Int) (hm : 0 ≤ m) (hb : m + l.length ≤ 4611686018427387904) : Ev (fun k => laws_markStringS.f k l m) (m + l.length, marks m l.length) := by
  have := markStringS_l l.length m hm hb l.length 0 l (by omega) rfl (by simp)
  simpa [laws_markStringS.f] using this

/-! heldStringS -/
theorem heldStringS_l (n : Nat) (m : Int) (hm : 0 ≤ m) (hb : m + n ≤ 4611686018427387904) : ∀ (d i : Nat), i + d = n → Ev (fun k => laws_heldStringS.l0 k (marks m n) (m + i) i) (m + n) := by
  intro d
  induction d with
  | zero =>
    intro i hi
    refine Ev.step (f := fun _ => some (m + i)) (fun k => ?_) ?_
    · simp only [laws_heldStringS.l0]; rw [if_neg (by rw [marks_length]; omega)]
    · rw [show i = n by omega]; exact Ev.now _
  | succ d ih =>
    intro i hi
    have hlt : i < n := by omega
    refine Ev.step (f := fun k => (laws_markText.f k (m + i)).bind fun t => if (mkT (m + i)).toList = t.toList then laws_heldStringS.l0 k (marks m n) (m + ((i + 1 : Nat) : Int)) ((i + 1 : Nat) : Int) else some (-1)) (fun k => ?_) (Ev.bind (mkT_ev (m + i) (by omega)) ?_)
    · simp only [laws_heldStringS.l0]
      rw [if_pos (by rw [marks_length]; omega), if_pos (by omega), rdOf_lt (by rw [marks_length]; omega), marks_get m n i hlt, w64 (x := m + i + 1) (by omega) (by omega), w64 (by omega) (by omega), show m + (i : Int) + 1 = m + ((i + 1 : Nat) : Int) by omega, show (i : Int) + 1 = ((i + 1 : Nat) : Int) by omega]
    · simp only [if_true]
      exact ih (i + 1) (by omega)
theorem heldStringS_ev (n : Nat) (m : Int) (hm : 0 ≤ m) (hb : m + n ≤ 4611686018427387904) : Ev (fun k => laws_heldStringS.f k (marks m n) m) (m + n) := by
  have := heldStringS_l n m hm hb n 0 (by omega)
  simpa [laws_heldStringS.f] using this

/-! splitByte -/
/-- The parts that begin at f, i bytes being read. -/
def parts (s : ByteArray) (b : Int) : Nat → Nat → Nat → List ByteArray
  | 0, i, f => [s.extract f i]
  | d + 1, i, f => if bt s i = b then s.extract f i :: parts s b d (i + 1) (i + 1) else parts s b d (i + 1) f
theorem parts_length (s : ByteArray) (b : Int) : ∀ d i f, (parts s b d i f).length ≤ d + 1 := by
  intro d
  induction d with
  | zero => intro i f; simp [parts]
  | succ d ih =>
    intro i f
    unfold parts
    split
    · have := ih (i + 1) (i + 1); simp only [List.length_cons]; omega
    · have := ih (i + 1) f; omega
theorem splitByte_l (s : ByteArray) (b : Int) (hs : s.size ≤ 1048576) : ∀ (d i f : Nat) (acc : List ByteArray), i + d = s.size → f ≤ i → acc.length ≤ i → Ev (fun k => spec_SplitByte.l0 k s b acc f i) (acc ++ parts s b d i f) ∧ Ev (fun k => impl_SplitByte.l0 k s b acc f s.size i) (acc ++ parts s b d i f) := by
  intro d
  induction d with
  | zero =>
    intro i f acc hi hf ha
    have hie : i = s.size := by omega
    constructor
    · refine Ev.step (f := fun k => spec_SplitByte.l0 k s b (acc ++ [s.extract f i]) ((i + 1 : Nat) : Int) ((i + 1 : Nat) : Int)) (fun k => ?_) (Ev.step (f := fun _ => some (acc ++ [s.extract f i])) (fun k => ?_) ?_)
      · simp only [spec_SplitByte.l0]
        rw [if_pos (by omega), if_pos (by omega), if_pos (by omega), if_pos (by omega), if_pos (by omega), w64s (n := i + 1) (by omega) (by omega), Int.toNat_natCast, Int.toNat_natCast]
      · simp only [spec_SplitByte.l0]; rw [if_neg (by omega)]
      · exact Ev.now _
    · refine Ev.step (f := fun _ => some (acc ++ [s.extract f i])) (fun k => ?_) (Ev.now _)
      simp only [impl_SplitByte.l0]
      rw [if_neg (by omega), if_pos (by omega), if_pos (by omega), if_pos (by omega), Int.toNat_natCast, ← hie]
  | succ d ih =>
    intro i f acc hi hf ha
    have hlt : (i : Int) < (s.size : Int) := by omega
    unfold parts
    by_cases hb : bt s i = b
    · rw [if_pos hb]
      obtain ⟨h1, h2⟩ := ih (i + 1) (i + 1) (acc ++ [s.extract f i]) (by omega) (by omega) (by simp; omega)
      rw [List.append_assoc, List.singleton_append] at h1 h2
      refine ⟨Ev.step (fun k => ?_) h1, Ev.step (fun k => ?_) h2⟩
      · simp only [spec_SplitByte.l0]
        rw [if_pos (by omega), if_neg (by omega), if_pos (by omega), if_pos hlt, if_pos hb, if_pos (by omega), if_pos (by omega), if_pos (by omega), w64s (n := i + 1) (by omega) (by omega), Int.toNat_natCast, Int.toNat_natCast]
      · simp only [impl_SplitByte.l0]
        rw [if_pos hlt, if_pos (by omega), if_pos hlt, if_pos hb, if_pos (by omega), if_pos (by omega), if_pos (by omega), if_pos (by omega), w64s (n := i + 1) (by omega) (by omega), Int.toNat_natCast, Int.toNat_natCast]
    · rw [if_neg hb]
      obtain ⟨h1, h2⟩ := ih (i + 1) f acc (by omega) (by omega) (by omega)
      refine ⟨Ev.step (fun k => ?_) h1, Ev.step (fun k => ?_) h2⟩
      · simp only [spec_SplitByte.l0]
        rw [if_pos (by omega), if_neg (by omega), if_pos (by omega), if_pos hlt, if_neg hb, w64s (n := i + 1) (by omega) (by omega)]
      · simp only [impl_SplitByte.l0]
        rw [if_pos hlt, if_pos (by omega), if_pos hlt, if_neg hb, w64s (n := i + 1) (by omega) (by omega)]
theorem splitByte_ev (s : ByteArray) (b : Int) (hs : s.size ≤ 1048576) : Ev (fun k => spec_SplitByte.f k s b) (parts s b s.size 0 0) ∧ Ev (fun k => impl_SplitByte.f k s b) (parts s b s.size 0 0) := by
  have := splitByte_l s b hs s.size 0 0 [] (by omega) (by omega) (by simp)
  simpa [spec_SplitByte.f, impl_SplitByte.f] using this

/-! law.FnExactSplitByte -/
theorem FnExactSplitByte : laws_FnExactSplitByte.Pure := by
  intro s b h1 h2
  by_cases hb : (s.size : Int) > 1048576
  · exact ⟨0, by unfold laws_FnExactSplitByte.f; rw [if_pos hb]⟩
  refine Ev.rounds ?_
  obtain ⟨e1, e2⟩ := splitByte_ev s b (by omega)
  have hr := parts_length s b s.size 0 0
  generalize parts s b s.size 0 0 = r at e1 e2 hr
  have hE := eqStringS_same r (by omega)
  have hM := markStringS_ev r 1 (by omega) (by omega)
  have hH := heldStringS_ev r.length 1 (by omega) (by omega)
  have n1 : ¬ (1 + (r.length : Int) < 0) := by omega
  unfold laws_FnExactSplitByte.f
  simp only [if_neg hb]
  refine Ev.bind e1 (Ev.bind e2 (Ev.bind hE ?_))
  simp only [if_true]
  refine Ev.bind hM (Ev.bind hH ?_)
  simp only [n1, if_false, if_true]
  refine Ev.bind e2 (Ev.bind hE ?_)
  simp only [if_true]
  refine Ev.bind hH ?_
  simp only [n1, if_false, if_true]
  exact Ev.now _

end Go.Proofs.Ytehloilmokhmgaa.Pure
