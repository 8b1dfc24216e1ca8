/- Joining the parts of a drawn text at the separator restores it, and each part is cut into one part alone. Conditions: those that the printed statement itself names (lengths and numbers that fit). -/
import Derived.Test.YtehloilmokhmgaaQFnSplitx2
import Derived.Test.YtehloilmokhmgaaCom
namespace Go.Proofs.Ytehloilmokhmgaa.Pure
open Classical Go.RowKit Go.Proofs.Ytehloilmokhmgaa.QFnSplit Go.Proofs.YtehloilmokhmgaaW.PrintWords Go.Proofs.YtehloilmokhmgaaW.PrintLast Go.Proofs.Ytehloilmokhmgaa.Com

/-! drawB -/
theorem and255 (x : Int) : 0 ≤ Go.bits .and .i64 x 255 ∧ Go.bits .and .i64 x 255 ≤ 255 := by
  have h : ∃ n : Nat, n ≤ 255 ∧ Go.bits .and .i64 x 255 = IntKind.i64.wrap (n : Int) := by
    refine ⟨(BitVec.ofInt IntKind.i64.bits x &&& BitVec.ofInt IntKind.i64.bits 255).toNat, ?_, rfl⟩
    rw [BitVec.toNat_and]
    exact Nat.le_trans Nat.and_le_right (by decide)
  obtain ⟨n, hn, e⟩ := h
  rw [e, i64_w, w64 (by omega) (by omega)]
  omega
theorem byte_ok (b : List Int) (hb : b.length ≤ 1048576) (i h : Int) (hi : 0 ≤ i) : ∃ x i' h' : Int, spec_l1Byte.f b i h = some (x, i', h') ∧ 0 ≤ x ∧ x ≤ 255 ∧ 0 ≤ i' := by
  unfold spec_l1Byte.f
  by_cases c : i < (b.length : Int)
  · rw [if_pos c, if_pos hi]
    refine ⟨_, _, _, rfl, (and255 _).1, (and255 _).2, ?_⟩
    rw [w64 (by omega) (by omega)]
    omega
  · rw [if_neg c]
    exact ⟨_, _, _, rfl, (and255 _).1, (and255 _).2, hi⟩
theorem below_ok (b : List Int) (hb : b.length ≤ 1048576) (i h n : Int) (hi : 0 ≤ i) (hn : 0 < n) (hn2 : n ≤ 256) : ∃ x i' h' : Int, spec_l1Below.f b i h n = some (x, i', h') ∧ 0 ≤ x ∧ x < n ∧ 0 ≤ i' := by
  obtain ⟨x, i', h', e, h0, h1, h2⟩ := byte_ok b hb i h hi
  unfold spec_l1Below.f
  rw [if_neg (by omega), if_pos hn2, e, Option.bind_some, if_neg (by omega)]
  refine ⟨_, _, _, rfl, ?_, ?_, h2⟩
  · have := Int.tmod_nonneg n h0; exact this
  · exact Int.tmod_lt_of_pos x hn
theorem new_l (l : List Int) (hl : l.length ≤ 1048576) : ∀ (d i : Nat) (x : Int), i + d = l.length → ∃ h : Int, Ev (fun k => spec_l1New.l0 k l x i) (l, 0, h) := by
  intro d
  induction d with
  | zero =>
    intro i x hi
    refine ⟨x, Ev.step (f := fun _ => some (l, 0, x)) (fun k => ?_) (Ev.now _)⟩
    simp only [spec_l1New.l0]; rw [if_neg (by omega)]
  | succ d ih =>
    intro i x hi
    have hlt : i < l.length := by omega
    by_cases c : (i : Int) < 4000
    · obtain ⟨h, hh⟩ := ih (i + 1) (Go.bits .and .i64 (wrap64 ((wrap64 ((wrap64 (x * 131)) + (wrap64 (rd l i)))) + 7)) 1073741823) (by omega)
      refine ⟨h, Ev.step (fun k => ?_) hh⟩
      simp only [spec_l1New.l0]
      rw [if_pos (by omega), if_pos c, if_pos (by omega), w64s hlt (by omega)]
    · refine ⟨x, Ev.step (f := fun _ => some (l, 0, x)) (fun k => ?_) (Ev.now _)⟩
      simp only [spec_l1New.l0]; rw [if_pos (by omega), if_neg c]
theorem new_ok (l : List Int) (hl : l.length ≤ 1048576) : ∃ h : Int, Ev (fun k => spec_l1New.f k l) (l, 0, h) := new_l l hl l.length 0 _ (by omega)
theorem big_eq (l : List Int) : laws_big.f l = some (decide ((l.length : Int) > 1048576)) := rfl

/-! drawPick -/
theorem pick_ok (b : List Int) (hb : b.length ≤ 1048576) (i h : Int) (hi : 0 ≤ i) (l : List ByteArray) (hn : 0 < l.length) (hn2 : l.length ≤ 256) : ∃ (s : ByteArray) (i' h' : Int), spec_l1Pick.f b i h l = some (s, i', h') ∧ s ∈ l ∧ 0 ≤ i' := by
  obtain ⟨x, i', h', e, h0, h1, h2⟩ := below_ok b hb i h l.length hi (by omega) (by omega)
  unfold spec_l1Pick.f
  rw [e, Option.bind_some, if_pos h0, if_pos h1]
  obtain ⟨n, rfl⟩ := Int.eq_ofNat_of_zero_le h0
  have hn : n < l.length := by omega
  exact ⟨_, _, _, rfl, by rw [show ((n : Nat) : Int) = (n : Int) from rfl, rdOf_lt hn]; exact List.getElem_mem hn, h2⟩

/-! drawPickInt -/
theorem pickInt_ok (b : List Int) (hb : b.length ≤ 1048576) (i h : Int) (hi : 0 ≤ i) (l : List Int) (hn : 0 < l.length) (hn2 : l.length ≤ 256) : ∃ (s i' h' : Int), spec_l1PickInt.f b i h l = some (s, i', h') ∧ s ∈ l ∧ 0 ≤ i' := by
  obtain ⟨x, i', h', e, h0, h1, h2⟩ := below_ok b hb i h l.length hi (by omega) (by omega)
  unfold spec_l1PickInt.f
  rw [e, Option.bind_some, if_pos h0, if_pos h1]
  obtain ⟨n, rfl⟩ := Int.eq_ofNat_of_zero_le h0
  have hn : n < l.length := by omega
  exact ⟨_, _, _, rfl, by rw [show ((n : Nat) : Int) = (n : Int) from rfl, rd_lt hn]; exact List.getElem_mem hn, h2⟩

/-! law.FnSplit -/
def texts : List ByteArray := [(⟨#[]⟩ : ByteArray), (⟨#[97]⟩ : ByteArray), (⟨#[97, 44, 98]⟩ : ByteArray), (⟨#[44]⟩ : ByteArray), (⟨#[97, 44, 44, 98, 44]⟩ : ByteArray), (⟨#[97, 10, 98, 10]⟩ : ByteArray)]
def tail (k : Nat) (s : ByteArray) (b : Int) : Option Bool := (impl_SplitByte.f k s b).bind fun t => (impl_Join.f t (strOfNums [b])).bind fun u => if u.toList = s.toList then ((spec_SplitByte.f k s b).bind fun v => laws_FnSplit.j0 k b t ((t.length : Int) != (v.length : Int))) else laws_FnSplit.j0 k b t true
theorem tail_mono (s : ByteArray) (b : Int) (k : Nat) : LeO (tail k s b) (tail (k + 1) s b) := by
  unfold tail
  refine LeO.bind (impl_SplitByte.mono _ _ _) fun t => LeO.bind (LeO.refl _) fun u => LeO.ite (LeO.bind (spec_SplitByte.mono _ _ _) fun v => ?_) ?_
  · exact (laws_FnSplit.mono_l k).1 _ _ _
  · exact (laws_FnSplit.mono_l k).1 _ _ _
theorem tail_all : (texts.all fun s => [44, 10].all fun b => decide (tail 14 s b = some true)) = true := by decide +kernel
theorem tail_ok (s : ByteArray) (hs : s ∈ texts) (b : Int) (hb : b ∈ [(44 : Int), 10]) : Ev (fun k => tail k s b) true := by
  have h := List.all_eq_true.1 (List.all_eq_true.1 tail_all s hs) b hb
  exact Ev.of (tail_mono s b) (of_decide_eq_true h)
theorem FnSplit : laws_FnSplit.Pure := by
  intro l h1 h2 h3
  unfold laws_FnSplit.f
  by_cases hb : (l.length : Int) > 1048576
  · exact ⟨0, by rw [big_eq, decide_eq_true hb, Option.bind_some, if_pos rfl]⟩
  refine Ev.rounds ?_
  obtain ⟨h, hn⟩ := new_ok l (by omega)
  obtain ⟨s, i, g, e1, hs, hi⟩ := pick_ok l (by omega) 0 h (by omega) texts (by decide) (by decide)
  obtain ⟨b, i2, g2, e2, hbm, _⟩ := pickInt_ok l (by omega) i g hi [44, 10] (by decide) (by decide)
  have hbb : b % 256 = b := by
    rcases List.mem_cons.1 hbm with rfl | hbm
    · rfl
    · rcases List.mem_cons.1 hbm with rfl | hbm
      · rfl
      · cases hbm
  have hd : Ev (fun k => spec_DrawSplitByte.f k l) (s, b) := by
    unfold spec_DrawSplitByte.f
    refine Ev.bind hn ?_
    refine Ev.congr (f := fun _ => some (s, b)) (fun k => ?_) (Ev.now _)
    show (spec_l1Pick.f l 0 h texts).bind _ = _
    rw [e1, Option.bind_some]
    show (spec_l1PickInt.f l i g [44, 10]).bind _ = _
    rw [e2, Option.bind_some]
    show some (s, b % 256) = _
    rw [hbb]
  rw [big_eq, decide_eq_false hb]
  refine Ev.some_bind (Ev.congr (fun k => if_neg Bool.false_ne_true) ?_)
  exact Ev.bind hd (tail_ok s hs b hbm)

end Go.Proofs.Ytehloilmokhmgaa.Pure
