/- Join of the program, by hand, over the shelf's contract of strings.Join. Conditions: the joined text is not longer than 2^47 bytes. -/
import Derived.Test.YtfknffpfjoalkaaQFnGluingsx0
import Derived.Test.YtfknffpfjoalkaaCom
import Derived.Test.YtfknffpfjoalkaaShj
namespace Go.Proofs.Ytfknffpfjoalkaa.QFnGluings
open Go.RowKit Go.Proofs.YtfknffpfjoalkaaW.PrintWords Go.Proofs.YtfknffpfjoalkaaW.PrintLast Go.Proofs.YtfknffpfjoalkaaW.PrintMore Go.Proofs.Ytfknffpfjoalkaa.Com
attribute [local go_sem] max2_int min2_int max_two min_two max_three min_three max_four min_four
set_option linter.unusedVariables false
set_option linter.unusedSimpArgs false
def joinB (xs : List ByteArray) (sep : ByteArray) : ByteArray := ⟨(Lib.join (xs.map (·.data.toList)) sep.data.toList).toArray⟩
def joinLen (xs : List ByteArray) (sep : ByteArray) : Nat := (Lib.join (xs.map (·.data.toList)) sep.data.toList).length
theorem join_calls (A : Option Addr) (c : Nat) (xs : List ByteArray) (sep : ByteArray) (w : World) (hC : Kd.C Kd.string w A xs.length xs) (hc : xs.length ≤ c) (hn : xs.length ≤ 140737488355328) (hl : joinLen xs sep ≤ 140737488355328) :
  Calls Try.prog 90 #[.slice A xs.length c, .string sep] w fun e w' => e = .returned (.string (joinB xs sep)) ∧ Below w.heap.size w w' := by
 by_cases h0 : xs.length = 0
 ·
  have hx : xs = [] := List.length_eq_zero_iff.1 h0
  subst hx
  refine (Try.strings_Join_none A c sep w).mono ?_
  rintro e w' ⟨rfl, hw⟩
  obtain rfl := hw.symm
  exact ⟨rfl, Below.refl _ _⟩
 ·
  have hR := Kd.reads_of_C (d := ByteArray.empty) hC
  obtain ⟨ad, rfl, hcell⟩ := hR.2.2 (by omega)
  have h00 := hcell 0 (by omega)
  rw [Addr.add_zero'] at h00
  obtain ⟨b, o, sp⟩ := ad
  have hsp : sp = none := by
   cases sp with
   | none => rfl
   | some p => exfalso; revert h00; unfold World.cell?; split <;> simp
  subst hsp
  refine (Try.strings_Join b o c xs sep w (fun j x hj => ?_) (World.block_lt_of_cell? w _ h00) hn hc hl).mono ?_
  ·
   have hjl : j < xs.length := by
    by_cases h : j < xs.length
    ·
     exact h
    ·
     rw [List.getElem?_eq_none (by omega)] at hj; cases hj
   have h1 := hcell j hjl
   have e1 : (⟨b, o, none⟩ : Addr).add j = ⟨b, o + j, none⟩ := by
    unfold Addr.add
    split
    ·
     rename_i hj0; subst hj0; rfl
    ·
     rfl
   rw [e1] at h1
   rw [h1]
   congr 2
   rw [List.getD_eq_getElem?_getD, hj]; rfl
  ·
   rintro e w' ⟨rfl, hb⟩
   exact ⟨rfl, hb⟩
def impl_Join.f (l0 : List ByteArray) (a1 : ByteArray) : Option ByteArray := if l0.length ≤ 140737488355328 ∧ joinLen l0 a1 ≤ 140737488355328 then some (joinB l0 a1) else none
set_option maxHeartbeats 8000000 in
set_option maxRecDepth 100000 in
theorem impl_Join.calls (A0 : Option Addr) (c0 : Nat) (l0 : List ByteArray) (a1 : ByteArray) (r : ByteArray) (w : World) (hr0 : Kd.C Kd.string w A0 l0.length l0) (hc0 : l0.length ≤ c0) (h : impl_Join.f l0 a1 = some r) :
  Calls Try.prog 78 #[.slice A0 l0.length c0, .string a1] w fun e w' => e = .returned (.string r) ∧ Below w.heap.size w w' := by
 have HR0 := Aside0.mk hr0
 have HC0 := Aside0.mk hc0
 unfold impl_Join.f at h
 by_cases hl : l0.length ≤ 140737488355328 ∧ joinLen l0 a1 ≤ 140737488355328
 case neg => rw [if_neg hl] at h; cases h
 rw [if_pos hl] at h
 obtain rfl := Option.some.inj h
 have HL := Aside0.mk hl
 clear hr0 hc0 h hl
 generalize hj : joinB l0 a1 = jb
 have HJ := Aside0.mk hj
 clear hj
 go_enter Try.func78, Try.ntmps78
 go_wp2_with fail
 go_at_call 90
 refine (join_calls A0 c0 l0 a1 w HR0.out HC0.out HL.out.1 HL.out.2).mono ?_
 rintro e w1 ⟨rfl, hb⟩
 rw [HJ.out]
 have HB := Aside0.mk hb
 clear hb
 go_wp2
 go_ret
 exact ⟨rfl, HB.out⟩
end Go.Proofs.Ytfknffpfjoalkaa.QFnGluings
