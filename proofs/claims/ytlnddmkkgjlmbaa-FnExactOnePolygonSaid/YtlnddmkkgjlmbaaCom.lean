/- Small words for the plain statements of this seat: numbers that do not wrap, lists that are read, and what comes to an answer in enough rounds. -/
import Derived.Test.YtlnddmkkgjlmbaaWMore
import Derived.SizedLaws
import Derived.ChangeSlices
import Derived.Laws.Strings
namespace Go.Proofs.Ytlnddmkkgjlmbaa.PrintWords
open Go.ChangeShapes Go.WideShapes
end Go.Proofs.Ytlnddmkkgjlmbaa.PrintWords
namespace Go.Proofs.Ytlnddmkkgjlmbaa.Com
open Go.RowKit Go.Proofs.YtlnddmkkgjlmbaaW.PrintWords Go.Proofs.YtlnddmkkgjlmbaaW.PrintLast
theorem w64 {x : Int} (h : -9223372036854775808 ≤ x) (h' : x ≤ 9223372036854775807) : wrap64 x = x := by
  unfold wrap64
  omega
theorem w64s {i n : Nat} (h : i < n) (hn : n ≤ 9223372036854775807) : wrap64 ((i : Int) + 1) = ((i + 1 : Nat) : Int) := by
  unfold wrap64
  omega
theorem rd_lt {l : List Int} {i : Nat} (h : i < l.length) : rd l (i : Int) = l[i] := by
  simp [rd, List.getD_eq_getElem?_getD, h]
theorem Ev.shift {α : Type} {g : Nat → Option α} {r : α} (h : Ev (fun k => g (k + 1)) r) : Ev g r := Ev.step (fun _ => rfl) h
def from_ (m : Int) (n : Nat) : List Int := (List.range n).map fun (i : Nat) => m + (i : Int)
theorem from_length (m : Int) (n : Nat) : (from_ m n).length = n := by simp [from_]
theorem from_get (m : Int) (n i : Nat) (h : i < n) : (from_ m n)[i]'(by rw [from_length]; exact h) = m + i := by simp [from_]
theorem getD_lt {α : Type} {d : α} {l : List α} {i : Nat} (h : i < l.length) : l.getD i d = l[i] := by simp [List.getD_eq_getElem?_getD, h]
end Go.Proofs.Ytlnddmkkgjlmbaa.Com
