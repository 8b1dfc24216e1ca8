/- Small words for the plain statements of this seat: numbers that do not wrap, lists that are read, and what comes to an answer in enough rounds. -/
import Derived.Test.YteeejdbdmfageaaDoorWMore
import Derived.Test.YteeejdbdmfageaaDoorWSized
import Derived.Laws.Strings
namespace Go.Proofs.YteeejdbdmfageaaDoor.PrintWords
open Go.ChangeShapes Go.WideShapes
/-- The printed rows name this law so. -/
theorem sized_ints {H : Type} {enc : TypeId × Value → H} {P : Program} {W : World} {base : Nat} {spare : Nat → Bool} {held : Bool} {t e : TypeId} {k : IntKind} {a : Option Addr} {len cap : Nat} {d : DataW H} {ps : List MemPlace} {ts : List TypeId} {ds : List (DataW H)} {j : Nat}
    (hsz : (DataW.weightsEach P ts ds).all (· ≤ reachBytes) = true) (ht : ts[j]? = some t) (hd : ds[j]? = some d) (hu : P.underlying t = some (.slice e)) (he : P.underlying e = some (.int k)) (hc : P.cellsOf e = 1) {B : Nat} (hB : P.bytesOf e = B)
    (h : DataW.Trod enc P W base spare held t (.slice a len cap) d ps) : len * B ≤ 140737488351232 :=
  Go.Proofs.YteeejdbdmfageaaDoorW.PrintWords.sized_ints hsz ht hd hu he hc hB h
end Go.Proofs.YteeejdbdmfageaaDoor.PrintWords
namespace Go.Proofs.YteeejdbdmfageaaDoor.Com
open Go.RowKit Go.Proofs.YteeejdbdmfageaaDoorW.PrintWords Go.Proofs.YteeejdbdmfageaaDoorW.PrintLast

theorem w64 {x : Int} (h : -9223372036854775808 ≤ x) (h' : x ≤ 9223372036854775807) : wrap64 x = x := by
  unfold wrap64
  omega
theorem w64s {i n : Nat} (h : i < n) (hn : n ≤ 9223372036854775807) : wrap64 ((i : Int) + 1) = ((i + 1 : Nat) : Int) := by
  unfold wrap64
  omega

theorem tol_len (s : ByteArray) : s.toList.length = s.size := by rw [ByteArray.toList_eq s, Array.length_toList]; rfl
theorem tol_nil (s : ByteArray) : s.toList = [] ↔ s.size = 0 := by rw [← List.length_eq_zero_iff, tol_len]
theorem rd_nat (l : List Int) (i : Nat) : rd l (i : Int) = l.getD i 0 := rfl
theorem rd_lt {l : List Int} {i : Nat} (h : i < l.length) : rd l (i : Int) = l[i] := by
  simp [rd, List.getD_eq_getElem?_getD, h]
theorem rdOf_lt {α : Type} {z : α} {l : List α} {i : Nat} (h : i < l.length) : rdOf z l (i : Int) = l[i] := by
  simp [rdOf, List.getD_eq_getElem?_getD, h]

theorem Ev.iff_bind {α β : Type} {g : Nat → Option α} {f : Nat → α → Option β} {a : α} {r : β} (h : Ev g a) : Ev (fun n => (g n).bind (f n)) r ↔ Ev (fun n => f n a) r := by
  constructor
  · rintro ⟨K, hK⟩
    obtain ⟨K', hK'⟩ := h
    refine ⟨K + K', fun k hk => ?_⟩
    have h1 : (g k).bind (f k) = some r := hK k (by omega)
    rw [hK' k (by omega)] at h1
    exact h1
  · exact Ev.bind h

theorem Ev.shift {α : Type} {g : Nat → Option α} {r : α} (h : Ev (fun k => g (k + 1)) r) : Ev g r := Ev.step (fun _ => rfl) h

theorem Ev.unique {α : Type} {g : Nat → Option α} {a b : α} (h : Ev g a) (k : Ev g b) : a = b := by
  obtain ⟨K, hK⟩ := h
  obtain ⟨K', hK'⟩ := k
  have h1 := hK (K + K') (by omega)
  rw [hK' (K + K') (by omega)] at h1
  exact (Option.some.inj h1).symm

/-- A plain value that is handed on. -/
theorem Ev.some_bind {α β : Type} {a : α} {f : Nat → α → Option β} {r : β} (h : Ev (fun n => f n a) r) : Ev (fun n => (some a).bind (f n)) r := h

theorem list_set_same {α : Type} (l : List α) (i : Nat) (h : i < l.length) : l.set i l[i] = l := by
  refine List.ext_getElem? fun j => ?_
  rw [List.getElem?_set]
  by_cases hj : i = j
  · subst hj; simp [h]
  · simp [hj]

/-- The numbers from m on. -/
def from_ (m : Int) (n : Nat) : List Int := (List.range n).map fun (i : Nat) => m + (i : Int)
theorem from_length (m : Int) (n : Nat) : (from_ m n).length = n := by simp [from_]
theorem from_get (m : Int) (n i : Nat) (h : i < n) : (from_ m n)[i]'(by rw [from_length]; exact h) = m + i := by simp [from_]

theorem getD_lt {α : Type} {d : α} {l : List α} {i : Nat} (h : i < l.length) : l.getD i d = l[i] := by simp [List.getD_eq_getElem?_getD, h]
end Go.Proofs.YteeejdbdmfageaaDoor.Com
