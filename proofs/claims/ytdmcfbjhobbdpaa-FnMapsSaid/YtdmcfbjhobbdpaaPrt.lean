/- Lists of parents tell classes: what joining two roots does to the classes, and how many there are. Plain lists and numbers. -/
import Derived.Test.YtdmcfbjhobbdpaaK3
import Derived.Test.YtdmcfbjhobbdpaaJoi
namespace Go.Proofs.Ytdmcfbjhobbdpaa.Joi
open Go.Proofs.Ytdmcfbjhobbdpaa.Kl Go.Proofs.YtdmcfbjhobbdpaaW.PrintWords
theorem rch_of {xs : List Int} {i r : Nat} (h : Kl.Reach xs i r) : ∃ n, rch xs n i r := by
  induction h with
  | root h => exact ⟨0, rfl, h⟩
  | step h hne _ ih => obtain ⟨n, hn⟩ := ih; exact ⟨n + 1, _, h, hne, hn⟩
theorem uf_iota (n : Nat) : UF (iota n) Eq := UF.init n
theorem mrg_comm {R : Nat → Nat → Prop} (a b x y : Nat) : mrg R a b x y ↔ mrg R b a x y := by
  unfold mrg
  constructor <;> rintro (h | h | h) <;> simp [h]
theorem uf_join {xs : List Int} {R : Nat → Nat → Prop} (h : UF xs R) {x y a b : Nat} (hx : Kl.Reach xs x a) (hy : Kl.Reach xs y b) : UF (joinL xs a b) (mrg R x y) := by
  unfold joinL
  split
  · exact h.join hx hy
  · refine (h.join hy hx).congr (mrg_eqv h.eqv x y) fun u v _ _ => mrg_comm _ _ _ _
theorem uf_count {xs : List Int} {R : Nat → Nat → Prop} (h : UF xs R) : ownsTo xs xs.length = K R (List.range xs.length) := by
  unfold ownsTo
  exact h.count (List.range xs.length) (fun i hi => List.mem_range.1 hi) List.nodup_range (fun i r hi hr => List.mem_range.2 hr.lt.2)
def mtN (d : Nat) : Nat := if d % 2 = 0 then d + 1 else d - 1
def relM (m : List Int) : Nat → Nat → Nat → Prop
  | 0 => Eq
  | k + 1 => mrg (mrg (relM m k) k (rd m k).toNat) k (mtN k)
noncomputable def partsN (m : List Int) : Nat := K (relM m m.length) (List.range m.length)
theorem partsN_le (m : List Int) : partsN m ≤ m.length := by
  unfold partsN
  have key : ∀ (R : Nat → Nat → Prop) (l : List Nat), K R l ≤ l.length := by
    intro R l
    induction l with
    | nil => simp [K]
    | cons a l ih => simp only [K, List.length_cons]; split <;> omega
  have := key (relM m m.length) (List.range m.length)
  rw [List.length_range] at this
  exact this
def MapOk (l : List Int) : Prop := l.length ≤ 24 ∧ l.length % 2 = 0 ∧ ∀ d : Nat, d < l.length → ∃ e : Nat, e < l.length ∧ rd l d = (e : Int)
theorem mtN_lt {l : List Int} (h : MapOk l) {d : Nat} (hd : d < l.length) : mtN d < l.length := by unfold mtN; have := h.2.1; split <;> omega
theorem xor1_fin : ∀ d : Fin 64, Go.bits .xor .i64 (d.val : Int) 1 = ((mtN d.val : Nat) : Int) := by decide +kernel
theorem xor1 (d : Nat) (h : d < 64) : Go.bits .xor .i64 (d : Int) 1 = ((mtN d : Nat) : Int) := xor1_fin ⟨d, h⟩
end Go.Proofs.Ytdmcfbjhobbdpaa.Joi
