/- Lists of parents tell classes: what joining two roots does to the classes, and how many there are. Plain lists and numbers. -/
import Derived.Test.YtfknffpfjoalkaaK3
import Derived.Test.YtfknffpfjoalkaaJoi
namespace Go.Proofs.Ytfknffpfjoalkaa.Joi
open Go.Proofs.Ytfknffpfjoalkaa.Kl Go.Proofs.YtfknffpfjoalkaaW.PrintWords
theorem rch_of {xs : List Int} {i r : Nat} (h : Kl.Reach xs i r) : ∃ n, rch xs n i r := by
  induction h with
  | root h => exact ⟨0, rfl, h⟩
  | step h hne _ ih => obtain ⟨n, hn⟩ := ih; exact ⟨n + 1, _, h, hne, hn⟩
theorem uf_iota (n : Nat) : UF (iota n) Eq := UF.init n
theorem mrg_comm {R : Nat → Nat → Prop} (a b x y : Nat) : mrg R a b x y ↔ mrg R b a x y := by
  unfold mrg
  constructor <;> rintro (h | h | h) <;> simp [h]
theorem uf_join {xs : List Int} {R : Nat → Nat → Prop} (h : UF xs R) {x y a b : Nat} (hx : Kl.Reach xs x a) (hy : Kl.Reach xs y b) : UF (joinL xs a b) (mrg R x y) := by
  unfold joinL
  split
  · exact h.join hx hy
  · refine (h.join hy hx).congr (mrg_eqv h.eqv x y) fun u v _ _ => mrg_comm _ _ _ _
theorem uf_count {xs : List Int} {R : Nat → Nat → Prop} (h : UF xs R) : ownsTo xs xs.length = K R (List.range xs.length) := by
  unfold ownsTo
  exact h.count (List.range xs.length) (fun i hi => List.mem_range.1 hi) List.nodup_range (fun i r hi hr => List.mem_range.2 hr.lt.2)
end Go.Proofs.Ytfknffpfjoalkaa.Joi
