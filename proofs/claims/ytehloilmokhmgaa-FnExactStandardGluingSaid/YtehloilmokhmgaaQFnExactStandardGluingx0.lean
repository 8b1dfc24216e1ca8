-- Written by a program of this session (the kit's print, turned in places): the functions that the law FnExactStandardGluing comes to, and what their calls do.
import Derived.Test.YtehloilmokhmgaaProg
import Derived.Below
import Derived.Deep.Draws
import Derived.Deep.AppendLies
import Derived.Maps.AppendAt
import Derived.OwnWalk
import Derived.Laws.BytesArg
import Derived.Laws.MakeOwn
import Derived.Laws.OwnMore
import Derived.Deep.OwnRows
import Derived.Tactics
import Derived.Lib.ConvBytes
import Derived.Laws.Slices
import Derived.WalkKit
import Derived.KernelRfl
import Derived.RowKit3
import Derived.Deep.LoopGhost
import Derived.Deep.QuietTactic
import Derived.BigQuiet
import Derived.WideLaws
import Derived.Deep.DeepCutAuto
import Derived.Deep.CutBlock
import Derived.Deep.RegionHeld3
import Derived.Laws.Rows
import Derived.Lib.AppendStr
import Derived.ArgAppend
import Derived.Laws.IdiomCopy
import Derived.OrdersHeld
import Derived.Laws.BitsLemmas
import Derived.RowKit
import Derived.Test.YtehloilmokhmgaaWWords
import Derived.Test.YtehloilmokhmgaaWLast
import Derived.Test.YtehloilmokhmgaaWTab
import Derived.Test.YtehloilmokhmgaaWFour
import Derived.Test.YtehloilmokhmgaaWQPut
import Derived.Test.YtehloilmokhmgaaWApart
import Derived.Test.YtehloilmokhmgaaWArr
import Derived.Test.YtehloilmokhmgaaWZeros
import Derived.Test.YtehloilmokhmgaaWFoot
import Derived.Test.YtehloilmokhmgaaWKept
import Derived.Test.YtehloilmokhmgaaWShare
import Derived.Test.YtehloilmokhmgaaWN
import Derived.Test.YtehloilmokhmgaaWFootNe
import Derived.Test.YtehloilmokhmgaaWAt
import Derived.Test.YtehloilmokhmgaaWEqStruct
import Derived.Test.YtehloilmokhmgaaWRepsOne
import Derived.Test.YtehloilmokhmgaaWInv
import Derived.Test.YtehloilmokhmgaaWInvWords
import Derived.Test.YtehloilmokhmgaaWGuard
import Derived.Test.YtehloilmokhmgaaWNEv
import Derived.Test.YtehloilmokhmgaaWMore
namespace Go.Proofs.Ytehloilmokhmgaa.QFnExactStandardGluing
open Go.RowKit Go.Proofs.YtehloilmokhmgaaW.PrintWords Go.Proofs.YtehloilmokhmgaaW.PrintLast Go.Proofs.YtehloilmokhmgaaW.PrintMore
attribute [local go_sem] max2_int min2_int max_two min_two max_three min_three max_four min_four   -- for this text's walks alone
set_option linter.unusedVariables false
set_option linter.unusedSimpArgs false



def errW : Option Int → Value
  | none => .nilIface
  | some c => .iface 0 (.int .i64 c)
theorem errW_none : errW none = .nilIface := rfl
theorem errW_some (c : Int) : errW (some c) = .iface 0 (.int .i64 c) := rfl

theorem info3 : (Try.prog.info? 3).map (fun i => (i.zero, i.size, i.bytes)) = some (some (.int .i64 0), 1, 8) := by kernel_rfl
theorem info54 : (Try.prog.info? 54).map (fun i => (i.zero, i.size, i.bytes)) = some (some (.slice none 0 0), 1, 24) := by kernel_rfl
-- the values' own types
def rd_L1 (xs : List (List Int)) (i : Int) : (List Int) := xs.getD i.toNat ([] : List Int)
theorem at_L1 {w : World} {A : Option Addr} {n : Nat} {xs : List (List Int)} (h : Kd.C (Kd.slice 3 (Kd.int .i64)) w A n xs) (i : Int) (h0 : 0 ≤ i) (h1 : i < n) : ∃ ad A0 c0, A = some ad ∧ w.cell? (ad.add i.toNat) = some (.slice A0 (rd_L1 xs i).length c0) ∧ (rd_L1 xs i).length ≤ c0 ∧ (Kd.int .i64).C w A0 (rd_L1 xs i).length (rd_L1 xs i) := by
  obtain ⟨ad, c, e, _, hK, hc0⟩ := Kd.C_get h ([] : List Int) i h0 h1
  have hc : ∀ j u, c[j]? = some u → w.cell? (ad.add (i.toNat * 1 + j)) = some u := hc0
  obtain ⟨A0, c0, rfl, l0, g0⟩ := hK
  exact ⟨ad, A0, c0, e, by have hq := hc 0 _ rfl; rwa [Nat.mul_one, Nat.add_zero] at hq, l0, g0⟩

theorem below_grown0 {a b : World} (h : a.grownBy b none) : Below a.heap.size a b := ⟨h.os, h.tape, h.output, h.size, fun k hk => h.block k hk (by simp)⟩
theorem S1_lit {P : Program} {ops : Array Oper} {Q : Exit → Act → World → Prop} {rest : List Oper} {o : Oper} {a : Act} {α : Type} (d : Kd α) {W : World} (base e : Nat) (hgd : o.guard = none) {N : Tmp} (hd : o.dst = some N) {xs : List α} {inner : List Value} {ok okp : Nat → Prop}
    (hrun : (execOp a.eval o).run P W = .ok (.value (.slice (some ⟨W.heap.size, 0, none⟩) xs.length xs.length)) (W.alloc (.cells inner.toArray e)))
    (hrep : Reps (d.M W base okp) d.sz xs inner) (hok : ∀ k, okp k → ok k) (hfresh : ok W.heap.size) (HB : Below base W W) (hbase : base ≤ W.heap.size) (hm : xs.length ≤ 9223372036854775807) (h1 : xs.length ≤ 1)
    (h : ∀ v1 w1, Kd.S d e w1 base ok v1 xs → Below W.heap.size W w1 → W.grownBy w1 none → (∃ b, v1.ownBlock = some b ∧ W.heap.size ≤ b) → wpList P ops Q rest (a.put o.dst v1) w1) : wpList P ops Q (o :: rest) a W :=
  Kd.S_lits d base e hgd hd (fun j k => j = 0 ∧ okp k) hrun hrep.1 (fun j x hx => d.M_mono (fun k hk => ⟨by have := (List.getElem?_eq_some_iff.1 hx).1; omega, hk⟩) (hrep.2 j x hx)) (fun i j k hi hj => hi.1.trans hj.1.symm) (fun j k hk => hok k hk.2) hfresh HB hbase hm (fun v1 w1 hs _ hg hn => h v1 w1 hs (below_grown0 hg) hg hn)

end Go.Proofs.Ytehloilmokhmgaa.QFnExactStandardGluing
