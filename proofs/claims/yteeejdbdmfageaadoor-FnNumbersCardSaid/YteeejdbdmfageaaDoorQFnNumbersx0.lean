-- Written by a program of this session (the kit's print, turned in places): the functions that the law FnNumbers comes to, and what their calls do.
import Derived.Test.YteeejdbdmfageaaDoorProg
import Derived.Below
import Derived.Deep.Draws
import Derived.Deep.AppendLies
import Derived.Maps.AppendAt
import Derived.OwnWalk
import Derived.Laws.BytesArg
import Derived.Laws.MakeOwn
import Derived.Laws.OwnMore
import Derived.Deep.OwnRows
import Derived.Tactics
import Derived.Lib.ConvBytes
import Derived.Laws.Slices
import Derived.WalkKit
import Derived.KernelRfl
import Derived.RowKit3
import Derived.Deep.LoopGhost
import Derived.Deep.QuietTactic
import Derived.BigQuiet
import Derived.WideLaws
import Derived.Deep.DeepCutAuto
import Derived.Deep.CutBlock
import Derived.Deep.RegionHeld3
import Derived.Laws.Rows
import Derived.Lib.AppendStr
import Derived.ArgAppend
import Derived.Laws.IdiomCopy
import Derived.OrdersHeld
import Derived.Laws.BitsLemmas
import Derived.RowKit
import Derived.Test.YteeejdbdmfageaaDoorWWords
import Derived.Test.YteeejdbdmfageaaDoorWLast
import Derived.Test.YteeejdbdmfageaaDoorWTab
import Derived.Test.YteeejdbdmfageaaDoorWFour
import Derived.Test.YteeejdbdmfageaaDoorWQPut
import Derived.Test.YteeejdbdmfageaaDoorWApart
import Derived.Test.YteeejdbdmfageaaDoorWArr
import Derived.Test.YteeejdbdmfageaaDoorWZeros
import Derived.Test.YteeejdbdmfageaaDoorWFoot
import Derived.Test.YteeejdbdmfageaaDoorWKept
import Derived.Test.YteeejdbdmfageaaDoorWShare
import Derived.Test.YteeejdbdmfageaaDoorWN
import Derived.Test.YteeejdbdmfageaaDoorWFootNe
import Derived.Test.YteeejdbdmfageaaDoorWAt
import Derived.Test.YteeejdbdmfageaaDoorWEqStruct
import Derived.Test.YteeejdbdmfageaaDoorWRepsOne
import Derived.Test.YteeejdbdmfageaaDoorWInv
import Derived.Test.YteeejdbdmfageaaDoorWInvWords
import Derived.Test.YteeejdbdmfageaaDoorWGuard
import Derived.Test.YteeejdbdmfageaaDoorWNEv
import Derived.Test.YteeejdbdmfageaaDoorWMore
namespace Go.Proofs.YteeejdbdmfageaaDoor.QFnNumbers
open Go.RowKit Go.Proofs.YteeejdbdmfageaaDoorW.PrintWords Go.Proofs.YteeejdbdmfageaaDoorW.PrintLast Go.Proofs.YteeejdbdmfageaaDoorW.PrintMore
attribute [local go_sem] max2_int min2_int max_two min_two max_three min_three max_four min_four   -- for this text's walks alone
set_option linter.unusedVariables false
set_option linter.unusedSimpArgs false



def errW : Option Int → Value
  | none => .nilIface
  | some c => .iface 50 (.int .i64 c)
theorem errW_none : errW none = .nilIface := rfl
theorem errW_some (c : Int) : errW (some c) = .iface 50 (.int .i64 c) := rfl

theorem info3 : (Tryd.prog.info? 3).map (fun i => (i.zero, i.size, i.bytes)) = some (some (.int .i64 0), 1, 8) := by kernel_rfl
theorem info5 : (Tryd.prog.info? 5).map (fun i => (i.zero, i.size, i.bytes)) = some (some (.int .u8 0), 1, 1) := by kernel_rfl
theorem info9 : (Tryd.prog.info? 9).map (fun i => (i.zero, i.size, i.bytes)) = some (some (.string ⟨#[]⟩), 1, 16) := by kernel_rfl
-- the values' own types

end Go.Proofs.YteeejdbdmfageaaDoor.QFnNumbers
