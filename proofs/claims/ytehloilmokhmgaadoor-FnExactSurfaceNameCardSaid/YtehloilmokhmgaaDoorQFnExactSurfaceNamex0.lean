-- Written by a program of this session (the kit's print, turned in places): the functions that the law FnExactSurfaceName comes to, and what their calls do.
import Derived.Test.YtehloilmokhmgaaDoorProg
import Derived.Below
import Derived.Deep.Draws
import Derived.Deep.AppendLies
import Derived.Maps.AppendAt
import Derived.OwnWalk
import Derived.Laws.BytesArg
import Derived.Laws.MakeOwn
import Derived.Laws.OwnMore
import Derived.Deep.OwnRows
import Derived.Tactics
import Derived.Lib.ConvBytes
import Derived.Laws.Slices
import Derived.WalkKit
import Derived.KernelRfl
import Derived.RowKit3
import Derived.Deep.LoopGhost
import Derived.Deep.QuietTactic
import Derived.BigQuiet
import Derived.WideLaws
import Derived.Deep.DeepCutAuto
import Derived.Deep.CutBlock
import Derived.Deep.RegionHeld3
import Derived.Laws.Rows
import Derived.Lib.AppendStr
import Derived.ArgAppend
import Derived.Laws.IdiomCopy
import Derived.OrdersHeld
import Derived.Laws.BitsLemmas
import Derived.RowKit
import Derived.Test.YtehloilmokhmgaaDoorWWords
import Derived.Test.YtehloilmokhmgaaDoorWLast
import Derived.Test.YtehloilmokhmgaaDoorWTab
import Derived.Test.YtehloilmokhmgaaDoorWFour
import Derived.Test.YtehloilmokhmgaaDoorWQPut
import Derived.Test.YtehloilmokhmgaaDoorWApart
import Derived.Test.YtehloilmokhmgaaDoorWArr
import Derived.Test.YtehloilmokhmgaaDoorWZeros
import Derived.Test.YtehloilmokhmgaaDoorWFoot
import Derived.Test.YtehloilmokhmgaaDoorWKept
import Derived.Test.YtehloilmokhmgaaDoorWShare
import Derived.Test.YtehloilmokhmgaaDoorWN
import Derived.Test.YtehloilmokhmgaaDoorWFootNe
import Derived.Test.YtehloilmokhmgaaDoorWAt
import Derived.Test.YtehloilmokhmgaaDoorWEqStruct
import Derived.Test.YtehloilmokhmgaaDoorWRepsOne
import Derived.Test.YtehloilmokhmgaaDoorWInv
import Derived.Test.YtehloilmokhmgaaDoorWInvWords
import Derived.Test.YtehloilmokhmgaaDoorWGuard
import Derived.Test.YtehloilmokhmgaaDoorWNEv
import Derived.Test.YtehloilmokhmgaaDoorWMore
namespace Go.Proofs.YtehloilmokhmgaaDoor.QFnExactSurfaceName
open Go.RowKit Go.Proofs.YtehloilmokhmgaaDoorW.PrintWords Go.Proofs.YtehloilmokhmgaaDoorW.PrintLast Go.Proofs.YtehloilmokhmgaaDoorW.PrintMore
attribute [local go_sem] max2_int min2_int max_two min_two max_three min_three max_four min_four   -- for this text's walks alone
set_option linter.unusedVariables false
set_option linter.unusedSimpArgs false



def errW : Option Int → Value
  | none => .nilIface
  | some c => .iface 0 (.int .i64 c)
theorem errW_none : errW none = .nilIface := rfl
theorem errW_some (c : Int) : errW (some c) = .iface 0 (.int .i64 c) := rfl

theorem info5 : (Tryd.prog.info? 5).map (fun i => (i.zero, i.size, i.bytes)) = some (some (.int .u8 0), 1, 1) := by kernel_rfl
-- the values' own types

end Go.Proofs.YtehloilmokhmgaaDoor.QFnExactSurfaceName
