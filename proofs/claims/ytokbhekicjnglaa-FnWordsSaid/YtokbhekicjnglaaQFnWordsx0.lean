-- Written by a program of this session (the kit's print, turned in places): the functions that the law FnWords comes to, and what their calls do.
import Derived.Test.YtokbhekicjnglaaProg
import Derived.Below
import Derived.Deep.Draws
import Derived.Deep.AppendLies
import Derived.Maps.AppendAt
import Derived.OwnWalk
import Derived.Laws.BytesArg
import Derived.Laws.MakeOwn
import Derived.Laws.OwnMore
import Derived.Deep.OwnRows
import Derived.Tactics
import Derived.Lib.ConvBytes
import Derived.Laws.Slices
import Derived.WalkKit
import Derived.KernelRfl
import Derived.RowKit3
import Derived.Deep.LoopGhost
import Derived.Deep.QuietTactic
import Derived.BigQuiet
import Derived.WideLaws
import Derived.Deep.DeepCutAuto
import Derived.Deep.CutBlock
import Derived.Deep.RegionHeld3
import Derived.Laws.Rows
import Derived.Lib.AppendStr
import Derived.ArgAppend
import Derived.Laws.IdiomCopy
import Derived.OrdersHeld
import Derived.Laws.BitsLemmas
import Derived.RowKit
import Derived.Test.YtokbhekicjnglaaWWords
import Derived.Test.YtokbhekicjnglaaWLast
import Derived.Test.YtokbhekicjnglaaWTab
import Derived.Test.YtokbhekicjnglaaWApart
import Derived.Test.YtokbhekicjnglaaWFoot
import Derived.Test.YtokbhekicjnglaaWKept
import Derived.Test.YtokbhekicjnglaaWShare
import Derived.Test.YtokbhekicjnglaaWN
import Derived.Laws.StructEq
import Derived.Test.YtokbhekicjnglaaWRepsOne
import Derived.Test.YtokbhekicjnglaaWInv
import Derived.Test.YtokbhekicjnglaaWGuard
import Derived.Test.YtokbhekicjnglaaWMore
namespace Go.Proofs.Ytokbhekicjnglaa.QFnWords
open Go.RowKit Go.Proofs.YtokbhekicjnglaaW.PrintWords Go.Proofs.YtokbhekicjnglaaW.PrintLast Go.Proofs.YtokbhekicjnglaaW.PrintMore
attribute [local go_sem] max2_int min2_int max_two min_two max_three min_three max_four min_four   -- for this text's walks alone
set_option linter.unusedVariables false
set_option linter.unusedSimpArgs false
def errW : Option Int → Value
  | none => .nilIface
  | some c => .iface 0 (.int .i64 c)
theorem errW_none : errW none = .nilIface := rfl
theorem errW_some (c : Int) : errW (some c) = .iface 0 (.int .i64 c) := rfl
theorem info3 : (Try.prog.info? 3).map (fun i => (i.zero, i.size, i.bytes)) = some (some (.int .i64 0), 1, 8) := by kernel_rfl
end Go.Proofs.Ytokbhekicjnglaa.QFnWords
