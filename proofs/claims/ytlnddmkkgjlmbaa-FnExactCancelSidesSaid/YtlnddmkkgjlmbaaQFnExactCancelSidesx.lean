-- Written by a program of this session (the kit's print, turned in places): the functions that the law FnExactCancelSides comes to, and what their calls do.
import Derived.Test.YtlnddmkkgjlmbaaQFnExactCancelSidesx0
import Derived.Test.YtlnddmkkgjlmbaaQFnExactCancelSidesx1
import Derived.Test.YtlnddmkkgjlmbaaQFnExactCancelSidesx2
import Derived.Test.YtlnddmkkgjlmbaaQFnExactCancelSidesx3
import Derived.Test.YtlnddmkkgjlmbaaQFnExactCancelSidesx4
import Derived.Test.YtlnddmkkgjlmbaaQFnExactCancelSidesx5
import Derived.Test.YtlnddmkkgjlmbaaQFnExactCancelSidesx6
import Derived.Test.YtlnddmkkgjlmbaaQFnExactCancelSidesx7
import Derived.Test.YtlnddmkkgjlmbaaQFnExactCancelSidesx8
namespace Go.Proofs.Ytlnddmkkgjlmbaa.QFnExactCancelSides
open Go.RowKit Go.Proofs.YtlnddmkkgjlmbaaW.PrintWords Go.Proofs.YtlnddmkkgjlmbaaW.PrintLast Go.Proofs.YtlnddmkkgjlmbaaW.PrintMore
attribute [local go_sem] max2_int min2_int max_two min_two max_three min_three max_four min_four   -- for this text's walks alone
set_option linter.unusedVariables false
set_option linter.unusedSimpArgs false

end Go.Proofs.Ytlnddmkkgjlmbaa.QFnExactCancelSides
