-- Written by a program of this session (the kit's print, turned in places): the functions that the law FnExactMirrorPolygon comes to, and what their calls do.
import Derived.Test.YtlnddmkkgjlmbaaQFnExactMirrorPolygonx0
import Derived.Test.YtlnddmkkgjlmbaaQFnExactMirrorPolygonx1
import Derived.Test.YtlnddmkkgjlmbaaQFnExactMirrorPolygonx2
import Derived.Test.YtlnddmkkgjlmbaaQFnExactMirrorPolygonx3
import Derived.Test.YtlnddmkkgjlmbaaQFnExactMirrorPolygonx4
import Derived.Test.YtlnddmkkgjlmbaaQFnExactMirrorPolygonx5
namespace Go.Proofs.Ytlnddmkkgjlmbaa.QFnExactMirrorPolygon
open Go.RowKit Go.Proofs.YtlnddmkkgjlmbaaW.PrintWords Go.Proofs.YtlnddmkkgjlmbaaW.PrintLast Go.Proofs.YtlnddmkkgjlmbaaW.PrintMore
attribute [local go_sem] max2_int min2_int max_two min_two max_three min_three max_four min_four   -- for this text's walks alone
set_option linter.unusedVariables false
set_option linter.unusedSimpArgs false

end Go.Proofs.Ytlnddmkkgjlmbaa.QFnExactMirrorPolygon
