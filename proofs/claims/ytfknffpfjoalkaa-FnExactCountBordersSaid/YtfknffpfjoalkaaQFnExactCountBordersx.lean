-- Written by a program of this session (the kit's print, turned in places): the functions that the law FnExactCountBorders comes to, and what their calls do.
import Derived.Test.YtfknffpfjoalkaaQFnExactCountBordersx0
import Derived.Test.YtfknffpfjoalkaaQFnExactCountBordersx1
import Derived.Test.YtfknffpfjoalkaaQFnExactCountBordersx2
import Derived.Test.YtfknffpfjoalkaaQFnExactCountBordersx3
import Derived.Test.YtfknffpfjoalkaaQFnExactCountBordersx4
import Derived.Test.YtfknffpfjoalkaaQFnExactCountBordersx5
namespace Go.Proofs.Ytfknffpfjoalkaa.QFnExactCountBorders
open Go.RowKit Go.Proofs.YtfknffpfjoalkaaW.PrintWords Go.Proofs.YtfknffpfjoalkaaW.PrintLast Go.Proofs.YtfknffpfjoalkaaW.PrintMore
attribute [local go_sem] max2_int min2_int max_two min_two max_three min_three max_four min_four   -- for this text's walks alone
set_option linter.unusedVariables false
set_option linter.unusedSimpArgs false

end Go.Proofs.Ytfknffpfjoalkaa.QFnExactCountBorders
