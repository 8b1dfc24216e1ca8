-- Written by a program of this session (the kit's print, turned in places): the functions that the law FnExactStandardGluing comes to, and what their calls do.
import Derived.Test.YtehloilmokhmgaaQFnExactStandardGluingx0
import Derived.Test.YtehloilmokhmgaaQFnExactStandardGluingx1
import Derived.Test.YtehloilmokhmgaaQFnExactStandardGluingx2
import Derived.Test.YtehloilmokhmgaaQFnExactStandardGluingx3
namespace Go.Proofs.Ytehloilmokhmgaa.QFnExactStandardGluing
open Go.RowKit Go.Proofs.YtehloilmokhmgaaW.PrintWords Go.Proofs.YtehloilmokhmgaaW.PrintLast Go.Proofs.YtehloilmokhmgaaW.PrintMore
attribute [local go_sem] max2_int min2_int max_two min_two max_three min_three max_four min_four   -- for this text's walks alone
set_option linter.unusedVariables false
set_option linter.unusedSimpArgs false

end Go.Proofs.Ytehloilmokhmgaa.QFnExactStandardGluing
