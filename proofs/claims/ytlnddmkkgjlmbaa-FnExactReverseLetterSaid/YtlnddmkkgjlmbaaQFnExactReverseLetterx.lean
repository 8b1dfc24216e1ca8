-- Written by a program of this session (the kit's print, turned in places): the functions that the law FnExactReverseLetter comes to, and what their calls do.
import Derived.Test.YtlnddmkkgjlmbaaQFnExactReverseLetterx0
import Derived.Test.YtlnddmkkgjlmbaaQFnExactReverseLetterx1
import Derived.Test.YtlnddmkkgjlmbaaQFnExactReverseLetterx2
import Derived.Test.YtlnddmkkgjlmbaaQFnExactReverseLetterx3
import Derived.Test.YtlnddmkkgjlmbaaQFnExactReverseLetterx4
import Derived.Test.YtlnddmkkgjlmbaaQFnExactReverseLetterx5
namespace Go.Proofs.Ytlnddmkkgjlmbaa.QFnExactReverseLetter
open Go.RowKit Go.Proofs.YtlnddmkkgjlmbaaW.PrintWords Go.Proofs.YtlnddmkkgjlmbaaW.PrintLast Go.Proofs.YtlnddmkkgjlmbaaW.PrintMore
attribute [local go_sem] max2_int min2_int max_two min_two max_three min_three max_four min_four   -- for this text's walks alone
set_option linter.unusedVariables false
set_option linter.unusedSimpArgs false

end Go.Proofs.Ytlnddmkkgjlmbaa.QFnExactReverseLetter
