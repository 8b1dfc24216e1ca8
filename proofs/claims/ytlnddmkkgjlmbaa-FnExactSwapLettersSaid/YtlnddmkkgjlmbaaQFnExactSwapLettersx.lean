-- Written by a program of this session (the kit's print, turned in places): the functions that the law FnExactSwapLetters comes to, and what their calls do.
import Derived.Test.YtlnddmkkgjlmbaaQFnExactSwapLettersx0
import Derived.Test.YtlnddmkkgjlmbaaQFnExactSwapLettersx1
import Derived.Test.YtlnddmkkgjlmbaaQFnExactSwapLettersx2
import Derived.Test.YtlnddmkkgjlmbaaQFnExactSwapLettersx3
import Derived.Test.YtlnddmkkgjlmbaaQFnExactSwapLettersx4
import Derived.Test.YtlnddmkkgjlmbaaQFnExactSwapLettersx5
namespace Go.Proofs.Ytlnddmkkgjlmbaa.QFnExactSwapLetters
open Go.RowKit Go.Proofs.YtlnddmkkgjlmbaaW.PrintWords Go.Proofs.YtlnddmkkgjlmbaaW.PrintLast Go.Proofs.YtlnddmkkgjlmbaaW.PrintMore
attribute [local go_sem] max2_int min2_int max_two min_two max_three min_three max_four min_four   -- for this text's walks alone
set_option linter.unusedVariables false
set_option linter.unusedSimpArgs false

end Go.Proofs.Ytlnddmkkgjlmbaa.QFnExactSwapLetters
