-- Written by a program of this session (the kit's print, turned in places): the functions that the law FnExactAreConjugate comes to, and what their calls do.
import Derived.Test.YtokbhekicjnglaaQFnExactAreConjugatex0
import Derived.Test.YtokbhekicjnglaaQFnExactAreConjugatex1
import Derived.Test.YtokbhekicjnglaaQFnExactAreConjugatex2
import Derived.Test.YtokbhekicjnglaaQFnExactAreConjugatex3
namespace Go.Proofs.Ytokbhekicjnglaa.QFnExactAreConjugate
open Go.RowKit Go.Proofs.YtokbhekicjnglaaW.PrintWords Go.Proofs.YtokbhekicjnglaaW.PrintLast Go.Proofs.YtokbhekicjnglaaW.PrintMore
attribute [local go_sem] max2_int min2_int max_two min_two max_three min_three max_four min_four   -- for this text's walks alone
set_option linter.unusedVariables false
set_option linter.unusedSimpArgs false

end Go.Proofs.Ytokbhekicjnglaa.QFnExactAreConjugate
