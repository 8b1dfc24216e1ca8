-- Written by a program of this session (the kit's print, turned in places): the functions that the law FnExactEdgeLetters comes to, and what their calls do.
import Derived.Test.YtfknffpfjoalkaaQFnExactEdgeLettersx0
import Derived.Test.YtfknffpfjoalkaaQFnExactEdgeLettersx1
import Derived.Test.YtfknffpfjoalkaaQFnExactEdgeLettersx2
import Derived.Test.YtfknffpfjoalkaaQFnExactEdgeLettersx3
import Derived.Test.YtfknffpfjoalkaaQFnExactEdgeLettersx4
import Derived.Test.YtfknffpfjoalkaaQFnExactEdgeLettersx5
namespace Go.Proofs.Ytfknffpfjoalkaa.QFnExactEdgeLetters
open Go.RowKit Go.Proofs.YtfknffpfjoalkaaW.PrintWords Go.Proofs.YtfknffpfjoalkaaW.PrintLast Go.Proofs.YtfknffpfjoalkaaW.PrintMore
attribute [local go_sem] max2_int min2_int max_two min_two max_three min_three max_four min_four   -- for this text's walks alone
set_option linter.unusedVariables false
set_option linter.unusedSimpArgs false

end Go.Proofs.Ytfknffpfjoalkaa.QFnExactEdgeLetters
