-- Written by a program of this session (the kit's print, turned in places): the functions that the law FnExactCountVertices comes to, and what their calls do.
import Derived.Test.YtfknffpfjoalkaaQFnExactCountVerticesx0
import Derived.Test.YtfknffpfjoalkaaQFnExactCountVerticesx1
import Derived.Test.YtfknffpfjoalkaaQFnExactCountVerticesx2
import Derived.Test.YtfknffpfjoalkaaQFnExactCountVerticesx3
import Derived.Test.YtfknffpfjoalkaaQFnExactCountVerticesx4
import Derived.Test.YtfknffpfjoalkaaQFnExactCountVerticesx5
import Derived.Test.YtfknffpfjoalkaaQFnExactCountVerticesx6
namespace Go.Proofs.Ytfknffpfjoalkaa.QFnExactCountVertices
open Go.RowKit Go.Proofs.YtfknffpfjoalkaaW.PrintWords Go.Proofs.YtfknffpfjoalkaaW.PrintLast Go.Proofs.YtfknffpfjoalkaaW.PrintMore
attribute [local go_sem] max2_int min2_int max_two min_two max_three min_three max_four min_four   -- for this text's walks alone
set_option linter.unusedVariables false
set_option linter.unusedSimpArgs false

end Go.Proofs.Ytfknffpfjoalkaa.QFnExactCountVertices
