-- Written by a program of this session (the kit's print, turned in places): the functions that the law FnExactGenusOf comes to, and what their calls do.
import Derived.Test.YtdmcfbjhobbdpaaQFnExactGenusOfx0
import Derived.Test.YtdmcfbjhobbdpaaQFnExactGenusOfx1
import Derived.Test.YtdmcfbjhobbdpaaQFnExactGenusOfx2
import Derived.Test.YtdmcfbjhobbdpaaQFnExactGenusOfx3
namespace Go.Proofs.Ytdmcfbjhobbdpaa.QFnExactGenusOf
open Go.RowKit Go.Proofs.YtdmcfbjhobbdpaaW.PrintWords Go.Proofs.YtdmcfbjhobbdpaaW.PrintLast Go.Proofs.YtdmcfbjhobbdpaaW.PrintMore
attribute [local go_sem] max2_int min2_int max_two min_two max_three min_three max_four min_four   -- for this text's walks alone
set_option linter.unusedVariables false
set_option linter.unusedSimpArgs false

end Go.Proofs.Ytdmcfbjhobbdpaa.QFnExactGenusOf
