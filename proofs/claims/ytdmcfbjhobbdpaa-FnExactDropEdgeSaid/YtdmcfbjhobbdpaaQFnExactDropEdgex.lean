-- Written by a program of this session (the kit's print, turned in places): the functions that the law FnExactDropEdge comes to, and what their calls do.
import Derived.Test.YtdmcfbjhobbdpaaQFnExactDropEdgex0
import Derived.Test.YtdmcfbjhobbdpaaQFnExactDropEdgex1
import Derived.Test.YtdmcfbjhobbdpaaQFnExactDropEdgex2
namespace Go.Proofs.Ytdmcfbjhobbdpaa.QFnExactDropEdge
open Go.RowKit Go.Proofs.YtdmcfbjhobbdpaaW.PrintWords Go.Proofs.YtdmcfbjhobbdpaaW.PrintLast Go.Proofs.YtdmcfbjhobbdpaaW.PrintMore
attribute [local go_sem] max2_int min2_int max_two min_two max_three min_three max_four min_four   -- for this text's walks alone
set_option linter.unusedVariables false
set_option linter.unusedSimpArgs false

end Go.Proofs.Ytdmcfbjhobbdpaa.QFnExactDropEdge
