/- The program's constants are those of the specification. Conditions: those that the printed statement itself names (lengths and numbers that fit). -/
import Derived.Test.YtehloilmokhmgaaPFnExactConstantsx1
import Derived.Test.YtehloilmokhmgaaCom
namespace Go.Proofs.Ytehloilmokhmgaa.Pure
open Classical Go.RowKit Go.Proofs.Ytehloilmokhmgaa.PFnExactConstants Go.Proofs.YtehloilmokhmgaaW.PrintWords Go.Proofs.YtehloilmokhmgaaW.PrintLast Go.Proofs.Ytehloilmokhmgaa.Com

/-! law.FnExactConstants -/
theorem FnExactConstants : laws_FnExactConstants.Pure := rfl

end Go.Proofs.Ytehloilmokhmgaa.Pure
