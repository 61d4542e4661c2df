/- Every exported constant of the program has the value that the law names. No condition. -/
import Derived.Test.YtflmjokjheddiaaPFnExactConstantsx1
namespace Go.Proofs.Ytflmjokjheddiaa.Pure
open Go.RowKit Go.Proofs.Ytflmjokjheddiaa.PFnExactConstants Go.Proofs.YtflmjokjheddiaaW.PrintWords Go.Proofs.YtflmjokjheddiaaW.PrintLast

theorem FnExactConstants : laws_FnExactConstants.Pure := rfl

end Go.Proofs.Ytflmjokjheddiaa.Pure
