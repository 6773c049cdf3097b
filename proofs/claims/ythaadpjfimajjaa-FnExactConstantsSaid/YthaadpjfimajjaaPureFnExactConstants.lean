/- Proved: every exported constant of the program has the value that the law asks for. No condition. -/
import Derived.Test.YthaadpjfimajjaaPFnExactConstantsx1
namespace Go.Proofs.Ythaadpjfimajjaa.Pure
open Go.RowKit Go.Proofs.Ythaadpjfimajjaa.PFnExactConstants Go.Proofs.YthaadpjfimajjaaW.PrintWords Go.Proofs.YthaadpjfimajjaaW.PrintLast

theorem FnExactConstants : laws_FnExactConstants.Pure := rfl

end Go.Proofs.Ythaadpjfimajjaa.Pure
