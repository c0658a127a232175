/- What is proved: each exported constant of the program has the value that the reference names, so the law 'FnExactConstants' answers true. No condition: the law takes no argument. -/
import Derived.Test.YtjjpiioagoeiiaaPFnExactConstantsx1
namespace Go.Proofs.Ytjjpiioagoeiiaa.Pure
open Go.RowKit Go.Proofs.Ytjjpiioagoeiiaa.PFnExactConstants Go.Proofs.YtjjpiioagoeiiaaW.PrintWords Go.Proofs.YtjjpiioagoeiiaaW.PrintLast

theorem FnExactConstants : laws_FnExactConstants.Pure := rfl

end Go.Proofs.Ytjjpiioagoeiiaa.Pure
