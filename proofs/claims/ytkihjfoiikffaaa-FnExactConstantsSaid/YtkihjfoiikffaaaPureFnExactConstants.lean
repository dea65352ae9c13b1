/- FnExactConstants answers true. -/
import Derived.Test.YtkihjfoiikffaaaPFnExactConstantsx1
namespace Go.Proofs.Ytkihjfoiikffaaa.Pure
open Go.RowKit Go.Proofs.Ytkihjfoiikffaaa.PFnExactConstants Go.Proofs.YtkihjfoiikffaaaW.PrintWords Go.Proofs.YtkihjfoiikffaaaW.PrintLast


theorem FnExactConstants : laws_FnExactConstants.Pure := rfl

end Go.Proofs.Ytkihjfoiikffaaa.Pure
