/- The program's exported constants are the document's: the law answers true. No condition. -/
import Derived.Test.YtloeobcedhnmfaaPFnExactConstantsx1
namespace Go.Proofs.Ytloeobcedhnmfaa.Pure
open Go.RowKit Go.Proofs.Ytloeobcedhnmfaa.PFnExactConstants Go.Proofs.YtloeobcedhnmfaaW.PrintWords Go.Proofs.YtloeobcedhnmfaaW.PrintLast

theorem FnExactConstants : laws_FnExactConstants.Pure := rfl

end Go.Proofs.Ytloeobcedhnmfaa.Pure
