/- The constants are the document's: no input, no condition. -/
import Derived.Test.YtpblgkenjoalpaaQax1
namespace Go.Proofs.Ytpblgkenjoalpaa.Pure
open Go.RowKit Go.Proofs.Ytpblgkenjoalpaa.Qa
theorem FnExactConstants : laws_FnExactConstants.f = some true := rfl
end Go.Proofs.Ytpblgkenjoalpaa.Pure
