/- The pure statement of the law FnExactConstants: over lists and numbers the law's function answers true. No conditions beyond those typed. -/
import Derived.Test.YtbbinnpmopnmnaaX1
import Derived.Test.YtbbinnpmopnmnaaLib
namespace Go.Proofs.Ytbbinnpmopnmnaa.Pure
open Go.RowKit Go.Proofs.Ytbbinnpmopnmnaa.X Go.Proofs.YtbbinnpmopnmnaaW.PrintWords Go.Proofs.YtbbinnpmopnmnaaLib
set_option linter.unusedVariables false
set_option linter.unusedSimpArgs false

theorem FnExactConstants : laws_FnExactConstants.Pure := rfl

end Go.Proofs.Ytbbinnpmopnmnaa.Pure
