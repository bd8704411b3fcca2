/- Walk: wide.MulDiv. -/
import Derived.Test.YtenefncpokdmnaaWalkG
import Derived.Test.YtenefncpokdmnaaMathA
import Derived.Outline
namespace Go.Proofs.Ytenefncpokdmnaa
open Go.RowKit
set_option linter.unusedVariables false
set_option linter.unusedSimpArgs false

end Go.Proofs.Ytenefncpokdmnaa
