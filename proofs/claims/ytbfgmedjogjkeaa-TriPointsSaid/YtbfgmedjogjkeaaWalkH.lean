/- Walk: wide.Sqrt. -/
import Derived.Test.YtbfgmedjogjkeaaWide1
import Derived.Test.YtbfgmedjogjkeaaMathA
import Derived.Outline
import Derived.Deep.LoopGhost
namespace Go.Proofs.Ytbfgmedjogjkeaa
open Go.RowKit
set_option linter.unusedVariables false
set_option linter.unusedSimpArgs false

end Go.Proofs.Ytbfgmedjogjkeaa
