/- Walk: wide.Sqrt. -/
import Derived.Test.YtognbeejobfpfaaWide1
import Derived.Test.YtognbeejobfpfaaMathA
import Derived.Outline
import Derived.Deep.LoopGhost
namespace Go.Proofs.Ytognbeejobfpfaa
open Go.RowKit
set_option linter.unusedVariables false
set_option linter.unusedSimpArgs false

end Go.Proofs.Ytognbeejobfpfaa
