/- Walk: wide.Cmp. -/
import Derived.Test.YtognbeejobfpfaaWide1
namespace Go.Proofs.Ytognbeejobfpfaa
open Go.RowKit
set_option linter.unusedVariables false
set_option linter.unusedSimpArgs false

end Go.Proofs.Ytognbeejobfpfaa
