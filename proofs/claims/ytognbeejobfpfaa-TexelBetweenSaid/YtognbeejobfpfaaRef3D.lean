/- Walks: the document's answer for layer 3: Length, Unit. -/
import Derived.Test.YtognbeejobfpfaaVecF
import Derived.Test.YtognbeejobfpfaaRef3C
import Derived.Test.YtognbeejobfpfaaRef2F
namespace Go.Proofs.Ytognbeejobfpfaa
open Go.RowKit Go.Sort
set_option linter.unusedVariables false
set_option linter.unusedSimpArgs false

end Go.Proofs.Ytognbeejobfpfaa
