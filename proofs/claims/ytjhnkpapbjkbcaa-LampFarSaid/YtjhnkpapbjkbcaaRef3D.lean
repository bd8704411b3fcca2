/- Walks: the document's answer for layer 3: Length, Unit. -/
import Derived.Test.YtjhnkpapbjkbcaaVecF
import Derived.Test.YtjhnkpapbjkbcaaRef3C
import Derived.Test.YtjhnkpapbjkbcaaRef2F
namespace Go.Proofs.Ytjhnkpapbjkbcaa
open Go.RowKit Go.Sort
set_option linter.unusedVariables false
set_option linter.unusedSimpArgs false

end Go.Proofs.Ytjhnkpapbjkbcaa
