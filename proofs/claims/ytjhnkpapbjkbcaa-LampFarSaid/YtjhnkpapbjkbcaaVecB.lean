/- Walks: vec.Of. -/
import Derived.Test.YtjhnkpapbjkbcaaVecA
namespace Go.Proofs.Ytjhnkpapbjkbcaa
open Go.RowKit Go.Sort
set_option linter.unusedVariables false
set_option linter.unusedSimpArgs false

end Go.Proofs.Ytjhnkpapbjkbcaa
