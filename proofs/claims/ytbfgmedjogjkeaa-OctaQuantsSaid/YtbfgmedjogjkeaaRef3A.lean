/- Walks: the document's answer for layer 3: vectors made part by part. -/
import Derived.Test.YtbfgmedjogjkeaaVecA
import Derived.Test.YtbfgmedjogjkeaaRef2
namespace Go.Proofs.Ytbfgmedjogjkeaa
open Go.RowKit Go.Sort
set_option linter.unusedVariables false
set_option linter.unusedSimpArgs false

end Go.Proofs.Ytbfgmedjogjkeaa
