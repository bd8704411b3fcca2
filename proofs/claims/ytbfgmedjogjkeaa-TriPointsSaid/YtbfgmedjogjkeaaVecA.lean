/- Walks: vec.each. -/
import Derived.Test.YtbfgmedjogjkeaaQuietT
import Derived.Test.YtbfgmedjogjkeaaVecM
import Derived.Test.YtbfgmedjogjkeaaLaw2
namespace Go.Proofs.Ytbfgmedjogjkeaa
open Go.RowKit Go.Sort
set_option linter.unusedVariables false
set_option linter.unusedSimpArgs false

/-- A vector. -/
abbrev V3 (x y z : Int) : Value := .agg #[.int .i64 x, .int .i64 y, .int .i64 z]
/-- Its cells. -/
abbrev C3 (x y z : Int) : Obj := .cells #[.int .i64 x, .int .i64 y, .int .i64 z] 39

end Go.Proofs.Ytbfgmedjogjkeaa
