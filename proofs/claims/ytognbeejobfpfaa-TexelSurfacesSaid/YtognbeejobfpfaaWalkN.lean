/- Walk: wide.Neg. -/
import Derived.Test.YtognbeejobfpfaaWide1
namespace Go.Proofs.Ytognbeejobfpfaa
open Go.RowKit
set_option linter.unusedVariables false
set_option linter.unusedSimpArgs false

theorem neg_hi {x : Int} (h : InW x) (hn : x ≠ -170141183460469231731687303715884105728) : wrap64 (wHi (u128 (-x))) = wHi (-x) := by
  unfold InW wHi u128 wrap64 at *; omega
theorem neg_lo (x : Int) : wLo (u128 (-x)) = wLo (-x) := by unfold wLo u128; omega

end Go.Proofs.Ytognbeejobfpfaa
