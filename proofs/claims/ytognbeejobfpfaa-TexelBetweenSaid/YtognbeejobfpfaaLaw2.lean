/- The chapter's example of layer 2. -/
import Derived.Test.YtognbeejobfpfaaFix1
namespace Go.Proofs.Ytognbeejobfpfaa
open Go.RowKit Go.Sort
set_option linter.unusedVariables false
set_option linter.unusedSimpArgs false

theorem vals2 : fof 3 = 12884901888 ∧ fof (-1) = -4294967296 ∧ fof 2 = 8589934592 ∧ fmul 12884901888 2147483648 = 6442450944 ∧ fdiv (-4294967296) 12884901888 = -1431655766 ∧ satAdd 9223372036854775807 1 = 9223372036854775807 ∧ fsqrt 8589934592 = 6074000999 := by decide +kernel

end Go.Proofs.Ytognbeejobfpfaa
