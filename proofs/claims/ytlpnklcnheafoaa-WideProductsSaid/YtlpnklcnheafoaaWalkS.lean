/- Walk: wide.Sign. -/
import Derived.Test.YtlpnklcnheafoaaWalkK
namespace Go.Proofs.Ytlpnklcnheafoaa
open Go.RowKit
set_option linter.unusedVariables false
set_option linter.unusedSimpArgs false

theorem wSign (x : Int) (h : InW x) (w : World) :
    Calls Try.prog 24 #[W x] w (Ret (.int .i64 (cmpW x 0)) w) := by
  go_enter Try.func24, Try.ntmps24
  go_wp2_with fail
  refine (wCmp x 0 h (by unfold InW; omega) _).mono ?_; rintro e w1 ⟨rfl, hb1⟩
  have hb1 : Below w.heap.size w w1 := Below.next (by go_grown) hb1
  go_wp2_with fail
  go_ret
  exact ret_of rfl hb1

end Go.Proofs.Ytlpnklcnheafoaa
