/- Walk: the law FixWholes. -/
import Derived.Test.YtenefncpokdmnaaLaw2
import Derived.Test.YtenefncpokdmnaaRef2A
import Derived.Test.YtenefncpokdmnaaFrame
namespace Go.Proofs.Ytenefncpokdmnaa
open Go.RowKit Go.Sort
set_option linter.unusedVariables false
set_option linter.unusedSimpArgs false

set_option maxHeartbeats 1600000 in
theorem walkFixWholes (n x : Int) (hn : InI n) (hx : InI x) (w : World) : Calls Try.prog 6 #[.int .i64 n, .int .i64 x] w (Ret (.bool true) w) := by
  go_enter Try.func6, Try.ntmps6
  go_wp2_with fail
  refine (fOf n hn _).mono ?_; rintro e w1 ⟨rfl, hb1⟩
  obtain ⟨hB1, hS1⟩ : Below w.heap.size w w1 ∧ w.heap.size ≤ w1.heap.size := Below.step (by go_grown) hb1
  go_wp2_with fail
  refine (rOf n hn _).mono ?_; rintro e w2 ⟨rfl, rfl⟩
  go_wp2_with fail
  refine (fFloor x hx _).mono ?_; rintro e w2 ⟨rfl, rfl⟩
  go_wp2_with fail
  refine (rFloor x hx _).mono ?_; rintro e w2 ⟨rfl, rfl⟩
  go_wp2_with fail
  refine (fRound x hx _).mono ?_; rintro e w2 ⟨rfl, rfl⟩
  go_wp2_with fail
  refine (rRound x hx _).mono ?_; rintro e w2 ⟨rfl, rfl⟩
  go_wp2_with fail
  refine (works2 _).mono ?_; rintro e w9 ⟨rfl, hb9⟩
  obtain ⟨hB9, hS9⟩ : Below w.heap.size w w9 ∧ w.heap.size ≤ w9.heap.size := Below.step (by go_grown) hb9
  go_wp2_with fail
  go_ret
  exact ret_of rfl hB9

theorem lawFixWholes (n : Int) (wn : (Lit.int .i64 n).wf = true) (x : Int) (wx : (Lit.int .i64 x).wf = true) (w : World) :
    Calls Try.prog 6 #[.int .i64 n, .int .i64 x] w (Ret (.bool true) w) := walkFixWholes n x (bounds_i64 wn) (bounds_i64 wx) w

end Go.Proofs.Ytenefncpokdmnaa
