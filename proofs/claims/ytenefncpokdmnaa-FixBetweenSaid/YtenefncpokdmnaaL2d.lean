/- Walk: the law FixBetween. -/
import Derived.Test.YtenefncpokdmnaaLaw2
import Derived.Test.YtenefncpokdmnaaRef2C
import Derived.Test.YtenefncpokdmnaaFrame
namespace Go.Proofs.Ytenefncpokdmnaa
open Go.RowKit Go.Sort
set_option linter.unusedVariables false
set_option linter.unusedSimpArgs false

theorem rClamp (x lo hi : Int) (w : World) : Calls Try.prog 49 #[.int .i64 x, .int .i64 lo, .int .i64 hi] w (Same (.int .i64 (fclamp x lo hi)) w) := by
  by_cases h1 : x < lo
  · by_cases h2 : hi < lo
    · have HK : Hid (fclamp x lo hi = hi) := Lib.hid (by unfold fclamp; omega)
      go_enter Try.func49, Try.ntmps49
      go_wp2_with fail
      go_ret
      exact same_of (vint HK.out.symm)
    · have HK : Hid (fclamp x lo hi = lo) := Lib.hid (by unfold fclamp; omega)
      go_enter Try.func49, Try.ntmps49
      go_wp2_with fail
      go_ret
      exact same_of (vint HK.out.symm)
  · by_cases h2 : hi < x
    · have HK : Hid (fclamp x lo hi = hi) := Lib.hid (by unfold fclamp; omega)
      go_enter Try.func49, Try.ntmps49
      go_wp2_with fail
      go_ret
      exact same_of (vint HK.out.symm)
    · have HK : Hid (fclamp x lo hi = x) := Lib.hid (by unfold fclamp; omega)
      go_enter Try.func49, Try.ntmps49
      go_wp2_with fail
      go_ret
      exact same_of (vint HK.out.symm)

theorem rLerp (a b t : Int) (ha : InI a) (hb : InI b) (ht : InI t) (w : World) : Calls Try.prog 51 #[.int .i64 a, .int .i64 b, .int .i64 t] w (Same (.int .i64 (flerp a b t)) w) := by
  go_enter Try.func51, Try.ntmps51
  go_wp2_with fail
  refine (rSub b a hb ha _).mono ?_; rintro e w1 ⟨rfl, rfl⟩
  go_wp2_with fail
  refine (rTimes (satSub b a) t (satSub_I b a) ht _).mono ?_; rintro e w1 ⟨rfl, rfl⟩
  go_wp2_with fail
  refine (rTwo a (fmul (satSub b a) t) ha (fmul_I _ _) _).mono ?_; rintro e w1 ⟨rfl, rfl⟩
  go_wp2_with fail
  go_ret
  exact same_of rfl

set_option maxHeartbeats 1600000 in
theorem walkFixBetween (a b t : Int) (ha : InI a) (hb : InI b) (ht : InI t) (w : World) : Calls Try.prog 12 #[.int .i64 a, .int .i64 b, .int .i64 t] w (Ret (.bool true) w) := by
  go_enter Try.func12, Try.ntmps12
  go_wp2_with fail
  refine (fClamp a b t _).mono ?_; rintro e w1 ⟨rfl, rfl⟩
  go_wp2_with fail
  refine (rClamp a b t _).mono ?_; rintro e w1 ⟨rfl, rfl⟩
  go_wp2_with fail
  refine (fLerp a b t ha hb ht _).mono ?_; rintro e w1 ⟨rfl, hb1⟩
  obtain ⟨hB1, hS1⟩ : Below w.heap.size w w1 ∧ w.heap.size ≤ w1.heap.size := Below.step (by go_grown) hb1
  go_wp2_with fail
  refine (rLerp a b t ha hb ht _).mono ?_; rintro e w2 ⟨rfl, rfl⟩
  go_wp2_with fail
  refine (works2 _).mono ?_; rintro e w9 ⟨rfl, hb9⟩
  obtain ⟨hB9, hS9⟩ : Below w.heap.size w w9 ∧ w.heap.size ≤ w9.heap.size := Below.step (by go_grown) hb9
  go_wp2_with fail
  go_ret
  exact ret_of rfl hB9

theorem lawFixBetween (a : Int) (wa : (Lit.int .i64 a).wf = true) (b : Int) (wb : (Lit.int .i64 b).wf = true) (t : Int) (wt : (Lit.int .i64 t).wf = true) (w : World) :
    Calls Try.prog 12 #[.int .i64 a, .int .i64 b, .int .i64 t] w (Ret (.bool true) w) := walkFixBetween a b t (bounds_i64 wa) (bounds_i64 wb) (bounds_i64 wt) w

end Go.Proofs.Ytenefncpokdmnaa
