/- Walks: the document's answer for layer 2: Clamp, Lerp. -/
import Derived.Test.YtenefncpokdmnaaRef2C
import Derived.Test.YtenefncpokdmnaaBase
namespace Go.Proofs.Ytenefncpokdmnaa
open Go.RowKit
set_option linter.unusedVariables false
set_option linter.unusedSimpArgs false

theorem rClamp (x lo hi : Int) (w : World) : Calls Try.prog 49 #[.int .i64 x, .int .i64 lo, .int .i64 hi] w (Same (.int .i64 (fclamp x lo hi)) w) := by
  by_cases h1 : x < lo
  · by_cases h2 : hi < lo
    · have HK : Hid (fclamp x lo hi = hi) := Lib.hid (by unfold fclamp; omega)
      go_enter Try.func49, Try.ntmps49
      go_wp2_with fail
      go_ret
      exact same_of (vint HK.out.symm)
    · have HK : Hid (fclamp x lo hi = lo) := Lib.hid (by unfold fclamp; omega)
      go_enter Try.func49, Try.ntmps49
      go_wp2_with fail
      go_ret
      exact same_of (vint HK.out.symm)
  · by_cases h2 : hi < x
    · have HK : Hid (fclamp x lo hi = hi) := Lib.hid (by unfold fclamp; omega)
      go_enter Try.func49, Try.ntmps49
      go_wp2_with fail
      go_ret
      exact same_of (vint HK.out.symm)
    · have HK : Hid (fclamp x lo hi = x) := Lib.hid (by unfold fclamp; omega)
      go_enter Try.func49, Try.ntmps49
      go_wp2_with fail
      go_ret
      exact same_of (vint HK.out.symm)

theorem rLerp (a b t : Int) (ha : InI a) (hb : InI b) (ht : InI t) (w : World) : Calls Try.prog 51 #[.int .i64 a, .int .i64 b, .int .i64 t] w (Same (.int .i64 (flerp a b t)) w) := by
  go_enter Try.func51, Try.ntmps51
  go_wp2_with fail
  refine (rSub b a hb ha _).mono ?_; rintro e w1 ⟨rfl, rfl⟩
  go_wp2_with fail
  refine (rTimes (satSub b a) t (satSub_I b a) ht _).mono ?_; rintro e w1 ⟨rfl, rfl⟩
  go_wp2_with fail
  refine (rTwo a (fmul (satSub b a) t) ha (fmul_I _ _) _).mono ?_; rintro e w1 ⟨rfl, rfl⟩
  go_wp2_with fail
  go_ret
  exact same_of rfl

end Go.Proofs.Ytenefncpokdmnaa
