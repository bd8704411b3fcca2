/- Walk: wide.Neg. -/
import Derived.Test.YtlpnklcnheafoaaWide1
namespace Go.Proofs.Ytlpnklcnheafoaa
open Go.RowKit
set_option linter.unusedVariables false
set_option linter.unusedSimpArgs false

theorem neg_hi {x : Int} (h : InW x) (hn : x ≠ -170141183460469231731687303715884105728) : wrap64 (wHi (u128 (-x))) = wHi (-x) := by
  unfold InW wHi u128 wrap64 at *; omega
theorem neg_lo (x : Int) : wLo (u128 (-x)) = wLo (-x) := by unfold wLo u128; omega

set_option maxHeartbeats 400000 in
theorem wNeg (x : Int) (h : InW x) (w : World) :
    Calls Try.prog 33 #[W x] w (Ret (.tuple #[W (negN x), .bool (negOk x)]) w) := by
  have E1 := Lib.hid (u128_hi h)
  have E2 := Lib.hid (u128_lo x)
  by_cases hn : x = -170141183460469231731687303715884105728
  · have H1 := Lib.hid (negOk_false hn)
    have H2 := Lib.hid (negN_not H1.out)
    have e3 : wHi x < 0 := by unfold wHi; omega
    have e4 : wrap64 (wHi (u128 (-x))) < 0 := by rw [hn]; unfold wrap64 wHi u128; omega
    clear hn
    go_enter Try.func33, Try.ntmps33
    go_wp2_with fail
    rw [E1.out, E2.out]
    refine (wturned (u128 x) (u128_U2 x) _).mono ?_; rintro e w1 ⟨rfl, rfl⟩
    rw [neg_u128]
    go_wp2_with fail
    refine bodyPost_ret (v := .tuple #[W 0, .bool false]) (by simp [results, Try.results33, go_sem, wHi_zero, wLo_zero]) rfl (ret_of (by rw [H1.out, H2.out]) ?_)
    go_grown
  · have H1 := Lib.hid (negOk_true hn)
    have H2 := Lib.hid (negN_ok H1.out)
    have H3 := Lib.hid (neg_hi h hn)
    have e3 : wHi x < 0 → ¬ wHi (-x) < 0 := by unfold wHi; unfold InW at h; omega
    go_enter Try.func33, Try.ntmps33
    go_wp2_with fail
    rw [E1.out, E2.out]
    refine (wturned (u128 x) (u128_U2 x) _).mono ?_; rintro e w1 ⟨rfl, rfl⟩
    rw [neg_u128]
    have H4 := H3.out
    go_wp2_with fail
    all_goals
      refine bodyPost_ret (v := .tuple #[W (-x), .bool true]) (by simp [results, Try.results33, go_sem, neg_lo]) rfl (ret_of (by rw [H1.out, H2.out]) ?_)
      go_grown

end Go.Proofs.Ytlpnklcnheafoaa
