/- Walk: wide.Shr. -/
import Derived.Test.YtenefncpokdmnaaWalkA
import Derived.Test.YtenefncpokdmnaaMathC
import Derived.Handy
import Derived.Outline
import Derived.StillTailTactics
import Derived.BigRegion
namespace Go.Proofs.Ytenefncpokdmnaa
open Go.RowKit
set_option linter.unusedVariables false
set_option linter.unusedSimpArgs false

set_option maxHeartbeats 400000 in
theorem wShr_mid (x : Int) (n : Nat) (h : InW x) (hn0 : 0 < n) (hn : n < 64) (w : World) :
    Calls Try.prog 76 #[W x, .int .i64 n] w (Ret (W (x / 2 ^ n)) w) := by
  have e0 : ((n : Int) == 0) = false := by rw [beq_eq_false_iff_ne]; omega
  have e1 : ¬ (64 : Int) ≤ n := by omega
  go_enter Try.func76, Try.ntmps76
  go_wp2_with fail
  go_region
  go_wp2
  refine bodyPost_ret (v := W (x / 2 ^ n)) (by simp [results, Try.results76, go_sem, shr_hi, shr_lo h n hn0 hn]) rfl (ret_of rfl ?_)
  go_grown

set_option maxHeartbeats 400000 in
theorem wShr_zero (x : Int) (n : Int) (h : InW x) (hn : n ≤ 0) (hl : -9223372036854775808 ≤ n) (w : World) :
    Calls Try.prog 76 #[W x, .int .i64 n] w (Ret (W x) w) := by
  by_cases h0 : n = 0
  · subst h0
    go_enter Try.func76, Try.ntmps76
    go_wp2_with fail
    refine bodyPost_ret (v := W x) (by simp [results, Try.results76, go_sem]) rfl (ret_of rfl ?_)
    go_grown
  · have h1 : n < 0 := by omega
    go_enter Try.func76, Try.ntmps76
    go_wp2_with fail
    refine bodyPost_ret (v := W x) (by simp [results, Try.results76, go_sem]) rfl (ret_of rfl ?_)
    go_grown

set_option maxHeartbeats 400000 in
theorem wShr_far (x : Int) (n : Int) (h : InW x) (hn : 64 ≤ n) (hl : n ≤ 9223372036854775807) (w : World) :
    Calls Try.prog 76 #[W x, .int .i64 n] w (Ret (W (x / 2 ^ n.toNat)) w) := by
  by_cases h1 : 63 < n - 64
  · go_enter Try.func76, Try.ntmps76
    go_wp2_with fail
    have H := Lib.hid (shr_far1 h (k := n.toNat) (by omega))
    refine (wOf _ (by unfold InI wHi; unfold InW at h; omega) _).mono ?_; rintro e w1 ⟨rfl, hb1⟩
    rw [H.out]
    have hz : w.heap.size + 1 < w1.heap.size := by have := hb1.size; simp at this; omega
    obtain ⟨hc1, hf1, hs1⟩ := bcell hb1
    have hb1 : Below w.heap.size w w1 := Below.next (by go_grown) hb1
    go_wp2_with fail
    refine bodyPost_ret (v := W (x / 2 ^ n.toNat)) (by simp [results, Try.results76, go_sem, hc1, hz]) rfl (ret_of rfl ?_)
    go_grown
  · go_enter Try.func76, Try.ntmps76
    go_wp2_with fail
    have H := Lib.hid (shr_far2 x (k := n.toNat) (by omega))
    have hI := shr_InI h (n.toNat - 64)
    have e5 : (n - 64).toNat = n.toNat - 64 := by omega
    rw [e5]
    refine (wOf _ hI _).mono ?_; rintro e w1 ⟨rfl, hb1⟩
    rw [H.out]
    have hz : w.heap.size + 1 < w1.heap.size := by have := hb1.size; simp at this; omega
    obtain ⟨hc1, hf1, hs1⟩ := bcell hb1
    have hb1 : Below w.heap.size w w1 := Below.next (by go_grown) hb1
    go_wp2_with fail
    refine bodyPost_ret (v := W (x / 2 ^ n.toNat)) (by simp [results, Try.results76, go_sem, hc1, hz]) rfl (ret_of rfl ?_)
    go_grown

def shrN (x n : Int) : Int := x / 2 ^ n.toNat
theorem wShr (x n : Int) (h : InW x) (hn : InI n) (w : World) :
    Calls Try.prog 76 #[W x, .int .i64 n] w (Ret (W (shrN x n)) w) := by
  unfold InI at hn
  unfold shrN
  by_cases h0 : n ≤ 0
  · have e : n.toNat = 0 := by omega
    rw [e, Int.pow_zero, Int.ediv_one]
    exact wShr_zero x n h h0 hn.1 w
  by_cases h1 : n < 64
  · obtain ⟨k, rfl⟩ := Int.eq_ofNat_of_zero_le (show 0 ≤ n by omega)
    rw [Int.toNat_natCast]
    exact wShr_mid x k h (by omega) (by omega) w
  · exact wShr_far x n h (by omega) hn.2 w
end Go.Proofs.Ytenefncpokdmnaa
