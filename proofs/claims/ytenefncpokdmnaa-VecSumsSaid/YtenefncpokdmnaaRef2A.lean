/- Walks: the document's answer for layer 2: Size, Near, Of, Floor, Round, Two, Sub. -/
import Derived.Test.YtenefncpokdmnaaFixM
import Derived.Test.YtenefncpokdmnaaWalkE
import Derived.Outline
namespace Go.Proofs.Ytenefncpokdmnaa
open Go.RowKit
set_option linter.unusedVariables false
set_option linter.unusedSimpArgs false

/-- The nearest number to a size with a sign. -/
def nearV (s : Int) (below big : Bool) : Int :=
  if below then (if big || decide (9223372036854775808 ≤ s) then -9223372036854775808 else -s)
  else (if big || decide (9223372036854775808 ≤ s) then 9223372036854775807 else s)
theorem nearV_clamp {S s : Int} {below big : Bool} (h0 : 0 ≤ S) (hs : big = false → s = S) (hb : big = true → 9223372036854775808 ≤ S) : nearV s below big = clampI (sgn below S) := by
  unfold nearV clampI sgn
  cases big <;> cases below <;> simp_all <;> (try split) <;> (try split) <;> omega

theorem rSize (x : Int) (h : InI x) (w : World) : Calls Try.prog 78 #[.int .i64 x] w (Same (.int .u64 (absU x)) w) := by
  unfold InI at h
  by_cases hn : x < 0
  · have HK : Hid (absU x = -(x + 1) + 1) := Lib.hid (by unfold absU; rw [if_pos hn]; omega)
    go_enter Try.func78, Try.ntmps78
    go_wp2_with fail
    go_ret
    exact same_of (vint (by rw [HK.out]))
  · have HK : Hid (absU x = x) := Lib.hid (by unfold absU; rw [if_neg hn])
    go_enter Try.func78, Try.ntmps78
    go_wp2_with fail
    go_ret
    exact same_of (vint (by rw [HK.out]))

set_option maxHeartbeats 400000 in
theorem rNear (s : Int) (below big : Bool) (h0 : 0 ≤ s) (h1 : s ≤ 18446744073709551615) (w : World) : Calls Try.prog 79 #[.int .u64 s, .bool below, .bool big] w (Same (.int .i64 (nearV s below big)) w) := by
  cases below <;> cases big
  · by_cases hs : 9223372036854775808 ≤ s
    · have HK : Hid (nearV s false false = 9223372036854775807) := Lib.hid (by unfold nearV; simp [hs])
      go_enter Try.func79, Try.ntmps79
      go_wp2_with fail
      go_ret
      exact same_of (vint HK.out.symm)
    · have HK : Hid (nearV s false false = s) := Lib.hid (by unfold nearV; simp [hs])
      go_enter Try.func79, Try.ntmps79
      go_wp2_with fail
      go_ret
      exact same_of (vint HK.out.symm)
  · go_enter Try.func79, Try.ntmps79
    go_wp2_with fail
    go_ret
    exact same_of rfl
  · by_cases hs : 9223372036854775808 ≤ s
    · have HK : Hid (nearV s true false = -9223372036854775808) := Lib.hid (by unfold nearV; simp [hs])
      go_enter Try.func79, Try.ntmps79
      go_wp2_with fail
      go_ret
      exact same_of (vint HK.out.symm)
    · have HK : Hid (nearV s true false = -s) := Lib.hid (by unfold nearV; simp [hs])
      go_enter Try.func79, Try.ntmps79
      go_wp2_with fail
      go_ret
      exact same_of (vint HK.out.symm)
  · go_enter Try.func79, Try.ntmps79
    go_wp2_with fail
    go_ret
    exact same_of rfl

set_option maxHeartbeats 400000 in
theorem rOf (n : Int) (h : InI n) (w : World) : Calls Try.prog 29 #[.int .i64 n] w (Same (.int .i64 (fof n)) w) := by
  have hA := absU_le h
  obtain ⟨S, hS⟩ : ∃ S, absU n = S := ⟨_, rfl⟩
  rw [hS] at hA
  obtain ⟨hA0, hA1⟩ := hA
  have hsg : sgn (decide (n < 0)) S = n := by
    rw [← hS]; unfold sgn absU; by_cases hn : n < 0 <;> simp [hn]
  have HK : Hid (nearV (IntKind.u64.wrap (S * 4294967296)) (decide (n < 0)) (decide (4294967296 ≤ S)) = fof n) := Lib.hid (by
    rw [nearV_clamp (S := S * 4294967296) (by omega) (by intro hb; have hb := of_decide_eq_false hb; rw [IntKind.wrap_u64]; omega) (by intro hb; have hb := of_decide_eq_true hb; omega)]
    have hk : sgn (decide (n < 0)) (S * 4294967296) = sgn (decide (n < 0)) S * 4294967296 := by unfold sgn; split <;> omega
    unfold fof
    rw [hk, hsg])
  have HS := Lib.hid hS
  have hw : 0 ≤ IntKind.u64.wrap (S * 4294967296) ∧ IntKind.u64.wrap (S * 4294967296) ≤ 18446744073709551615 := by rw [IntKind.wrap_u64]; omega
  clear hS hsg
  go_enter Try.func29, Try.ntmps29
  go_wp2_with fail
  refine (rSize n h _).mono ?_; rintro e w1 ⟨rfl, rfl⟩
  rw [HS.out]
  go_wp2_with fail
  refine (rNear _ _ _ hw.1 hw.2 _).mono ?_; rintro e w1 ⟨rfl, rfl⟩
  rw [HK.out]
  go_wp2_with fail
  go_ret
  exact same_of rfl

set_option maxHeartbeats 400000 in
theorem rFloor (x : Int) (h : InI x) (w : World) : Calls Try.prog 31 #[.int .i64 x] w (Same (.int .i64 (x / 4294967296)) w) := by
  have hA := absU_le h
  obtain ⟨S, hS⟩ : ∃ S, absU x = S := ⟨_, rfl⟩
  rw [hS] at hA
  obtain ⟨hA0, hA1⟩ := hA
  have HS := Lib.hid hS
  have ea := and_low (Y := S) (by omega) (by omega)
  by_cases hx : 0 ≤ x
  · have HK : Hid (x / 4294967296 = S / 4294967296) := Lib.hid (by rw [← hS]; unfold absU; rw [if_neg (by omega)])
    clear hS
    go_enter Try.func31, Try.ntmps31
    go_wp2_with fail
    refine (rSize x h _).mono ?_; rintro e w1 ⟨rfl, rfl⟩
    rw [HS.out]
    go_wp2_with fail
    go_ret
    exact same_of (vint HK.out.symm)
  · obtain ⟨m, hm⟩ : ∃ m, S % 4294967296 = m := ⟨_, rfl⟩
    rw [hm] at ea
    by_cases h0 : m = 0
    · have HK : Hid (x / 4294967296 = -(S / 4294967296)) := Lib.hid (by unfold absU at hS; rw [if_pos (by omega)] at hS; omega)
      have em : (m == 0) = true := by rw [beq_iff_eq]; exact h0
      clear hS hm h0
      go_enter Try.func31, Try.ntmps31
      go_wp2_with fail
      refine (rSize x h _).mono ?_; rintro e w1 ⟨rfl, rfl⟩
      rw [HS.out]
      go_wp2_with fail
      go_ret
      exact same_of (vint HK.out.symm)
    · have HK : Hid (x / 4294967296 = -(S / 4294967296) - 1) := Lib.hid (by unfold absU at hS; rw [if_pos (by omega)] at hS; omega)
      have em : (m == 0) = false := by rw [beq_eq_false_iff_ne]; exact h0
      clear hS hm h0
      go_enter Try.func31, Try.ntmps31
      go_wp2_with fail
      refine (rSize x h _).mono ?_; rintro e w1 ⟨rfl, rfl⟩
      rw [HS.out]
      go_wp2_with fail
      go_ret
      exact same_of (vint HK.out.symm)

theorem rRound (x : Int) (h : InI x) (w : World) : Calls Try.prog 33 #[.int .i64 x] w (Same (.int .i64 (fround x)) w) := by
  unfold InI at h
  by_cases hx : 9223372034707292160 ≤ x
  · have HK : Hid (fround x = 2147483648) := Lib.hid (by unfold fround; omega)
    go_enter Try.func33, Try.ntmps33
    go_wp2_with fail
    go_ret
    exact same_of (vint HK.out.symm)
  · have HK : Hid (fround x = (x + 2147483648) / 4294967296) := Lib.hid (by unfold fround; omega)
    go_enter Try.func33, Try.ntmps33
    go_wp2_with fail
    refine (rFloor (x + 2147483648) (by unfold InI; omega) _).mono ?_; rintro e w1 ⟨rfl, rfl⟩
    go_wp2_with fail
    go_ret
    exact same_of (vint HK.out.symm)

end Go.Proofs.Ytenefncpokdmnaa
