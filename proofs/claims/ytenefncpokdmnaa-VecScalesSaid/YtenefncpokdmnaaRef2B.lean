/- Walks: the document's answer for layer 2: Two, Sub. -/
import Derived.Test.YtenefncpokdmnaaRef2A
namespace Go.Proofs.Ytenefncpokdmnaa
open Go.RowKit
set_option linter.unusedVariables false
set_option linter.unusedSimpArgs false

theorem wrap_i64' (n : Int) : IntKind.i64.wrap n = wrap64 n := IntWalk.i64_left n
theorem two_near {X Y Z : Int} (h0 : 0 ≤ X) (h1 : X ≤ 9223372036854775808) (h2 : 0 ≤ Y) (h3 : Y ≤ 9223372036854775808) (hZ : IntKind.u64.wrap (X + Y) = Z) (b : Bool) :
    nearV Z b (decide (Z < X)) = clampI (sgn b (X + Y)) ∧ 0 ≤ Z ∧ Z ≤ 18446744073709551615 := by
  rw [IntKind.wrap_u64] at hZ
  refine ⟨nearV_clamp (by omega) (by intro hb; have hb := of_decide_eq_false hb; omega) (by intro hb; have hb := of_decide_eq_true hb; omega), by omega, by omega⟩

set_option maxHeartbeats 800000 in
theorem rTwo (a b : Int) (ha : InI a) (hb : InI b) (w : World) : Calls Try.prog 89 #[.int .i64 a, .int .i64 b] w (Same (.int .i64 (satAdd a b)) w) := by
  have hA := absU_le ha
  have hB := absU_le hb
  obtain ⟨X, hX⟩ : ∃ X, absU a = X := ⟨_, rfl⟩
  obtain ⟨Y, hY⟩ : ∃ Y, absU b = Y := ⟨_, rfl⟩
  rw [hX] at hA
  rw [hY] at hB
  obtain ⟨hA0, hA1⟩ := hA
  obtain ⟨hB0, hB1⟩ := hB
  have HX := Lib.hid hX
  have HY := Lib.hid hY
  by_cases s1 : a < 0 <;> by_cases s2 : b < 0
  · obtain ⟨Z, hZ⟩ : ∃ Z, IntKind.u64.wrap (X + Y) = Z := ⟨_, rfl⟩
    obtain ⟨k1, k2, k3⟩ := two_near hA0 hA1 hB0 hB1 hZ true
    have HK : Hid (nearV Z true (decide (Z < X)) = satAdd a b) := Lib.hid (by rw [k1]; unfold satAdd; congr 1; rw [← hX, ← hY]; unfold sgn absU; simp [s1, s2]; try omega)
    clear hX hY k1
    have sb1 : decide (a < 0) = true := by simp; omega
    have sb2 : decide (b < 0) = true := by simp; omega
    go_enter Try.func89, Try.ntmps89
    go_wp2_with fail
    refine (rSize a ha _).mono ?_; rintro e w1 ⟨rfl, rfl⟩
    rw [HX.out]
    go_wp2_with fail
    refine (rSize b hb _).mono ?_; rintro e w1 ⟨rfl, rfl⟩
    rw [HY.out]
    go_wp2_with fail
    refine (rNear Z true (decide (Z < X)) k2 k3 _).mono ?_; rintro e w1 ⟨rfl, rfl⟩
    rw [HK.out]
    go_wp2_with fail
    go_ret
    exact same_of rfl
  · have HK : Hid (satAdd a b = a + b) := Lib.hid (by unfold InI at ha hb; exact clampI_in (by unfold InI; omega))
    have hr : -9223372036854775808 ≤ a + b ∧ a + b ≤ 9223372036854775807 := by unfold InI at ha hb; omega
    obtain ⟨hr0, hr1⟩ := hr
    clear hX hY
    have sb1 : decide (a < 0) = true := by simp; omega
    have sb2 : decide (b < 0) = false := by simp; omega
    go_enter Try.func89, Try.ntmps89
    go_wp2_with fail
    refine (rSize a ha _).mono ?_; rintro e w1 ⟨rfl, rfl⟩
    rw [HX.out]
    go_wp2_with fail
    refine (rSize b hb _).mono ?_; rintro e w1 ⟨rfl, rfl⟩
    rw [HY.out]
    go_wp2_with fail
    go_ret
    exact same_of (vint HK.out.symm)
  · have HK : Hid (satAdd a b = a + b) := Lib.hid (by unfold InI at ha hb; exact clampI_in (by unfold InI; omega))
    have hr : -9223372036854775808 ≤ a + b ∧ a + b ≤ 9223372036854775807 := by unfold InI at ha hb; omega
    obtain ⟨hr0, hr1⟩ := hr
    clear hX hY
    have sb1 : decide (a < 0) = false := by simp; omega
    have sb2 : decide (b < 0) = true := by simp; omega
    go_enter Try.func89, Try.ntmps89
    go_wp2_with fail
    refine (rSize a ha _).mono ?_; rintro e w1 ⟨rfl, rfl⟩
    rw [HX.out]
    go_wp2_with fail
    refine (rSize b hb _).mono ?_; rintro e w1 ⟨rfl, rfl⟩
    rw [HY.out]
    go_wp2_with fail
    go_ret
    exact same_of (vint HK.out.symm)
  · obtain ⟨Z, hZ⟩ : ∃ Z, IntKind.u64.wrap (X + Y) = Z := ⟨_, rfl⟩
    obtain ⟨k1, k2, k3⟩ := two_near hA0 hA1 hB0 hB1 hZ false
    have HK : Hid (nearV Z false (decide (Z < X)) = satAdd a b) := Lib.hid (by rw [k1]; unfold satAdd; congr 1; rw [← hX, ← hY]; unfold sgn absU; simp [s1, s2]; try omega)
    clear hX hY k1
    have sb1 : decide (a < 0) = false := by simp; omega
    have sb2 : decide (b < 0) = false := by simp; omega
    go_enter Try.func89, Try.ntmps89
    go_wp2_with fail
    refine (rSize a ha _).mono ?_; rintro e w1 ⟨rfl, rfl⟩
    rw [HX.out]
    go_wp2_with fail
    refine (rSize b hb _).mono ?_; rintro e w1 ⟨rfl, rfl⟩
    rw [HY.out]
    go_wp2_with fail
    refine (rNear Z false (decide (Z < X)) k2 k3 _).mono ?_; rintro e w1 ⟨rfl, rfl⟩
    rw [HK.out]
    go_wp2_with fail
    go_ret
    exact same_of rfl

set_option maxHeartbeats 800000 in
theorem rSub (a b : Int) (ha : InI a) (hb : InI b) (w : World) : Calls Try.prog 44 #[.int .i64 a, .int .i64 b] w (Same (.int .i64 (satSub a b)) w) := by
  have hA := absU_le ha
  have hB := absU_le hb
  obtain ⟨X, hX⟩ : ∃ X, absU a = X := ⟨_, rfl⟩
  obtain ⟨Y, hY⟩ : ∃ Y, absU b = Y := ⟨_, rfl⟩
  rw [hX] at hA
  rw [hY] at hB
  obtain ⟨hA0, hA1⟩ := hA
  obtain ⟨hB0, hB1⟩ := hB
  have HX := Lib.hid hX
  have HY := Lib.hid hY
  by_cases s1 : a < 0 <;> by_cases s2 : b < 0
  · have HK : Hid (satSub a b = a - b) := Lib.hid (by unfold InI at ha hb; exact clampI_in (by unfold InI; omega))
    have hr : -9223372036854775808 ≤ a - b ∧ a - b ≤ 9223372036854775807 := by unfold InI at ha hb; omega
    obtain ⟨hr0, hr1⟩ := hr
    clear hX hY
    have sb1 : decide (a < 0) = true := by simp; omega
    have sb2 : decide (b < 0) = true := by simp; omega
    go_enter Try.func44, Try.ntmps44
    go_wp2_with fail
    refine (rSize a ha _).mono ?_; rintro e w1 ⟨rfl, rfl⟩
    rw [HX.out]
    go_wp2_with fail
    refine (rSize b hb _).mono ?_; rintro e w1 ⟨rfl, rfl⟩
    rw [HY.out]
    go_wp2_with fail
    go_ret
    exact same_of (vint HK.out.symm)
  · obtain ⟨Z, hZ⟩ : ∃ Z, IntKind.u64.wrap (X + Y) = Z := ⟨_, rfl⟩
    obtain ⟨k1, k2, k3⟩ := two_near hA0 hA1 hB0 hB1 hZ true
    have HK : Hid (nearV Z true (decide (Z < X)) = satSub a b) := Lib.hid (by rw [k1]; unfold satSub; congr 1; rw [← hX, ← hY]; unfold sgn absU; simp [s1, s2]; try omega)
    clear hX hY k1
    have sb1 : decide (a < 0) = true := by simp; omega
    have sb2 : decide (b < 0) = false := by simp; omega
    go_enter Try.func44, Try.ntmps44
    go_wp2_with fail
    refine (rSize a ha _).mono ?_; rintro e w1 ⟨rfl, rfl⟩
    rw [HX.out]
    go_wp2_with fail
    refine (rSize b hb _).mono ?_; rintro e w1 ⟨rfl, rfl⟩
    rw [HY.out]
    go_wp2_with fail
    refine (rNear Z true (decide (Z < X)) k2 k3 _).mono ?_; rintro e w1 ⟨rfl, rfl⟩
    rw [HK.out]
    go_wp2_with fail
    go_ret
    exact same_of rfl
  · obtain ⟨Z, hZ⟩ : ∃ Z, IntKind.u64.wrap (X + Y) = Z := ⟨_, rfl⟩
    obtain ⟨k1, k2, k3⟩ := two_near hA0 hA1 hB0 hB1 hZ false
    have HK : Hid (nearV Z false (decide (Z < X)) = satSub a b) := Lib.hid (by rw [k1]; unfold satSub; congr 1; rw [← hX, ← hY]; unfold sgn absU; simp [s1, s2]; try omega)
    clear hX hY k1
    have sb1 : decide (a < 0) = false := by simp; omega
    have sb2 : decide (b < 0) = true := by simp; omega
    go_enter Try.func44, Try.ntmps44
    go_wp2_with fail
    refine (rSize a ha _).mono ?_; rintro e w1 ⟨rfl, rfl⟩
    rw [HX.out]
    go_wp2_with fail
    refine (rSize b hb _).mono ?_; rintro e w1 ⟨rfl, rfl⟩
    rw [HY.out]
    go_wp2_with fail
    refine (rNear Z false (decide (Z < X)) k2 k3 _).mono ?_; rintro e w1 ⟨rfl, rfl⟩
    rw [HK.out]
    go_wp2_with fail
    go_ret
    exact same_of rfl
  · have HK : Hid (satSub a b = a - b) := Lib.hid (by unfold InI at ha hb; exact clampI_in (by unfold InI; omega))
    have hr : -9223372036854775808 ≤ a - b ∧ a - b ≤ 9223372036854775807 := by unfold InI at ha hb; omega
    obtain ⟨hr0, hr1⟩ := hr
    clear hX hY
    have sb1 : decide (a < 0) = false := by simp; omega
    have sb2 : decide (b < 0) = false := by simp; omega
    go_enter Try.func44, Try.ntmps44
    go_wp2_with fail
    refine (rSize a ha _).mono ?_; rintro e w1 ⟨rfl, rfl⟩
    rw [HX.out]
    go_wp2_with fail
    refine (rSize b hb _).mono ?_; rintro e w1 ⟨rfl, rfl⟩
    rw [HY.out]
    go_wp2_with fail
    go_ret
    exact same_of (vint HK.out.symm)

end Go.Proofs.Ytenefncpokdmnaa
