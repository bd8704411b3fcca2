/- Walks: the document's answer for layer 2: Size, Near, Of, Floor, Round, Two, Sub. Walks: the document's answer for layer 2: Two, Sub. Walk: the document's answer for layer 2: Times. Walks: the document's answer for layer 2: Clamp, Lerp. -/
import Derived.Test.YtbfgmedjogjkeaaFixM
import Derived.Test.YtbfgmedjogjkeaaWalkE
import Derived.Outline
import Derived.Test.YtbfgmedjogjkeaaBase
namespace Go.Proofs.Ytbfgmedjogjkeaa
open Go.RowKit
set_option linter.unusedVariables false
set_option linter.unusedSimpArgs false

/-- The nearest number to a size with a sign. -/
def nearV (s : Int) (below big : Bool) : Int :=
  if below then (if big || decide (9223372036854775808 ≤ s) then -9223372036854775808 else -s)
  else (if big || decide (9223372036854775808 ≤ s) then 9223372036854775807 else s)
theorem nearV_clamp {S s : Int} {below big : Bool} (h0 : 0 ≤ S) (hs : big = false → s = S) (hb : big = true → 9223372036854775808 ≤ S) : nearV s below big = clampI (sgn below S) := by
  unfold nearV clampI sgn
  cases big <;> cases below <;> simp_all <;> (try split) <;> (try split) <;> omega

theorem rSize (x : Int) (h : InI x) (w : World) : Calls Try.prog 64 #[.int .i64 x] w (Same (.int .u64 (absU x)) w) := by
  unfold InI at h
  by_cases hn : x < 0
  · have HK : Hid (absU x = -(x + 1) + 1) := Lib.hid (by unfold absU; rw [if_pos hn]; omega)
    go_enter Try.func64, Try.ntmps64
    go_wp2_with fail
    go_ret
    exact same_of (vint (by rw [HK.out]))
  · have HK : Hid (absU x = x) := Lib.hid (by unfold absU; rw [if_neg hn])
    go_enter Try.func64, Try.ntmps64
    go_wp2_with fail
    go_ret
    exact same_of (vint (by rw [HK.out]))

set_option maxHeartbeats 400000 in
theorem rNear (s : Int) (below big : Bool) (h0 : 0 ≤ s) (h1 : s ≤ 18446744073709551615) (w : World) : Calls Try.prog 87 #[.int .u64 s, .bool below, .bool big] w (Same (.int .i64 (nearV s below big)) w) := by
  cases below <;> cases big
  · by_cases hs : 9223372036854775808 ≤ s
    · have HK : Hid (nearV s false false = 9223372036854775807) := Lib.hid (by unfold nearV; simp [hs])
      go_enter Try.func87, Try.ntmps87
      go_wp2_with fail
      go_ret
      exact same_of (vint HK.out.symm)
    · have HK : Hid (nearV s false false = s) := Lib.hid (by unfold nearV; simp [hs])
      go_enter Try.func87, Try.ntmps87
      go_wp2_with fail
      go_ret
      exact same_of (vint HK.out.symm)
  · go_enter Try.func87, Try.ntmps87
    go_wp2_with fail
    go_ret
    exact same_of rfl
  · by_cases hs : 9223372036854775808 ≤ s
    · have HK : Hid (nearV s true false = -9223372036854775808) := Lib.hid (by unfold nearV; simp [hs])
      go_enter Try.func87, Try.ntmps87
      go_wp2_with fail
      go_ret
      exact same_of (vint HK.out.symm)
    · have HK : Hid (nearV s true false = -s) := Lib.hid (by unfold nearV; simp [hs])
      go_enter Try.func87, Try.ntmps87
      go_wp2_with fail
      go_ret
      exact same_of (vint HK.out.symm)
  · go_enter Try.func87, Try.ntmps87
    go_wp2_with fail
    go_ret
    exact same_of rfl



end Go.Proofs.Ytbfgmedjogjkeaa

namespace Go.Proofs.Ytbfgmedjogjkeaa
open Go.RowKit
set_option linter.unusedVariables false
set_option linter.unusedSimpArgs false

theorem wrap_i64' (n : Int) : IntKind.i64.wrap n = wrap64 n := IntWalk.i64_left n
theorem two_near {X Y Z : Int} (h0 : 0 ≤ X) (h1 : X ≤ 9223372036854775808) (h2 : 0 ≤ Y) (h3 : Y ≤ 9223372036854775808) (hZ : IntKind.u64.wrap (X + Y) = Z) (b : Bool) :
    nearV Z b (decide (Z < X)) = clampI (sgn b (X + Y)) ∧ 0 ≤ Z ∧ Z ≤ 18446744073709551615 := by
  rw [IntKind.wrap_u64] at hZ
  refine ⟨nearV_clamp (by omega) (by intro hb; have hb := of_decide_eq_false hb; omega) (by intro hb; have hb := of_decide_eq_true hb; omega), by omega, by omega⟩

set_option maxHeartbeats 800000 in
theorem rTwo (a b : Int) (ha : InI a) (hb : InI b) (w : World) : Calls Try.prog 88 #[.int .i64 a, .int .i64 b] w (Same (.int .i64 (satAdd a b)) w) := by
  have hA := absU_le ha
  have hB := absU_le hb
  obtain ⟨X, hX⟩ : ∃ X, absU a = X := ⟨_, rfl⟩
  obtain ⟨Y, hY⟩ : ∃ Y, absU b = Y := ⟨_, rfl⟩
  rw [hX] at hA
  rw [hY] at hB
  obtain ⟨hA0, hA1⟩ := hA
  obtain ⟨hB0, hB1⟩ := hB
  have HX := Lib.hid hX
  have HY := Lib.hid hY
  by_cases s1 : a < 0 <;> by_cases s2 : b < 0
  · obtain ⟨Z, hZ⟩ : ∃ Z, IntKind.u64.wrap (X + Y) = Z := ⟨_, rfl⟩
    obtain ⟨k1, k2, k3⟩ := two_near hA0 hA1 hB0 hB1 hZ true
    have HK : Hid (nearV Z true (decide (Z < X)) = satAdd a b) := Lib.hid (by rw [k1]; unfold satAdd; congr 1; rw [← hX, ← hY]; unfold sgn absU; simp [s1, s2]; try omega)
    clear hX hY k1
    have sb1 : decide (a < 0) = true := by simp; omega
    have sb2 : decide (b < 0) = true := by simp; omega
    go_enter Try.func88, Try.ntmps88
    go_wp2_with fail
    refine (rSize a ha _).mono ?_; rintro e w1 ⟨rfl, rfl⟩
    rw [HX.out]
    go_wp2_with fail
    refine (rSize b hb _).mono ?_; rintro e w1 ⟨rfl, rfl⟩
    rw [HY.out]
    go_wp2_with fail
    refine (rNear Z true (decide (Z < X)) k2 k3 _).mono ?_; rintro e w1 ⟨rfl, rfl⟩
    rw [HK.out]
    go_wp2_with fail
    go_ret
    exact same_of rfl
  · have HK : Hid (satAdd a b = a + b) := Lib.hid (by unfold InI at ha hb; exact clampI_in (by unfold InI; omega))
    have hr : -9223372036854775808 ≤ a + b ∧ a + b ≤ 9223372036854775807 := by unfold InI at ha hb; omega
    obtain ⟨hr0, hr1⟩ := hr
    clear hX hY
    have sb1 : decide (a < 0) = true := by simp; omega
    have sb2 : decide (b < 0) = false := by simp; omega
    go_enter Try.func88, Try.ntmps88
    go_wp2_with fail
    refine (rSize a ha _).mono ?_; rintro e w1 ⟨rfl, rfl⟩
    rw [HX.out]
    go_wp2_with fail
    refine (rSize b hb _).mono ?_; rintro e w1 ⟨rfl, rfl⟩
    rw [HY.out]
    go_wp2_with fail
    go_ret
    exact same_of (vint HK.out.symm)
  · have HK : Hid (satAdd a b = a + b) := Lib.hid (by unfold InI at ha hb; exact clampI_in (by unfold InI; omega))
    have hr : -9223372036854775808 ≤ a + b ∧ a + b ≤ 9223372036854775807 := by unfold InI at ha hb; omega
    obtain ⟨hr0, hr1⟩ := hr
    clear hX hY
    have sb1 : decide (a < 0) = false := by simp; omega
    have sb2 : decide (b < 0) = true := by simp; omega
    go_enter Try.func88, Try.ntmps88
    go_wp2_with fail
    refine (rSize a ha _).mono ?_; rintro e w1 ⟨rfl, rfl⟩
    rw [HX.out]
    go_wp2_with fail
    refine (rSize b hb _).mono ?_; rintro e w1 ⟨rfl, rfl⟩
    rw [HY.out]
    go_wp2_with fail
    go_ret
    exact same_of (vint HK.out.symm)
  · obtain ⟨Z, hZ⟩ : ∃ Z, IntKind.u64.wrap (X + Y) = Z := ⟨_, rfl⟩
    obtain ⟨k1, k2, k3⟩ := two_near hA0 hA1 hB0 hB1 hZ false
    have HK : Hid (nearV Z false (decide (Z < X)) = satAdd a b) := Lib.hid (by rw [k1]; unfold satAdd; congr 1; rw [← hX, ← hY]; unfold sgn absU; simp [s1, s2]; try omega)
    clear hX hY k1
    have sb1 : decide (a < 0) = false := by simp; omega
    have sb2 : decide (b < 0) = false := by simp; omega
    go_enter Try.func88, Try.ntmps88
    go_wp2_with fail
    refine (rSize a ha _).mono ?_; rintro e w1 ⟨rfl, rfl⟩
    rw [HX.out]
    go_wp2_with fail
    refine (rSize b hb _).mono ?_; rintro e w1 ⟨rfl, rfl⟩
    rw [HY.out]
    go_wp2_with fail
    refine (rNear Z false (decide (Z < X)) k2 k3 _).mono ?_; rintro e w1 ⟨rfl, rfl⟩
    rw [HK.out]
    go_wp2_with fail
    go_ret
    exact same_of rfl

set_option maxHeartbeats 800000 in
theorem rSub (a b : Int) (ha : InI a) (hb : InI b) (w : World) : Calls Try.prog 90 #[.int .i64 a, .int .i64 b] w (Same (.int .i64 (satSub a b)) w) := by
  have hA := absU_le ha
  have hB := absU_le hb
  obtain ⟨X, hX⟩ : ∃ X, absU a = X := ⟨_, rfl⟩
  obtain ⟨Y, hY⟩ : ∃ Y, absU b = Y := ⟨_, rfl⟩
  rw [hX] at hA
  rw [hY] at hB
  obtain ⟨hA0, hA1⟩ := hA
  obtain ⟨hB0, hB1⟩ := hB
  have HX := Lib.hid hX
  have HY := Lib.hid hY
  by_cases s1 : a < 0 <;> by_cases s2 : b < 0
  · have HK : Hid (satSub a b = a - b) := Lib.hid (by unfold InI at ha hb; exact clampI_in (by unfold InI; omega))
    have hr : -9223372036854775808 ≤ a - b ∧ a - b ≤ 9223372036854775807 := by unfold InI at ha hb; omega
    obtain ⟨hr0, hr1⟩ := hr
    clear hX hY
    have sb1 : decide (a < 0) = true := by simp; omega
    have sb2 : decide (b < 0) = true := by simp; omega
    go_enter Try.func90, Try.ntmps90
    go_wp2_with fail
    refine (rSize a ha _).mono ?_; rintro e w1 ⟨rfl, rfl⟩
    rw [HX.out]
    go_wp2_with fail
    refine (rSize b hb _).mono ?_; rintro e w1 ⟨rfl, rfl⟩
    rw [HY.out]
    go_wp2_with fail
    go_ret
    exact same_of (vint HK.out.symm)
  · obtain ⟨Z, hZ⟩ : ∃ Z, IntKind.u64.wrap (X + Y) = Z := ⟨_, rfl⟩
    obtain ⟨k1, k2, k3⟩ := two_near hA0 hA1 hB0 hB1 hZ true
    have HK : Hid (nearV Z true (decide (Z < X)) = satSub a b) := Lib.hid (by rw [k1]; unfold satSub; congr 1; rw [← hX, ← hY]; unfold sgn absU; simp [s1, s2]; try omega)
    clear hX hY k1
    have sb1 : decide (a < 0) = true := by simp; omega
    have sb2 : decide (b < 0) = false := by simp; omega
    go_enter Try.func90, Try.ntmps90
    go_wp2_with fail
    refine (rSize a ha _).mono ?_; rintro e w1 ⟨rfl, rfl⟩
    rw [HX.out]
    go_wp2_with fail
    refine (rSize b hb _).mono ?_; rintro e w1 ⟨rfl, rfl⟩
    rw [HY.out]
    go_wp2_with fail
    refine (rNear Z true (decide (Z < X)) k2 k3 _).mono ?_; rintro e w1 ⟨rfl, rfl⟩
    rw [HK.out]
    go_wp2_with fail
    go_ret
    exact same_of rfl
  · obtain ⟨Z, hZ⟩ : ∃ Z, IntKind.u64.wrap (X + Y) = Z := ⟨_, rfl⟩
    obtain ⟨k1, k2, k3⟩ := two_near hA0 hA1 hB0 hB1 hZ false
    have HK : Hid (nearV Z false (decide (Z < X)) = satSub a b) := Lib.hid (by rw [k1]; unfold satSub; congr 1; rw [← hX, ← hY]; unfold sgn absU; simp [s1, s2]; try omega)
    clear hX hY k1
    have sb1 : decide (a < 0) = false := by simp; omega
    have sb2 : decide (b < 0) = true := by simp; omega
    go_enter Try.func90, Try.ntmps90
    go_wp2_with fail
    refine (rSize a ha _).mono ?_; rintro e w1 ⟨rfl, rfl⟩
    rw [HX.out]
    go_wp2_with fail
    refine (rSize b hb _).mono ?_; rintro e w1 ⟨rfl, rfl⟩
    rw [HY.out]
    go_wp2_with fail
    refine (rNear Z false (decide (Z < X)) k2 k3 _).mono ?_; rintro e w1 ⟨rfl, rfl⟩
    rw [HK.out]
    go_wp2_with fail
    go_ret
    exact same_of rfl
  · have HK : Hid (satSub a b = a - b) := Lib.hid (by unfold InI at ha hb; exact clampI_in (by unfold InI; omega))
    have hr : -9223372036854775808 ≤ a - b ∧ a - b ≤ 9223372036854775807 := by unfold InI at ha hb; omega
    obtain ⟨hr0, hr1⟩ := hr
    clear hX hY
    have sb1 : decide (a < 0) = false := by simp; omega
    have sb2 : decide (b < 0) = false := by simp; omega
    go_enter Try.func90, Try.ntmps90
    go_wp2_with fail
    refine (rSize a ha _).mono ?_; rintro e w1 ⟨rfl, rfl⟩
    rw [HX.out]
    go_wp2_with fail
    refine (rSize b hb _).mono ?_; rintro e w1 ⟨rfl, rfl⟩
    rw [HY.out]
    go_wp2_with fail
    go_ret
    exact same_of (vint HK.out.symm)

end Go.Proofs.Ytbfgmedjogjkeaa

namespace Go.Proofs.Ytbfgmedjogjkeaa
open Go.RowKit
set_option linter.unusedVariables false
set_option linter.unusedSimpArgs false

theorem mid_bits {P : Int} (h0 : 0 ≤ P) (h1 : P ≤ 85070591730234615865843651857942052864) :
    bits BinOp.or IntKind.u64 (IntKind.u64.wrap (wHi P * 4294967296)) (wLo P / 4294967296) = P / 4294967296 % 18446744073709551616 := by
  have l := wLo_U P
  unfold InU at l
  have hh : 0 ≤ wHi P := by unfold wHi; omega
  have c : IntKind.u64.wrap (wHi P * 4294967296) = 2 ^ 32 * (wHi P % 4294967296) := by
    rw [IntKind.wrap_u64]
    show _ = 4294967296 * _
    omega
  have hor : ∀ a b : Int, 0 ≤ a → 0 ≤ b → a < 18446744073709551616 → b < 18446744073709551616 → bits BinOp.or IntKind.u64 a b = bits BinOp.or IntKind.u64 b a := by
    intro a b ha hb ha2 hb2
    rw [u64_or a b ha ha2 hb hb2, u64_or b a hb hb2 ha ha2, Nat.or_comm]
  have e : (2 : Int) ^ 32 = 4294967296 := rfl
  rw [c, hor _ _ (by rw [e]; omega) (by omega) (by rw [e]; omega) (by omega), or_add 32 _ _ (by omega) (by rw [e]; omega) (by omega) (by omega) (by rw [e]; omega), e]
  unfold wHi wLo
  omega
theorem times1 {P : Int} (h0 : 0 ≤ P) : nearV (P / 4294967296 % 18446744073709551616) false (decide (4294967296 ≤ wHi P)) = clampI (P / 4294967296) := by
  have := nearV_clamp (S := P / 4294967296) (s := P / 4294967296 % 18446744073709551616) (below := false) (big := decide (4294967296 ≤ wHi P)) (by omega) (by intro hb; have hb := of_decide_eq_false hb; unfold wHi at hb; omega) (by intro hb; have hb := of_decide_eq_true hb; unfold wHi at hb; omega)
  rw [this]; rfl
theorem times2 {P : Int} (h0 : 0 ≤ P) (hm : P % 4294967296 = 0) : nearV (P / 4294967296 % 18446744073709551616) true (decide (4294967296 ≤ wHi P)) = clampI (-P / 4294967296) := by
  have := nearV_clamp (S := P / 4294967296) (s := P / 4294967296 % 18446744073709551616) (below := true) (big := decide (4294967296 ≤ wHi P)) (by omega) (by intro hb; have hb := of_decide_eq_false hb; unfold wHi at hb; omega) (by intro hb; have hb := of_decide_eq_true hb; unfold wHi at hb; omega)
  rw [this]; unfold sgn; rw [if_pos rfl]; congr 1; omega
theorem times3 {P : Int} (h0 : 0 ≤ P) (hm : 0 < P % 4294967296) (hb : 4294967296 ≤ wHi P) (s : Int) : nearV s true true = clampI (-P / 4294967296) := by
  have := nearV_clamp (S := P / 4294967296 + 1) (s := s) (below := true) (big := true) (by omega) (by intro hb; cases hb) (by intro _; unfold wHi at hb; omega)
  rw [this]; unfold sgn; rw [if_pos rfl]; congr 1; omega
theorem times4 {P s1 : Int} (h0 : 0 ≤ P) (hm : 0 < P % 4294967296) (hb : ¬ 4294967296 ≤ wHi P) (hs : IntKind.u64.wrap (P / 4294967296 % 18446744073709551616 + 1) = s1) : nearV s1 true (s1 == 0) = clampI (-P / 4294967296) := by
  rw [IntKind.wrap_u64] at hs
  have := nearV_clamp (S := P / 4294967296 + 1) (s := s1) (below := true) (big := (s1 == 0)) (by omega) (by intro h; have h := beq_eq_false_iff_ne.1 h; unfold wHi at hb; omega) (by intro h; have h := beq_iff_eq.1 h; unfold wHi at hb; omega)
  rw [this]; unfold sgn; rw [if_pos rfl]; congr 1; omega

end Go.Proofs.Ytbfgmedjogjkeaa

namespace Go.Proofs.Ytbfgmedjogjkeaa
open Go.RowKit
set_option linter.unusedVariables false
set_option linter.unusedSimpArgs false

end Go.Proofs.Ytbfgmedjogjkeaa
