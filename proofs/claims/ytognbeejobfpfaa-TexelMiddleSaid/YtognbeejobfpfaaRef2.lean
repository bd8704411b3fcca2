/- Walks: the document's answer for layer 2: Size, Near, Of, Floor, Round, Two, Sub. Walks: the document's answer for layer 2: Two, Sub. Walk: the document's answer for layer 2: Times. Walks: the document's answer for layer 2: Clamp, Lerp. -/
import Derived.Test.YtognbeejobfpfaaFixM
import Derived.Test.YtognbeejobfpfaaWalkE
import Derived.Outline
import Derived.Test.YtognbeejobfpfaaBase
namespace Go.Proofs.Ytognbeejobfpfaa
open Go.RowKit
set_option linter.unusedVariables false
set_option linter.unusedSimpArgs false

/-- The nearest number to a size with a sign. -/
def nearV (s : Int) (below big : Bool) : Int :=
  if below then (if big || decide (9223372036854775808 ≤ s) then -9223372036854775808 else -s)
  else (if big || decide (9223372036854775808 ≤ s) then 9223372036854775807 else s)
theorem nearV_clamp {S s : Int} {below big : Bool} (h0 : 0 ≤ S) (hs : big = false → s = S) (hb : big = true → 9223372036854775808 ≤ S) : nearV s below big = clampI (sgn below S) := by
  unfold nearV clampI sgn
  cases big <;> cases below <;> simp_all <;> (try split) <;> (try split) <;> omega

theorem rSize (x : Int) (h : InI x) (w : World) : Calls Try.prog 83 #[.int .i64 x] w (Same (.int .u64 (absU x)) w) := by
  unfold InI at h
  by_cases hn : x < 0
  · have HK : Hid (absU x = -(x + 1) + 1) := Lib.hid (by unfold absU; rw [if_pos hn]; omega)
    go_enter Try.func83, Try.ntmps83
    go_wp2_with fail
    go_ret
    exact same_of (vint (by rw [HK.out]))
  · have HK : Hid (absU x = x) := Lib.hid (by unfold absU; rw [if_neg hn])
    go_enter Try.func83, Try.ntmps83
    go_wp2_with fail
    go_ret
    exact same_of (vint (by rw [HK.out]))

set_option maxHeartbeats 400000 in
theorem rNear (s : Int) (below big : Bool) (h0 : 0 ≤ s) (h1 : s ≤ 18446744073709551615) (w : World) : Calls Try.prog 84 #[.int .u64 s, .bool below, .bool big] w (Same (.int .i64 (nearV s below big)) w) := by
  cases below <;> cases big
  · by_cases hs : 9223372036854775808 ≤ s
    · have HK : Hid (nearV s false false = 9223372036854775807) := Lib.hid (by unfold nearV; simp [hs])
      go_enter Try.func84, Try.ntmps84
      go_wp2_with fail
      go_ret
      exact same_of (vint HK.out.symm)
    · have HK : Hid (nearV s false false = s) := Lib.hid (by unfold nearV; simp [hs])
      go_enter Try.func84, Try.ntmps84
      go_wp2_with fail
      go_ret
      exact same_of (vint HK.out.symm)
  · go_enter Try.func84, Try.ntmps84
    go_wp2_with fail
    go_ret
    exact same_of rfl
  · by_cases hs : 9223372036854775808 ≤ s
    · have HK : Hid (nearV s true false = -9223372036854775808) := Lib.hid (by unfold nearV; simp [hs])
      go_enter Try.func84, Try.ntmps84
      go_wp2_with fail
      go_ret
      exact same_of (vint HK.out.symm)
    · have HK : Hid (nearV s true false = -s) := Lib.hid (by unfold nearV; simp [hs])
      go_enter Try.func84, Try.ntmps84
      go_wp2_with fail
      go_ret
      exact same_of (vint HK.out.symm)
  · go_enter Try.func84, Try.ntmps84
    go_wp2_with fail
    go_ret
    exact same_of rfl

set_option maxHeartbeats 400000 in
theorem rOf (n : Int) (h : InI n) (w : World) : Calls Try.prog 48 #[.int .i64 n] w (Same (.int .i64 (fof n)) w) := by
  have hA := absU_le h
  obtain ⟨S, hS⟩ : ∃ S, absU n = S := ⟨_, rfl⟩
  rw [hS] at hA
  obtain ⟨hA0, hA1⟩ := hA
  have hsg : sgn (decide (n < 0)) S = n := by
    rw [← hS]; unfold sgn absU; by_cases hn : n < 0 <;> simp [hn]
  have HK : Hid (nearV (IntKind.u64.wrap (S * 4294967296)) (decide (n < 0)) (decide (4294967296 ≤ S)) = fof n) := Lib.hid (by
    rw [nearV_clamp (S := S * 4294967296) (by omega) (by intro hb; have hb := of_decide_eq_false hb; rw [IntKind.wrap_u64]; omega) (by intro hb; have hb := of_decide_eq_true hb; omega)]
    have hk : sgn (decide (n < 0)) (S * 4294967296) = sgn (decide (n < 0)) S * 4294967296 := by unfold sgn; split <;> omega
    unfold fof
    rw [hk, hsg])
  have HS := Lib.hid hS
  have hw : 0 ≤ IntKind.u64.wrap (S * 4294967296) ∧ IntKind.u64.wrap (S * 4294967296) ≤ 18446744073709551615 := by rw [IntKind.wrap_u64]; omega
  clear hS hsg
  go_enter Try.func48, Try.ntmps48
  go_wp2_with fail
  refine (rSize n h _).mono ?_; rintro e w1 ⟨rfl, rfl⟩
  rw [HS.out]
  go_wp2_with fail
  refine (rNear _ _ _ hw.1 hw.2 _).mono ?_; rintro e w1 ⟨rfl, rfl⟩
  rw [HK.out]
  go_wp2_with fail
  go_ret
  exact same_of rfl



end Go.Proofs.Ytognbeejobfpfaa

namespace Go.Proofs.Ytognbeejobfpfaa
open Go.RowKit
set_option linter.unusedVariables false
set_option linter.unusedSimpArgs false

theorem wrap_i64' (n : Int) : IntKind.i64.wrap n = wrap64 n := IntWalk.i64_left n
theorem two_near {X Y Z : Int} (h0 : 0 ≤ X) (h1 : X ≤ 9223372036854775808) (h2 : 0 ≤ Y) (h3 : Y ≤ 9223372036854775808) (hZ : IntKind.u64.wrap (X + Y) = Z) (b : Bool) :
    nearV Z b (decide (Z < X)) = clampI (sgn b (X + Y)) ∧ 0 ≤ Z ∧ Z ≤ 18446744073709551615 := by
  rw [IntKind.wrap_u64] at hZ
  refine ⟨nearV_clamp (by omega) (by intro hb; have hb := of_decide_eq_false hb; omega) (by intro hb; have hb := of_decide_eq_true hb; omega), by omega, by omega⟩

end Go.Proofs.Ytognbeejobfpfaa

namespace Go.Proofs.Ytognbeejobfpfaa
open Go.RowKit
set_option linter.unusedVariables false
set_option linter.unusedSimpArgs false

theorem mid_bits {P : Int} (h0 : 0 ≤ P) (h1 : P ≤ 85070591730234615865843651857942052864) :
    bits BinOp.or IntKind.u64 (IntKind.u64.wrap (wHi P * 4294967296)) (wLo P / 4294967296) = P / 4294967296 % 18446744073709551616 := by
  have l := wLo_U P
  unfold InU at l
  have hh : 0 ≤ wHi P := by unfold wHi; omega
  have c : IntKind.u64.wrap (wHi P * 4294967296) = 2 ^ 32 * (wHi P % 4294967296) := by
    rw [IntKind.wrap_u64]
    show _ = 4294967296 * _
    omega
  have hor : ∀ a b : Int, 0 ≤ a → 0 ≤ b → a < 18446744073709551616 → b < 18446744073709551616 → bits BinOp.or IntKind.u64 a b = bits BinOp.or IntKind.u64 b a := by
    intro a b ha hb ha2 hb2
    rw [u64_or a b ha ha2 hb hb2, u64_or b a hb hb2 ha ha2, Nat.or_comm]
  have e : (2 : Int) ^ 32 = 4294967296 := rfl
  rw [c, hor _ _ (by rw [e]; omega) (by omega) (by rw [e]; omega) (by omega), or_add 32 _ _ (by omega) (by rw [e]; omega) (by omega) (by omega) (by rw [e]; omega), e]
  unfold wHi wLo
  omega
theorem times1 {P : Int} (h0 : 0 ≤ P) : nearV (P / 4294967296 % 18446744073709551616) false (decide (4294967296 ≤ wHi P)) = clampI (P / 4294967296) := by
  have := nearV_clamp (S := P / 4294967296) (s := P / 4294967296 % 18446744073709551616) (below := false) (big := decide (4294967296 ≤ wHi P)) (by omega) (by intro hb; have hb := of_decide_eq_false hb; unfold wHi at hb; omega) (by intro hb; have hb := of_decide_eq_true hb; unfold wHi at hb; omega)
  rw [this]; rfl
theorem times2 {P : Int} (h0 : 0 ≤ P) (hm : P % 4294967296 = 0) : nearV (P / 4294967296 % 18446744073709551616) true (decide (4294967296 ≤ wHi P)) = clampI (-P / 4294967296) := by
  have := nearV_clamp (S := P / 4294967296) (s := P / 4294967296 % 18446744073709551616) (below := true) (big := decide (4294967296 ≤ wHi P)) (by omega) (by intro hb; have hb := of_decide_eq_false hb; unfold wHi at hb; omega) (by intro hb; have hb := of_decide_eq_true hb; unfold wHi at hb; omega)
  rw [this]; unfold sgn; rw [if_pos rfl]; congr 1; omega
theorem times3 {P : Int} (h0 : 0 ≤ P) (hm : 0 < P % 4294967296) (hb : 4294967296 ≤ wHi P) (s : Int) : nearV s true true = clampI (-P / 4294967296) := by
  have := nearV_clamp (S := P / 4294967296 + 1) (s := s) (below := true) (big := true) (by omega) (by intro hb; cases hb) (by intro _; unfold wHi at hb; omega)
  rw [this]; unfold sgn; rw [if_pos rfl]; congr 1; omega
theorem times4 {P s1 : Int} (h0 : 0 ≤ P) (hm : 0 < P % 4294967296) (hb : ¬ 4294967296 ≤ wHi P) (hs : IntKind.u64.wrap (P / 4294967296 % 18446744073709551616 + 1) = s1) : nearV s1 true (s1 == 0) = clampI (-P / 4294967296) := by
  rw [IntKind.wrap_u64] at hs
  have := nearV_clamp (S := P / 4294967296 + 1) (s := s1) (below := true) (big := (s1 == 0)) (by omega) (by intro h; have h := beq_eq_false_iff_ne.1 h; unfold wHi at hb; omega) (by intro h; have h := beq_iff_eq.1 h; unfold wHi at hb; omega)
  rw [this]; unfold sgn; rw [if_pos rfl]; congr 1; omega

set_option maxHeartbeats 800000 in
theorem rTimes_11 (a b X Y P s0 m s1 : Int) (ha : InI a) (hb : InI b) (s1' : a < 0) (s2' : b < 0) (HX : Hid (absU a = X)) (HY : Hid (absU b = Y)) (HP : Hid (X * Y = P)) (hX : InU X) (hY : InU Y)
    (hP0 : 0 ≤ wHi P) (hP1 : wHi P ≤ 4611686018427387904) (hL0 : 0 ≤ wLo P) (hL1 : wLo P ≤ 18446744073709551615)
    (eS : bits BinOp.or IntKind.u64 (IntKind.u64.wrap (wHi P * 4294967296)) (wLo P / 4294967296) = s0) (h00 : 0 ≤ s0) (h01 : s0 ≤ 18446744073709551615)
    (em : bits BinOp.and IntKind.u64 (wLo P) 4294967295 = m) (HK : Hid (nearV s0 false (decide (4294967296 ≤ wHi P)) = fmul a b)) (w : World) :
    Calls Try.prog 96 #[.int .i64 a, .int .i64 b] w (Same (.int .i64 (fmul a b)) w) := by
  have sb1 : decide (a < 0) = true := by simp; omega
  have sb2 : decide (b < 0) = true := by simp; omega
  go_enter Try.func96, Try.ntmps96
  go_wp2_with fail
  refine (rSize a ha _).mono ?_; rintro e w1 ⟨rfl, rfl⟩
  rw [HX.out]
  go_wp2_with fail
  refine (rSize b hb _).mono ?_; rintro e w1 ⟨rfl, rfl⟩
  rw [HY.out]
  go_wp2_with fail
  refine (mul64 X Y hX hY _).mono ?_; rintro e w1 ⟨rfl, rfl⟩
  rw [HP.out]
  go_wp2_with fail
  refine (rNear s0 false _ h00 h01 _).mono ?_; rintro e w1 ⟨rfl, rfl⟩
  rw [HK.out]
  go_wp2_with fail
  go_ret
  exact same_of rfl

set_option maxHeartbeats 800000 in
theorem rTimes_10z (a b X Y P s0 m s1 : Int) (ha : InI a) (hb : InI b) (s1' : a < 0) (s2' : ¬ b < 0) (HX : Hid (absU a = X)) (HY : Hid (absU b = Y)) (HP : Hid (X * Y = P)) (hX : InU X) (hY : InU Y)
    (hP0 : 0 ≤ wHi P) (hP1 : wHi P ≤ 4611686018427387904) (hL0 : 0 ≤ wLo P) (hL1 : wLo P ≤ 18446744073709551615)
    (eS : bits BinOp.or IntKind.u64 (IntKind.u64.wrap (wHi P * 4294967296)) (wLo P / 4294967296) = s0) (h00 : 0 ≤ s0) (h01 : s0 ≤ 18446744073709551615)
    (em : bits BinOp.and IntKind.u64 (wLo P) 4294967295 = m) (hm : ¬ 0 < m) (HK : Hid (nearV s0 true (decide (4294967296 ≤ wHi P)) = fmul a b)) (w : World) :
    Calls Try.prog 96 #[.int .i64 a, .int .i64 b] w (Same (.int .i64 (fmul a b)) w) := by
  have sb1 : decide (a < 0) = true := by simp; omega
  have sb2 : decide (b < 0) = false := by simp; omega
  have sm : decide (0 < m) = false := by simp; omega
  go_enter Try.func96, Try.ntmps96
  go_wp2_with fail
  refine (rSize a ha _).mono ?_; rintro e w1 ⟨rfl, rfl⟩
  rw [HX.out]
  go_wp2_with fail
  refine (rSize b hb _).mono ?_; rintro e w1 ⟨rfl, rfl⟩
  rw [HY.out]
  go_wp2_with fail
  refine (mul64 X Y hX hY _).mono ?_; rintro e w1 ⟨rfl, rfl⟩
  rw [HP.out]
  go_wp2_with fail
  refine (rNear s0 true _ h00 h01 _).mono ?_; rintro e w1 ⟨rfl, rfl⟩
  rw [HK.out]
  go_wp2_with fail
  go_ret
  exact same_of rfl

set_option maxHeartbeats 800000 in
theorem rTimes_10b (a b X Y P s0 m s1 : Int) (ha : InI a) (hb : InI b) (s1' : a < 0) (s2' : ¬ b < 0) (HX : Hid (absU a = X)) (HY : Hid (absU b = Y)) (HP : Hid (X * Y = P)) (hX : InU X) (hY : InU Y)
    (hP0 : 0 ≤ wHi P) (hP1 : wHi P ≤ 4611686018427387904) (hL0 : 0 ≤ wLo P) (hL1 : wLo P ≤ 18446744073709551615)
    (eS : bits BinOp.or IntKind.u64 (IntKind.u64.wrap (wHi P * 4294967296)) (wLo P / 4294967296) = s0) (h00 : 0 ≤ s0) (h01 : s0 ≤ 18446744073709551615)
    (em : bits BinOp.and IntKind.u64 (wLo P) 4294967295 = m) (hm : 0 < m) (hg : 4294967296 ≤ wHi P) (HK : Hid (∀ s, nearV s true true = fmul a b)) (w : World) :
    Calls Try.prog 96 #[.int .i64 a, .int .i64 b] w (Same (.int .i64 (fmul a b)) w) := by
  have sb1 : decide (a < 0) = true := by simp; omega
  have sb2 : decide (b < 0) = false := by simp; omega
  have sg : decide (4294967296 ≤ wHi P) = true := by simp; omega
  have hw : 0 ≤ IntKind.u64.wrap (s0 + 1) ∧ IntKind.u64.wrap (s0 + 1) ≤ 18446744073709551615 := by rw [IntKind.wrap_u64]; omega
  obtain ⟨hw0, hw1⟩ := hw
  have sm : decide (0 < m) = true := by simp; omega
  go_enter Try.func96, Try.ntmps96
  go_wp2_with fail
  refine (rSize a ha _).mono ?_; rintro e w1 ⟨rfl, rfl⟩
  rw [HX.out]
  go_wp2_with fail
  refine (rSize b hb _).mono ?_; rintro e w1 ⟨rfl, rfl⟩
  rw [HY.out]
  go_wp2_with fail
  refine (mul64 X Y hX hY _).mono ?_; rintro e w1 ⟨rfl, rfl⟩
  rw [HP.out]
  go_wp2_with fail
  refine (rNear _ true true hw0 hw1 _).mono ?_; rintro e w1 ⟨rfl, rfl⟩
  rw [HK.out]
  go_wp2_with fail
  go_ret
  exact same_of rfl

set_option maxHeartbeats 800000 in
theorem rTimes_10s (a b X Y P s0 m s1 : Int) (ha : InI a) (hb : InI b) (s1' : a < 0) (s2' : ¬ b < 0) (HX : Hid (absU a = X)) (HY : Hid (absU b = Y)) (HP : Hid (X * Y = P)) (hX : InU X) (hY : InU Y)
    (hP0 : 0 ≤ wHi P) (hP1 : wHi P ≤ 4611686018427387904) (hL0 : 0 ≤ wLo P) (hL1 : wLo P ≤ 18446744073709551615)
    (eS : bits BinOp.or IntKind.u64 (IntKind.u64.wrap (wHi P * 4294967296)) (wLo P / 4294967296) = s0) (h00 : 0 ≤ s0) (h01 : s0 ≤ 18446744073709551615)
    (em : bits BinOp.and IntKind.u64 (wLo P) 4294967295 = m) (hm : 0 < m) (hg : ¬ 4294967296 ≤ wHi P) (hw : IntKind.u64.wrap (s0 + 1) = s1) (h10 : 0 ≤ s1) (h11 : s1 ≤ 18446744073709551615) (HK : Hid (nearV s1 true (s1 == 0) = fmul a b)) (w : World) :
    Calls Try.prog 96 #[.int .i64 a, .int .i64 b] w (Same (.int .i64 (fmul a b)) w) := by
  have sb1 : decide (a < 0) = true := by simp; omega
  have sb2 : decide (b < 0) = false := by simp; omega
  have sg : decide (4294967296 ≤ wHi P) = false := by simp; omega
  have eS2 : bits BinOp.or IntKind.u64 (wHi P * 4294967296) (wLo P / 4294967296) = s0 := by rw [← eS, IntKind.wrap_u64, Int.emod_eq_of_lt (by omega) (by omega)]
  have sm : decide (0 < m) = true := by simp; omega
  go_enter Try.func96, Try.ntmps96
  go_wp2_with fail
  refine (rSize a ha _).mono ?_; rintro e w1 ⟨rfl, rfl⟩
  rw [HX.out]
  go_wp2_with fail
  refine (rSize b hb _).mono ?_; rintro e w1 ⟨rfl, rfl⟩
  rw [HY.out]
  go_wp2_with fail
  refine (mul64 X Y hX hY _).mono ?_; rintro e w1 ⟨rfl, rfl⟩
  rw [HP.out]
  go_wp2_with fail
  refine (rNear s1 true (s1 == 0) h10 h11 _).mono ?_; rintro e w1 ⟨rfl, rfl⟩
  rw [HK.out]
  go_wp2_with fail
  go_ret
  exact same_of rfl

set_option maxHeartbeats 800000 in
theorem rTimes_01z (a b X Y P s0 m s1 : Int) (ha : InI a) (hb : InI b) (s1' : ¬ a < 0) (s2' : b < 0) (HX : Hid (absU a = X)) (HY : Hid (absU b = Y)) (HP : Hid (X * Y = P)) (hX : InU X) (hY : InU Y)
    (hP0 : 0 ≤ wHi P) (hP1 : wHi P ≤ 4611686018427387904) (hL0 : 0 ≤ wLo P) (hL1 : wLo P ≤ 18446744073709551615)
    (eS : bits BinOp.or IntKind.u64 (IntKind.u64.wrap (wHi P * 4294967296)) (wLo P / 4294967296) = s0) (h00 : 0 ≤ s0) (h01 : s0 ≤ 18446744073709551615)
    (em : bits BinOp.and IntKind.u64 (wLo P) 4294967295 = m) (hm : ¬ 0 < m) (HK : Hid (nearV s0 true (decide (4294967296 ≤ wHi P)) = fmul a b)) (w : World) :
    Calls Try.prog 96 #[.int .i64 a, .int .i64 b] w (Same (.int .i64 (fmul a b)) w) := by
  have sb1 : decide (a < 0) = false := by simp; omega
  have sb2 : decide (b < 0) = true := by simp; omega
  have sm : decide (0 < m) = false := by simp; omega
  go_enter Try.func96, Try.ntmps96
  go_wp2_with fail
  refine (rSize a ha _).mono ?_; rintro e w1 ⟨rfl, rfl⟩
  rw [HX.out]
  go_wp2_with fail
  refine (rSize b hb _).mono ?_; rintro e w1 ⟨rfl, rfl⟩
  rw [HY.out]
  go_wp2_with fail
  refine (mul64 X Y hX hY _).mono ?_; rintro e w1 ⟨rfl, rfl⟩
  rw [HP.out]
  go_wp2_with fail
  refine (rNear s0 true _ h00 h01 _).mono ?_; rintro e w1 ⟨rfl, rfl⟩
  rw [HK.out]
  go_wp2_with fail
  go_ret
  exact same_of rfl

set_option maxHeartbeats 800000 in
theorem rTimes_01b (a b X Y P s0 m s1 : Int) (ha : InI a) (hb : InI b) (s1' : ¬ a < 0) (s2' : b < 0) (HX : Hid (absU a = X)) (HY : Hid (absU b = Y)) (HP : Hid (X * Y = P)) (hX : InU X) (hY : InU Y)
    (hP0 : 0 ≤ wHi P) (hP1 : wHi P ≤ 4611686018427387904) (hL0 : 0 ≤ wLo P) (hL1 : wLo P ≤ 18446744073709551615)
    (eS : bits BinOp.or IntKind.u64 (IntKind.u64.wrap (wHi P * 4294967296)) (wLo P / 4294967296) = s0) (h00 : 0 ≤ s0) (h01 : s0 ≤ 18446744073709551615)
    (em : bits BinOp.and IntKind.u64 (wLo P) 4294967295 = m) (hm : 0 < m) (hg : 4294967296 ≤ wHi P) (HK : Hid (∀ s, nearV s true true = fmul a b)) (w : World) :
    Calls Try.prog 96 #[.int .i64 a, .int .i64 b] w (Same (.int .i64 (fmul a b)) w) := by
  have sb1 : decide (a < 0) = false := by simp; omega
  have sb2 : decide (b < 0) = true := by simp; omega
  have sg : decide (4294967296 ≤ wHi P) = true := by simp; omega
  have hw : 0 ≤ IntKind.u64.wrap (s0 + 1) ∧ IntKind.u64.wrap (s0 + 1) ≤ 18446744073709551615 := by rw [IntKind.wrap_u64]; omega
  obtain ⟨hw0, hw1⟩ := hw
  have sm : decide (0 < m) = true := by simp; omega
  go_enter Try.func96, Try.ntmps96
  go_wp2_with fail
  refine (rSize a ha _).mono ?_; rintro e w1 ⟨rfl, rfl⟩
  rw [HX.out]
  go_wp2_with fail
  refine (rSize b hb _).mono ?_; rintro e w1 ⟨rfl, rfl⟩
  rw [HY.out]
  go_wp2_with fail
  refine (mul64 X Y hX hY _).mono ?_; rintro e w1 ⟨rfl, rfl⟩
  rw [HP.out]
  go_wp2_with fail
  refine (rNear _ true true hw0 hw1 _).mono ?_; rintro e w1 ⟨rfl, rfl⟩
  rw [HK.out]
  go_wp2_with fail
  go_ret
  exact same_of rfl

set_option maxHeartbeats 800000 in
theorem rTimes_01s (a b X Y P s0 m s1 : Int) (ha : InI a) (hb : InI b) (s1' : ¬ a < 0) (s2' : b < 0) (HX : Hid (absU a = X)) (HY : Hid (absU b = Y)) (HP : Hid (X * Y = P)) (hX : InU X) (hY : InU Y)
    (hP0 : 0 ≤ wHi P) (hP1 : wHi P ≤ 4611686018427387904) (hL0 : 0 ≤ wLo P) (hL1 : wLo P ≤ 18446744073709551615)
    (eS : bits BinOp.or IntKind.u64 (IntKind.u64.wrap (wHi P * 4294967296)) (wLo P / 4294967296) = s0) (h00 : 0 ≤ s0) (h01 : s0 ≤ 18446744073709551615)
    (em : bits BinOp.and IntKind.u64 (wLo P) 4294967295 = m) (hm : 0 < m) (hg : ¬ 4294967296 ≤ wHi P) (hw : IntKind.u64.wrap (s0 + 1) = s1) (h10 : 0 ≤ s1) (h11 : s1 ≤ 18446744073709551615) (HK : Hid (nearV s1 true (s1 == 0) = fmul a b)) (w : World) :
    Calls Try.prog 96 #[.int .i64 a, .int .i64 b] w (Same (.int .i64 (fmul a b)) w) := by
  have sb1 : decide (a < 0) = false := by simp; omega
  have sb2 : decide (b < 0) = true := by simp; omega
  have sg : decide (4294967296 ≤ wHi P) = false := by simp; omega
  have eS2 : bits BinOp.or IntKind.u64 (wHi P * 4294967296) (wLo P / 4294967296) = s0 := by rw [← eS, IntKind.wrap_u64, Int.emod_eq_of_lt (by omega) (by omega)]
  have sm : decide (0 < m) = true := by simp; omega
  go_enter Try.func96, Try.ntmps96
  go_wp2_with fail
  refine (rSize a ha _).mono ?_; rintro e w1 ⟨rfl, rfl⟩
  rw [HX.out]
  go_wp2_with fail
  refine (rSize b hb _).mono ?_; rintro e w1 ⟨rfl, rfl⟩
  rw [HY.out]
  go_wp2_with fail
  refine (mul64 X Y hX hY _).mono ?_; rintro e w1 ⟨rfl, rfl⟩
  rw [HP.out]
  go_wp2_with fail
  refine (rNear s1 true (s1 == 0) h10 h11 _).mono ?_; rintro e w1 ⟨rfl, rfl⟩
  rw [HK.out]
  go_wp2_with fail
  go_ret
  exact same_of rfl

set_option maxHeartbeats 800000 in
theorem rTimes_00 (a b X Y P s0 m s1 : Int) (ha : InI a) (hb : InI b) (s1' : ¬ a < 0) (s2' : ¬ b < 0) (HX : Hid (absU a = X)) (HY : Hid (absU b = Y)) (HP : Hid (X * Y = P)) (hX : InU X) (hY : InU Y)
    (hP0 : 0 ≤ wHi P) (hP1 : wHi P ≤ 4611686018427387904) (hL0 : 0 ≤ wLo P) (hL1 : wLo P ≤ 18446744073709551615)
    (eS : bits BinOp.or IntKind.u64 (IntKind.u64.wrap (wHi P * 4294967296)) (wLo P / 4294967296) = s0) (h00 : 0 ≤ s0) (h01 : s0 ≤ 18446744073709551615)
    (em : bits BinOp.and IntKind.u64 (wLo P) 4294967295 = m) (HK : Hid (nearV s0 false (decide (4294967296 ≤ wHi P)) = fmul a b)) (w : World) :
    Calls Try.prog 96 #[.int .i64 a, .int .i64 b] w (Same (.int .i64 (fmul a b)) w) := by
  have sb1 : decide (a < 0) = false := by simp; omega
  have sb2 : decide (b < 0) = false := by simp; omega
  go_enter Try.func96, Try.ntmps96
  go_wp2_with fail
  refine (rSize a ha _).mono ?_; rintro e w1 ⟨rfl, rfl⟩
  rw [HX.out]
  go_wp2_with fail
  refine (rSize b hb _).mono ?_; rintro e w1 ⟨rfl, rfl⟩
  rw [HY.out]
  go_wp2_with fail
  refine (mul64 X Y hX hY _).mono ?_; rintro e w1 ⟨rfl, rfl⟩
  rw [HP.out]
  go_wp2_with fail
  refine (rNear s0 false _ h00 h01 _).mono ?_; rintro e w1 ⟨rfl, rfl⟩
  rw [HK.out]
  go_wp2_with fail
  go_ret
  exact same_of rfl

theorem rTimes (a b : Int) (ha : InI a) (hb : InI b) (w : World) : Calls Try.prog 96 #[.int .i64 a, .int .i64 b] w (Same (.int .i64 (fmul a b)) w) := by
  have hPb := absU_mul_bound ha hb
  have hA := absU_le ha
  have hB := absU_le hb
  have hX : InU (absU a) := absU_InU ha
  have hY : InU (absU b) := absU_InU hb
  have hS := mid_bits hPb.1 hPb.2
  have l := wLo_U (absU a * absU b)
  have hL0 := l.1
  have hL1 : wLo (absU a * absU b) ≤ 18446744073709551615 := by have := l.2; omega
  have em := and_low l.1 l.2
  have em2 : wLo (absU a * absU b) % 4294967296 = absU a * absU b % 4294967296 := by unfold wLo; omega
  rw [em2] at em
  have hP0 : 0 ≤ wHi (absU a * absU b) := by unfold wHi; omega
  have hP1 : wHi (absU a * absU b) ≤ 4611686018427387904 := by unfold wHi; omega
  have hpos := fun h : (a < 0 ↔ b < 0) => absU_mul_pos h
  have hneg := fun h : ¬ (a < 0 ↔ b < 0) => absU_mul_neg h
  have pp := fun h : (a < 0 ↔ b < 0) => (show nearV _ false _ = fmul a b by rw [times1 hPb.1, hpos h]; rfl)
  by_cases s1 : a < 0 <;> by_cases s2 : b < 0
  · exact rTimes_11 a b _ _ _ _ _ 0 ha hb s1 s2 rfl rfl rfl hX hY hP0 hP1 hL0 hL1 hS (by omega) (by omega) em (pp (by simp [s1, s2])) w
  · have hn := hneg (by simp [s1, s2])
    have hn2 : -(absU a * absU b) / 4294967296 = a * b / 4294967296 := by rw [hn]
    by_cases hm : 0 < absU a * absU b % 4294967296
    · by_cases hg : 4294967296 ≤ wHi (absU a * absU b)
      · exact rTimes_10b a b _ _ _ _ _ 0 ha hb s1 s2 rfl rfl rfl hX hY hP0 hP1 hL0 hL1 hS (by omega) (by omega) em hm hg (fun s => (times3 hPb.1 hm hg s).trans (by rw [hn2]; rfl)) w
      · exact rTimes_10s a b _ _ _ _ _ _ ha hb s1 s2 rfl rfl rfl hX hY hP0 hP1 hL0 hL1 hS (by omega) (by omega) em hm hg rfl (by rw [IntKind.wrap_u64]; omega) (by rw [IntKind.wrap_u64]; omega) ((times4 hPb.1 hm hg rfl).trans (by rw [hn2]; rfl)) w
    · exact rTimes_10z a b _ _ _ _ _ 0 ha hb s1 s2 rfl rfl rfl hX hY hP0 hP1 hL0 hL1 hS (by omega) (by omega) em hm ((times2 hPb.1 (by omega)).trans (by rw [hn2]; rfl)) w
  · have hn := hneg (by simp [s1, s2])
    have hn2 : -(absU a * absU b) / 4294967296 = a * b / 4294967296 := by rw [hn]
    by_cases hm : 0 < absU a * absU b % 4294967296
    · by_cases hg : 4294967296 ≤ wHi (absU a * absU b)
      · exact rTimes_01b a b _ _ _ _ _ 0 ha hb s1 s2 rfl rfl rfl hX hY hP0 hP1 hL0 hL1 hS (by omega) (by omega) em hm hg (fun s => (times3 hPb.1 hm hg s).trans (by rw [hn2]; rfl)) w
      · exact rTimes_01s a b _ _ _ _ _ _ ha hb s1 s2 rfl rfl rfl hX hY hP0 hP1 hL0 hL1 hS (by omega) (by omega) em hm hg rfl (by rw [IntKind.wrap_u64]; omega) (by rw [IntKind.wrap_u64]; omega) ((times4 hPb.1 hm hg rfl).trans (by rw [hn2]; rfl)) w
    · exact rTimes_01z a b _ _ _ _ _ 0 ha hb s1 s2 rfl rfl rfl hX hY hP0 hP1 hL0 hL1 hS (by omega) (by omega) em hm ((times2 hPb.1 (by omega)).trans (by rw [hn2]; rfl)) w
  · exact rTimes_00 a b _ _ _ _ _ 0 ha hb s1 s2 rfl rfl rfl hX hY hP0 hP1 hL0 hL1 hS (by omega) (by omega) em (pp (by simp [s1, s2])) w

end Go.Proofs.Ytognbeejobfpfaa

namespace Go.Proofs.Ytognbeejobfpfaa
open Go.RowKit
set_option linter.unusedVariables false
set_option linter.unusedSimpArgs false

end Go.Proofs.Ytognbeejobfpfaa
