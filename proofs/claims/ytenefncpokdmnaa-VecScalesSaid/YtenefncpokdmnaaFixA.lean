/- Walks: fix.near, Of, Floor, Round, Sub, Neg, Abs. -/
import Derived.Test.YtenefncpokdmnaaFixM
import Derived.Test.YtenefncpokdmnaaWalkC
import Derived.Outline
namespace Go.Proofs.Ytenefncpokdmnaa
open Go.RowKit
set_option linter.unusedVariables false
set_option linter.unusedSimpArgs false

set_option maxHeartbeats 400000 in
theorem fnear (x : Int) (h : InW x) (w : World) : Calls Try.prog 75 #[W x] w (Ret (.int .i64 (clampI x)) w) := by
  by_cases hf : InI x
  · have HF := Lib.hid (fits_true hf)
    have HN := Lib.hid (intN_fits HF.out)
    have HC := Lib.hid (clampI_in hf)
    go_enter Try.func75, Try.ntmps75
    go_wp2_with fail
    refine (wInt x h _).mono ?_; rintro e w1 ⟨rfl, hb1⟩
    rw [HF.out, HN.out]
    obtain ⟨hB1, hS1⟩ : Below w.heap.size w w1 ∧ w.heap.size ≤ w1.heap.size := Below.step (by go_grown) hb1
    go_wp2_with fail
    go_ret
    exact ret_of (vint HC.out.symm) hB1
  · have HF := Lib.hid (fits_false hf)
    have HN := Lib.hid (intN_not HF.out)
    by_cases hn : x < 0
    · have HC := Lib.hid (clampI_lo hf hn)
      have e1 : wHi x < 0 := by unfold wHi; omega
      clear hf
      go_enter Try.func75, Try.ntmps75
      go_wp2_with fail
      refine (wInt x h _).mono ?_; rintro e w1 ⟨rfl, hb1⟩
      rw [HF.out, HN.out]
      obtain ⟨hB1, hS1⟩ : Below w.heap.size w w1 ∧ w.heap.size ≤ w1.heap.size := Below.step (by go_grown) hb1
      obtain ⟨hc1, hf1, hs1⟩ := bcell hb1
      go_wp2_with fail
      go_ret
      exact ret_of (vint HC.out.symm) hB1
    · have HC := Lib.hid (clampI_hi hf hn)
      have e1 : ¬ wHi x < 0 := by unfold wHi; omega
      clear hf
      go_enter Try.func75, Try.ntmps75
      go_wp2_with fail
      refine (wInt x h _).mono ?_; rintro e w1 ⟨rfl, hb1⟩
      rw [HF.out, HN.out]
      obtain ⟨hB1, hS1⟩ : Below w.heap.size w w1 ∧ w.heap.size ≤ w1.heap.size := Below.step (by go_grown) hb1
      obtain ⟨hc1, hf1, hs1⟩ := bcell hb1
      go_wp2_with fail
      go_ret
      exact ret_of (vint HC.out.symm) hB1

theorem fOf (n : Int) (h : InI n) (w : World) : Calls Try.prog 28 #[.int .i64 n] w (Ret (.int .i64 (fof n)) w) := by
  have hO : InI 4294967296 := by unfold InI; omega
  go_enter Try.func28, Try.ntmps28
  go_wp2_with fail
  refine (wMul n 4294967296 h hO _).mono ?_; rintro e w1 ⟨rfl, hb1⟩
  obtain ⟨hB1, hS1⟩ : Below w.heap.size w w1 ∧ w.heap.size ≤ w1.heap.size := Below.step (by go_grown) hb1
  go_wp2_with fail
  refine (fnear _ (mul_InW h hO) _).mono ?_; rintro e w2 ⟨rfl, hb2⟩
  obtain ⟨hB2, hS2⟩ : Below w.heap.size w w2 ∧ w.heap.size ≤ w2.heap.size := Below.step (by go_grown) hb2
  go_wp2_with fail
  go_ret
  exact ret_of rfl hB2

theorem fFloor (x : Int) (h : InI x) (w : World) : Calls Try.prog 30 #[.int .i64 x] w (Same (.int .i64 (x / 4294967296)) w) := by
  unfold InI at h
  go_enter Try.func30, Try.ntmps30
  go_wp2_with fail
  go_ret
  exact same_of rfl

theorem i64_mask (m : Nat) (hm : m ≤ 62) (n : Int) : bits .and .i64 n ((2 ^ m - 1 : Nat) : Int) = n % ((2 ^ m : Nat) : Int) := by
  have hp : 2 ^ m ≤ 2 ^ 62 := Nat.pow_le_pow_right (by decide) hm
  have h0 : 0 < 2 ^ m := Nat.two_pow_pos m
  have hmask : (BitVec.ofInt 64 ((2 ^ m - 1 : Nat) : Int)).toNat = 2 ^ m - 1 := by
    rw [BitVec.toNat_ofInt, ← Int.natCast_emod, Int.toNat_natCast, Nat.mod_eq_of_lt (by omega)]
  have key : (BitVec.ofInt 64 n &&& BitVec.ofInt 64 ((2 ^ m - 1 : Nat) : Int)).toNat = (n % ((2 ^ 64 : Nat) : Int)).toNat % 2 ^ m := by
    rw [BitVec.toNat_and, BitVec.toNat_ofInt, hmask, Nat.and_two_pow_sub_one_eq_mod]
  show IntKind.i64.wrap ((BitVec.ofInt 64 n &&& BitVec.ofInt 64 ((2 ^ m - 1 : Nat) : Int)).toNat : Nat) = n % ((2 ^ m : Nat) : Int)
  rw [key, IntKind.wrap_i64]
  have e1 : (((n % ((2 ^ 64 : Nat) : Int)).toNat % 2 ^ m : Nat) : Int) = n % ((2 ^ m : Nat) : Int) := by
    rw [Int.natCast_emod, Int.toNat_of_nonneg (Int.emod_nonneg _ (by decide))]
    apply Int.emod_emod_of_dvd
    exact Int.natCast_dvd_natCast.2 (Nat.pow_dvd_pow 2 (by omega))
  rw [e1]
  have e2 := Int.emod_nonneg n (show ((2 ^ m : Nat) : Int) ≠ 0 by omega)
  have e3 := Int.emod_lt_of_pos n (show (0 : Int) < ((2 ^ m : Nat) : Int) by omega)
  omega
theorem i64_bit (n : Int) : bits BinOp.and IntKind.i64 n 1 = n % 2 := i64_mask 1 (by decide) n
theorem i64_low16 (n : Int) : bits BinOp.and IntKind.i64 n 65535 = n % 65536 := i64_mask 16 (by decide) n
theorem fRound (x : Int) (h : InI x) (w : World) : Calls Try.prog 32 #[.int .i64 x] w (Same (.int .i64 (fround x)) w) := by
  have e1 := i64_bit (x / 2147483648)
  unfold InI at h
  have e2 : -2147483648 ≤ x / 4294967296 ∧ x / 4294967296 ≤ 2147483647 := by omega
  go_enter Try.func32, Try.ntmps32
  go_wp2_with fail
  go_ret
  exact same_of rfl

theorem wrap_i64 (n : Int) : IntKind.i64.wrap n = wrap64 n := IntWalk.i64_left n
set_option maxHeartbeats 800000 in
theorem fSub (a b : Int) (ha : InI a) (hb : InI b) (w : World) : Calls Try.prog 46 #[.int .i64 a, .int .i64 b] w (Same (.int .i64 (satSub a b)) w) := by
  obtain ⟨k1, k2, k3⟩ := sub_wrap ha hb
  obtain ⟨d, hd⟩ : ∃ d, IntKind.i64.wrap (a - b) = d := ⟨_, rfl⟩
  rw [← wrap_i64, hd] at k1 k2 k3
  by_cases s1 : 0 ≤ a <;> by_cases s2 : b < 0
  · by_cases s3 : d < 0
    · have HK := Lib.hid (k1 s1 s2 s3)
      clear k1 k2 k3 ha hb
      go_enter Try.func46, Try.ntmps46
      go_wp2_with fail
      go_ret
      exact same_of (vint HK.out.symm)
    · have HK := Lib.hid (k3 (by omega) (by omega))
      clear k1 k2 k3 ha hb
      go_enter Try.func46, Try.ntmps46
      go_wp2_with fail
      go_ret
      exact same_of (vint HK.out.symm)
  · have HK : Hid (satSub a b = a - b) := Lib.hid (by unfold InI at ha hb; unfold satSub clampI; split <;> (try split) <;> omega)
    unfold InI at ha hb
    clear k1 k2 k3 hd
    go_enter Try.func46, Try.ntmps46
    go_wp2_with fail
    go_ret
    exact same_of (vint HK.out.symm)
  · have HK : Hid (satSub a b = a - b) := Lib.hid (by unfold InI at ha hb; unfold satSub clampI; split <;> (try split) <;> omega)
    unfold InI at ha hb
    have s4 : ¬ 0 < b := by omega
    clear k1 k2 k3 hd
    go_enter Try.func46, Try.ntmps46
    go_wp2_with fail
    go_ret
    exact same_of (vint HK.out.symm)
  · by_cases s4 : 0 < b
    · by_cases s3 : 0 ≤ d
      · have HK := Lib.hid (k2 (by omega) s4 s3)
        clear k1 k2 k3 ha hb
        go_enter Try.func46, Try.ntmps46
        go_wp2_with fail
        go_ret
        exact same_of (vint HK.out.symm)
      · have HK := Lib.hid (k3 (by omega) (by omega))
        clear k1 k2 k3 ha hb
        go_enter Try.func46, Try.ntmps46
        go_wp2_with fail
        go_ret
        exact same_of (vint HK.out.symm)
    · have HK : Hid (satSub a b = a - b) := Lib.hid (by unfold InI at ha hb; unfold satSub clampI; split <;> (try split) <;> omega)
      unfold InI at ha hb
      clear k1 k2 k3 hd
      go_enter Try.func46, Try.ntmps46
      go_wp2_with fail
      go_ret
      exact same_of (vint HK.out.symm)

theorem fNeg (a : Int) (ha : InI a) (w : World) : Calls Try.prog 47 #[.int .i64 a] w (Same (.int .i64 (satSub 0 a)) w) := by
  go_enter Try.func47, Try.ntmps47
  go_wp2_with fail
  refine (fSub 0 a (by unfold InI; omega) ha _).mono ?_; rintro e w1 ⟨rfl, rfl⟩
  go_wp2_with fail
  go_ret
  exact same_of rfl

theorem fAbs (a : Int) (ha : InI a) (w : World) : Calls Try.prog 41 #[.int .i64 a] w (Same (.int .i64 (fabs a)) w) := by
  by_cases h : a < satSub 0 a
  · have HK : Hid (fabs a = satSub 0 a) := Lib.hid (by unfold fabs; rw [if_pos h])
    go_enter Try.func41, Try.ntmps41
    go_wp2_with fail
    refine (fNeg a ha _).mono ?_; rintro e w1 ⟨rfl, rfl⟩
    go_wp2_with fail
    go_ret
    exact same_of (vint HK.out.symm)
  · have HK : Hid (fabs a = a) := Lib.hid (by unfold fabs; rw [if_neg h])
    go_enter Try.func41, Try.ntmps41
    go_wp2_with fail
    refine (fNeg a ha _).mono ?_; rintro e w1 ⟨rfl, rfl⟩
    go_wp2_with fail
    go_ret
    exact same_of (vint HK.out.symm)

end Go.Proofs.Ytenefncpokdmnaa
