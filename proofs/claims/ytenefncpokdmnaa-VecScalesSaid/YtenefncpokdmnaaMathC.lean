/- Plain numbers, third part: shifts of wide numbers. -/
import Derived.Test.YtenefncpokdmnaaMathB
namespace Go.Proofs.Ytenefncpokdmnaa
open Go.RowKit
set_option linter.unusedVariables false
set_option linter.unusedSimpArgs false

theorem pow_pos' (n : Nat) : (0 : Int) < 2 ^ n := Int.pow_pos (by decide)
theorem pow64 (n : Nat) (h : n ≤ 64) : (2 : Int) ^ n * 2 ^ (64 - n) = 18446744073709551616 := by
  rw [← Int.pow_add, show n + (64 - n) = 64 by omega]; rfl
theorem shr_hi (x : Int) (n : Nat) : wHi x / 2 ^ n = wHi (x / 2 ^ n) := by
  unfold wHi
  rw [Int.ediv_ediv_of_nonneg (by omega), Int.ediv_ediv_of_nonneg (Int.le_of_lt (pow_pos' n)), Int.mul_comm]

theorem or_add (i : Nat) (a b : Int) (ha : 0 ≤ a) (ha2 : a < 2 ^ i) (hb : 0 ≤ b) (h1 : a < 18446744073709551616) (h2 : 2 ^ i * b < 18446744073709551616) : bits BinOp.or IntKind.u64 a (2 ^ i * b) = a + 2 ^ i * b := by
  have hp := pow_pos' i
  have h3 : 0 ≤ 2 ^ i * b := Int.mul_nonneg (Int.le_of_lt hp) hb
  rw [u64_or a _ ha h1 h3 h2]
  obtain ⟨A, rfl⟩ := Int.eq_ofNat_of_zero_le ha
  obtain ⟨B, rfl⟩ := Int.eq_ofNat_of_zero_le hb
  have e : ((2 : Int) ^ i * (B : Int)).toNat = 2 ^ i * B := by
    have : (2 : Int) ^ i * (B : Int) = ((2 ^ i * B : Nat) : Int) := by rw [Int.natCast_mul, Int.natCast_pow]; rfl
    rw [this, Int.toNat_natCast]
  have hA : A < 2 ^ i := by
    have : (A : Int) < ((2 ^ i : Nat) : Int) := by rw [Int.natCast_pow]; exact ha2
    omega
  rw [e, Int.toNat_natCast, Nat.or_comm, ← Nat.two_pow_add_eq_or_of_lt hA B]
  rw [Int.natCast_add, Int.natCast_mul, Int.natCast_pow]
  exact Int.add_comm _ _

theorem shr_lo {x : Int} (h : InW x) (n : Nat) (hn0 : 0 < n) (hn : n < 64) :
    bits BinOp.or IntKind.u64 (wLo x / 2 ^ n) (IntKind.u64.wrap (IntKind.u64.wrap (wHi x) * 2 ^ (64 - n))) = wLo (x / 2 ^ n) := by
  have hp := pow_pos' n
  have hq := pow_pos' (64 - n)
  have hpq := pow64 n (by omega)
  have hl := wLo_U x
  have hs := w_split x
  have e1 : IntKind.u64.wrap (IntKind.u64.wrap (wHi x) * 2 ^ (64 - n)) = 2 ^ (64 - n) * (wHi x % 2 ^ n) := by
    rw [IntKind.wrap_u64, IntKind.wrap_u64, Int.mul_comm, show (18446744073709551616 : Int) = 2 ^ (64 - n) * 2 ^ n from by rw [Int.mul_comm]; exact hpq.symm, Int.mul_emod_mul_of_pos _ _ hq]
    rw [Int.emod_emod_of_dvd]
    exact ⟨_, by rw [Int.mul_comm]⟩
  have hr0 := Int.emod_nonneg (wHi x) (Int.ne_of_gt hp)
  have hr1 := Int.emod_lt_of_pos (wHi x) hp
  have ha0 : 0 ≤ wLo x / 2 ^ n := Int.ediv_nonneg hl.1 (Int.le_of_lt hp)
  have ha1 : wLo x / 2 ^ n < 2 ^ (64 - n) := Int.ediv_lt_of_lt_mul hp (by rw [Int.mul_comm, hpq]; exact hl.2)
  have hb1 : 2 ^ (64 - n) * (wHi x % 2 ^ n) + 2 ^ (64 - n) ≤ 18446744073709551616 := by
    have := Int.mul_le_mul_of_nonneg_left (show wHi x % 2 ^ n + 1 ≤ 2 ^ n by omega) (Int.le_of_lt hq)
    rw [Int.mul_add, Int.mul_one, Int.mul_comm (2 ^ (64 - n)) (2 ^ n), hpq] at this
    exact this
  have hm0 : 0 ≤ 2 ^ (64 - n) * (wHi x % 2 ^ n) := Int.mul_nonneg (Int.le_of_lt hq) hr0
  rw [e1, or_add (64 - n) _ _ ha0 ha1 hr0 (by omega) (by omega)]
  -- the other side
  have e2 : x / 2 ^ n = wHi x * 2 ^ (64 - n) + wLo x / 2 ^ n := by
    have : x = wLo x + (wHi x * 2 ^ (64 - n)) * 2 ^ n := by
      rw [Int.mul_assoc, Int.mul_comm (2 ^ (64 - n)), hpq]; omega
    rw [this, Int.add_mul_ediv_right _ _ (Int.ne_of_gt hp)]
    rw [← this]; exact Int.add_comm _ _
  have e3 : wHi x = 2 ^ n * (wHi x / 2 ^ n) + wHi x % 2 ^ n := by rw [Int.mul_ediv_add_emod]
  have e4 : x / 2 ^ n = (wLo x / 2 ^ n + 2 ^ (64 - n) * (wHi x % 2 ^ n)) + 18446744073709551616 * (wHi x / 2 ^ n) := by
    rw [e2, ← hpq]
    generalize wLo x / 2 ^ n = A
    generalize hQ : wHi x / 2 ^ n = Q at *
    generalize hR : wHi x % 2 ^ n = R at *
    generalize (2 : Int) ^ (64 - n) = q at *
    generalize (2 : Int) ^ n = p at *
    rw [e3]
    grind
  show _ = (x / 2 ^ n) % 18446744073709551616
  rw [e4, Int.add_mul_emod_self_left]
  exact (Int.emod_eq_of_lt (by omega) (by omega)).symm

theorem shr_far1 {x : Int} (h : InW x) {k : Nat} (hk : 127 ≤ k) : wHi x / 9223372036854775808 = x / 2 ^ k := by
  have e : (2 : Int) ^ k = 170141183460469231731687303715884105728 * 2 ^ (k - 127) := by
    have := Int.pow_add 2 127 (k - 127)
    rw [show 127 + (k - 127) = k by omega] at this
    exact this
  have hp := pow_pos' (k - 127)
  unfold InW at h
  unfold wHi
  by_cases hx : x < 0
  · have h1 : x / 18446744073709551616 / 9223372036854775808 = -1 := by omega
    rw [h1]
    refine (Int.ediv_eq_iff_of_pos (pow_pos' k)).2 ⟨?_, ?_⟩ |>.symm
    · rw [e]; have := Int.mul_le_mul_of_nonneg_left (show 1 ≤ (2 : Int) ^ (k - 127) by omega) (show (0 : Int) ≤ 170141183460469231731687303715884105728 by omega); omega
    · omega
  · have h1 : x / 18446744073709551616 / 9223372036854775808 = 0 := by omega
    rw [h1]
    refine (Int.ediv_eq_iff_of_pos (pow_pos' k)).2 ⟨?_, ?_⟩ |>.symm
    · omega
    · rw [e]; have := Int.mul_le_mul_of_nonneg_left (show 1 ≤ (2 : Int) ^ (k - 127) by omega) (show (0 : Int) ≤ 170141183460469231731687303715884105728 by omega); omega
theorem shr_far2 (x : Int) {k : Nat} (hk : 64 ≤ k) : wHi x / 2 ^ (k - 64) = x / 2 ^ k := by
  have e : (2 : Int) ^ k = 18446744073709551616 * 2 ^ (k - 64) := by
    have := Int.pow_add 2 64 (k - 64)
    rw [show 64 + (k - 64) = k by omega] at this
    exact this
  unfold wHi
  rw [e, Int.ediv_ediv_of_nonneg (by omega)]
theorem shr_InI {x : Int} (h : InW x) (k : Nat) : InI (wHi x / 2 ^ k) := by
  have hp := pow_pos' k
  have h1 := wHi_I h
  unfold InI at *
  constructor
  · rw [Int.le_ediv_iff_mul_le hp]
    have := Int.mul_le_mul_of_nonneg_left (show 1 ≤ (2 : Int) ^ k by omega) (show (0 : Int) ≤ 9223372036854775808 by omega)
    omega
  · by_cases hx : 0 ≤ wHi x
    · have := Int.ediv_le_self (2 ^ k) hx; omega
    · have := Int.ediv_neg_of_neg_of_pos (show wHi x < 0 by omega) hp; omega
theorem shr_InW {x : Int} (h : InW x) (k : Nat) : InW (x / 2 ^ k) := by
  have h1 := shr_InI h k
  rw [shr_hi] at h1
  unfold InI wHi at h1
  unfold InW
  omega

end Go.Proofs.Ytenefncpokdmnaa
