/- Plain numbers, fourth part: a quotient of 128 bits by 64, digit by digit (two digits of 32 bits). -/
import Derived.Test.YtenefncpokdmnaaMathC
import Derived.Lib.BitFns
import Derived.Lib.ItoaNum
namespace Go.Proofs.Ytenefncpokdmnaa
open Go.RowKit
set_option linter.unusedVariables false
set_option linter.unusedSimpArgs false

theorem ltge (a b : Int) : a < b ∨ b ≤ a := by omega
/-- What stands between two rounds of the digit's correction. -/
def KInv (U Y y1 l1 q r : Int) : Prop := 0 ≤ q ∧ q ≤ 4294967297 ∧ 0 ≤ r ∧ U = q * y1 + r ∧ U * 4294967296 + l1 < q * Y + Y
/-- The divisor, normalized, in two digits. -/
structure KDiv (Y y1 y0 : Int) : Prop where
  e : Y = y1 * 4294967296 + y0
  a : 2147483648 ≤ y1
  b : y1 < 4294967296
  c : 0 ≤ y0
  d : y0 < 4294967296

theorem KDiv.of {Y : Int} (h0 : 9223372036854775808 ≤ Y) (h1 : Y < 18446744073709551616) : KDiv Y (Y / 4294967296) (Y % 4294967296) := ⟨by omega, by omega, by omega, by omega, by omega⟩

theorem KDiv.mul {Y y1 y0 : Int} (h : KDiv Y y1 y0) (q : Int) : q * Y = q * y1 * 4294967296 + q * y0 := by
  rw [h.e, Int.mul_add, Int.mul_assoc]

theorem k_start {U Y y1 y0 l1 : Int} (h : KDiv Y y1 y0) (hU0 : 0 ≤ U) (hU : U < Y) (h0 : 0 ≤ l1) (h1 : l1 < 4294967296) :
    KInv U Y y1 l1 (U / y1) (U - U / y1 * y1) ∧ U - U / y1 * y1 < 4294967296 := by
  obtain ⟨he, ha, hb, hc, hd⟩ := id h
  have e1 := Int.mul_ediv_add_emod U y1
  have e2 := Int.emod_nonneg U (show y1 ≠ 0 by omega)
  have e3 := Int.emod_lt_of_pos U (show 0 < y1 by omega)
  have e4 := Int.ediv_nonneg hU0 (show 0 ≤ y1 by omega)
  rw [Int.mul_comm] at e1
  have hm := h.mul (U / y1)
  have hs := Int.mul_nonneg e4 hc
  have hq : U / y1 ≤ 4294967297 := by
    rcases ltge (U / y1) 4294967298 with h2 | h2
    · omega
    · have := Int.mul_le_mul_of_nonneg_right h2 (show 0 ≤ y1 by omega)
      omega
  refine ⟨⟨e4, hq, by omega, by omega, by omega⟩, by omega⟩

theorem k_step {U Y y1 y0 l1 q r : Int} (h : KDiv Y y1 y0) (hU : U < Y) (h1 : l1 < 4294967296) (h0 : 0 ≤ l1) (k : KInv U Y y1 l1 q r)
    (hc : 4294967296 ≤ q ∨ 4294967296 * r + l1 < q * y0) : 1 ≤ q ∧ KInv U Y y1 l1 (q - 1) (r + y1) := by
  obtain ⟨he, ha, hb, hc', hd⟩ := id h
  obtain ⟨k0, k1, k2, k3, k4⟩ := k
  have hm := h.mul q
  have hm1 : (q - 1) * Y = q * Y - Y := by rw [Int.sub_mul, Int.one_mul]
  have hm2 : (q - 1) * y1 = q * y1 - y1 := by rw [Int.sub_mul, Int.one_mul]
  have hq : 1 ≤ q := by
    rcases hc with hc | hc
    · omega
    · rcases ltge q 1 with h2 | h2
      · have : q = 0 := by omega
        subst this
        simp at hc
        omega
      · exact h2
  refine ⟨hq, by omega, by omega, by omega, by omega, ?_⟩
  rcases hc with hc | hc
  · have := Int.mul_le_mul_of_nonneg_right hc (show 0 ≤ Y by omega)
    omega
  · omega

theorem k_exit1 {U Y y1 y0 l1 q r : Int} (h : KDiv Y y1 y0) (k : KInv U Y y1 l1 q r) (hc : q * y0 ≤ 4294967296 * r + l1) : (U * 4294967296 + l1) / Y = q := by
  obtain ⟨he, ha, hb, hc', hd⟩ := id h
  obtain ⟨k0, k1, k2, k3, k4⟩ := k
  have hm := h.mul q
  rw [Int.ediv_eq_iff_of_pos (by omega)]
  exact ⟨by omega, k4⟩

theorem k_exit2 {U Y y1 y0 l1 q r : Int} (h : KDiv Y y1 y0) (hU : U < Y) (h0 : 0 ≤ l1) (k : KInv U Y y1 l1 q r) (hc : 4294967296 ≤ r) : (U * 4294967296 + l1) / Y = q := by
  refine k_exit1 h k ?_
  obtain ⟨he, ha, hb, hc', hd⟩ := id h
  obtain ⟨k0, k1, k2, k3, k4⟩ := k
  have hq : q < 4294967296 := by
    rcases ltge q 4294967296 with h2 | h2
    · exact h2
    · have := Int.mul_le_mul_of_nonneg_right h2 (show 0 ≤ y1 by omega)
      omega
  have := Int.mul_le_mul_of_nonneg_right (show q ≤ 4294967295 by omega) hc'
  omega

theorem k_bound {Y y1 y0 q : Int} (h : KDiv Y y1 y0) (h0 : 0 ≤ q) (h1 : q ≤ 4294967297) : 0 ≤ q * y0 ∧ q * y0 ≤ 18446744073709551615 := by
  obtain ⟨he, ha, hb, hc, hd⟩ := id h
  refine ⟨Int.mul_nonneg h0 hc, ?_⟩
  have := Int.mul_le_mul_of_nonneg_right h1 hc
  omega

theorem k_quot {U Y l1 : Int} (hY : 0 < Y) (hU0 : 0 ≤ U) (hU : U < Y) (h0 : 0 ≤ l1) (h1 : l1 < 4294967296) : 0 ≤ (U * 4294967296 + l1) / Y ∧ (U * 4294967296 + l1) / Y < 4294967296 := by
  refine ⟨Int.ediv_nonneg (by omega) (by omega), Int.ediv_lt_of_lt_mul hY (by omega)⟩

/-- What is left of a digit, in 64 bits. -/
theorem k_left {U Y l1 Q : Int} (hY0 : 0 < Y) (hY : Y < 18446744073709551616) (hQ : (U * 4294967296 + l1) / Y = Q) :
    IntKind.u64.wrap (IntKind.u64.wrap (IntKind.u64.wrap (U * 4294967296) + l1) - IntKind.u64.wrap (Q * Y)) = (U * 4294967296 + l1) % Y := by
  have e1 := Int.mul_ediv_add_emod (U * 4294967296 + l1) Y
  have e2 := Int.emod_nonneg (U * 4294967296 + l1) (show Y ≠ 0 by omega)
  have e3 := Int.emod_lt_of_pos (U * 4294967296 + l1) hY0
  rw [hQ, Int.mul_comm] at e1
  simp only [IntKind.wrap_u64]
  omega

theorem norm_bits (y : Int) (s : Nat) (h0 : 0 < y) (h1 : y ≤ 18446744073709551615) (hb : 64 - (Lib.bitLen y.toNat : Int) = (s : Int)) :
    s < 64 ∧ 9223372036854775808 ≤ y * 2 ^ s ∧ y * 2 ^ s < 18446744073709551616 := by
  obtain ⟨n, rfl⟩ := Int.eq_ofNat_of_zero_le (show 0 ≤ y by omega)
  have hn : n < 2 ^ 64 := by
    have : (2 : Nat) ^ 64 = 18446744073709551616 := rfl
    omega
  have hb0 := Lib.bitLenAux_bounds 64 n hn (by omega)
  change 1 ≤ Lib.bitLen n ∧ 2 ^ (Lib.bitLen n - 1) ≤ n ∧ n < 2 ^ Lib.bitLen n at hb0
  obtain ⟨b1, b2, b3⟩ := hb0
  rw [Int.toNat_natCast] at hb
  generalize Lib.bitLen n = k at *
  have hk : s = 64 - k := by omega
  have hk2 : k ≤ 64 := by omega
  have e1 : 2 ^ (k - 1) * 2 ^ s = (9223372036854775808 : Nat) := by
    rw [← Nat.pow_add, show k - 1 + s = 63 by omega]
  have e2 : 2 ^ k * 2 ^ s = (18446744073709551616 : Nat) := by
    rw [← Nat.pow_add, show k + s = 64 by omega]
  have hp : 0 < 2 ^ s := Nat.two_pow_pos s
  have g1 := Nat.mul_le_mul_right (2 ^ s) b2
  have g2 := Nat.mul_lt_mul_of_pos_right b3 hp
  have e3 : (n : Int) * 2 ^ s = ((n * 2 ^ s : Nat) : Int) := by rw [Int.natCast_mul, Int.natCast_pow]; rfl
  rw [e3]
  omega

/-- The dividend, shifted, in a head of 64 bits and a rest. -/
theorem norm_num (hi lo y : Int) (s : Nat) (hs : s < 64) (h0 : 0 ≤ hi) (hy : hi < y) (hl0 : 0 ≤ lo) (hl : lo < 18446744073709551616) (hY : y * 2 ^ s < 18446744073709551616) :
    bits BinOp.or IntKind.u64 (IntKind.u64.wrap (hi * 2 ^ s)) (lo / 2 ^ (64 - s)) = hi * 2 ^ s + lo / 2 ^ (64 - s) ∧
    0 ≤ hi * 2 ^ s + lo / 2 ^ (64 - s) ∧ hi * 2 ^ s + lo / 2 ^ (64 - s) < y * 2 ^ s ∧
    (hi * 18446744073709551616 + lo) * 2 ^ s = (hi * 2 ^ s + lo / 2 ^ (64 - s)) * 18446744073709551616 + IntKind.u64.wrap (lo * 2 ^ s) := by
  have hp := pow_pos' s
  have hq := pow_pos' (64 - s)
  have hpq := pow64 s (by omega)
  have a0 : 0 ≤ lo / 2 ^ (64 - s) := Int.ediv_nonneg hl0 (Int.le_of_lt hq)
  have a1 : lo / 2 ^ (64 - s) < 2 ^ s := Int.ediv_lt_of_lt_mul hq (by rw [hpq]; exact hl)
  have b0 : 0 ≤ hi * 2 ^ s := Int.mul_nonneg h0 (Int.le_of_lt hp)
  have b1 : hi * 2 ^ s + 2 ^ s ≤ y * 2 ^ s := by
    have := Int.mul_le_mul_of_nonneg_right (show hi + 1 ≤ y by omega) (Int.le_of_lt hp)
    rw [Int.add_mul, Int.one_mul] at this
    exact this
  have c1 : IntKind.u64.wrap (hi * 2 ^ s) = 2 ^ s * hi := by rw [IntKind.wrap_u64, Int.emod_eq_of_lt b0 (by omega), Int.mul_comm]
  refine ⟨?_, by omega, by omega, ?_⟩
  · have hor : ∀ a b : Int, 0 ≤ a → 0 ≤ b → a < 18446744073709551616 → b < 18446744073709551616 → bits BinOp.or IntKind.u64 a b = bits BinOp.or IntKind.u64 b a := by
      intro a b ha hb ha2 hb2
      rw [u64_or a b ha ha2 hb hb2, u64_or b a hb hb2 ha ha2, Nat.or_comm]
    rw [c1, hor _ _ (by rw [Int.mul_comm]; exact b0) a0 (by rw [Int.mul_comm]; omega) (by omega)]
    rw [or_add s _ _ a0 a1 h0 (by omega) (by rw [Int.mul_comm]; omega)]
    rw [Int.mul_comm, Int.add_comm]
  · rw [IntKind.wrap_u64]
    have d1 := Int.mul_ediv_add_emod lo (2 ^ (64 - s))
    have d3 := Int.emod_nonneg lo (Int.ne_of_gt hq)
    have d4 := Int.emod_lt_of_pos lo hq
    have d5 : lo * 2 ^ s = lo % 2 ^ (64 - s) * 2 ^ s + 18446744073709551616 * (lo / 2 ^ (64 - s)) := by
      rw [← hpq]
      generalize lo / 2 ^ (64 - s) = A at *
      generalize lo % 2 ^ (64 - s) = C at *
      rw [← d1]
      grind
    have d6 := Int.mul_nonneg d3 (Int.le_of_lt hp)
    have d7 : lo % 2 ^ (64 - s) * 2 ^ s < 18446744073709551616 := by
      have := Int.mul_lt_mul_of_pos_right d4 hp
      rw [Int.mul_comm (2 ^ (64 - s)), hpq] at this
      exact this
    have d8 : lo * 2 ^ s % 18446744073709551616 = lo % 2 ^ (64 - s) * 2 ^ s := by
      rw [d5, Int.add_mul_emod_self_left, Int.emod_eq_of_lt d6 d7]
    have d9 : (hi * 18446744073709551616 + lo) * 2 ^ s = hi * 2 ^ s * 18446744073709551616 + lo * 2 ^ s := by grind
    rw [d8, d9]
    omega

/-- The two digits and what is left, put together. -/
theorem norm_last {hi lo y U L l1 l0 Y V Q Q0 R : Int} {s : Nat} (hY : Y = y * 2 ^ s) (hy : 0 < y) (hN : (hi * 18446744073709551616 + lo) * 2 ^ s = U * 18446744073709551616 + L)
    (hL : L = l1 * 4294967296 + l0) (hQ : (U * 4294967296 + l1) / Y = Q) (hV : (U * 4294967296 + l1) % Y = V) (hQ0 : (V * 4294967296 + l0) / Y = Q0) (hR : (V * 4294967296 + l0) % Y = R) :
    (hi * 18446744073709551616 + lo) / y = Q * 4294967296 + Q0 ∧ (hi * 18446744073709551616 + lo) % y = R / 2 ^ s := by
  have hp := pow_pos' s
  have hY0 : 0 < Y := by rw [hY]; exact Int.mul_pos hy hp
  have e1 := Int.mul_ediv_add_emod (U * 4294967296 + l1) Y
  have e2 := Int.mul_ediv_add_emod (V * 4294967296 + l0) Y
  have e3 := Int.emod_nonneg (V * 4294967296 + l0) (Int.ne_of_gt hY0)
  have e4 := Int.emod_lt_of_pos (V * 4294967296 + l0) hY0
  rw [hQ, hV] at e1
  rw [hQ0, hR] at e2
  rw [hR] at e3 e4
  have k : (hi * 18446744073709551616 + lo) * 2 ^ s = (Q * 4294967296 + Q0) * Y + R := by
    rw [hN, hL]
    have : (Q * 4294967296 + Q0) * Y = Y * Q * 4294967296 + Y * Q0 := by grind
    omega
  have kq : (hi * 18446744073709551616 + lo) * 2 ^ s / (y * 2 ^ s) = Q * 4294967296 + Q0 := by
    rw [Int.ediv_eq_iff_of_pos (by rw [← hY]; exact hY0), k, ← hY]
    omega
  have kr : (hi * 18446744073709551616 + lo) * 2 ^ s % (y * 2 ^ s) = R := by
    have := Int.mul_ediv_add_emod ((hi * 18446744073709551616 + lo) * 2 ^ s) (y * 2 ^ s)
    rw [kq, k, ← hY, Int.mul_comm Y] at this
    rw [← hY, k]
    omega
  generalize hi * 18446744073709551616 + lo = N at *
  rw [Int.mul_comm N, Int.mul_comm y, Int.mul_ediv_mul_of_pos _ _ hp] at kq
  rw [Int.mul_comm N, Int.mul_comm y, Int.mul_emod_mul_of_pos _ _ hp] at kr
  refine ⟨kq, ?_⟩
  rw [← kr, Int.mul_ediv_cancel_left _ (Int.ne_of_gt hp)]

end Go.Proofs.Ytenefncpokdmnaa
