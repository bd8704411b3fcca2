/- Plain numbers, fifth part: quotients that are rounded down. -/
import Derived.Test.YtenefncpokdmnaaMathC
namespace Go.Proofs.Ytenefncpokdmnaa
open Go.RowKit
set_option linter.unusedVariables false
set_option linter.unusedSimpArgs false

/-- The quotient, rounded down, and what is left, with the divisor's sign. -/
def fq (a d : Int) : Int := if 0 < d then a / d else (-a) / (-d)
def fr (a d : Int) : Int := if 0 < d then a % d else -((-a) % (-d))
def divOk (a d : Int) : Bool := decide (d ≠ 0) && InWb (fq a d)
def divQ (a d : Int) : Int := if divOk a d then fq a d else 0
def divR (a d : Int) : Int := if divOk a d then fr a d else 0

theorem neg_div {A D : Int} (hA : 0 ≤ A) (hD : 0 < D) : (-A) / D = (if A % D = 0 then -(A / D) else -(A / D + 1)) ∧ (-A) % D = (if A % D = 0 then 0 else D - A % D) := by
  have e1 := Int.mul_ediv_add_emod A D
  have e2 := Int.emod_nonneg A (Int.ne_of_gt hD)
  have e3 := Int.emod_lt_of_pos A hD
  rw [Int.ediv_emod_unique hD]
  split
  · refine ⟨?_, by omega, hD⟩
    rw [Int.mul_neg]; omega
  · refine ⟨?_, by omega, by omega⟩
    rw [Int.mul_neg, Int.mul_add]; omega

/-- The quotient's size: as it is, or one more. -/
def dq (b : Bool) (A D : Int) : Int := if b && decide (A % D ≠ 0) then A / D + 1 else A / D
def dr (b : Bool) (A D : Int) : Int := if b && decide (A % D ≠ 0) then D - A % D else A % D

theorem absU_neg {n : Int} (h : n < 0) : absU n = -n := by unfold absU; rw [if_pos h]
theorem absU_pos {n : Int} (h : 0 ≤ n) : absU n = n := by unfold absU; rw [if_neg (by omega)]

theorem fq_dq {a d : Int} (hd : d ≠ 0) : fq a d = sgn (!decide (a < 0) == decide (d < 0)) (dq (!decide (a < 0) == decide (d < 0)) (absU a) (absU d)) ∧
    fr a d = sgn (decide (d < 0)) (dr (!decide (a < 0) == decide (d < 0)) (absU a) (absU d)) := by
  unfold fq fr
  by_cases ha : a < 0 <;> by_cases hd0 : d < 0
  · rw [if_neg (by omega), if_neg (by omega), absU_neg ha, absU_neg hd0]
    simp [ha, hd0, sgn, dq, dr]
  · rw [if_pos (by omega), if_pos (by omega), absU_neg ha, absU_pos (by omega)]
    obtain ⟨e1, e2⟩ := neg_div (A := -a) (D := d) (by omega) (by omega)
    rw [Int.neg_neg] at e1 e2
    simp only [ha, hd0, sgn, dq, dr]
    rw [e1, e2]
    by_cases h0 : -a % d = 0 <;> simp [h0]
  · rw [if_neg (by omega), if_neg (by omega), absU_pos (by omega), absU_neg hd0]
    obtain ⟨e1, e2⟩ := neg_div (A := a) (D := -d) (by omega) (by omega)
    simp only [ha, hd0, sgn, dq, dr]
    rw [e1, e2]
    generalize -d = D at *
    by_cases h0 : a % D = 0 <;> simp [h0]
  · rw [if_pos (by omega), if_pos (by omega), absU_pos (by omega), absU_pos (by omega)]
    simp [ha, hd0, sgn, dq, dr]

theorem divOk_of {a d : Int} {b : Bool} (hd : d ≠ 0) (h : InWb (fq a d) = b) : divOk a d = b := by unfold divOk; simp [hd, h]
theorem divOk_zero (a : Int) : divOk a 0 = false := by unfold divOk; simp
theorem divQ_ok {a d : Int} (h : divOk a d = true) : divQ a d = fq a d := by unfold divQ; rw [if_pos h]
theorem divR_ok {a d : Int} (h : divOk a d = true) : divR a d = fr a d := by unfold divR; rw [if_pos h]
theorem divQ_not {a d : Int} (h : divOk a d = false) : divQ a d = 0 := by unfold divQ; rw [if_neg (by simp [h])]
theorem divR_not {a d : Int} (h : divOk a d = false) : divR a d = 0 := by unfold divR; rw [if_neg (by simp [h])]
theorem divQ_in (a d : Int) : InW (divQ a d) := by
  cases h : divOk a d
  · rw [divQ_not h]; unfold InW; omega
  · rw [divQ_ok h]; unfold divOk at h; simp at h; exact InWb_iff.1 h.2

/-- Two digits of 64 bits by one. -/
theorem two_digits {A D : Int} (h0 : 0 ≤ A) (hD : 0 < D) (hD2 : D < 18446744073709551616) :
    wHi A / D = wHi (A / D) ∧ ((wHi A % D) * 18446744073709551616 + wLo A) / D = wLo (A / D) ∧ ((wHi A % D) * 18446744073709551616 + wLo A) % D = A % D := by
  have e1 := Int.mul_ediv_add_emod (wHi A) D
  have e2 := Int.emod_nonneg (wHi A) (Int.ne_of_gt hD)
  have e3 := Int.emod_lt_of_pos (wHi A) hD
  have l := wLo_U A
  have s := w_split A
  have k1 : A = (wHi A % D) * 18446744073709551616 + wLo A + (wHi A / D * 18446744073709551616) * D := by
    have : (wHi A / D * 18446744073709551616) * D = (D * (wHi A / D)) * 18446744073709551616 := by grind
    rw [this]; omega
  have k2 : A / D = ((wHi A % D) * 18446744073709551616 + wLo A) / D + wHi A / D * 18446744073709551616 := by
    rw [← Int.add_mul_ediv_right _ _ (Int.ne_of_gt hD), ← k1]
  have k3 : A % D = ((wHi A % D) * 18446744073709551616 + wLo A) % D := by
    have := Int.add_mul_emod_self_right ((wHi A % D) * 18446744073709551616 + wLo A) (wHi A / D * 18446744073709551616) D
    rw [← k1] at this
    exact this
  have k4 : 0 ≤ ((wHi A % D) * 18446744073709551616 + wLo A) / D := Int.ediv_nonneg (by have := l.1; omega) (by omega)
  have k5 : ((wHi A % D) * 18446744073709551616 + wLo A) / D < 18446744073709551616 := Int.ediv_lt_of_lt_mul hD (by have := l.2; omega)
  unfold wHi wLo at *
  refine ⟨by omega, by omega, k3.symm⟩

theorem absU_bound {a : Int} (h : InW a) : 0 ≤ absU a ∧ absU a ≤ 170141183460469231731687303715884105728 := by unfold InW absU at *; omega
theorem absU_U2 {a : Int} (h : InW a) : InU2 (absU a) := by have := absU_bound h; unfold InU2; omega
theorem dq_U2 {a d : Int} (b : Bool) (h : InW a) (hd : d ≠ 0) : InU2 (dq b (absU a) (absU d)) := by
  have h1 := absU_bound h
  have h2 : 0 < absU d := by unfold absU; omega
  have h3 := Int.ediv_nonneg h1.1 (show 0 ≤ absU d by omega)
  have h4 := Int.ediv_le_self (absU d) h1.1
  unfold dq InU2
  split <;> omega

end Go.Proofs.Ytenefncpokdmnaa
