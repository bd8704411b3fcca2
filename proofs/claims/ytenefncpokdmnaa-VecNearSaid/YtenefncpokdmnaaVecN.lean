/- Plain numbers: the length of a place's direction. -/
import Derived.Test.YtenefncpokdmnaaVecG
namespace Go.Proofs.Ytenefncpokdmnaa
open Go.RowKit
set_option linter.unusedVariables false
set_option linter.unusedSimpArgs false

theorem sq_bd' (x : Int) : 0 ≤ x * x := by
  rcases Int.le_total 0 x with g | g
  · exact Int.mul_nonneg g g
  · exact Int.mul_nonneg_of_nonpos_of_nonpos g g
theorem part_bd {x v R : Int} (hR : 0 < R) (hv : x * 18446744073709551616 / R = v) :
    x * x * 340282366920938463463374607431768211456 - 36893488147419103232 * (R * absU x) ≤ R * R * (v * v) ∧ R * R * (v * v) ≤ x * x * 340282366920938463463374607431768211456 + 36893488147419103232 * (R * absU x) + R * R := by
  have e1 := Int.mul_ediv_add_emod (x * 18446744073709551616) R
  have e2 := Int.emod_nonneg (x * 18446744073709551616) (Int.ne_of_gt hR)
  have e3 := Int.emod_lt_of_pos (x * 18446744073709551616) hR
  rw [hv] at e1
  generalize x * 18446744073709551616 % R = r at *
  have k1 : R * R * (v * v) = (x * 18446744073709551616 - r) * (x * 18446744073709551616 - r) := by
    have : R * v = x * 18446744073709551616 - r := by omega
    rw [← this]; grind
  have k2 : (x * 18446744073709551616 - r) * (x * 18446744073709551616 - r) = x * x * 340282366920938463463374607431768211456 - 36893488147419103232 * (x * r) + r * r := by grind
  have k3 : 0 ≤ r * r := Int.mul_nonneg e2 e2
  have k4 : r * r ≤ R * R := Int.mul_le_mul (by omega) (by omega) e2 (by omega)
  have k5 : -(R * absU x) ≤ x * r ∧ x * r ≤ R * absU x := by
    have ha : 0 ≤ absU x := by unfold absU; split <;> omega
    have h1 : absU x * r ≤ absU x * R := Int.mul_le_mul_of_nonneg_left (by omega) ha
    have h0 : 0 ≤ absU x * r := Int.mul_nonneg ha e2
    rw [Int.mul_comm R]
    by_cases hx : x < 0
    · rw [absU_neg hx] at *
      rw [Int.neg_mul] at h1 h0
      rw [Int.neg_mul] at *
      omega
    · rw [absU_pos (by omega)] at *
      omega
  rw [k1, k2]
  generalize x * r = a at *
  generalize r * r = b at *
  generalize R * R = c at *
  generalize R * absU x = d at *
  generalize x * x = e at *
  omega

theorem near_num {x y z S R u v t : Int} (hS : x * x + y * y + z * z = S) (hS1 : 1 ≤ S) (hS2 : S ≤ 4611686018427387903) (hR : IsRoot (S * 18446744073709551616) R)
    (hu : x * 18446744073709551616 / R = u) (hv : y * 18446744073709551616 / R = v) (ht : z * 18446744073709551616 / R = t) :
    18446744056529682428 ≤ u * u + v * v + t * t ∧ u * u + v * v + t * t ≤ 18446744099479355401 := by
  obtain ⟨r0, r1, r2⟩ := hR
  have hR32 : 4294967296 ≤ R := by
    rcases Int.lt_or_le R 4294967296 with g | g
    · have := sq_mono (a := R + 1) (b := 4294967296) (by omega) (by omega)
      omega
    · exact g
  obtain ⟨a1, a2⟩ := part_bd (by omega) hu
  obtain ⟨b1, b2⟩ := part_bd (by omega) hv
  obtain ⟨c1, c2⟩ := part_bd (by omega) ht
  -- the sum of the sizes
  have ha : 0 ≤ absU x := by unfold absU; split <;> omega
  have hb : 0 ≤ absU y := by unfold absU; split <;> omega
  have hc : 0 ≤ absU z := by unfold absU; split <;> omega
  have ea : absU x * absU x = x * x := absU_mul_pos Iff.rfl
  have eb : absU y * absU y = y * y := absU_mul_pos Iff.rfl
  have ec : absU z * absU z = z * z := absU_mul_pos Iff.rfl
  have hsum : (absU x + absU y + absU z) * 4294967296 ≤ 2 * (R + 1) := by
    generalize absU x = X at *
    generalize absU y = Y at *
    generalize absU z = Z at *
    rcases Int.lt_or_le (2 * (R + 1)) ((X + Y + Z) * 4294967296) with g | g
    · exfalso
      have h3 : (X + Y + Z) * (X + Y + Z) ≤ 3 * (X * X + Y * Y + Z * Z) := by
        have q1 : 0 ≤ (X - Y) * (X - Y) := by have := (sq_bd' (X - Y)); exact this
        have q2 : 0 ≤ (Y - Z) * (Y - Z) := by have := (sq_bd' (Y - Z)); exact this
        have q3 : 0 ≤ (X - Z) * (X - Z) := by have := (sq_bd' (X - Z)); exact this
        grind
      have h4 := sq_mono (a := 2 * (R + 1)) (b := (X + Y + Z) * 4294967296) (by omega) (by omega)
      have h5 : ((X + Y + Z) * 4294967296) * ((X + Y + Z) * 4294967296) = (X + Y + Z) * (X + Y + Z) * 18446744073709551616 := by grind
      have h6 : 2 * (R + 1) * (2 * (R + 1)) = 4 * ((R + 1) * (R + 1)) := by grind
      rw [h5, h6] at h4
      have h7 : 0 ≤ (R + 1) * (R + 1) := sq_bd' _
      omega
    · exact g
  have hprod : R * (absU x + absU y + absU z) * 4294967296 ≤ 2 * (R * R) + 2 * R := by
    have := Int.mul_le_mul_of_nonneg_left hsum (show 0 ≤ R by omega)
    have e1 : R * ((absU x + absU y + absU z) * 4294967296) = R * (absU x + absU y + absU z) * 4294967296 := by grind
    have e2 : R * (2 * (R + 1)) = 2 * (R * R) + 2 * R := by grind
    rw [e1, e2] at this
    exact this
  have hprod2 : R * (absU x + absU y + absU z) = R * absU x + R * absU y + R * absU z := by grind
  rw [hprod2] at hprod
  have hT : R * R * (u * u + v * v + t * t) = R * R * (u * u) + R * R * (v * v) + R * R * (t * t) := by grind
  have hRR : 4294967296 * R ≤ R * R := Int.mul_le_mul_of_nonneg_right hR32 (by omega)
  have hR1 : (R + 1) * (R + 1) = R * R + 2 * R + 1 := by grind
  rw [hR1] at r2
  obtain ⟨T, eT⟩ : ∃ T, u * u + v * v + t * t = T := ⟨_, rfl⟩
  rw [eT] at hT ⊢
  have hlo : R * R * 18446744056529682428 ≤ R * R * T := by
    rw [hT]
    generalize R * R * (u * u) = U at *
    generalize R * R * (v * v) = V at *
    generalize R * R * (t * t) = W at *
    generalize R * absU x = A at *
    generalize R * absU y = B at *
    generalize R * absU z = C at *
    generalize R * R = P at *
    generalize x * x = D at *
    generalize y * y = E at *
    generalize z * z = F at *
    omega
  have hhi : R * R * T ≤ R * R * 18446744099479355401 := by
    rw [hT]
    generalize R * R * (u * u) = U at *
    generalize R * R * (v * v) = V at *
    generalize R * R * (t * t) = W at *
    generalize R * absU x = A at *
    generalize R * absU y = B at *
    generalize R * absU z = C at *
    generalize R * R = P at *
    generalize x * x = D at *
    generalize y * y = E at *
    generalize z * z = F at *
    omega
  have hP : 0 < R * R := Int.mul_pos (by omega) (by omega)
  exact ⟨Int.le_of_mul_le_mul_left hlo hP, Int.le_of_mul_le_mul_left hhi hP⟩

theorem clip_zero {n : Int} (h : clip n = 0) : n = 0 := by unfold clip at h; omega
theorem near_bd {p : T3} (h : p ≠ zero3) : 4294967288 ≤ vlen (vtow p) ∧ vlen (vtow p) ≤ 4294967304 := by
  have h0 := clip_sq (clip_bd p.1)
  have h1 := clip_sq (clip_bd p.2.1)
  have h2 := clip_sq (clip_bd p.2.2)
  obtain ⟨S, hS⟩ : ∃ S, clip p.1 * clip p.1 + clip p.2.1 * clip p.2.1 + clip p.2.2 * clip p.2.2 = S := ⟨_, rfl⟩
  have hS1 : 1 ≤ S := by
    rcases Int.lt_or_le S 1 with g | g
    · exfalso
      apply h
      have e0 := clip_zero (sq_zero (x := clip p.1) (by omega))
      have e1 := clip_zero (sq_zero (x := clip p.2.1) (by omega))
      have e2 := clip_zero (sq_zero (x := clip p.2.2) (by omega))
      obtain ⟨a, b, c⟩ := p
      simp at e0 e1 e2
      subst e0 e1 e2
      rfl
    · exact g
  have hr := (sqN_root (x := S * 18446744073709551616) (by omega) (by omega)).1
  have eR : sqN (S * 18446744073709551616) = vroot p := by rw [← hS]; rfl
  rw [eR] at hr
  have hn := near_num hS hS1 (by omega) hr rfl rfl rfl
  have hz : vroot p ≠ 0 := by
    intro e
    rw [e] at hr
    have := hr.2.2
    omega
  have ev : vtow p = (clip p.1 * 18446744073709551616 / vroot p, clip p.2.1 * 18446744073709551616 / vroot p, clip p.2.2 * 18446744073709551616 / vroot p) := by unfold vtow; rw [if_neg hz]
  have eT : vT (vtow p) = clip p.1 * 18446744073709551616 / vroot p * (clip p.1 * 18446744073709551616 / vroot p) + clip p.2.1 * 18446744073709551616 / vroot p * (clip p.2.1 * 18446744073709551616 / vroot p) + clip p.2.2 * 18446744073709551616 / vroot p * (clip p.2.2 * 18446744073709551616 / vroot p) := by rw [ev]; rfl
  rw [← eT] at hn
  unfold vlen
  rw [if_neg (by omega)]
  obtain ⟨⟨r0, r1, r2⟩, -⟩ := sqN_root (x := vT (vtow p)) (by omega) (by omega)
  generalize sqN (vT (vtow p)) = r at *
  generalize vT (vtow p) = T at *
  constructor
  · rcases Int.lt_or_le r 4294967288 with g | g
    · have := sq_mono (a := r + 1) (b := 4294967288) (by omega) (by omega)
      omega
    · exact g
  · rcases Int.lt_or_le 4294967304 r with g | g
    · have := sq_mono (a := 4294967305) (b := r) (by omega) (by omega)
      omega
    · exact g

end Go.Proofs.Ytenefncpokdmnaa
