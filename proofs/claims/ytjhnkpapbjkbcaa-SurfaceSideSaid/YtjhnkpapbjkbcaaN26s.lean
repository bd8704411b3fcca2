/- Plain numbers: the length of a place's direction. Plain law: a vector's direction. Layer 26: SurfaceSide, SurfaceTwice hold. Layer 26: SurfaceTwice holds. Layer 26: SurfaceSide and SurfaceTwice as their frames ask for them. -/
import Derived.Test.YtjhnkpapbjkbcaaVecG
import Derived.Test.YtjhnkpapbjkbcaaOctaM
import Derived.Test.YtjhnkpapbjkbcaaVecD
import Derived.Test.YtjhnkpapbjkbcaaN26
import Derived.Test.YtjhnkpapbjkbcaaGoF
namespace Go.Proofs.Ytjhnkpapbjkbcaa
open Go.RowKit
set_option linter.unusedVariables false
set_option linter.unusedSimpArgs false

theorem sq_bd' (x : Int) : 0 ≤ x * x := by
  rcases Int.le_total 0 x with g | g
  · exact Int.mul_nonneg g g
  · exact Int.mul_nonneg_of_nonpos_of_nonpos g g
theorem part_bd {x v R : Int} (hR : 0 < R) (hv : x * 18446744073709551616 / R = v) :
    x * x * 340282366920938463463374607431768211456 - 36893488147419103232 * (R * absU x) ≤ R * R * (v * v) ∧ R * R * (v * v) ≤ x * x * 340282366920938463463374607431768211456 + 36893488147419103232 * (R * absU x) + R * R := by
  have e1 := Int.mul_ediv_add_emod (x * 18446744073709551616) R
  have e2 := Int.emod_nonneg (x * 18446744073709551616) (Int.ne_of_gt hR)
  have e3 := Int.emod_lt_of_pos (x * 18446744073709551616) hR
  rw [hv] at e1
  generalize x * 18446744073709551616 % R = r at *
  have k1 : R * R * (v * v) = (x * 18446744073709551616 - r) * (x * 18446744073709551616 - r) := by
    have : R * v = x * 18446744073709551616 - r := by omega
    rw [← this]; grind
  have k2 : (x * 18446744073709551616 - r) * (x * 18446744073709551616 - r) = x * x * 340282366920938463463374607431768211456 - 36893488147419103232 * (x * r) + r * r := by grind
  have k3 : 0 ≤ r * r := Int.mul_nonneg e2 e2
  have k4 : r * r ≤ R * R := Int.mul_le_mul (by omega) (by omega) e2 (by omega)
  have k5 : -(R * absU x) ≤ x * r ∧ x * r ≤ R * absU x := by
    have ha : 0 ≤ absU x := by unfold absU; split <;> omega
    have h1 : absU x * r ≤ absU x * R := Int.mul_le_mul_of_nonneg_left (by omega) ha
    have h0 : 0 ≤ absU x * r := Int.mul_nonneg ha e2
    rw [Int.mul_comm R]
    by_cases hx : x < 0
    · rw [absU_neg hx] at *
      rw [Int.neg_mul] at h1 h0
      rw [Int.neg_mul] at *
      omega
    · rw [absU_pos (by omega)] at *
      omega
  rw [k1, k2]
  generalize x * r = a at *
  generalize r * r = b at *
  generalize R * R = c at *
  generalize R * absU x = d at *
  generalize x * x = e at *
  omega

theorem near_num {x y z S R u v t : Int} (hS : x * x + y * y + z * z = S) (hS1 : 1 ≤ S) (hS2 : S ≤ 4611686018427387903) (hR : IsRoot (S * 18446744073709551616) R)
    (hu : x * 18446744073709551616 / R = u) (hv : y * 18446744073709551616 / R = v) (ht : z * 18446744073709551616 / R = t) :
    18446744056529682428 ≤ u * u + v * v + t * t ∧ u * u + v * v + t * t ≤ 18446744099479355401 := by
  obtain ⟨r0, r1, r2⟩ := hR
  have hR32 : 4294967296 ≤ R := by
    rcases Int.lt_or_le R 4294967296 with g | g
    · have := sq_mono (a := R + 1) (b := 4294967296) (by omega) (by omega)
      omega
    · exact g
  obtain ⟨a1, a2⟩ := part_bd (by omega) hu
  obtain ⟨b1, b2⟩ := part_bd (by omega) hv
  obtain ⟨c1, c2⟩ := part_bd (by omega) ht
  -- the sum of the sizes
  have ha : 0 ≤ absU x := by unfold absU; split <;> omega
  have hb : 0 ≤ absU y := by unfold absU; split <;> omega
  have hc : 0 ≤ absU z := by unfold absU; split <;> omega
  have ea : absU x * absU x = x * x := absU_mul_pos Iff.rfl
  have eb : absU y * absU y = y * y := absU_mul_pos Iff.rfl
  have ec : absU z * absU z = z * z := absU_mul_pos Iff.rfl
  have hsum : (absU x + absU y + absU z) * 4294967296 ≤ 2 * (R + 1) := by
    generalize absU x = X at *
    generalize absU y = Y at *
    generalize absU z = Z at *
    rcases Int.lt_or_le (2 * (R + 1)) ((X + Y + Z) * 4294967296) with g | g
    · exfalso
      have h3 : (X + Y + Z) * (X + Y + Z) ≤ 3 * (X * X + Y * Y + Z * Z) := by
        have q1 : 0 ≤ (X - Y) * (X - Y) := by have := (sq_bd' (X - Y)); exact this
        have q2 : 0 ≤ (Y - Z) * (Y - Z) := by have := (sq_bd' (Y - Z)); exact this
        have q3 : 0 ≤ (X - Z) * (X - Z) := by have := (sq_bd' (X - Z)); exact this
        grind
      have h4 := sq_mono (a := 2 * (R + 1)) (b := (X + Y + Z) * 4294967296) (by omega) (by omega)
      have h5 : ((X + Y + Z) * 4294967296) * ((X + Y + Z) * 4294967296) = (X + Y + Z) * (X + Y + Z) * 18446744073709551616 := by grind
      have h6 : 2 * (R + 1) * (2 * (R + 1)) = 4 * ((R + 1) * (R + 1)) := by grind
      rw [h5, h6] at h4
      have h7 : 0 ≤ (R + 1) * (R + 1) := sq_bd' _
      omega
    · exact g
  have hprod : R * (absU x + absU y + absU z) * 4294967296 ≤ 2 * (R * R) + 2 * R := by
    have := Int.mul_le_mul_of_nonneg_left hsum (show 0 ≤ R by omega)
    have e1 : R * ((absU x + absU y + absU z) * 4294967296) = R * (absU x + absU y + absU z) * 4294967296 := by grind
    have e2 : R * (2 * (R + 1)) = 2 * (R * R) + 2 * R := by grind
    rw [e1, e2] at this
    exact this
  have hprod2 : R * (absU x + absU y + absU z) = R * absU x + R * absU y + R * absU z := by grind
  rw [hprod2] at hprod
  have hT : R * R * (u * u + v * v + t * t) = R * R * (u * u) + R * R * (v * v) + R * R * (t * t) := by grind
  have hRR : 4294967296 * R ≤ R * R := Int.mul_le_mul_of_nonneg_right hR32 (by omega)
  have hR1 : (R + 1) * (R + 1) = R * R + 2 * R + 1 := by grind
  rw [hR1] at r2
  obtain ⟨T, eT⟩ : ∃ T, u * u + v * v + t * t = T := ⟨_, rfl⟩
  rw [eT] at hT ⊢
  have hlo : R * R * 18446744056529682428 ≤ R * R * T := by
    rw [hT]
    generalize R * R * (u * u) = U at *
    generalize R * R * (v * v) = V at *
    generalize R * R * (t * t) = W at *
    generalize R * absU x = A at *
    generalize R * absU y = B at *
    generalize R * absU z = C at *
    generalize R * R = P at *
    generalize x * x = D at *
    generalize y * y = E at *
    generalize z * z = F at *
    omega
  have hhi : R * R * T ≤ R * R * 18446744099479355401 := by
    rw [hT]
    generalize R * R * (u * u) = U at *
    generalize R * R * (v * v) = V at *
    generalize R * R * (t * t) = W at *
    generalize R * absU x = A at *
    generalize R * absU y = B at *
    generalize R * absU z = C at *
    generalize R * R = P at *
    generalize x * x = D at *
    generalize y * y = E at *
    generalize z * z = F at *
    omega
  have hP : 0 < R * R := Int.mul_pos (by omega) (by omega)
  exact ⟨Int.le_of_mul_le_mul_left hlo hP, Int.le_of_mul_le_mul_left hhi hP⟩

theorem clip_zero {n : Int} (h : clip n = 0) : n = 0 := by unfold clip at h; omega
theorem near_bd {p : T3} (h : p ≠ zero3) : 4294967288 ≤ vlen (vtow p) ∧ vlen (vtow p) ≤ 4294967304 := by
  have h0 := clip_sq (clip_bd p.1)
  have h1 := clip_sq (clip_bd p.2.1)
  have h2 := clip_sq (clip_bd p.2.2)
  obtain ⟨S, hS⟩ : ∃ S, clip p.1 * clip p.1 + clip p.2.1 * clip p.2.1 + clip p.2.2 * clip p.2.2 = S := ⟨_, rfl⟩
  have hS1 : 1 ≤ S := by
    rcases Int.lt_or_le S 1 with g | g
    · exfalso
      apply h
      have e0 := clip_zero (sq_zero (x := clip p.1) (by omega))
      have e1 := clip_zero (sq_zero (x := clip p.2.1) (by omega))
      have e2 := clip_zero (sq_zero (x := clip p.2.2) (by omega))
      obtain ⟨a, b, c⟩ := p
      simp at e0 e1 e2
      subst e0 e1 e2
      rfl
    · exact g
  have hr := (sqN_root (x := S * 18446744073709551616) (by omega) (by omega)).1
  have eR : sqN (S * 18446744073709551616) = vroot p := by rw [← hS]; rfl
  rw [eR] at hr
  have hn := near_num hS hS1 (by omega) hr rfl rfl rfl
  have hz : vroot p ≠ 0 := by
    intro e
    rw [e] at hr
    have := hr.2.2
    omega
  have ev : vtow p = (clip p.1 * 18446744073709551616 / vroot p, clip p.2.1 * 18446744073709551616 / vroot p, clip p.2.2 * 18446744073709551616 / vroot p) := by unfold vtow; rw [if_neg hz]
  have eT : vT (vtow p) = clip p.1 * 18446744073709551616 / vroot p * (clip p.1 * 18446744073709551616 / vroot p) + clip p.2.1 * 18446744073709551616 / vroot p * (clip p.2.1 * 18446744073709551616 / vroot p) + clip p.2.2 * 18446744073709551616 / vroot p * (clip p.2.2 * 18446744073709551616 / vroot p) := by rw [ev]; rfl
  rw [← eT] at hn
  unfold vlen
  rw [if_neg (by omega)]
  obtain ⟨⟨r0, r1, r2⟩, -⟩ := sqN_root (x := vT (vtow p)) (by omega) (by omega)
  generalize sqN (vT (vtow p)) = r at *
  generalize vT (vtow p) = T at *
  constructor
  · rcases Int.lt_or_le r 4294967288 with g | g
    · have := sq_mono (a := r + 1) (b := 4294967288) (by omega) (by omega)
      omega
    · exact g
  · rcases Int.lt_or_le 4294967304 r with g | g
    · have := sq_mono (a := 4294967305) (b := r) (by omega) (by omega)
      omega
    · exact g

end Go.Proofs.Ytjhnkpapbjkbcaa

namespace Go.Proofs.Ytjhnkpapbjkbcaa
open Go.RowKit
set_option linter.unusedVariables false
set_option linter.unusedSimpArgs false

namespace P
def quant (v : T3) : T3 := if vmost v = 0 then zero3 else (qpart v.1 (vmost v), qpart v.2.1 (vmost v), qpart v.2.2 (vmost v))
def quantE (v : T3) : Int := if vmost v = 0 then 2 else 0
theorem qmd {x m : Int} (hx : InI x) (hm : 1 ≤ m) (h1 : -m - 1 ≤ x ∧ x ≤ m) : max (mdN x 16384 m) (-16384) = qpart x m ∧ -16384 ≤ qpart x m ∧ qpart x m ≤ 16384 := by
  have q0 : -16384 * (m + 1) ≤ x * 16384 ∧ x * 16384 ≤ 16384 * m := by omega
  have e : -32769 ≤ x * 16384 / m ∧ x * 16384 / m ≤ 16384 := by
    constructor
    · rw [Int.le_ediv_iff_mul_le (by omega)]; omega
    · have : x * 16384 / m < 16385 := by rw [Int.ediv_lt_iff_lt_mul (by omega)]; omega
      omega
  have e2 : mdN x 16384 m = x * 16384 / m := by
    unfold mdN fq
    rw [if_neg (by omega), if_pos (by omega), clampI_in (by unfold InI; omega)]
  unfold qpart
  rw [e2]
  omega
theorem vmost_zero {a : T3} (ha : InV a) (h : vmost a = 0) : a.1 = 0 ∧ a.2.1 = 0 ∧ a.2.2 = 0 := by
  unfold vmost at h
  have h0 := fabs_val ha.1
  have h1 := fabs_val ha.2.1
  have h2 := fabs_val ha.2.2
  obtain ⟨i0, i1, i2⟩ := ha
  unfold InI at i0 i1 i2
  refine ⟨?_, ?_, ?_⟩ <;> (repeat (split at h0)) <;> (repeat (split at h1)) <;> (repeat (split at h2)) <;> omega
theorem vmost_bd {a : T3} (ha : InV a) : 0 ≤ vmost a ∧ vmost a ≤ 9223372036854775807 ∧ (-vmost a - 1 ≤ a.1 ∧ a.1 ≤ vmost a) ∧ (-vmost a - 1 ≤ a.2.1 ∧ a.2.1 ≤ vmost a) ∧ (-vmost a - 1 ≤ a.2.2 ∧ a.2.2 ≤ vmost a) := by
  unfold vmost
  have h0 := fabs_val ha.1
  have h1 := fabs_val ha.2.1
  have h2 := fabs_val ha.2.2
  obtain ⟨i0, i1, i2⟩ := ha
  unfold InI at i0 i1 i2
  (repeat (split at h0)) <;> (repeat (split at h1)) <;> (repeat (split at h2)) <;> omega
theorem qpart_top {x m : Int} (hm : 1 ≤ m) (hm2 : m ≤ 9223372036854775807) (hx : InI x) (h : fabs x = m) : oabs (qpart x m) = 16384 := by
  rw [fabs_val hx] at h
  unfold qpart
  have e1 : m * 16384 / m = 16384 := by rw [Int.mul_comm, Int.mul_ediv_cancel _ (by omega)]
  have e2 : -m * 16384 / m = -16384 := by rw [show -m * 16384 = -16384 * m by omega, Int.mul_ediv_cancel _ (by omega)]
  split at h
  · split at h
    · rename_i s
      subst s h
      decide
    · have : x = -m := by omega
      rw [this, e2]
      decide
  · rw [h, e1]
    decide
theorem quant_top {v : T3} (hv : InV v) (h : vmost v ≠ 0) : ((-16384 ≤ (quant v).1 ∧ (quant v).1 ≤ 16384) ∧ (-16384 ≤ (quant v).2.1 ∧ (quant v).2.1 ≤ 16384) ∧ (-16384 ≤ (quant v).2.2 ∧ (quant v).2.2 ≤ 16384)) ∧ max (oabs (quant v).1) (max (oabs (quant v).2.1) (oabs (quant v).2.2)) = 16384 := by
  have hb := vmost_bd hv
  have a0 := (qmd hv.1 (show 1 ≤ vmost v by omega) hb.2.2.1).2
  have a1 := (qmd hv.2.1 (show 1 ≤ vmost v by omega) hb.2.2.2.1).2
  have a2 := (qmd hv.2.2 (show 1 ≤ vmost v by omega) hb.2.2.2.2).2
  have o0 := oabs_bd a0
  have o1 := oabs_bd a1
  have o2 := oabs_bd a2
  unfold quant
  rw [if_neg h]
  refine ⟨⟨a0, a1, a2⟩, ?_⟩
  simp only
  have : fabs v.1 = vmost v ∨ fabs v.2.1 = vmost v ∨ fabs v.2.2 = vmost v := by unfold vmost; omega
  rcases this with e | e | e
  · have := qpart_top (by omega) hb.2.1 hv.1 e; omega
  · have := qpart_top (by omega) hb.2.1 hv.2.1 e; omega
  · have := qpart_top (by omega) hb.2.1 hv.2.2 e; omega
theorem quant_may {v : T3} (hv : InV v) (h : vmost v ≠ 0) : mayB (quant v) = true := by
  obtain ⟨hb, hm⟩ := quant_top hv h
  unfold mayB
  simp only [Bool.and_eq_true, decide_eq_true_eq]
  refine ⟨fun ⟨e1, e2, e3⟩ => ?_, hb⟩
  rw [e1, e2, e3] at hm
  revert hm
  decide
end P

end Go.Proofs.Ytjhnkpapbjkbcaa

namespace Go.Proofs.Ytjhnkpapbjkbcaa
open Go.RowKit Go.Sort
set_option linter.unusedVariables false
set_option linter.unusedSimpArgs false

theorem mul_bd {x y X Y : Int} (hx : -X ≤ x ∧ x ≤ X) (hy : -Y ≤ y ∧ y ≤ Y) : -(X * Y) ≤ x * y ∧ x * y ≤ X * Y := by
  have h1 := Int.mul_nonneg (show 0 ≤ X - x by omega) (show 0 ≤ Y - y by omega)
  have h2 := Int.mul_nonneg (show 0 ≤ X + x by omega) (show 0 ≤ Y + y by omega)
  have h3 := Int.mul_nonneg (show 0 ≤ X - x by omega) (show 0 ≤ Y + y by omega)
  have h4 := Int.mul_nonneg (show 0 ≤ X + x by omega) (show 0 ≤ Y - y by omega)
  simp only [Int.sub_mul, Int.add_mul, Int.mul_sub, Int.mul_add] at h1 h2 h3 h4
  omega
/-- The square of a direction's length. -/
def nn (v : T3) : Int := v.1 * v.1 + v.2.1 * v.2.1 + v.2.2 * v.2.2
theorem sq_nn (a : Int) : 0 ≤ a * a := by
  rcases Int.le_total 0 a with h | h
  · exact Int.mul_nonneg h h
  · exact Int.mul_nonneg_of_nonpos_of_nonpos h h
theorem nn_bd {p : T3} (h : p ≠ zero3) : 4294967288 * 4294967288 ≤ nn (vtow p) ∧ nn (vtow p) < 4294967305 * 4294967305 := by
  have hn := near_bd h
  have hB := vtow_bd p
  have e : vT (vtow p) = nn (vtow p) := rfl
  unfold vlen at hn
  rw [e] at hn
  generalize vtow p = v at *
  have q0 : 0 ≤ nn v := by
    unfold nn
    have := sq_nn v.1; have := sq_nn v.2.1; have := sq_nn v.2.2
    omega
  by_cases hb : 85070591730234615865843651857942052864 ≤ nn v
  · rw [if_pos hb] at hn; omega
  · rw [if_neg hb] at hn
    obtain ⟨⟨r0, r1, r2⟩, -⟩ := sqN_root (x := nn v) q0 (by omega)
    generalize sqN (nn v) = r at *
    have s1 := sq_mono (a := 4294967288) (b := r) (by omega) (by omega)
    have s2 := sq_mono (a := r + 1) (b := 4294967305) (by omega) (by omega)
    omega
theorem nn_le (p : T3) : 0 ≤ nn (vtow p) ∧ nn (vtow p) < 4294967305 * 4294967305 := by
  have q0 : 0 ≤ nn (vtow p) := by
    unfold nn
    have := sq_nn (vtow p).1; have := sq_nn (vtow p).2.1; have := sq_nn (vtow p).2.2
    omega
  refine ⟨q0, ?_⟩
  by_cases h : p = zero3
  · subst h; decide +kernel
  · exact (nn_bd h).2
/-- The product of two directions' lengths. -/
theorem dot_bd {v w : T3} (hv : 0 ≤ nn v ∧ nn v < 4294967305 * 4294967305) (hw : 0 ≤ nn w ∧ nn w < 4294967305 * 4294967305) : -(4294967305 * 4294967305) < v.1 * w.1 + v.2.1 * w.2.1 + v.2.2 * w.2.2 ∧ v.1 * w.1 + v.2.1 * w.2.1 + v.2.2 * w.2.2 < 4294967305 * 4294967305 := by
  unfold nn at *
  have a1 := sq_nn (v.1 - w.1); have a2 := sq_nn (v.2.1 - w.2.1); have a3 := sq_nn (v.2.2 - w.2.2)
  have b1 := sq_nn (v.1 + w.1); have b2 := sq_nn (v.2.1 + w.2.1); have b3 := sq_nn (v.2.2 + w.2.2)
  have e : ∀ x y : Int, (x - y) * (x - y) = x * x - 2 * (x * y) + y * y := by intro x y; grind
  have e' : ∀ x y : Int, (x + y) * (x + y) = x * x + 2 * (x * y) + y * y := by intro x y; grind
  rw [e] at a1 a2 a3
  rw [e'] at b1 b2 b3
  omega
theorem vdot_bd (p q : T3) : -4294967317 ≤ vdot (vtow p) (vtow q) ∧ vdot (vtow p) (vtow q) ≤ 4294967314 := by
  obtain ⟨v1, v2, v3⟩ := vtow_B p
  obtain ⟨w1, w2, w3⟩ := vtow_B q
  have := dot_bd (nn_le p) (nn_le q)
  rw [vdot_small v1 v2 v3 w1 w2 w3]
  omega
theorem neg_q {a R : Int} (hR : 0 < R) : -a / R = -(a / R) ∨ -a / R = -(a / R) - 1 := by
  have d1 := Int.emod_add_mul_ediv a R
  have d2 := Int.emod_add_mul_ediv (-a) R
  have e1 := Int.emod_nonneg a (show R ≠ 0 by omega)
  have e2 := Int.emod_lt_of_pos a hR
  have e3 := Int.emod_nonneg (-a) (show R ≠ 0 by omega)
  have e4 := Int.emod_lt_of_pos (-a) hR
  generalize a / R = Q at *
  generalize -a / R = Q' at *
  have hs : R * (Q + Q') = -(a % R + -a % R) := by rw [Int.mul_add]; omega
  have a3 := Int.lt_of_mul_lt_mul_left (show R * (-2) < R * (Q + Q') by omega) (by omega)
  have a4 : Q + Q' < 1 := Int.lt_of_mul_lt_mul_left (show R * (Q + Q') < R * 1 by omega) (by omega)
  omega
def neg3 (r : T3) : T3 := (-r.1, -r.2.1, -r.2.2)
theorem vtow_neg (r : T3) (h : (-16384 ≤ r.1 ∧ r.1 ≤ 16384) ∧ (-16384 ≤ r.2.1 ∧ r.2.1 ≤ 16384) ∧ (-16384 ≤ r.2.2 ∧ r.2.2 ≤ 16384)) :
    ((vtow (neg3 r)).1 = -(vtow r).1 ∨ (vtow (neg3 r)).1 = -(vtow r).1 - 1) ∧ ((vtow (neg3 r)).2.1 = -(vtow r).2.1 ∨ (vtow (neg3 r)).2.1 = -(vtow r).2.1 - 1) ∧ ((vtow (neg3 r)).2.2 = -(vtow r).2.2 ∨ (vtow (neg3 r)).2.2 = -(vtow r).2.2 - 1) := by
  have hc : ∀ x : Int, -16384 ≤ x ∧ x ≤ 16384 → clip x = x ∧ clip (-x) = -x := by intro x hx; unfold clip; omega
  have c1 := hc _ h.1
  have c2 := hc _ h.2.1
  have c3 := hc _ h.2.2
  have er : vroot (neg3 r) = vroot r := by
    unfold vroot neg3
    simp only [c1, c2, c3, Int.neg_mul_neg]
  have hb := vroot_bd r
  unfold vtow
  rw [er]
  by_cases h0 : vroot r = 0
  · rw [if_pos h0, if_pos h0]; unfold zero3; simp
  · rw [if_neg h0, if_neg h0]
    unfold neg3
    simp only [c1, c2, c3, Int.neg_mul]
    exact ⟨neg_q (by omega), neg_q (by omega), neg_q (by omega)⟩
theorem turn_c {N x x' : Int} (hN : InB N) (h : x' = -x ∨ x' = -x - 1) : -(N * x / 4294967296) - 2 ≤ N * x' / 4294967296 := by
  unfold InB at hN
  rcases h with e | e
  · rw [e, Int.mul_neg]; omega
  · rw [e, Int.mul_sub, Int.mul_neg]; omega
theorem turn_dot (n r : T3) (h : (-16384 ≤ r.1 ∧ r.1 ≤ 16384) ∧ (-16384 ≤ r.2.1 ∧ r.2.1 ≤ 16384) ∧ (-16384 ≤ r.2.2 ∧ r.2.2 ≤ 16384)) (hc : vdot (vtow n) (vtow r) < 0) : vdot (vtow n) (vtow (neg3 r)) ≥ -16 := by
  obtain ⟨v1, v2, v3⟩ := vtow_B n
  obtain ⟨w1, w2, w3⟩ := vtow_B r
  obtain ⟨u1, u2, u3⟩ := vtow_B (neg3 r)
  obtain ⟨t1, t2, t3⟩ := vtow_neg r h
  rw [vdot_small v1 v2 v3 w1 w2 w3] at hc
  rw [vdot_small v1 v2 v3 u1 u2 u3]
  have := turn_c v1 t1
  have := turn_c v2 t2
  have := turn_c v3 t3
  omega
theorem most_c {x k M : Int} (hx : -M - 1 ≤ x ∧ x ≤ M) (hi : InI x) (hM : 0 ≤ M ∧ M ≤ 9223372036854775807) (hm : x < -M → M = 9223372036854775807) (hk : 0 ≤ k ∧ k ≤ 8589934656) : fabs (fmul x k) ≤ sumF [mulF [M, 8589934656], 2] := by
  have hf := fabs_val (fmul_I x k)
  have e : sumF [mulF [M, 8589934656], 2] = satAdd (fmul M 8589934656) 2 := sumF2 (fmul_I _ _)
  rw [hf, e]
  unfold fmul satAdd
  by_cases hp : 0 ≤ x
  · have h1 := Int.mul_le_mul hx.2 hk.2 hk.1 hM.1
    have h0 := Int.mul_nonneg hp hk.1
    generalize x * k = P at *
    unfold clampI
    repeat' split
    all_goals omega
  · by_cases hq : x < -M
    · have := hm hq
      subst this
      have h0 : x * k ≤ 0 := Int.mul_nonpos_of_nonpos_of_nonneg (by omega) hk.1
      generalize x * k = P at *
      unfold clampI
      repeat' split
      all_goals omega
    · have h1 := Int.mul_le_mul (show -x ≤ M by omega) hk.2 hk.1 hM.1
      have h0 := Int.mul_nonneg (show 0 ≤ -x by omega) hk.1
      rw [Int.neg_mul] at h1 h0
      generalize x * k = P at *
      unfold clampI
      repeat' split
      all_goals omega
theorem scale_most (c : T3) (hc : InV c) {k : Int} (hk : 0 ≤ k ∧ k ≤ 8589934656) : vmost (vscale c k) ≤ sumF [mulF [vmost c, 8589934656], 2] := by
  obtain ⟨m0, m1, b1, b2, b3⟩ := vmost_bd hc
  have hm : ∀ x, InI x → fabs x ≤ vmost c → x < -vmost c → vmost c = 9223372036854775807 := by
    intro x hx hf hl
    rw [fabs_val hx] at hf
    unfold InI at hx
    split at hf <;> (try split at hf) <;> omega
  have f1 : fabs c.1 ≤ vmost c := by unfold vmost; omega
  have f2 : fabs c.2.1 ≤ vmost c := by unfold vmost; omega
  have f3 : fabs c.2.2 ≤ vmost c := by unfold vmost; omega
  have g1 := most_c b1 hc.1 ⟨m0, m1⟩ (hm _ hc.1 f1) hk
  have g2 := most_c b2 hc.2.1 ⟨m0, m1⟩ (hm _ hc.2.1 f2) hk
  have g3 := most_c b3 hc.2.2 ⟨m0, m1⟩ (hm _ hc.2.2 f3) hk
  generalize sumF [mulF [vmost c, 8589934656], 2] = T at *
  unfold vscale vmul
  show max (max _ _) _ ≤ T
  simp only
  omega
theorem along_v (v g : T3) (hv : InV v) : s_surface_along v g = ((0, 0, 0), (0, 0, 0), true) ∨ (s_surface_along v g = (quant v, g, false) ∧ mayB (quant v) = true) := by
  unfold s_surface_along
  simp only [lt]
  have e2 : (quantT v).2 = quantE v := rfl
  have e1 : (quantT v).1 = quant v := rfl
  rw [e1, e2]
  unfold quantE
  by_cases h : vmost v = 0
  · left
    rw [if_pos h]
    rfl
  · right
    rw [if_neg h]
    exact ⟨rfl, P.quant_may hv h⟩
theorem satSub_v {a b : Int} (h : -9223372036854775808 ≤ a - b ∧ a - b ≤ 9223372036854775807) : satSub a b = a - b := clampI_v h
theorem diffuse_v (color n : T3) (x : Int) (hc : InV color) (hx : InU32 x) : s_surface_diffuse color (vtow n) x = ((0, 0, 0), (0, 0, 0), true) ∨
    (∃ r k, s_surface_diffuse color (vtow n) x = (r, vscale color k, false) ∧ mayB r = true ∧ vdot (vtow n) (vtow r) ≥ -16 ∧ 0 ≤ k ∧ k ≤ 8589934656) := by
  unfold s_surface_diffuse
  simp only [lt]
  have hm := pdir_may hx
  have hb := may_I hm
  have hd := vdot_bd n (pdir x)
  have ht := turn_dot n (pdir x) hb
  generalize pdir x = r at *
  generalize hcc : vdot (vtow n) (vtow r) = c at *
  by_cases h0 : c < 0
  · right
    have hf : fneg c = -c := by unfold fneg; rw [satSub_v (by omega)]; omega
    rw [if_pos h0, hf, if_neg (by omega)]
    refine ⟨neg3 r, sumF [-c, -c], ?_, ?_, ht h0, ?_⟩
    · rw [wr_id (n := 0 - r.1) (by unfold InI; omega), wr_id (n := 0 - r.2.1) (by unfold InI; omega), wr_id (n := 0 - r.2.2) (by unfold InI; omega)]
      unfold neg3
      simp only [Int.zero_sub]
    · unfold mayB neg3 at *
      simp only [Bool.and_eq_true, decide_eq_true_eq] at *
      omega
    · rw [sumF2 (by unfold InI; omega)]
      unfold satAdd
      rw [clampI_v (by omega)]
      omega
  · rw [if_neg h0]
    by_cases h1 : c = 0
    · rw [if_pos h1]; exact .inl rfl
    · right
      rw [if_neg h1]
      refine ⟨r, sumF [c, c], rfl, hm, by omega, ?_⟩
      rw [sumF2 (by unfold InI; omega)]
      unfold satAdd
      rw [clampI_v (by omega)]
      omega
theorem scatter_v (m : Int × T3 × Int) (color n d : T3) (draw : Int × Int) (hc : InV color) (hx : InU32 draw.1) : s_surface_Scatter m color (vtow n) d draw = ((0, 0, 0), (0, 0, 0), true) ∨
    (m.1 = 0 ∧ ∃ r k, s_surface_Scatter m color (vtow n) d draw = (r, vscale color k, false) ∧ mayB r = true ∧ vdot (vtow n) (vtow r) ≥ -16 ∧ 0 ≤ k ∧ k ≤ 8589934656) ∨
    (¬ m.1 = 0 ∧ ∃ r, s_surface_Scatter m color (vtow n) d draw = (r, color, false) ∧ mayB r = true) := by
  unfold s_surface_Scatter
  simp only [lt, eta3]
  have al : ∀ v, InV v → s_surface_along v color = ((0, 0, 0), (0, 0, 0), true) ∨ ∃ r, s_surface_along v color = (r, color, false) ∧ mayB r = true := by
    intro v hv
    rcases along_v v color hv with h | h
    · exact .inl h
    · exact .inr ⟨_, h⟩
  have hmI : InV (s_surface_Mirror (vtow n) d) := vsub_I _ _
  by_cases h0 : m.1 = 0
  · rw [if_pos h0]
    rcases diffuse_v color n draw.1 hc hx with h | h
    · exact .inl h
    · exact .inr (.inl ⟨h0, h⟩)
  · rw [if_neg h0]
    have fin : ∀ v, InV v → s_surface_along v color = ((0, 0, 0), (0, 0, 0), true) ∨ (m.1 = 0 ∧ ∃ r k, s_surface_along v color = (r, vscale color k, false) ∧ mayB r = true ∧ vdot (vtow n) (vtow r) ≥ -16 ∧ 0 ≤ k ∧ k ≤ 8589934656) ∨ (¬ m.1 = 0 ∧ ∃ r, s_surface_along v color = (r, color, false) ∧ mayB r = true) := by
      intro v hv
      rcases al v hv with h | h
      · exact .inl h
      · exact .inr (.inr ⟨h0, h⟩)
    split
    · split
      · exact .inl rfl
      · exact fin _ (sumT_I _)
    · split
      · split
        · exact fin _ (vtow_I _)
        · exact fin _ hmI
      · split
        · exact fin _ hmI
        · exact .inl rfl
theorem SurfaceSide_true (h : (Int × T3 × Int) × T3 × T3 × T3 × (Int × Int)) (n : T3) (hc : InV h.2.1) (hx : InU32 h.2.2.2.2.1) : s_umbralaw26_SurfaceSide h n = true := by
  unfold s_umbralaw26_SurfaceSide
  simp only [lt, works26, if_true]
  have hs := scatter_v h.1 h.2.1 n h.2.2.2.1 h.2.2.2.2 hc hx
  generalize s_surface_Scatter h.1 h.2.1 (vtow n) h.2.2.2.1 h.2.2.2.2 = r at *
  rcases hs with e | ⟨h0, q, k, e, hm, hd, hk⟩ | ⟨h0, q, e, hm⟩
  · subst e
    simp
  · subst e
    simp only
    rw [if_neg (by simp), if_pos hm, if_pos h0, if_pos hd, if_pos (scale_most _ hc hk)]
  · subst e
    simp only
    rw [if_neg (by simp), if_pos hm, if_neg h0]
    simp
end Go.Proofs.Ytjhnkpapbjkbcaa

namespace Go.Proofs.Ytjhnkpapbjkbcaa
open Go.RowKit Go.Sort
set_option linter.unusedVariables false
set_option linter.unusedSimpArgs false

theorem fmul_wide {a b : Int} (ha : InB a) (hb : -17179869184 ≤ b ∧ b ≤ 17179869184) : fmul a b = a * b / 4294967296 := by
  have h := mul_bd (X := 4294967296) (Y := 17179869184) (by unfold InB at ha; omega) (by omega) (x := a) (y := b)
  unfold fmul
  exact clampI_v (by omega)
theorem vdot_wide {a b : T3} (h1 : InB a.1) (h2 : InB a.2.1) (h3 : InB a.2.2) (k1 : -17179869184 ≤ b.1 ∧ b.1 ≤ 17179869184) (k2 : -17179869184 ≤ b.2.1 ∧ b.2.1 ≤ 17179869184) (k3 : -17179869184 ≤ b.2.2 ∧ b.2.2 ≤ 17179869184) : vdot a b = a.1 * b.1 / 4294967296 + a.2.1 * b.2.1 / 4294967296 + a.2.2 * b.2.2 / 4294967296 := by
  have b1 := mul_bd (X := 4294967296) (Y := 17179869184) (by unfold InB at h1; omega) (by omega) (x := a.1) (y := b.1)
  have b2 := mul_bd (X := 4294967296) (Y := 17179869184) (by unfold InB at h2; omega) (by omega) (x := a.2.1) (y := b.2.1)
  have b3 := mul_bd (X := 4294967296) (Y := 17179869184) (by unfold InB at h3; omega) (by omega) (x := a.2.2) (y := b.2.2)
  unfold vdot vmul
  simp only
  rw [fmul_wide h1 k1, fmul_wide h2 k2, fmul_wide h3 k3]
  unfold satAdd
  rw [clampI_v (x := a.1 * b.1 / 4294967296 + a.2.1 * b.2.1 / 4294967296) (by omega), clampI_v (by omega)]
theorem ring1 (o v1 v2 v3 w1 w2 w3 a f1 f2 f3 : Int) :
    o * (v1 * (w1 - f1) + v2 * (w2 - f2) + v3 * (w3 - f3)) + o * (a * o) =
      o * ((v1 * w1 + v2 * w2 + v3 * w3) - o * a) * 1 - 2 * (a * ((v1 * v1 + v2 * v2 + v3 * v3) - o * o)) - 0 + (v1 * (v1 * (2 * a) - o * f1) + v2 * (v2 * (2 * a) - o * f2) + v3 * (v3 * (2 * a) - o * f3)) + (o * (o * a) - 2 * (a * (o * o)) + o * (a * o)) := by grind
theorem ring2 (o v1 v2 v3 w1 w2 w3 a f1 f2 f3 : Int) :
    o * (o * ((w1 - f1) * (w1 - f1) + (w2 - f2) * (w2 - f2) + (w3 - f3) * (w3 - f3))) =
      o * (o * (w1 * w1 + w2 * w2 + w3 * w3)) - 4 * (o * (a * ((v1 * w1 + v2 * w2 + v3 * w3) - o * a))) + 4 * (a * a * ((v1 * v1 + v2 * v2 + v3 * v3) - o * o)) +
      2 * ((o * w1 - 2 * (a * v1)) * (v1 * (2 * a) - o * f1) + (o * w2 - 2 * (a * v2)) * (v2 * (2 * a) - o * f2) + (o * w3 - 2 * (a * v3)) * (v3 * (2 * a) - o * f3)) +
      ((v1 * (2 * a) - o * f1) * (v1 * (2 * a) - o * f1) + (v2 * (2 * a) - o * f2) * (v2 * (2 * a) - o * f2) + (v3 * (2 * a) - o * f3) * (v3 * (2 * a) - o * f3)) := by grind
theorem twice_core (v1 v2 v3 w1 w2 w3 a f1 f2 f3 : Int) (hv1 : InB v1) (hv2 : InB v2) (hv3 : InB v3) (hw1 : InB w1) (hw2 : InB w2) (hw3 : InB w3)
    (hN : 4294967288 * 4294967288 ≤ v1 * v1 + v2 * v2 + v3 * v3 ∧ v1 * v1 + v2 * v2 + v3 * v3 < 4294967305 * 4294967305)
    (hW : 4294967288 * 4294967288 ≤ w1 * w1 + w2 * w2 + w3 * w3 ∧ w1 * w1 + w2 * w2 + w3 * w3 < 4294967305 * 4294967305)
    (ha : 4294967296 * a ≤ v1 * w1 + v2 * w2 + v3 * w3 ∧ v1 * w1 + v2 * w2 + v3 * w3 ≤ 4294967296 * a + 3 * 4294967296) (ha2 : -4294967317 ≤ a ∧ a ≤ 4294967317)
    (hf1 : 0 ≤ v1 * (2 * a) - 4294967296 * f1 ∧ v1 * (2 * a) - 4294967296 * f1 ≤ 4294967296) (hf2 : 0 ≤ v2 * (2 * a) - 4294967296 * f2 ∧ v2 * (2 * a) - 4294967296 * f2 ≤ 4294967296) (hf3 : 0 ≤ v3 * (2 * a) - 4294967296 * f3 ∧ v3 * (2 * a) - 4294967296 * f3 ≤ 4294967296) :
    (-(45 * 4294967296) ≤ v1 * (w1 - f1) + v2 * (w2 - f2) + v3 * (w3 - f3) + a * 4294967296 ∧ v1 * (w1 - f1) + v2 * (w2 - f2) + v3 * (w3 - f3) + a * 4294967296 ≤ 45 * 4294967296) ∧
    (4294967296 * 4294967296 - 130 * 4294967296 ≤ (w1 - f1) * (w1 - f1) + (w2 - f2) * (w2 - f2) + (w3 - f3) * (w3 - f3) ∧ (w1 - f1) * (w1 - f1) + (w2 - f2) * (w2 - f2) + (w3 - f3) * (w3 - f3) ≤ 4294967296 * 4294967296 + 130 * 4294967296) := by
  have R1 := ring1 4294967296 v1 v2 v3 w1 w2 w3 a f1 f2 f3
  have R2 := ring2 4294967296 v1 v2 v3 w1 w2 w3 a f1 f2 f3
  unfold InB at *
  have p1 := mul_bd (x := a) (y := 4294967296 * w1 * 0 + v1) (X := 4294967317) (Y := 4294967296) (by omega) (by omega)
  have q1 := mul_bd (x := a) (y := v1) (X := 4294967317) (Y := 4294967296) (by omega) (by omega)
  have q2 := mul_bd (x := a) (y := v2) (X := 4294967317) (Y := 4294967296) (by omega) (by omega)
  have q3 := mul_bd (x := a) (y := v3) (X := 4294967317) (Y := 4294967296) (by omega) (by omega)
  clear p1
  generalize v1 * v1 + v2 * v2 + v3 * v3 = N at *
  generalize v1 * w1 + v2 * w2 + v3 * w3 = D at *
  generalize w1 * w1 + w2 * w2 + w3 * w3 = W at *
  generalize v1 * (2 * a) - 4294967296 * f1 = s1 at *
  generalize v2 * (2 * a) - 4294967296 * f2 = s2 at *
  generalize v3 * (2 * a) - 4294967296 * f3 = s3 at *
  have x1 := mul_bd (x := v1) (y := s1) (X := 4294967296) (Y := 4294967296) (by omega) (by omega)
  have x2 := mul_bd (x := v2) (y := s2) (X := 4294967296) (Y := 4294967296) (by omega) (by omega)
  have x3 := mul_bd (x := v3) (y := s3) (X := 4294967296) (Y := 4294967296) (by omega) (by omega)
  have y1 := mul_bd (x := a) (y := N - 4294967296 * 4294967296) (X := 4294967317) (Y := 19 * 4294967296) (by omega) (by omega)
  have y2 := mul_bd (x := a) (y := D - 4294967296 * a) (X := 4294967317) (Y := 3 * 4294967296) (by omega) (by omega)
  have y3 := mul_bd (x := a) (y := a) (X := 4294967317) (Y := 4294967317) (by omega) (by omega)
  have y4 := mul_bd (x := a * a) (y := N - 4294967296 * 4294967296) (X := 4294967317 * 4294967317) (Y := 19 * 4294967296) (by omega) (by omega)
  have t1 := mul_bd (x := 4294967296 * w1 - 2 * (a * v1)) (y := s1) (X := 3 * (4294967296 * 4294967296) + 42 * 4294967296) (Y := 4294967296) (by omega) (by omega)
  have t2 := mul_bd (x := 4294967296 * w2 - 2 * (a * v2)) (y := s2) (X := 3 * (4294967296 * 4294967296) + 42 * 4294967296) (Y := 4294967296) (by omega) (by omega)
  have t3 := mul_bd (x := 4294967296 * w3 - 2 * (a * v3)) (y := s3) (X := 3 * (4294967296 * 4294967296) + 42 * 4294967296) (Y := 4294967296) (by omega) (by omega)
  have z1 := mul_bd (x := s1) (y := s1) (X := 4294967296) (Y := 4294967296) (by omega) (by omega)
  have z2 := mul_bd (x := s2) (y := s2) (X := 4294967296) (Y := 4294967296) (by omega) (by omega)
  have z3 := mul_bd (x := s3) (y := s3) (X := 4294967296) (Y := 4294967296) (by omega) (by omega)
  generalize v1 * (w1 - f1) + v2 * (w2 - f2) + v3 * (w3 - f3) = VM at *
  generalize (w1 - f1) * (w1 - f1) + (w2 - f2) * (w2 - f2) + (w3 - f3) * (w3 - f3) = M at *
  generalize v1 * s1 = X1 at *
  generalize v2 * s2 = X2 at *
  generalize v3 * s3 = X3 at *
  generalize a * (N - 4294967296 * 4294967296) = Y1 at *
  generalize a * (D - 4294967296 * a) = Y2 at *
  generalize a * a * (N - 4294967296 * 4294967296) = Y4 at *
  generalize (4294967296 * w1 - 2 * (a * v1)) * s1 = T1 at *
  generalize (4294967296 * w2 - 2 * (a * v2)) * s2 = T2 at *
  generalize (4294967296 * w3 - 2 * (a * v3)) * s3 = T3 at *
  generalize s1 * s1 = Z1 at *
  generalize s2 * s2 = Z2 at *
  generalize s3 * s3 = Z3 at *
  clear q1 q2 q3 y3
  constructor
  · omega
  · omega
theorem len_near {v : T3} (h : 4294967296 * 4294967296 - 130 * 4294967296 ≤ nn v ∧ nn v ≤ 4294967296 * 4294967296 + 130 * 4294967296) : 4294967296 - 67 ≤ vlen v ∧ vlen v ≤ 4294967296 + 67 := by
  have e : vT v = nn v := rfl
  unfold vlen
  rw [e, if_neg (by omega)]
  obtain ⟨⟨r0, r1, r2⟩, -⟩ := sqN_root (x := nn v) (by omega) (by omega)
  generalize sqN (nn v) = r at *
  constructor
  · rcases Int.lt_or_le r (4294967296 - 67) with g | g
    · have := sq_mono (a := r + 1) (b := 4294967296 - 67) (by omega) (by omega)
      omega
    · exact g
  · rcases Int.lt_or_le (4294967296 + 67) r with g | g
    · have := sq_mono (a := 4294967296 + 67) (b := r) (by omega) (by omega)
      omega
    · exact g
theorem back_c {v a c : Int} (hv : InB v) (he : -48 ≤ a + c ∧ a + c ≤ 48) : -100 ≤ v * (2 * a) / 4294967296 + v * (2 * c) / 4294967296 ∧ v * (2 * a) / 4294967296 + v * (2 * c) / 4294967296 ≤ 100 := by
  have h := mul_bd (x := v) (y := a + c) (X := 4294967296) (Y := 48) (by unfold InB at hv; omega) (by omega)
  have e : v * (2 * a) + v * (2 * c) = 2 * (v * (a + c)) := by grind
  generalize v * (a + c) = E at *
  omega
theorem fabs_le {x B : Int} (h : -B ≤ x ∧ x ≤ B) (hB : B ≤ 1000000000000) : fabs x ≤ B := by
  rw [fabs_val (by unfold InI; omega)]
  split <;> (try split) <;> omega
theorem twice_v (n d : T3) (hn : n ≠ zero3) (hd : d ≠ zero3) : vmost (vsub (vsub (s_surface_Mirror (vtow n) d) (vscale (vtow n) (sumF [vdot (vtow n) (s_surface_Mirror (vtow n) d), vdot (vtow n) (s_surface_Mirror (vtow n) d)]))) (vtow d)) ≤ 256 ∧ fabs (satSub (vlen (s_surface_Mirror (vtow n) d)) 4294967296) ≤ 256 := by
  obtain ⟨v1, v2, v3⟩ := vtow_B n
  obtain ⟨w1, w2, w3⟩ := vtow_B d
  have hN := nn_bd hn
  have hW := nn_bd hd
  have hA := vdot_bd n d
  have em : s_surface_Mirror (vtow n) d = vsub (vtow d) (vscale (vtow n) (sumF [vdot (vtow n) (vtow d), vdot (vtow n) (vtow d)])) := rfl
  rw [em]
  clear em
  generalize vtow n = v at *
  generalize vtow d = w at *
  have hD := vdot_small v1 v2 v3 w1 w2 w3
  generalize vdot v w = a at *
  have e1 : sumF [a, a] = 2 * a := by
    rw [sumF2 (by unfold InI; omega)]
    unfold satAdd
    rw [clampI_v (by omega)]
    omega
  rw [e1]
  have hm : vsub w (vscale v (2 * a)) = (w.1 - v.1 * (2 * a) / 4294967296, w.2.1 - v.2.1 * (2 * a) / 4294967296, w.2.2 - v.2.2 * (2 * a) / 4294967296) := by
    have b1 := mul_bd (x := v.1) (y := 2 * a) (X := 4294967296) (Y := 17179869184) (by unfold InB at v1; omega) (by omega)
    have b2 := mul_bd (x := v.2.1) (y := 2 * a) (X := 4294967296) (Y := 17179869184) (by unfold InB at v2; omega) (by omega)
    have b3 := mul_bd (x := v.2.2) (y := 2 * a) (X := 4294967296) (Y := 17179869184) (by unfold InB at v3; omega) (by omega)
    unfold InB at w1 w2 w3
    unfold vsub vscale vmul
    simp only
    rw [fmul_wide v1 (by omega), fmul_wide v2 (by omega), fmul_wide v3 (by omega), satSub_v (by omega), satSub_v (by omega), satSub_v (by omega)]
  have g1 : 0 ≤ v.1 * (2 * a) - 4294967296 * (v.1 * (2 * a) / 4294967296) ∧ v.1 * (2 * a) - 4294967296 * (v.1 * (2 * a) / 4294967296) ≤ 4294967296 := by omega
  have g2 : 0 ≤ v.2.1 * (2 * a) - 4294967296 * (v.2.1 * (2 * a) / 4294967296) ∧ v.2.1 * (2 * a) - 4294967296 * (v.2.1 * (2 * a) / 4294967296) ≤ 4294967296 := by omega
  have g3 : 0 ≤ v.2.2 * (2 * a) - 4294967296 * (v.2.2 * (2 * a) / 4294967296) ∧ v.2.2 * (2 * a) - 4294967296 * (v.2.2 * (2 * a) / 4294967296) ≤ 4294967296 := by omega
  have core := twice_core v.1 v.2.1 v.2.2 w.1 w.2.1 w.2.2 a _ _ _ v1 v2 v3 w1 w2 w3 hN hW (by omega) (by omega) g1 g2 g3
  obtain ⟨c1, c2⟩ := core
  have bm : ∀ x y : Int, InB x → InB y → (-8589934700 ≤ 2 * a ∧ 2 * a ≤ 8589934700) → -17179869184 ≤ y - x * (2 * a) / 4294967296 ∧ y - x * (2 * a) / 4294967296 ≤ 17179869184 := by
    intro x y hx hy hk
    have := mul_bd (x := x) (y := 2 * a) (X := 4294967296) (Y := 8589934700) (by unfold InB at hx; omega) (by omega)
    unfold InB at hy
    omega
  have m1 := bm v.1 w.1 v1 w1 (by omega)
  have m2 := bm v.2.1 w.2.1 v2 w2 (by omega)
  have m3 := bm v.2.2 w.2.2 v3 w3 (by omega)
  rw [hm]
  have hl := len_near (v := (w.1 - v.1 * (2 * a) / 4294967296, w.2.1 - v.2.1 * (2 * a) / 4294967296, w.2.2 - v.2.2 * (2 * a) / 4294967296)) c2
  have hc := vdot_wide (b := (w.1 - v.1 * (2 * a) / 4294967296, w.2.1 - v.2.1 * (2 * a) / 4294967296, w.2.2 - v.2.2 * (2 * a) / 4294967296)) v1 v2 v3 m1 m2 m3
  generalize vdot v (w.1 - v.1 * (2 * a) / 4294967296, w.2.1 - v.2.1 * (2 * a) / 4294967296, w.2.2 - v.2.2 * (2 * a) / 4294967296) = c at *
  simp only at hc
  have he : -48 ≤ a + c ∧ a + c ≤ 48 := by
    generalize v.1 * (w.1 - v.1 * (2 * a) / 4294967296) = A1 at *
    generalize v.2.1 * (w.2.1 - v.2.1 * (2 * a) / 4294967296) = A2 at *
    generalize v.2.2 * (w.2.2 - v.2.2 * (2 * a) / 4294967296) = A3 at *
    omega
  have e2 : sumF [c, c] = 2 * c := by
    rw [sumF2 (by unfold InI; omega)]
    unfold satAdd
    rw [clampI_v (by omega)]
    omega
  have k1 := back_c v1 he
  have k2 := back_c v2 he
  have k3 := back_c v3 he
  constructor
  · rw [e2]
    have b1 := mul_bd (x := v.1) (y := 2 * c) (X := 4294967296) (Y := 17179869184) (by unfold InB at v1; omega) (by omega)
    have b2 := mul_bd (x := v.2.1) (y := 2 * c) (X := 4294967296) (Y := 17179869184) (by unfold InB at v2; omega) (by omega)
    have b3 := mul_bd (x := v.2.2) (y := 2 * c) (X := 4294967296) (Y := 17179869184) (by unfold InB at v3; omega) (by omega)
    unfold InB at w1 w2 w3
    unfold vsub vscale vmul vmost
    simp only
    rw [fmul_wide v1 (by omega), fmul_wide v2 (by omega), fmul_wide v3 (by omega), satSub_v (a := w.1 - v.1 * (2 * a) / 4294967296) (by omega), satSub_v (a := w.2.1 - v.2.1 * (2 * a) / 4294967296) (by omega), satSub_v (a := w.2.2 - v.2.2 * (2 * a) / 4294967296) (by omega)]
    rw [satSub_v (by omega), satSub_v (by omega), satSub_v (by omega)]
    have f1 := fabs_le (x := w.1 - v.1 * (2 * a) / 4294967296 - v.1 * (2 * c) / 4294967296 - w.1) (B := 256) (by omega) (by omega)
    have f2 := fabs_le (x := w.2.1 - v.2.1 * (2 * a) / 4294967296 - v.2.1 * (2 * c) / 4294967296 - w.2.1) (B := 256) (by omega) (by omega)
    have f3 := fabs_le (x := w.2.2 - v.2.2 * (2 * a) / 4294967296 - v.2.2 * (2 * c) / 4294967296 - w.2.2) (B := 256) (by omega) (by omega)
    omega
  · rw [satSub_v (by omega)]
    exact fabs_le (by omega) (by omega)
theorem may_ne {p : T3} (h : mayB p = true) : p ≠ zero3 := by
  intro e
  subst e
  revert h
  decide
theorem SurfaceTwice_true (n d : T3) : s_umbralaw26_SurfaceTwice n d = true := by
  unfold s_umbralaw26_SurfaceTwice
  simp only [lt, works26, if_true]
  by_cases h1 : mayB n = true
  · rw [if_pos h1]
    by_cases h2 : mayB d = true
    · rw [if_pos h2]
      obtain ⟨a, b⟩ := twice_v n d (may_ne h1) (may_ne h2)
      rw [if_pos a, if_pos b]
    · rw [if_neg h2]
  · rw [if_neg h1]
end Go.Proofs.Ytjhnkpapbjkbcaa

namespace Go.Proofs.Ytjhnkpapbjkbcaa
open Go.RowKit Go.Sort
set_option linter.unusedVariables false
set_option linter.unusedSimpArgs false

theorem SurfaceSide_law (h0_ : (Int × (Int × Int × Int) × Int) × (Int × Int × Int) × (Int × Int × Int) × (Int × Int × Int) × (Int × Int)) (n : Int × Int × Int) (h_h0_ : ((InI h0_.1.1 ∧ InV h0_.1.2.1 ∧ InI h0_.1.2.2) ∧ InV h0_.2.1 ∧ InV h0_.2.2.1 ∧ InV h0_.2.2.2.1 ∧ (InU32 h0_.2.2.2.2.1 ∧ InU32 h0_.2.2.2.2.2))) (h_n : InV n) : s_umbralaw26_SurfaceSide h0_ n = true := SurfaceSide_true h0_ n h_h0_.2.1 h_h0_.2.2.2.2.1

theorem lawSurfaceSide (ns0 : List Int) (h0 : Al2 Fits [.i64, .i64, .i64, .i64, .i64, .i64, .i64, .i64, .i64, .i64, .i64, .i64, .i64, .i64, .u32, .u32] ns0) (ns1 : List Int) (h1 : Al2 Fits [.i64, .i64, .i64] ns1) (w : World) : Calls Try.prog 8 #[.agg (vals [.i64, .i64, .i64, .i64, .i64, .i64, .i64, .i64, .i64, .i64, .i64, .i64, .i64, .i64, .u32, .u32] ns0).toArray, .agg (vals [.i64, .i64, .i64] ns1).toArray] w (Ret (.bool true) w) := by
  obtain ⟨b0_0, l0_0, rfl, f0_0, h0⟩ := al2_cons h0
  obtain ⟨b0_1, l0_1, rfl, f0_1, h0⟩ := al2_cons h0
  obtain ⟨b0_2, l0_2, rfl, f0_2, h0⟩ := al2_cons h0
  obtain ⟨b0_3, l0_3, rfl, f0_3, h0⟩ := al2_cons h0
  obtain ⟨b0_4, l0_4, rfl, f0_4, h0⟩ := al2_cons h0
  obtain ⟨b0_5, l0_5, rfl, f0_5, h0⟩ := al2_cons h0
  obtain ⟨b0_6, l0_6, rfl, f0_6, h0⟩ := al2_cons h0
  obtain ⟨b0_7, l0_7, rfl, f0_7, h0⟩ := al2_cons h0
  obtain ⟨b0_8, l0_8, rfl, f0_8, h0⟩ := al2_cons h0
  obtain ⟨b0_9, l0_9, rfl, f0_9, h0⟩ := al2_cons h0
  obtain ⟨b0_10, l0_10, rfl, f0_10, h0⟩ := al2_cons h0
  obtain ⟨b0_11, l0_11, rfl, f0_11, h0⟩ := al2_cons h0
  obtain ⟨b0_12, l0_12, rfl, f0_12, h0⟩ := al2_cons h0
  obtain ⟨b0_13, l0_13, rfl, f0_13, h0⟩ := al2_cons h0
  obtain ⟨b0_14, l0_14, rfl, f0_14, h0⟩ := al2_cons h0
  obtain ⟨b0_15, l0_15, rfl, f0_15, h0⟩ := al2_cons h0
  obtain rfl := al2_nil h0
  obtain ⟨b1_0, l1_0, rfl, f1_0, h1⟩ := al2_cons h1
  obtain ⟨b1_1, l1_1, rfl, f1_1, h1⟩ := al2_cons h1
  obtain ⟨b1_2, l1_2, rfl, f1_2, h1⟩ := al2_cons h1
  obtain rfl := al2_nil h1
  have hw := w_umbralaw26_SurfaceSide ((b0_0, (b0_1, b0_2, b0_3), b0_4), (b0_5, b0_6, b0_7), (b0_8, b0_9, b0_10), (b0_11, b0_12, b0_13), (b0_14, b0_15)) (b1_0, b1_1, b1_2) ⟨⟨fit_i64 f0_0, ⟨fit_i64 f0_1, fit_i64 f0_2, fit_i64 f0_3⟩, fit_i64 f0_4⟩, ⟨fit_i64 f0_5, fit_i64 f0_6, fit_i64 f0_7⟩, ⟨fit_i64 f0_8, fit_i64 f0_9, fit_i64 f0_10⟩, ⟨fit_i64 f0_11, fit_i64 f0_12, fit_i64 f0_13⟩, ⟨fit_u32 f0_14, fit_u32 f0_15⟩⟩ ⟨fit_i64 f1_0, fit_i64 f1_1, fit_i64 f1_2⟩ w
  rw [SurfaceSide_law ((b0_0, (b0_1, b0_2, b0_3), b0_4), (b0_5, b0_6, b0_7), (b0_8, b0_9, b0_10), (b0_11, b0_12, b0_13), (b0_14, b0_15)) (b1_0, b1_1, b1_2) ⟨⟨fit_i64 f0_0, ⟨fit_i64 f0_1, fit_i64 f0_2, fit_i64 f0_3⟩, fit_i64 f0_4⟩, ⟨fit_i64 f0_5, fit_i64 f0_6, fit_i64 f0_7⟩, ⟨fit_i64 f0_8, fit_i64 f0_9, fit_i64 f0_10⟩, ⟨fit_i64 f0_11, fit_i64 f0_12, fit_i64 f0_13⟩, ⟨fit_u32 f0_14, fit_u32 f0_15⟩⟩ ⟨fit_i64 f1_0, fit_i64 f1_1, fit_i64 f1_2⟩] at hw
  exact hw

theorem lawSurfaceTwice (ns0 : List Int) (h0 : Al2 Fits [.i64, .i64, .i64] ns0) (ns1 : List Int) (h1 : Al2 Fits [.i64, .i64, .i64] ns1) (w : World) : Calls Try.prog 4 #[.agg (vals [.i64, .i64, .i64] ns0).toArray, .agg (vals [.i64, .i64, .i64] ns1).toArray] w (Ret (.bool true) w) := by
  obtain ⟨b0_0, l0_0, rfl, f0_0, h0⟩ := al2_cons h0
  obtain ⟨b0_1, l0_1, rfl, f0_1, h0⟩ := al2_cons h0
  obtain ⟨b0_2, l0_2, rfl, f0_2, h0⟩ := al2_cons h0
  obtain rfl := al2_nil h0
  obtain ⟨b1_0, l1_0, rfl, f1_0, h1⟩ := al2_cons h1
  obtain ⟨b1_1, l1_1, rfl, f1_1, h1⟩ := al2_cons h1
  obtain ⟨b1_2, l1_2, rfl, f1_2, h1⟩ := al2_cons h1
  obtain rfl := al2_nil h1
  have hw := w_umbralaw26_SurfaceTwice (b0_0, b0_1, b0_2) (b1_0, b1_1, b1_2) ⟨fit_i64 f0_0, fit_i64 f0_1, fit_i64 f0_2⟩ ⟨fit_i64 f1_0, fit_i64 f1_1, fit_i64 f1_2⟩ w
  rw [SurfaceTwice_true (b0_0, b0_1, b0_2) (b1_0, b1_1, b1_2)] at hw
  exact hw

end Go.Proofs.Ytjhnkpapbjkbcaa
