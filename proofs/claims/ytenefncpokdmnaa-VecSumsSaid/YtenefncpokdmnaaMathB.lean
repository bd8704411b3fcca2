/- Plain numbers, second part: signs, products, order, worlds below. -/
import Derived.Test.YtenefncpokdmnaaMath
namespace Go.Proofs.Ytenefncpokdmnaa
open Go.RowKit
set_option linter.unusedVariables false
set_option linter.unusedSimpArgs false

theorem or_zero {a b : Int} (ha : InU a) (hb : InU b) (h : a = 0 ∧ b = 0) : (bits BinOp.or IntKind.u64 a b == 0) = true := by
  obtain ⟨rfl, rfl⟩ := h; decide
theorem or_not_zero {a b : Int} (ha : InU a) (hb : InU b) (h : ¬ (a = 0 ∧ b = 0)) : (bits BinOp.or IntKind.u64 a b == 0) = false := by
  obtain ⟨ha0, ha1⟩ := ha
  obtain ⟨hb0, hb1⟩ := hb
  rw [u64_or a b ha0 ha1 hb0 hb1]
  rw [beq_eq_false_iff_ne]
  intro h2
  have h3 : a.toNat ||| b.toNat = 0 := by omega
  rw [Nat.or_eq_zero_iff] at h3
  omega

theorem sg_pos_in {x : Int} (h : InU2 x) (hx : x < 170141183460469231731687303715884105728) : wrap128 x = x ∧ 0 ≤ wHi (wrap128 x) ∧ InWb x = true := by
  have h1 : InW x := by unfold InU2 InW at *; omega
  rw [wrap128_in h1]
  exact ⟨rfl, by unfold InU2 wHi at *; omega, InWb_true h1⟩
theorem sg_pos_out {x : Int} (h : InU2 x) (hx : ¬ x < 170141183460469231731687303715884105728) : wHi (wrap128 x) < 0 ∧ InWb x = false ∧ ¬ (wHi x = 0 ∧ wLo x = 0) := by
  refine ⟨?_, InWb_false (by unfold InW; omega), ?_⟩
  · unfold InU2 wHi wrap128 at *; omega
  · intro h2
    have := w_split x
    rw [h2.1, h2.2] at this
    omega
theorem sg_neg_in {x : Int} (h0 : 0 < x) (hx : x ≤ 170141183460469231731687303715884105728) : wHi (wrap128 (-x)) < 0 ∧ InWb (-x) = true := by
  have h1 : InW (-x) := by unfold InW at *; omega
  rw [wrap128_in h1]
  exact ⟨by unfold wHi at *; omega, InWb_true h1⟩
theorem sg_neg_out {x : Int} (h : InU2 x) (hx : ¬ x ≤ 170141183460469231731687303715884105728) : 0 ≤ wHi (wrap128 (-x)) ∧ InWb (-x) = false ∧ ¬ (wHi (neg128 x) = 0 ∧ wLo (neg128 x) = 0) := by
  refine ⟨?_, InWb_false (by unfold InW; omega), ?_⟩
  · unfold InU2 wHi wrap128 at *; omega
  · intro h2
    have := w_split (neg128 x)
    rw [h2.1, h2.2] at this
    unfold InU2 neg128 at *
    omega

theorem absU_mul_pos {a b : Int} (h : (a < 0 ↔ b < 0)) : absU a * absU b = a * b := by
  unfold absU
  by_cases ha : a < 0
  · rw [if_pos ha, if_pos (h.1 ha), Int.neg_mul_neg]
  · rw [if_neg ha, if_neg (fun hb => ha (h.2 hb))]
theorem absU_mul_neg {a b : Int} (h : ¬ (a < 0 ↔ b < 0)) : -(absU a * absU b) = a * b := by
  unfold absU
  by_cases ha : a < 0
  · have hb : ¬ b < 0 := fun hb => h ⟨fun _ => hb, fun _ => ha⟩
    rw [if_pos ha, if_neg hb, Int.neg_mul, Int.neg_neg]
  · have hb : b < 0 := by
      by_cases hb : b < 0
      · exact hb
      · exact (h ⟨fun x => (ha x).elim, fun x => (hb x).elim⟩).elim
    rw [if_neg ha, if_pos hb, Int.mul_neg, Int.neg_neg]
theorem absU_mul_bound {a b : Int} (ha : InI a) (hb : InI b) : 0 ≤ absU a * absU b ∧ absU a * absU b ≤ 85070591730234615865843651857942052864 := by
  have h1 := absU_le ha
  have h2 := absU_le hb
  refine ⟨Int.mul_nonneg h1.1 h2.1, ?_⟩
  have h3 := Int.mul_le_mul h1.2 h2.2 h2.1 (by omega)
  omega
theorem absU_mul_U2 {a b : Int} (ha : InI a) (hb : InI b) : InU2 (absU a * absU b) := by
  have := absU_mul_bound ha hb
  unfold InU2; omega
theorem mul_bound {a b : Int} (ha : InI a) (hb : InI b) : -85070591730234615865843651857942052864 ≤ a * b ∧ a * b ≤ 85070591730234615865843651857942052864 := by
  have h := absU_mul_bound ha hb
  by_cases hs : (a < 0 ↔ b < 0)
  · rw [absU_mul_pos hs] at h; omega
  · have := absU_mul_neg hs; omega
theorem mul_InW {a b : Int} (ha : InI a) (hb : InI b) : InW (a * b) := by
  have := mul_bound ha hb
  unfold InW; omega
theorem mul_sg_pos {a b : Int} (ha : InI a) (hb : InI b) (h : (a < 0 ↔ b < 0)) : wrap128 (absU a * absU b) = a * b := by
  rw [absU_mul_pos h, wrap128_in (mul_InW ha hb)]
theorem mul_sg_neg {a b : Int} (ha : InI a) (hb : InI b) (h : ¬ (a < 0 ↔ b < 0)) : wrap128 (-(absU a * absU b)) = a * b := by
  rw [absU_mul_neg h, wrap128_in (mul_InW ha hb)]

def sgn (b : Bool) (x : Int) : Int := if b then -x else x
def cmpW (x y : Int) : Int := if x = y then 0 else if x < y then -1 else 1
theorem w_lt {x y : Int} : x < y ↔ wHi x < wHi y ∨ (wHi x = wHi y ∧ wLo x < wLo y) := by
  unfold wHi wLo
  omega
theorem cmpW_eq {x y : Int} (h : x = y) : cmpW x y = 0 := by unfold cmpW; rw [if_pos h]
theorem cmpW_lt {x y : Int} (h : x < y) : cmpW x y = -1 := by unfold cmpW; rw [if_neg (by omega), if_pos h]
theorem cmpW_gt {x y : Int} (h : y < x) : cmpW x y = 1 := by unfold cmpW; rw [if_neg (by omega), if_neg (by omega)]
def u128 (x : Int) : Int := x % 340282366920938463463374607431768211456
theorem u128_U2 (x : Int) : InU2 (u128 x) := by unfold u128 InU2; omega
theorem u128_hi {x : Int} (h : InW x) : IntKind.u64.wrap (wHi x) = wHi (u128 x) := by rw [IntKind.wrap_u64]; unfold InW wHi u128 at *; omega
theorem u128_lo (x : Int) : wLo x = wLo (u128 x) := by unfold wLo u128; omega
theorem wrap128_u128 (x : Int) : wrap128 (u128 x) = wrap128 x := by unfold wrap128 u128; omega
theorem neg_u128 (x : Int) : neg128 (u128 x) = u128 (-x) := by unfold neg128 u128; omega
def negOk (x : Int) : Bool := decide (x ≠ -170141183460469231731687303715884105728)
def negN (x : Int) : Int := if negOk x then -x else 0
theorem negOk_true {x : Int} (h : x ≠ -170141183460469231731687303715884105728) : negOk x = true := by unfold negOk; exact decide_eq_true h
theorem negOk_false {x : Int} (h : x = -170141183460469231731687303715884105728) : negOk x = false := by unfold negOk; exact decide_eq_false (fun h2 => h2 h)
theorem negN_ok {x : Int} (h : negOk x = true) : negN x = -x := by unfold negN; rw [if_pos h]
theorem negN_not {x : Int} (h : negOk x = false) : negN x = 0 := by unfold negN; rw [if_neg (by simp [h])]
theorem negN_in {x : Int} (h : InW x) : InW (negN x) := by
  unfold negN negOk InW at *
  split <;> simp_all <;> omega
theorem neg_hi_lt {x : Int} (h : InW x) : (wHi x < 0) ↔ x < 0 := by unfold wHi; omega

end Go.Proofs.Ytenefncpokdmnaa
