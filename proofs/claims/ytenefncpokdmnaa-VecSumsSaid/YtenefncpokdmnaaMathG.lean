/- Plain numbers, seventh part: the nearest int64. -/
import Derived.Test.YtenefncpokdmnaaMathE
namespace Go.Proofs.Ytenefncpokdmnaa
open Go.RowKit
set_option linter.unusedVariables false
set_option linter.unusedSimpArgs false

/-- The nearest int64. -/
def clampI (x : Int) : Int := if x < -9223372036854775808 then -9223372036854775808 else if 9223372036854775807 < x then 9223372036854775807 else x
def mdN (a b c : Int) : Int := if c = 0 then 0 else clampI (fq (a * b) c)
theorem clampI_in {x : Int} (h : InI x) : clampI x = x := by unfold InI at h; unfold clampI; rw [if_neg (by omega), if_neg (by omega)]
theorem clampI_I (x : Int) : InI (clampI x) := by unfold clampI InI; split <;> (try split) <;> omega
theorem clampI_lo {x : Int} (h : ¬ InI x) (h2 : x < 0) : clampI x = -9223372036854775808 := by unfold InI at h; unfold clampI; rw [if_pos (by omega)]
theorem clampI_hi {x : Int} (h : ¬ InI x) (h2 : ¬ x < 0) : clampI x = 9223372036854775807 := by unfold InI at h; unfold clampI; rw [if_neg (by omega), if_pos (by omega)]
theorem fq_small {x d : Int} (hd : d ≠ 0) (h : -85070591730234615865843651857942052864 ≤ x ∧ x ≤ 85070591730234615865843651857942052864) : InW (fq x d) := by
  have key : ∀ y e : Int, 0 < e → -85070591730234615865843651857942052864 ≤ y → y ≤ 85070591730234615865843651857942052864 → InW (y / e) := by
    intro y e he h1 h2
    have e1 := Int.mul_ediv_add_emod y e
    have e2 := Int.emod_nonneg y (Int.ne_of_gt he)
    have e3 := Int.emod_lt_of_pos y he
    unfold InW
    constructor
    · rw [Int.le_ediv_iff_mul_le he]
      have := Int.mul_le_mul_of_nonneg_left (show 1 ≤ e by omega) (show (0 : Int) ≤ 170141183460469231731687303715884105728 by omega)
      omega
    · rw [Int.ediv_lt_iff_lt_mul he]
      have := Int.mul_le_mul_of_nonneg_left (show 1 ≤ e by omega) (show (0 : Int) ≤ 170141183460469231731687303715884105728 by omega)
      omega
  unfold fq
  split
  · exact key _ _ (by assumption) h.1 h.2
  · exact key _ _ (by omega) (by omega) (by omega)
theorem divOk_mul {a b c : Int} (ha : InI a) (hb : InI b) (hc : c ≠ 0) : divOk (a * b) c = true := by
  have h := mul_bound ha hb
  exact divOk_of hc (InWb_true (fq_small hc h))

end Go.Proofs.Ytenefncpokdmnaa
