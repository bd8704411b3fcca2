/- Plain law: a vector's direction. -/
import Derived.Test.YtognbeejobfpfaaOctaM
import Derived.Test.YtognbeejobfpfaaVecD
namespace Go.Proofs.Ytognbeejobfpfaa
open Go.RowKit
set_option linter.unusedVariables false
set_option linter.unusedSimpArgs false

namespace P
def quant (v : T3) : T3 := if vmost v = 0 then zero3 else (qpart v.1 (vmost v), qpart v.2.1 (vmost v), qpart v.2.2 (vmost v))
def quantE (v : T3) : Int := if vmost v = 0 then 2 else 0
theorem qmd {x m : Int} (hx : InI x) (hm : 1 ≤ m) (h1 : -m - 1 ≤ x ∧ x ≤ m) : max (mdN x 16384 m) (-16384) = qpart x m ∧ -16384 ≤ qpart x m ∧ qpart x m ≤ 16384 := by
  have q0 : -16384 * (m + 1) ≤ x * 16384 ∧ x * 16384 ≤ 16384 * m := by omega
  have e : -32769 ≤ x * 16384 / m ∧ x * 16384 / m ≤ 16384 := by
    constructor
    · rw [Int.le_ediv_iff_mul_le (by omega)]; omega
    · have : x * 16384 / m < 16385 := by rw [Int.ediv_lt_iff_lt_mul (by omega)]; omega
      omega
  have e2 : mdN x 16384 m = x * 16384 / m := by
    unfold mdN fq
    rw [if_neg (by omega), if_pos (by omega), clampI_in (by unfold InI; omega)]
  unfold qpart
  rw [e2]
  omega
theorem vmost_zero {a : T3} (ha : InV a) (h : vmost a = 0) : a.1 = 0 ∧ a.2.1 = 0 ∧ a.2.2 = 0 := by
  unfold vmost at h
  have h0 := fabs_val ha.1
  have h1 := fabs_val ha.2.1
  have h2 := fabs_val ha.2.2
  obtain ⟨i0, i1, i2⟩ := ha
  unfold InI at i0 i1 i2
  refine ⟨?_, ?_, ?_⟩ <;> (repeat (split at h0)) <;> (repeat (split at h1)) <;> (repeat (split at h2)) <;> omega
theorem vmost_bd {a : T3} (ha : InV a) : 0 ≤ vmost a ∧ vmost a ≤ 9223372036854775807 ∧ (-vmost a - 1 ≤ a.1 ∧ a.1 ≤ vmost a) ∧ (-vmost a - 1 ≤ a.2.1 ∧ a.2.1 ≤ vmost a) ∧ (-vmost a - 1 ≤ a.2.2 ∧ a.2.2 ≤ vmost a) := by
  unfold vmost
  have h0 := fabs_val ha.1
  have h1 := fabs_val ha.2.1
  have h2 := fabs_val ha.2.2
  obtain ⟨i0, i1, i2⟩ := ha
  unfold InI at i0 i1 i2
  (repeat (split at h0)) <;> (repeat (split at h1)) <;> (repeat (split at h2)) <;> omega
theorem qpart_top {x m : Int} (hm : 1 ≤ m) (hm2 : m ≤ 9223372036854775807) (hx : InI x) (h : fabs x = m) : oabs (qpart x m) = 16384 := by
  rw [fabs_val hx] at h
  unfold qpart
  have e1 : m * 16384 / m = 16384 := by rw [Int.mul_comm, Int.mul_ediv_cancel _ (by omega)]
  have e2 : -m * 16384 / m = -16384 := by rw [show -m * 16384 = -16384 * m by omega, Int.mul_ediv_cancel _ (by omega)]
  split at h
  · split at h
    · rename_i s
      subst s h
      decide
    · have : x = -m := by omega
      rw [this, e2]
      decide
  · rw [h, e1]
    decide
theorem quant_top {v : T3} (hv : InV v) (h : vmost v ≠ 0) : ((-16384 ≤ (quant v).1 ∧ (quant v).1 ≤ 16384) ∧ (-16384 ≤ (quant v).2.1 ∧ (quant v).2.1 ≤ 16384) ∧ (-16384 ≤ (quant v).2.2 ∧ (quant v).2.2 ≤ 16384)) ∧ max (oabs (quant v).1) (max (oabs (quant v).2.1) (oabs (quant v).2.2)) = 16384 := by
  have hb := vmost_bd hv
  have a0 := (qmd hv.1 (show 1 ≤ vmost v by omega) hb.2.2.1).2
  have a1 := (qmd hv.2.1 (show 1 ≤ vmost v by omega) hb.2.2.2.1).2
  have a2 := (qmd hv.2.2 (show 1 ≤ vmost v by omega) hb.2.2.2.2).2
  have o0 := oabs_bd a0
  have o1 := oabs_bd a1
  have o2 := oabs_bd a2
  unfold quant
  rw [if_neg h]
  refine ⟨⟨a0, a1, a2⟩, ?_⟩
  simp only
  have : fabs v.1 = vmost v ∨ fabs v.2.1 = vmost v ∨ fabs v.2.2 = vmost v := by unfold vmost; omega
  rcases this with e | e | e
  · have := qpart_top (by omega) hb.2.1 hv.1 e; omega
  · have := qpart_top (by omega) hb.2.1 hv.2.1 e; omega
  · have := qpart_top (by omega) hb.2.1 hv.2.2 e; omega
theorem quant_may {v : T3} (hv : InV v) (h : vmost v ≠ 0) : mayB (quant v) = true := by
  obtain ⟨hb, hm⟩ := quant_top hv h
  unfold mayB
  simp only [Bool.and_eq_true, decide_eq_true_eq]
  refine ⟨fun ⟨e1, e2, e3⟩ => ?_, hb⟩
  rw [e1, e2, e3] at hm
  revert hm
  decide
end P

end Go.Proofs.Ytognbeejobfpfaa
