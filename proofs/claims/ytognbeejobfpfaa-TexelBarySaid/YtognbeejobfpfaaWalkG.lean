/- Walks: wide.Div, the ways together; MulDiv. -/
import Derived.Test.YtognbeejobfpfaaDivB
import Derived.Test.YtognbeejobfpfaaDivA
namespace Go.Proofs.Ytognbeejobfpfaa
open Go.RowKit
set_option linter.unusedVariables false
set_option linter.unusedSimpArgs false

theorem wDiv_zero (a : Int) (w : World) :
    Calls Try.prog 41 #[W a, .int .i64 0] w (Ret (.tuple #[W 0, .int .i64 0, .bool false]) w) := by
  go_enter Try.func41, Try.ntmps41
  go_wp2_with fail
  refine bodyPost_ret (v := .tuple #[W 0, .int .i64 0, .bool false]) (by simp (maxDischargeDepth := 9) [results, Try.results41, go_sem, wHi_zero, wLo_zero]) rfl (ret_of rfl (by go_grown))

theorem wDiv (a d : Int) (h : InW a) (hd : InI d) (w : World) :
    Calls Try.prog 41 #[W a, .int .i64 d] w (Ret (.tuple #[W (divQ a d), .int .i64 (divR a d), .bool (divOk a d)]) w) := by
  by_cases h0 : d = 0
  · subst h0
    rw [divQ_not (divOk_zero a), divR_not (divOk_zero a), divOk_zero]
    exact wDiv_zero a w
  obtain ⟨e1, -⟩ := fq_dq (a := a) h0
  have hA := absU_bound h
  have hD : 0 < absU d := by unfold absU; omega
  have hm := Int.emod_nonneg (absU a) (Int.ne_of_gt hD)
  have hq := Int.ediv_nonneg hA.1 (show 0 ≤ absU d by omega)
  have hq1 := Int.ediv_le_self (absU d) hA.1
  have hde := Int.mul_ediv_add_emod (absU a) (absU d)
  by_cases ha : a < 0 <;> by_cases hd0 : d < 0
  · have e2 : fq a d = absU a / absU d := by rw [e1]; simp [ha, hd0, sgn, dq]
    cases hok : InWb (fq a d)
    · exact wDiv_nnx a d _ _ _ _ _ h hd ha hd0 rfl rfl rfl rfl hok e2 rfl w
    · exact wDiv_nn a d _ _ _ _ _ h hd ha hd0 rfl rfl rfl rfl hok e2 rfl w
  · by_cases hl : 0 < absU a % absU d
    · have e2 : fq a d = -(absU a / absU d + 1) := by rw [e1]; simp only [ha, hd0, sgn, dq]; simp [show ¬ absU a % absU d = 0 by omega]
      have hq2 : absU a / absU d + 1 ≤ 170141183460469231731687303715884105728 := by
        have h3 := Int.emod_lt_of_pos (absU a) hD
        have h4 := Int.mul_le_mul_of_nonneg_right (show 2 ≤ absU d by omega) hq
        omega
      have hok : InWb (fq a d) = true := InWb_true (by rw [e2]; unfold InW; omega)
      exact wDiv_np1 a d _ _ _ _ _ h hd ha (by omega) rfl rfl rfl rfl hl hok e2 rfl w
    · have e2 : fq a d = -(absU a / absU d) := by rw [e1]; simp only [ha, hd0, sgn, dq]; simp [show absU a % absU d = 0 by omega]
      have hok : InWb (fq a d) = true := InWb_true (by rw [e2]; unfold InW; omega)
      exact wDiv_np0 a d _ _ _ _ _ h hd ha (by omega) rfl rfl rfl rfl hl hok e2 rfl w
  · by_cases hl : 0 < absU a % absU d
    · have e2 : fq a d = -(absU a / absU d + 1) := by rw [e1]; simp only [ha, hd0, sgn, dq]; simp [show ¬ absU a % absU d = 0 by omega]
      have hq2 : absU a / absU d + 1 ≤ 170141183460469231731687303715884105728 := by
        have h3 := Int.emod_lt_of_pos (absU a) hD
        have h4 := Int.mul_le_mul_of_nonneg_right (show 2 ≤ absU d by omega) hq
        omega
      have hok : InWb (fq a d) = true := InWb_true (by rw [e2]; unfold InW; omega)
      exact wDiv_pn1 a d _ _ _ _ _ h hd (by omega) hd0 rfl rfl rfl rfl hl hok e2 rfl w
    · have e2 : fq a d = -(absU a / absU d) := by rw [e1]; simp only [ha, hd0, sgn, dq]; simp [show absU a % absU d = 0 by omega]
      have hok : InWb (fq a d) = true := InWb_true (by rw [e2]; unfold InW; omega)
      exact wDiv_pn0 a d _ _ _ _ _ h hd (by omega) hd0 rfl rfl rfl rfl hl hok e2 rfl w
  · have e2 : fq a d = absU a / absU d := by rw [e1]; simp [ha, hd0, sgn, dq]
    have hok : InWb (fq a d) = true := InWb_true (by rw [e2]; unfold InW; rw [absU_pos (by omega)] at *; unfold InW at h; omega)
    exact wDiv_pp a d _ _ _ _ _ h hd (by omega) (by omega) rfl rfl rfl rfl hok e2 rfl w

end Go.Proofs.Ytognbeejobfpfaa
