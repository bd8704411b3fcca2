/- Walk: wide.Mul. -/
import Derived.Test.YtenefncpokdmnaaWalkB
import Derived.Handy
namespace Go.Proofs.Ytenefncpokdmnaa
open Go.RowKit
set_option linter.unusedVariables false
set_option linter.unusedSimpArgs false

theorem sgn_mul {a b : Int} (ha : InI a) (hb : InI b) : wrap128 (sgn (!decide (a < 0) == decide (b < 0)) (absU a * absU b)) = a * b := by
  by_cases h : (a < 0 ↔ b < 0)
  · have e : (!decide (a < 0) == decide (b < 0)) = false := by
      by_cases h1 : a < 0
      · have h2 := h.1 h1
        simp [h1, h2]
      · have h2 : ¬ b < 0 := fun x => h1 (h.2 x)
        simp [h1, h2]
    rw [e]
    exact mul_sg_pos ha hb h
  · have e : (!decide (a < 0) == decide (b < 0)) = true := by
      by_cases h1 : a < 0 <;> by_cases h2 : b < 0 <;> simp_all
    rw [e]
    exact mul_sg_neg ha hb h

set_option maxHeartbeats 400000 in
theorem wMul (a b : Int) (ha : InI a) (hb : InI b) (w : World) :
    Calls Try.prog 43 #[.int .i64 a, .int .i64 b] w (Ret (W (a * b)) w) := by
  have H := Lib.hid (sgn_mul ha hb)
  go_enter Try.func43, Try.ntmps43
  go_wp2_with fail
  refine (wsize a ha _).mono ?_; rintro e w1 ⟨rfl, rfl⟩
  go_wp2_with fail
  refine (wsize b hb _).mono ?_; rintro e w1 ⟨rfl, rfl⟩
  go_wp2_with fail
  refine (mul64 (absU a) (absU b) (absU_InU ha) (absU_InU hb) _).mono ?_; rintro e w1 ⟨rfl, rfl⟩
  go_wp2_with fail
  refine (wsigned (absU a * absU b) _ (absU_mul_U2 ha hb) _).mono ?_; rintro e w1 ⟨rfl, hb1⟩
  obtain ⟨hc1, hf1, hs1⟩ := bcell hb1
  have hz1 : w.heap.size < w1.heap.size := by simp at hs1; omega
  rw [H.out]
  go_wp2_with fail
  refine bodyPost_ret (v := W (a * b)) (by simp [results, Try.results43, go_sem, hc1, hz1]) rfl (ret_of rfl ?_)
  exact (((Below.next ((Below.refl _ _).alloc (Nat.le_refl _) _) hb1).setCell (by simp) _).setCell (by simp) _).alloc (by simp; omega) _

end Go.Proofs.Ytenefncpokdmnaa
