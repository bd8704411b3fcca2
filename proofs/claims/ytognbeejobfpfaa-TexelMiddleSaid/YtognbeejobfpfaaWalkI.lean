/- Walk: wide.MulDiv. -/
import Derived.Test.YtognbeejobfpfaaWalkG
import Derived.Test.YtognbeejobfpfaaMathA
import Derived.Outline
namespace Go.Proofs.Ytognbeejobfpfaa
open Go.RowKit
set_option linter.unusedVariables false
set_option linter.unusedSimpArgs false

set_option maxHeartbeats 800000 in
theorem wMulDiv (a b c : Int) (ha : InI a) (hb : InI b) (hc : InI c) (w : World) :
    Calls Try.prog 103 #[.int .i64 a, .int .i64 b, .int .i64 c] w (Ret (.int .i64 (mdN a b c)) w) := by
  by_cases h0 : c = 0
  · subst h0
    have e : mdN a b 0 = 0 := rfl
    rw [e]
    go_enter Try.func103, Try.ntmps103
    go_wp2_with fail
    go_ret
    exact ret_of rfl (by go_grown)
  have e0 : (c == 0) = false := by rw [beq_eq_false_iff_ne]; exact h0
  have hok := divOk_mul ha hb h0
  have HM : Hid (mdN a b c = clampI (divQ (a * b) c)) := Lib.hid (by rw [divQ_ok hok]; unfold mdN; rw [if_neg h0])
  have hq := divQ_in (a * b) c
  have hp := mul_InW ha hb
  clear h0 hok
  by_cases hf : InI (divQ (a * b) c)
  · have HF := Lib.hid (fits_true hf)
    have HC := Lib.hid (clampI_in hf)
    have HI := Lib.hid (intN_fits HF.out)
    clear hf
    go_enter Try.func103, Try.ntmps103
    go_wp2_with fail
    refine (wMul a b ha hb _).mono ?_; rintro e w1 ⟨rfl, hb1⟩
    obtain ⟨hB1, hS1⟩ : Below w.heap.size w w1 ∧ w.heap.size ≤ w1.heap.size := Below.step (by go_grown) hb1
    go_wp2_with fail
    refine (wDiv (a * b) c hp hc _).mono ?_; rintro e w2 ⟨rfl, hb2⟩
    obtain ⟨hB2, hS2⟩ : Below w.heap.size w w2 ∧ w.heap.size ≤ w2.heap.size := Below.step (by go_grown) hb2
    go_wp2_with fail
    refine (wInt _ hq _).mono ?_; rintro e w3 ⟨rfl, hb3⟩
    obtain ⟨hB3, hS3⟩ : Below w.heap.size w w3 ∧ w.heap.size ≤ w3.heap.size := Below.step (by go_grown) hb3
    rw [HF.out, HI.out]
    go_wp2_with fail
    go_ret
    exact ret_of (vint (by rw [HM.out, HC.out])) hB3
  · have HF := Lib.hid (fits_false hf)
    have HI := Lib.hid (intN_not HF.out)
    by_cases hn : divQ (a * b) c < 0
    · have HC := Lib.hid (clampI_lo hf hn)
      have e3 : wHi (divQ (a * b) c) < 0 := by unfold wHi; omega
      clear hf
      go_enter Try.func103, Try.ntmps103
      go_wp2_with fail
      refine (wMul a b ha hb _).mono ?_; rintro e w1 ⟨rfl, hb1⟩
      obtain ⟨hB1, hS1⟩ : Below w.heap.size w w1 ∧ w.heap.size ≤ w1.heap.size := Below.step (by go_grown) hb1
      go_wp2_with fail
      refine (wDiv (a * b) c hp hc _).mono ?_; rintro e w2 ⟨rfl, hb2⟩
      obtain ⟨hB2, hS2⟩ : Below w.heap.size w w2 ∧ w.heap.size ≤ w2.heap.size := Below.step (by go_grown) hb2
      go_wp2_with fail
      refine (wInt _ hq _).mono ?_; rintro e w3 ⟨rfl, hb3⟩
      obtain ⟨hB3, hS3⟩ : Below w.heap.size w w3 ∧ w.heap.size ≤ w3.heap.size := Below.step (by go_grown) hb3
      rw [HF.out, HI.out]
      obtain ⟨hc3, hf3, hs3⟩ := bcell hb3
      go_wp2_with fail
      go_ret
      exact ret_of (vint (by rw [HM.out, HC.out])) hB3
    · have HC := Lib.hid (clampI_hi hf hn)
      have e3 : ¬ wHi (divQ (a * b) c) < 0 := by unfold wHi; omega
      clear hf
      go_enter Try.func103, Try.ntmps103
      go_wp2_with fail
      refine (wMul a b ha hb _).mono ?_; rintro e w1 ⟨rfl, hb1⟩
      obtain ⟨hB1, hS1⟩ : Below w.heap.size w w1 ∧ w.heap.size ≤ w1.heap.size := Below.step (by go_grown) hb1
      go_wp2_with fail
      refine (wDiv (a * b) c hp hc _).mono ?_; rintro e w2 ⟨rfl, hb2⟩
      obtain ⟨hB2, hS2⟩ : Below w.heap.size w w2 ∧ w.heap.size ≤ w2.heap.size := Below.step (by go_grown) hb2
      go_wp2_with fail
      refine (wInt _ hq _).mono ?_; rintro e w3 ⟨rfl, hb3⟩
      obtain ⟨hB3, hS3⟩ : Below w.heap.size w w3 ∧ w.heap.size ≤ w3.heap.size := Below.step (by go_grown) hb3
      rw [HF.out, HI.out]
      obtain ⟨hc3, hf3, hs3⟩ := bcell hb3
      go_wp2_with fail
      go_ret
      exact ret_of (vint (by rw [HM.out, HC.out])) hB3

end Go.Proofs.Ytognbeejobfpfaa
