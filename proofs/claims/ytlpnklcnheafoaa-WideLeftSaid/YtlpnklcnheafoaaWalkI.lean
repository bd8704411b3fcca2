/- Walk: wide.MulDiv. -/
import Derived.Test.YtlpnklcnheafoaaWalkG
import Derived.Outline
namespace Go.Proofs.Ytlpnklcnheafoaa
open Go.RowKit
set_option linter.unusedVariables false
set_option linter.unusedSimpArgs false

/-- The nearest int64. -/
def clampI (x : Int) : Int := if x < -9223372036854775808 then -9223372036854775808 else if 9223372036854775807 < x then 9223372036854775807 else x
def mdN (a b c : Int) : Int := if c = 0 then 0 else clampI (fq (a * b) c)
theorem clampI_in {x : Int} (h : InI x) : clampI x = x := by unfold InI at h; unfold clampI; rw [if_neg (by omega), if_neg (by omega)]
theorem clampI_I (x : Int) : InI (clampI x) := by unfold clampI InI; split <;> (try split) <;> omega
theorem clampI_lo {x : Int} (h : ¬ InI x) (h2 : x < 0) : clampI x = -9223372036854775808 := by unfold InI at h; unfold clampI; rw [if_pos (by omega)]
theorem clampI_hi {x : Int} (h : ¬ InI x) (h2 : ¬ x < 0) : clampI x = 9223372036854775807 := by unfold InI at h; unfold clampI; rw [if_neg (by omega), if_pos (by omega)]
theorem fq_small {x d : Int} (hd : d ≠ 0) (h : -85070591730234615865843651857942052864 ≤ x ∧ x ≤ 85070591730234615865843651857942052864) : InW (fq x d) := by
  have key : ∀ y e : Int, 0 < e → -85070591730234615865843651857942052864 ≤ y → y ≤ 85070591730234615865843651857942052864 → InW (y / e) := by
    intro y e he h1 h2
    have e1 := Int.mul_ediv_add_emod y e
    have e2 := Int.emod_nonneg y (Int.ne_of_gt he)
    have e3 := Int.emod_lt_of_pos y he
    unfold InW
    constructor
    · rw [Int.le_ediv_iff_mul_le he]
      have := Int.mul_le_mul_of_nonneg_left (show 1 ≤ e by omega) (show (0 : Int) ≤ 170141183460469231731687303715884105728 by omega)
      omega
    · rw [Int.ediv_lt_iff_lt_mul he]
      have := Int.mul_le_mul_of_nonneg_left (show 1 ≤ e by omega) (show (0 : Int) ≤ 170141183460469231731687303715884105728 by omega)
      omega
  unfold fq
  split
  · exact key _ _ (by assumption) h.1 h.2
  · exact key _ _ (by omega) (by omega) (by omega)
theorem divOk_mul {a b c : Int} (ha : InI a) (hb : InI b) (hc : c ≠ 0) : divOk (a * b) c = true := by
  have h := mul_bound ha hb
  exact divOk_of hc (InWb_true (fq_small hc h))

set_option maxHeartbeats 800000 in
theorem wMulDiv (a b c : Int) (ha : InI a) (hb : InI b) (hc : InI c) (w : World) :
    Calls Try.prog 36 #[.int .i64 a, .int .i64 b, .int .i64 c] w (Ret (.int .i64 (mdN a b c)) w) := by
  by_cases h0 : c = 0
  · subst h0
    have e : mdN a b 0 = 0 := rfl
    rw [e]
    go_enter Try.func36, Try.ntmps36
    go_wp2_with fail
    go_ret
    exact ret_of rfl (by go_grown)
  have e0 : (c == 0) = false := by rw [beq_eq_false_iff_ne]; exact h0
  have hok := divOk_mul ha hb h0
  have HM : Hid (mdN a b c = clampI (divQ (a * b) c)) := Lib.hid (by rw [divQ_ok hok]; unfold mdN; rw [if_neg h0])
  have hq := divQ_in (a * b) c
  have hp := mul_InW ha hb
  clear h0 hok
  by_cases hf : InI (divQ (a * b) c)
  · have HF := Lib.hid (fits_true hf)
    have HC := Lib.hid (clampI_in hf)
    have HI := Lib.hid (intN_fits HF.out)
    clear hf
    go_enter Try.func36, Try.ntmps36
    go_wp2_with fail
    refine (wMul a b ha hb _).mono ?_; rintro e w1 ⟨rfl, hb1⟩
    obtain ⟨hB1, hS1⟩ : Below w.heap.size w w1 ∧ w.heap.size ≤ w1.heap.size := Below.step (by go_grown) hb1
    go_wp2_with fail
    refine (wDiv (a * b) c hp hc _).mono ?_; rintro e w2 ⟨rfl, hb2⟩
    obtain ⟨hB2, hS2⟩ : Below w.heap.size w w2 ∧ w.heap.size ≤ w2.heap.size := Below.step (by go_grown) hb2
    go_wp2_with fail
    refine (wInt _ hq _).mono ?_; rintro e w3 ⟨rfl, hb3⟩
    obtain ⟨hB3, hS3⟩ : Below w.heap.size w w3 ∧ w.heap.size ≤ w3.heap.size := Below.step (by go_grown) hb3
    rw [HF.out, HI.out]
    go_wp2_with fail
    go_ret
    exact ret_of (vint (by rw [HM.out, HC.out])) hB3
  · have HF := Lib.hid (fits_false hf)
    have HI := Lib.hid (intN_not HF.out)
    by_cases hn : divQ (a * b) c < 0
    · have HC := Lib.hid (clampI_lo hf hn)
      have e3 : wHi (divQ (a * b) c) < 0 := by unfold wHi; omega
      clear hf
      go_enter Try.func36, Try.ntmps36
      go_wp2_with fail
      refine (wMul a b ha hb _).mono ?_; rintro e w1 ⟨rfl, hb1⟩
      obtain ⟨hB1, hS1⟩ : Below w.heap.size w w1 ∧ w.heap.size ≤ w1.heap.size := Below.step (by go_grown) hb1
      go_wp2_with fail
      refine (wDiv (a * b) c hp hc _).mono ?_; rintro e w2 ⟨rfl, hb2⟩
      obtain ⟨hB2, hS2⟩ : Below w.heap.size w w2 ∧ w.heap.size ≤ w2.heap.size := Below.step (by go_grown) hb2
      go_wp2_with fail
      refine (wInt _ hq _).mono ?_; rintro e w3 ⟨rfl, hb3⟩
      obtain ⟨hB3, hS3⟩ : Below w.heap.size w w3 ∧ w.heap.size ≤ w3.heap.size := Below.step (by go_grown) hb3
      rw [HF.out, HI.out]
      obtain ⟨hc3, hf3, hs3⟩ := bcell hb3
      go_wp2_with fail
      go_ret
      exact ret_of (vint (by rw [HM.out, HC.out])) hB3
    · have HC := Lib.hid (clampI_hi hf hn)
      have e3 : ¬ wHi (divQ (a * b) c) < 0 := by unfold wHi; omega
      clear hf
      go_enter Try.func36, Try.ntmps36
      go_wp2_with fail
      refine (wMul a b ha hb _).mono ?_; rintro e w1 ⟨rfl, hb1⟩
      obtain ⟨hB1, hS1⟩ : Below w.heap.size w w1 ∧ w.heap.size ≤ w1.heap.size := Below.step (by go_grown) hb1
      go_wp2_with fail
      refine (wDiv (a * b) c hp hc _).mono ?_; rintro e w2 ⟨rfl, hb2⟩
      obtain ⟨hB2, hS2⟩ : Below w.heap.size w w2 ∧ w.heap.size ≤ w2.heap.size := Below.step (by go_grown) hb2
      go_wp2_with fail
      refine (wInt _ hq _).mono ?_; rintro e w3 ⟨rfl, hb3⟩
      obtain ⟨hB3, hS3⟩ : Below w.heap.size w w3 ∧ w.heap.size ≤ w3.heap.size := Below.step (by go_grown) hb3
      rw [HF.out, HI.out]
      obtain ⟨hc3, hf3, hs3⟩ := bcell hb3
      go_wp2_with fail
      go_ret
      exact ret_of (vint (by rw [HM.out, HC.out])) hB3

end Go.Proofs.Ytlpnklcnheafoaa
