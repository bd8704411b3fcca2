/- The chapter's example of layer 2. -/
import Derived.Test.YtenefncpokdmnaaFix1
namespace Go.Proofs.Ytenefncpokdmnaa
open Go.RowKit Go.Sort
set_option linter.unusedVariables false
set_option linter.unusedSimpArgs false

theorem vals2 : fof 3 = 12884901888 ∧ fof (-1) = -4294967296 ∧ fof 2 = 8589934592 ∧ fmul 12884901888 2147483648 = 6442450944 ∧ fdiv (-4294967296) 12884901888 = -1431655766 ∧ satAdd 9223372036854775807 1 = 9223372036854775807 ∧ fsqrt 8589934592 = 6074000999 := by decide +kernel

set_option maxHeartbeats 1600000 in
theorem works2 (w : World) : Calls Try.prog 26 #[] w (Ret (.bool true) w) := by
  obtain ⟨v1, v2, v3, v4, v5, v6, v7⟩ := vals2
  have V1 := Lib.hid v1
  have V2 := Lib.hid v2
  have V3 := Lib.hid v3
  have V4 := Lib.hid v4
  have V5 := Lib.hid v5
  have V6 := Lib.hid v6
  have V7 := Lib.hid v7
  clear v1 v2 v3 v4 v5 v6 v7
  go_enter Try.func26, Try.ntmps26
  go_wp2_with fail
  refine (fOf 3 (by unfold InI; omega) _).mono ?_; rintro e w1 ⟨rfl, hb1⟩
  obtain ⟨hB1, hS1⟩ : Below w.heap.size w w1 ∧ w.heap.size ≤ w1.heap.size := Below.step (by go_grown) hb1
  rw [V1.out]
  go_wp2_with fail
  refine (fMul2 12884901888 2147483648 (by unfold InI; omega) (by unfold InI; omega) _ _ _ (by simp) (by simp)).mono ?_; rintro e w2 ⟨rfl, hb2⟩
  obtain ⟨hB2, hS2⟩ : Below w.heap.size w w2 ∧ w.heap.size ≤ w2.heap.size := Below.step (by go_grown) hb2
  rw [V4.out]
  go_wp2_with fail
  refine (fOf (-1) (by unfold InI; omega) _).mono ?_; rintro e w3 ⟨rfl, hb3⟩
  obtain ⟨hB3, hS3⟩ : Below w.heap.size w w3 ∧ w.heap.size ≤ w3.heap.size := Below.step (by go_grown) hb3
  rw [V2.out]
  go_wp2_with fail
  refine (fOf 3 (by unfold InI; omega) _).mono ?_; rintro e w4 ⟨rfl, hb4⟩
  obtain ⟨hB4, hS4⟩ : Below w.heap.size w w4 ∧ w.heap.size ≤ w4.heap.size := Below.step (by go_grown) hb4
  rw [V1.out]
  go_wp2_with fail
  refine (fDiv (-4294967296) 12884901888 (by unfold InI; omega) (by unfold InI; omega) _).mono ?_; rintro e w5 ⟨rfl, hb5⟩
  obtain ⟨hB5, hS5⟩ : Below w.heap.size w w5 ∧ w.heap.size ≤ w5.heap.size := Below.step (by go_grown) hb5
  rw [V5.out]
  go_wp2_with fail
  refine (fAdd2 9223372036854775807 1 (by unfold InI; omega) (by unfold InI; omega) _ _ _ (by simp) (by simp)).mono ?_; rintro e w6 ⟨rfl, rfl⟩
  rw [V6.out]
  go_wp2_with fail
  refine (fOf 2 (by unfold InI; omega) _).mono ?_; rintro e w7 ⟨rfl, hb7⟩
  obtain ⟨hB7, hS7⟩ : Below w.heap.size w w7 ∧ w.heap.size ≤ w7.heap.size := Below.step (by go_grown) hb7
  rw [V3.out]
  go_wp2_with fail
  refine (fSqrt 8589934592 (by unfold InI; omega) _).mono ?_; rintro e w8 ⟨rfl, hb8⟩
  obtain ⟨hB8, hS8⟩ : Below w.heap.size w w8 ∧ w.heap.size ≤ w8.heap.size := Below.step (by go_grown) hb8
  rw [V7.out]
  go_wp2_with fail
  go_ret
  exact ret_of rfl hB8

end Go.Proofs.Ytenefncpokdmnaa
