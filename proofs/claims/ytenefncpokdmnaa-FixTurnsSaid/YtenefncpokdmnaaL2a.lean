/- Walk: the law FixTurns. -/
import Derived.Test.YtenefncpokdmnaaLaw2
import Derived.Test.YtenefncpokdmnaaFrame
namespace Go.Proofs.Ytenefncpokdmnaa
open Go.RowKit Go.Sort
set_option linter.unusedVariables false
set_option linter.unusedSimpArgs false

theorem i0 : InI 0 := by unfold InI; omega
set_option maxHeartbeats 1600000 in
theorem walkFixTurns (a b : Int) (ha : InI a) (hb : InI b) (w : World) : Calls Try.prog 5 #[.int .i64 a, .int .i64 b] w (Ret (.bool true) w) := by
  go_enter Try.func5, Try.ntmps5
  go_wp2_with fail
  refine (fAdd2 a b ha hb _ _ _ (by first | go_cell | simp [go_sem]) (by first | go_cell | simp [go_sem])).mono ?_; rintro e w1 ⟨rfl, rfl⟩
  go_wp2_with fail
  refine Calls.mono (fAdd2 b a hb ha _ _ _ ?_ ?_) ?_
  · simp
  · simp
  rintro e w2 ⟨rfl, rfl⟩
  rw [satAdd_comm b a]
  go_wp2_with fail
  refine (fMul2 a b ha hb _ _ _ (by first | go_cell | simp [go_sem]) (by first | go_cell | simp [go_sem])).mono ?_; rintro e w3 ⟨rfl, hb3⟩
  obtain ⟨hB3, hS3⟩ : Below w.heap.size w w3 ∧ w.heap.size ≤ w3.heap.size := Below.step (by go_grown) hb3
  go_wp2_with fail
  refine (fMul2 b a hb ha _ _ _ (by first | go_cell | simp [go_sem]) (by first | go_cell | simp [go_sem])).mono ?_; rintro e w4 ⟨rfl, hb4⟩
  obtain ⟨hB4, hS4⟩ : Below w.heap.size w w4 ∧ w.heap.size ≤ w4.heap.size := Below.step (by go_grown) hb4
  rw [fmul_comm b a]
  go_wp2_with fail
  refine (fAdd2 a 0 ha i0 _ _ _ (by first | go_cell | simp [go_sem]) (by first | go_cell | simp [go_sem])).mono ?_; rintro e w5 ⟨rfl, rfl⟩
  rw [satAdd_zero' ha]
  go_wp2_with fail
  refine (fMul2 a 4294967296 ha one_I _ _ _ (by first | go_cell | simp [go_sem]) (by first | go_cell | simp [go_sem])).mono ?_; rintro e w6 ⟨rfl, hb6⟩
  obtain ⟨hB6, hS6⟩ : Below w.heap.size w w6 ∧ w.heap.size ≤ w6.heap.size := Below.step (by go_grown) hb6
  rw [fmul_one' ha]
  go_wp2_with fail
  refine (fAdd_nil _).mono ?_; rintro e w7 ⟨rfl, rfl⟩
  go_wp2_with fail
  refine (fMul_nil _).mono ?_; rintro e w8 ⟨rfl, rfl⟩
  go_wp2_with fail
  refine (works2 _).mono ?_; rintro e w9 ⟨rfl, hb9⟩
  obtain ⟨hB9, hS9⟩ : Below w.heap.size w w9 ∧ w.heap.size ≤ w9.heap.size := Below.step (by go_grown) hb9
  go_wp2_with fail
  go_ret
  exact ret_of rfl hB9

theorem lawFixTurns (a : Int) (wa : (Lit.int .i64 a).wf = true) (b : Int) (wb : (Lit.int .i64 b).wf = true) (w : World) :
    Calls Try.prog 5 #[.int .i64 a, .int .i64 b] w (Ret (.bool true) w) := walkFixTurns a b (bounds_i64 wa) (bounds_i64 wb) w

end Go.Proofs.Ytenefncpokdmnaa
