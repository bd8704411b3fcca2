/- The chapter's example of layer 1. -/
import Derived.Test.YtlpnklcnheafoaaMV
import Derived.Test.YtlpnklcnheafoaaWalkH
import Derived.Test.YtlpnklcnheafoaaWalkJ
import Derived.Test.YtlpnklcnheafoaaQuiet
import Derived.Outline
namespace Go.Proofs.Ytlpnklcnheafoaa
open Go.RowKit Go.Sort
set_option linter.unusedVariables false
set_option linter.unusedSimpArgs false

theorem vals1 : divQ (-7) 2 = -4 ∧ divR (-7) 2 = 1 ∧ divOk (-7) 2 = true ∧ sqN 17 = 4 ∧ (1099511627776 : Int) * 1099511627776 = 1208925819614629174706176 := by decide +kernel

set_option maxHeartbeats 800000 in
theorem works1 (w : World) : Calls Try.prog 16 #[] w (Ret (.bool true) w) := by
  obtain ⟨v1, v2, v3, v4, v5⟩ := vals1
  go_enter Try.func16, Try.ntmps16
  go_wp2_with fail
  refine (wOf (-7) (by unfold InI; omega) _).mono ?_; rintro e w1 ⟨rfl, hb1⟩
  obtain ⟨hB1, hS1⟩ : Below w.heap.size w w1 ∧ w.heap.size ≤ w1.heap.size := Below.step (by go_grown) hb1
  go_wp2_with fail
  refine (wDiv (-7) 2 (by unfold InW; omega) (by unfold InI; omega) _).mono ?_; rintro e w2 ⟨rfl, hb2⟩
  obtain ⟨hB2, hS2⟩ : Below w.heap.size w w2 ∧ w.heap.size ≤ w2.heap.size := Below.step (by go_grown) hb2
  rw [v1, v2, v3]
  go_wp2_with fail
  have c1 := reg_cell (w := w2.alloc (.cells #[.int .i64 (wHi (-4)), .int .u64 (wLo (-4))] 24)) (a := ⟨w2.heap.size, 0, none⟩) (v := .int .i64 (wHi (-4))) (by simp)
  have c2 := reg_cell (w := w2.alloc (.cells #[.int .i64 (wHi (-4)), .int .u64 (wLo (-4))] 24)) (a := ⟨w2.heap.size, 1, none⟩) (v := .int .u64 (wLo (-4))) (by simp)
  have k1 : wHi 1208925819614629174706176 = 65536 := by decide +kernel
  have k2 : wLo 1208925819614629174706176 = 0 := by decide +kernel
  clear hB1 hb1
  refine wp_region_quiet_below (by kernel_rfl) (by kernel_rfl) ?_
  repeat (quiet_step (first
    | (go_at_call 31; refine reg_ret (wMul _ _ ?_ ?_ _) <;> (unfold InI; omega))
    | (go_at_call 21; refine reg_ret (wOf _ ?_ _); unfold InI; omega)
    | (go_at_call 15; refine reg_ret (wSqrt _ ?_ _); unfold InW; omega)))
  refine wpQuiet_nil ?_
  intro _ hw'
  obtain ⟨⟨dq, osq⟩, hw''⟩ := hw'
  subst hw''
  go_wp2
  go_ret
  exact ret_of rfl (Below.next (by go_grown) (below_regrown _ dq osq))

end Go.Proofs.Ytlpnklcnheafoaa
