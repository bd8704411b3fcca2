/- The chapter's example of layer 5. -/
import Derived.Test.YtbfgmedjogjkeaaOctaC
import Derived.Test.YtbfgmedjogjkeaaOctaE
namespace Go.Proofs.Ytbfgmedjogjkeaa
open Go.RowKit Go.Sort
set_option linter.unusedVariables false
set_option linter.unusedSimpArgs false

theorem vals5 : encV (1, 0, 0) = 2147500032 ∧ encE (1, 0, 0) = 0 ∧ quant (1, -2, 0) = (8192, -16384, 0) ∧ quantE (1, -2, 0) = 0 ∧ dec 1073758208 = (0, 0, 16384) := by decide +kernel

set_option maxRecDepth 100000 in
set_option maxHeartbeats 1600000 in
theorem works5 (w : World) : Calls Try.prog 20 #[] w (Ret (.bool true) w) := by
  obtain ⟨v1, v2, v3, v4, v5⟩ := vals5
  have K1 := fun w => oEnc (1, 0, 0) (by unfold InV InI; simp) w
  have K2 := fun w => oQuant (1, -2, 0) (by unfold InV InI; simp) w
  have K3 := fun w => oDec 1073758208 (by omega) w
  rw [v1, v2] at K1
  rw [v3, v4] at K2
  rw [v5] at K3
  have H1 := Lib.hid K1
  have H2 := Lib.hid K2
  have H3 := Lib.hid K3
  clear v1 v2 v3 v4 v5 K1 K2 K3
  go_enter Try.func20, Try.ntmps20
  go_wp2_with fail
  refine (H1.out _).mono ?_; rintro e w1 ⟨rfl, hb1⟩
  have hB1 : Below w.heap.size w w1 := Below.next (by go_grown) hb1
  have hS1 := hB1.size
  clear hb1
  go_wp2_with fail
  refine (H2.out _).mono ?_; rintro e w2 ⟨rfl, hb2⟩
  have hB2 : Below w.heap.size w w2 := Below.next (by go_grown) hb2
  have hS2 := hB2.size
  clear hb2
  go_wp2_with fail
  refine (H3.out _).mono ?_; rintro e w3 ⟨rfl, hb3⟩
  have hB3 : Below w.heap.size w w3 := Below.next (by go_grown) hb3
  have d3_0 : w3.cell? ⟨w2.heap.size, 0, none⟩ = some (.int .i64 8192) := cell_call hb3 (by first | assumption | go_cell | simp [go_sem])
  have d3_1 : w3.cell? ⟨w2.heap.size, 1, none⟩ = some (.int .i64 (-16384)) := cell_call hb3 (by first | assumption | go_cell | simp [go_sem])
  have d3_2 : w3.cell? ⟨w2.heap.size, 2, none⟩ = some (.int .i64 0) := cell_call hb3 (by first | assumption | go_cell | simp [go_sem])
  have l3_0 := World.block_lt_of_cell? w3 _ d3_0
  have hS3 := hB3.size
  clear hb3
  go_wp2_with fail
  go_ret
  exact ret_of rfl hB3

end Go.Proofs.Ytbfgmedjogjkeaa
