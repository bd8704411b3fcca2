/- The chapter's example of layer 3. -/
import Derived.Test.YtenefncpokdmnaaVecG
import Derived.Test.YtenefncpokdmnaaVecB
namespace Go.Proofs.Ytenefncpokdmnaa
open Go.RowKit Go.Sort
set_option linter.unusedVariables false
set_option linter.unusedSimpArgs false

theorem vals3 : vtow (3, 4, 0) = (2576980377, 3435973836, 0) ∧ fof 3 = 12884901888 ∧ fof 4 = 17179869184 ∧ fof 0 = 0 ∧ vlen (12884901888, 17179869184, 0) = 21474836480 := by decide +kernel

set_option maxRecDepth 100000 in
set_option maxHeartbeats 1600000 in
theorem works3 (w : World) : Calls Try.prog 18 #[] w (Ret (.bool true) w) := by
  obtain ⟨v1, v2, v3, v4, v5⟩ := vals3
  have V1 := Lib.hid v1
  have V5 := Lib.hid v5
  have i3 : InV (3, 4, 0) := by unfold InV InI; simp
  have i4 : InV (12884901888, 17179869184, 0) := by unfold InV InI; simp
  have K1 := fun w => vToward (3, 4, 0) i3 w
  have K2 := fun w => vOf 3 4 0 (by unfold InI; omega) (by unfold InI; omega) (by unfold InI; omega) w
  have K3 := fun w => vLength (12884901888, 17179869184, 0) i4 w
  rw [v1] at K1
  rw [v2, v3, v4] at K2
  rw [v5] at K3
  have H1 := Lib.hid K1
  have H2 := Lib.hid K2
  have H3 := Lib.hid K3
  clear v1 v2 v3 v4 v5 K1 K2 K3 V1 V5
  go_enter Try.func18, Try.ntmps18
  go_wp2_with fail
  refine (H1.out _).mono ?_; rintro e w1 ⟨rfl, hb1⟩
  have hB1 : Below w.heap.size w w1 := Below.next (by go_grown) hb1
  clear hb1
  go_wp2_with fail
  refine (H2.out _).mono ?_; rintro e w2 ⟨rfl, hb2⟩
  have hB2 : Below w.heap.size w w2 := Below.next hB1 hb2
  clear hb2
  go_wp2_with fail
  refine (H3.out _).mono ?_; rintro e w3 ⟨rfl, hb3⟩
  have hB3 : Below w.heap.size w w3 := Below.next hB2 hb3
  clear hb3
  go_wp2_with fail
  go_ret
  exact ret_of rfl hB3

end Go.Proofs.Ytenefncpokdmnaa
