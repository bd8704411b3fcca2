/- Walk: the law VecNear. -/
import Derived.Test.YtenefncpokdmnaaLaw3
import Derived.Test.YtenefncpokdmnaaVecN
import Derived.Test.YtenefncpokdmnaaFrameV
namespace Go.Proofs.Ytenefncpokdmnaa
open Go.RowKit Go.Sort
set_option linter.unusedVariables false
set_option linter.unusedSimpArgs false

set_option maxRecDepth 100000 in
set_option maxHeartbeats 1600000 in
theorem walkVecNear_x (x y z : Int) (hp : InV (x, y, z)) (hz : x ≠ 0) (n : Int) (HN : Hid (vlen (vtow (x, y, z)) = n)) (n0 : 4294967288 ≤ n) (n1 : n ≤ 4294967304) (w : World) : Calls Try.prog 3 #[V3 x y z] w (Ret (.bool true) w) := by
  have e0 : (x == 0) = false := by rw [beq_eq_false_iff_ne]; exact hz
  clear hz
  obtain ⟨v, hv⟩ : ∃ v, vtow (x, y, z) = v := ⟨_, rfl⟩
  have hvI : InV v := by rw [← hv]; exact vtow_I _
  rw [hv] at HN
  have HV := Lib.hid hv
  clear hv
  go_enter Try.func3, Try.ntmps3
  go_wp2_with fail
  refine (vToward (x, y, z) hp _).mono ?_; rintro e w1 ⟨rfl, hb1⟩
  rw [HV.out]
  have hB1 : Below w.heap.size w w1 := Below.next (by go_grown) hb1
  have c := Cells3.call (v := (x, y, z)) (b := w.heap.size) (by unfold Cells3; simp [go_sem]) hb1
  obtain ⟨p0, p1, p2⟩ := c
  have hS1 := hB1.size
  have hl1 := World.block_lt_of_cell? w1 _ p0
  clear hb1
  go_wp2_with fail
  refine (vLength v hvI _).mono ?_; rintro e w2 ⟨rfl, hb2⟩
  have hB2 : Below w.heap.size w w2 := Below.next (by go_grown) hb2
  rw [HN.out]
  clear hb2
  go_wp2_with fail
  refine (works3 _).mono ?_; rintro e w3 ⟨rfl, hb3⟩
  have hB3 : Below w.heap.size w w3 := Below.next hB2 hb3
  clear hb3
  go_wp2_with fail
  go_ret
  exact ret_of rfl hB3

set_option maxRecDepth 100000 in
set_option maxHeartbeats 1600000 in
theorem walkVecNear_y (y z : Int) (hp : InV (0, y, z)) (hz : y ≠ 0) (n : Int) (HN : Hid (vlen (vtow (0, y, z)) = n)) (n0 : 4294967288 ≤ n) (n1 : n ≤ 4294967304) (w : World) : Calls Try.prog 3 #[V3 0 y z] w (Ret (.bool true) w) := by
  have e0 : (y == 0) = false := by rw [beq_eq_false_iff_ne]; exact hz
  clear hz
  obtain ⟨v, hv⟩ : ∃ v, vtow (0, y, z) = v := ⟨_, rfl⟩
  have hvI : InV v := by rw [← hv]; exact vtow_I _
  rw [hv] at HN
  have HV := Lib.hid hv
  clear hv
  go_enter Try.func3, Try.ntmps3
  go_wp2_with fail
  refine (vToward (0, y, z) hp _).mono ?_; rintro e w1 ⟨rfl, hb1⟩
  rw [HV.out]
  have hB1 : Below w.heap.size w w1 := Below.next (by go_grown) hb1
  have c := Cells3.call (v := (0, y, z)) (b := w.heap.size) (by unfold Cells3; simp [go_sem]) hb1
  obtain ⟨p0, p1, p2⟩ := c
  have hS1 := hB1.size
  have hl1 := World.block_lt_of_cell? w1 _ p0
  clear hb1
  go_wp2_with fail
  refine (vLength v hvI _).mono ?_; rintro e w2 ⟨rfl, hb2⟩
  have hB2 : Below w.heap.size w w2 := Below.next (by go_grown) hb2
  rw [HN.out]
  clear hb2
  go_wp2_with fail
  refine (works3 _).mono ?_; rintro e w3 ⟨rfl, hb3⟩
  have hB3 : Below w.heap.size w w3 := Below.next hB2 hb3
  clear hb3
  go_wp2_with fail
  go_ret
  exact ret_of rfl hB3

set_option maxRecDepth 100000 in
set_option maxHeartbeats 1600000 in
theorem walkVecNear_z (z : Int) (hp : InV (0, 0, z)) (hz : z ≠ 0) (n : Int) (HN : Hid (vlen (vtow (0, 0, z)) = n)) (n0 : 4294967288 ≤ n) (n1 : n ≤ 4294967304) (w : World) : Calls Try.prog 3 #[V3 0 0 z] w (Ret (.bool true) w) := by
  have e0 : (z == 0) = false := by rw [beq_eq_false_iff_ne]; exact hz
  clear hz
  obtain ⟨v, hv⟩ : ∃ v, vtow (0, 0, z) = v := ⟨_, rfl⟩
  have hvI : InV v := by rw [← hv]; exact vtow_I _
  rw [hv] at HN
  have HV := Lib.hid hv
  clear hv
  go_enter Try.func3, Try.ntmps3
  go_wp2_with fail
  refine (vToward (0, 0, z) hp _).mono ?_; rintro e w1 ⟨rfl, hb1⟩
  rw [HV.out]
  have hB1 : Below w.heap.size w w1 := Below.next (by go_grown) hb1
  have c := Cells3.call (v := (0, 0, z)) (b := w.heap.size) (by unfold Cells3; simp [go_sem]) hb1
  obtain ⟨p0, p1, p2⟩ := c
  have hS1 := hB1.size
  have hl1 := World.block_lt_of_cell? w1 _ p0
  clear hb1
  go_wp2_with fail
  refine (vLength v hvI _).mono ?_; rintro e w2 ⟨rfl, hb2⟩
  have hB2 : Below w.heap.size w w2 := Below.next (by go_grown) hb2
  rw [HN.out]
  clear hb2
  go_wp2_with fail
  refine (works3 _).mono ?_; rintro e w3 ⟨rfl, hb3⟩
  have hB3 : Below w.heap.size w w3 := Below.next hB2 hb3
  clear hb3
  go_wp2_with fail
  go_ret
  exact ret_of rfl hB3

set_option maxRecDepth 100000 in
set_option maxHeartbeats 1600000 in
theorem walkVecNear_0 (w : World) : Calls Try.prog 3 #[V3 0 0 0] w (Ret (.bool true) w) := by
  have hv : vtow (0, 0, 0) = (0, 0, 0) := by decide +kernel
  have K := fun w => vToward (0, 0, 0) zero3_I w
  rw [hv] at K
  have KK := Lib.hid K
  clear hv K
  go_enter Try.func3, Try.ntmps3
  go_wp2_with fail
  refine (KK.out _).mono ?_; rintro e w1 ⟨rfl, hb1⟩
  have hB1 : Below w.heap.size w w1 := Below.next (by go_grown) hb1
  have c := Cells3.call (v := (0, 0, 0)) (b := w.heap.size) (by unfold Cells3; simp [go_sem]) hb1
  obtain ⟨p0, p1, p2⟩ := c
  have hS1 := hB1.size
  have hl1 := World.block_lt_of_cell? w1 _ p0
  clear hb1
  go_wp2_with fail
  refine (works3 _).mono ?_; rintro e w3 ⟨rfl, hb3⟩
  have hB3 : Below w.heap.size w w3 := Below.next (by go_grown) hb3
  clear hb3
  go_wp2_with fail
  go_ret
  exact ret_of rfl hB3

theorem lawVecNear (ns : List Int) (h : Al2 Fits [.i64, .i64, .i64] ns) (w : World) : Calls Try.prog 3 #[.agg (vals [.i64, .i64, .i64] ns).toArray] w (Ret (.bool true) w) := by
  obtain ⟨p, hp, e⟩ := three_in h
  rw [e]
  obtain ⟨x, y, z⟩ := p
  by_cases h0 : x = 0
  · subst h0
    by_cases h1 : y = 0
    · subst h1
      by_cases h2 : z = 0
      · subst h2
        exact walkVecNear_0 w
      · have hb := near_bd (p := (0, 0, z)) (by intro e; injection e with e1 e2; injection e2 with e2 e3; exact h2 e3)
        exact walkVecNear_z z hp h2 _ (Lib.hid rfl) hb.1 hb.2 w
    · have hb := near_bd (p := (0, y, z)) (by intro e; injection e with e1 e2; injection e2 with e2 e3; exact h1 e2)
      exact walkVecNear_y y z hp h1 _ (Lib.hid rfl) hb.1 hb.2 w
  · have hb := near_bd (p := (x, y, z)) (by intro e; injection e with e1 e2; exact h0 e1)
    exact walkVecNear_x x y z hp h0 _ (Lib.hid rfl) hb.1 hb.2 w

end Go.Proofs.Ytenefncpokdmnaa
