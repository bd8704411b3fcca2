/- Walks: umbraref20.part, umbraref20.Place. -/
import Derived.Test.YtbfgmedjogjkeaaTriP
namespace Go.Proofs.Ytbfgmedjogjkeaa
open Go.RowKit Go.Sort
set_option linter.unusedVariables false
set_option linter.unusedSimpArgs false

set_option maxRecDepth 100000 in
set_option maxHeartbeats 1600000 in
theorem r20part_z (o d : Int) (m : M4) (X Y h l q r q1 y s R : Int) (HR : Hid (clampG s = R)) (h1 : ¬ 0 < m.2.1) (K9 : Hid (∀ w, Calls Try.prog 88 #[.int .i64 o, .int .i64 0] w (Ret (.int .i64 s) w))) (w : World) : Calls Try.prog 77 #[.int .i64 o, .int .i64 d, .agg #[.int .i64 m.1, .int .i64 m.2.1, .int .i64 m.2.2.1, .int .i64 m.2.2.2]] w (Ret (.int .i64 R) w) := by
  go_enter Try.func77, Try.ntmps77
  go_wp2_with fail
  refine (K9.out _).mono ?_; rintro e w1 ⟨rfl, hb1⟩
  have hB1 : Below w.heap.size w w1 := Below.next (by go_grown) hb1
  have d1_0 : w1.cell? ⟨w.heap.size, 0, none⟩ = some (.int .i64 m.1) := cell_call hb1 (by first | assumption | go_cell | simp [go_sem] | simp [go_sem, *])
  have d1_1 : w1.cell? ⟨w.heap.size, 1, none⟩ = some (.int .i64 m.2.1) := cell_call hb1 (by first | assumption | go_cell | simp [go_sem] | simp [go_sem, *])
  have d1_2 : w1.cell? ⟨w.heap.size, 2, none⟩ = some (.int .i64 m.2.2.1) := cell_call hb1 (by first | assumption | go_cell | simp [go_sem] | simp [go_sem, *])
  have d1_3 : w1.cell? ⟨w.heap.size, 3, none⟩ = some (.int .i64 m.2.2.2) := cell_call hb1 (by first | assumption | go_cell | simp [go_sem] | simp [go_sem, *])
  have l1_0 : w.heap.size < w1.heap.size := World.block_lt_of_cell? w1 _ d1_0
  have hS1 := hB1.size
  clear hb1
  by_cases g1 : 65536 < s
  · obtain rfl : (65536 : Int) = R := by rw [← HR.out]; unfold clampG; rw [if_neg (by omega), if_pos g1]
    go_wp2_with fail
    go_ret
    exact ret_of rfl hB1
  by_cases g2 : s < -65536
  · obtain rfl : (-65536 : Int) = R := by rw [← HR.out]; unfold clampG; rw [if_pos g2]
    go_wp2_with fail
    go_ret
    exact ret_of rfl hB1
  obtain rfl : s = R := by rw [← HR.out]; unfold clampG; rw [if_neg g2, if_neg g1]
  go_wp2_with fail
  go_ret
  exact ret_of rfl hB1

set_option maxRecDepth 100000 in
set_option maxHeartbeats 1600000 in
theorem r20part_00g (o d : Int) (m : M4) (X Y h l q r q1 y s R : Int) (HR : Hid (clampG s = R)) (h1 : 0 < m.2.1) (h2 : m.2.1 ≤ 9223372036854775807) (sb1 : decide (d < 0) = false) (sb2 : decide (m.1 < 0) = false) (hg : m.2.1 ≤ h) (K1 : Hid (∀ w, Calls Try.prog 64 #[.int .i64 d] w (Ret (.int .u64 X) w))) (K2 : Hid (∀ w, Calls Try.prog 64 #[.int .i64 m.1] w (Ret (.int .u64 Y) w))) (K3 : Hid (∀ w, Calls Try.prog 63 #[.int .u64 X, .int .u64 Y] w (Ret (.tuple #[.int .u64 h, .int .u64 l]) w))) (K4 : Hid (∀ w, Calls Try.prog 87 #[.int .u64 0, .bool false, .bool true] w (Ret (.int .i64 y) w))) (K9 : Hid (∀ w, Calls Try.prog 88 #[.int .i64 o, .int .i64 y] w (Ret (.int .i64 s) w))) (w : World) : Calls Try.prog 77 #[.int .i64 o, .int .i64 d, .agg #[.int .i64 m.1, .int .i64 m.2.1, .int .i64 m.2.2.1, .int .i64 m.2.2.2]] w (Ret (.int .i64 R) w) := by
  go_enter Try.func77, Try.ntmps77
  go_wp2_with fail
  refine wp_region_fresh_gen 11 (by kernel_rfl) (by kernel_rfl) (fun W1 HW1 => ?_)
  intro F1_0 U1_0
  have hA1 : Below w.heap.size w W1 := by rw [HW1]; go_grown
  have c1_0 : W1.cell? ⟨w.heap.size, 0, none⟩ = some (.int .i64 m.1) := by rw [HW1]; first | assumption | go_cell | simp [go_sem, *]
  have c1_1 : W1.cell? ⟨w.heap.size, 1, none⟩ = some (.int .i64 m.2.1) := by rw [HW1]; first | assumption | go_cell | simp [go_sem, *]
  have c1_2 : W1.cell? ⟨w.heap.size, 2, none⟩ = some (.int .i64 m.2.2.1) := by rw [HW1]; first | assumption | go_cell | simp [go_sem, *]
  have c1_3 : W1.cell? ⟨w.heap.size, 3, none⟩ = some (.int .i64 m.2.2.2) := by rw [HW1]; first | assumption | go_cell | simp [go_sem, *]
  clear HW1
  have r1_0 := reg_cell c1_0
  have r1_1 := reg_cell c1_1
  have r1_2 := reg_cell c1_2
  have r1_3 := reg_cell c1_3
  simp only [List.take_succ_cons, List.take_zero, List.drop_succ_cons, List.drop_zero]
  refine WL_plain (fun K hK => ?_); go_simp; refine hK _ ?_; clear hK K
  refine WL_call (by kernel_rfl) (fun K hK => ?_)
  go_simp
  apply Exists.intro
  refine ⟨fun w1 hb1 hf1 => ?_, hK _ ?_⟩
  · exact K1.out _
  clear hK K
  iterate 2 (refine WL_plain (fun K hK => ?_); go_simp; refine hK _ ?_; clear hK K)
  refine WL_call (by kernel_rfl) (fun K hK => ?_)
  go_simp
  apply Exists.intro
  refine ⟨fun w1 hb1 hf1 => ?_, hK _ ?_⟩
  · exact K2.out _
  clear hK K
  refine WL_call (by kernel_rfl) (fun K hK => ?_)
  go_simp
  apply Exists.intro
  refine ⟨fun w1 hb1 hf1 => ?_, hK _ ?_⟩
  · exact K3.out _
  clear hK K
  iterate 5 (refine WL_plain (fun K hK => ?_); go_simp; refine hK _ ?_; clear hK K)
  refine WL_nil (fun w1 hb1 hf1 => ?_)
  have hB1 : Below w.heap.size w w1 := Below.next hA1 hb1
  have d1_0 := cell_call hb1 c1_0
  have d1_1 := cell_call hb1 c1_1
  have d1_2 := cell_call hb1 c1_2
  have d1_3 := cell_call hb1 c1_3
  clear r1_0 c1_0 r1_1 c1_1 r1_2 c1_2 r1_3 c1_3
  have l1_0 : w.heap.size < w1.heap.size := World.block_lt_of_cell? w1 _ d1_0
  have hS1 := hB1.size
  go_wp2_with fail
  refine (K4.out _).mono ?_; rintro e w2 ⟨rfl, hb2⟩
  have hB2 : Below w.heap.size w w2 := Below.next (by go_grown) hb2
  have d2_0 : w2.cell? ⟨w.heap.size, 0, none⟩ = some (.int .i64 m.1) := cell_call hb2 (by first | assumption | go_cell | simp [go_sem] | simp [go_sem, *])
  have d2_1 : w2.cell? ⟨w.heap.size, 1, none⟩ = some (.int .i64 m.2.1) := cell_call hb2 (by first | assumption | go_cell | simp [go_sem] | simp [go_sem, *])
  have d2_2 : w2.cell? ⟨w.heap.size, 2, none⟩ = some (.int .i64 m.2.2.1) := cell_call hb2 (by first | assumption | go_cell | simp [go_sem] | simp [go_sem, *])
  have d2_3 : w2.cell? ⟨w.heap.size, 3, none⟩ = some (.int .i64 m.2.2.2) := cell_call hb2 (by first | assumption | go_cell | simp [go_sem] | simp [go_sem, *])
  have l2_0 : w.heap.size < w2.heap.size := World.block_lt_of_cell? w2 _ d2_0
  clear d1_0 l1_0 d1_1 d1_2 d1_3
  have hS2 := hB2.size
  clear hb2
  go_wp2_with fail
  refine (K9.out _).mono ?_; rintro e w3 ⟨rfl, hb3⟩
  have hB3 : Below w.heap.size w w3 := Below.next (by go_grown) hb3
  have d3_0 : w3.cell? ⟨w.heap.size, 0, none⟩ = some (.int .i64 m.1) := cell_call hb3 (by first | assumption | go_cell | simp [go_sem] | simp [go_sem, *])
  have d3_1 : w3.cell? ⟨w.heap.size, 1, none⟩ = some (.int .i64 m.2.1) := cell_call hb3 (by first | assumption | go_cell | simp [go_sem] | simp [go_sem, *])
  have d3_2 : w3.cell? ⟨w.heap.size, 2, none⟩ = some (.int .i64 m.2.2.1) := cell_call hb3 (by first | assumption | go_cell | simp [go_sem] | simp [go_sem, *])
  have d3_3 : w3.cell? ⟨w.heap.size, 3, none⟩ = some (.int .i64 m.2.2.2) := cell_call hb3 (by first | assumption | go_cell | simp [go_sem] | simp [go_sem, *])
  have l3_0 : w.heap.size < w3.heap.size := World.block_lt_of_cell? w3 _ d3_0
  clear d2_0 d2_1 d2_2 d2_3 l2_0
  have hS3 := hB3.size
  clear hb3
  by_cases g1 : 65536 < s
  · obtain rfl : (65536 : Int) = R := by rw [← HR.out]; unfold clampG; rw [if_neg (by omega), if_pos g1]
    go_wp2_with fail
    go_ret
    exact ret_of rfl hB3
  by_cases g2 : s < -65536
  · obtain rfl : (-65536 : Int) = R := by rw [← HR.out]; unfold clampG; rw [if_pos g2]
    go_wp2_with fail
    go_ret
    exact ret_of rfl hB3
  obtain rfl : s = R := by rw [← HR.out]; unfold clampG; rw [if_neg g2, if_neg g1]
  go_wp2_with fail
  go_ret
  exact ret_of rfl hB3

set_option maxRecDepth 100000 in
set_option maxHeartbeats 1600000 in
theorem r20part_00q (o d : Int) (m : M4) (X Y h l q r q1 y s R : Int) (HR : Hid (clampG s = R)) (h1 : 0 < m.2.1) (h2 : m.2.1 ≤ 9223372036854775807) (sb1 : decide (d < 0) = false) (sb2 : decide (m.1 < 0) = false) (hg : ¬ m.2.1 ≤ h) (K1 : Hid (∀ w, Calls Try.prog 64 #[.int .i64 d] w (Ret (.int .u64 X) w))) (K2 : Hid (∀ w, Calls Try.prog 64 #[.int .i64 m.1] w (Ret (.int .u64 Y) w))) (K3 : Hid (∀ w, Calls Try.prog 63 #[.int .u64 X, .int .u64 Y] w (Ret (.tuple #[.int .u64 h, .int .u64 l]) w))) (K5 : Hid (∀ w, Calls Try.prog 65 #[.int .u64 h, .int .u64 l, .int .u64 m.2.1] w (Ret (.tuple #[.int .u64 q, .int .u64 r]) w))) (K4 : Hid (∀ w, Calls Try.prog 87 #[.int .u64 q, .bool false, .bool false] w (Ret (.int .i64 y) w))) (K9 : Hid (∀ w, Calls Try.prog 88 #[.int .i64 o, .int .i64 y] w (Ret (.int .i64 s) w))) (w : World) : Calls Try.prog 77 #[.int .i64 o, .int .i64 d, .agg #[.int .i64 m.1, .int .i64 m.2.1, .int .i64 m.2.2.1, .int .i64 m.2.2.2]] w (Ret (.int .i64 R) w) := by
  go_enter Try.func77, Try.ntmps77
  go_wp2_with fail
  refine wp_region_fresh_gen 11 (by kernel_rfl) (by kernel_rfl) (fun W1 HW1 => ?_)
  intro F1_0 U1_0
  have hA1 : Below w.heap.size w W1 := by rw [HW1]; go_grown
  have c1_0 : W1.cell? ⟨w.heap.size, 0, none⟩ = some (.int .i64 m.1) := by rw [HW1]; first | assumption | go_cell | simp [go_sem, *]
  have c1_1 : W1.cell? ⟨w.heap.size, 1, none⟩ = some (.int .i64 m.2.1) := by rw [HW1]; first | assumption | go_cell | simp [go_sem, *]
  have c1_2 : W1.cell? ⟨w.heap.size, 2, none⟩ = some (.int .i64 m.2.2.1) := by rw [HW1]; first | assumption | go_cell | simp [go_sem, *]
  have c1_3 : W1.cell? ⟨w.heap.size, 3, none⟩ = some (.int .i64 m.2.2.2) := by rw [HW1]; first | assumption | go_cell | simp [go_sem, *]
  clear HW1
  have r1_0 := reg_cell c1_0
  have r1_1 := reg_cell c1_1
  have r1_2 := reg_cell c1_2
  have r1_3 := reg_cell c1_3
  simp only [List.take_succ_cons, List.take_zero, List.drop_succ_cons, List.drop_zero]
  refine WL_plain (fun K hK => ?_); go_simp; refine hK _ ?_; clear hK K
  refine WL_call (by kernel_rfl) (fun K hK => ?_)
  go_simp
  apply Exists.intro
  refine ⟨fun w1 hb1 hf1 => ?_, hK _ ?_⟩
  · exact K1.out _
  clear hK K
  iterate 2 (refine WL_plain (fun K hK => ?_); go_simp; refine hK _ ?_; clear hK K)
  refine WL_call (by kernel_rfl) (fun K hK => ?_)
  go_simp
  apply Exists.intro
  refine ⟨fun w1 hb1 hf1 => ?_, hK _ ?_⟩
  · exact K2.out _
  clear hK K
  refine WL_call (by kernel_rfl) (fun K hK => ?_)
  go_simp
  apply Exists.intro
  refine ⟨fun w1 hb1 hf1 => ?_, hK _ ?_⟩
  · exact K3.out _
  clear hK K
  iterate 5 (refine WL_plain (fun K hK => ?_); go_simp; refine hK _ ?_; clear hK K)
  refine WL_nil (fun w1 hb1 hf1 => ?_)
  have hB1 : Below w.heap.size w w1 := Below.next hA1 hb1
  have d1_0 := cell_call hb1 c1_0
  have d1_1 := cell_call hb1 c1_1
  have d1_2 := cell_call hb1 c1_2
  have d1_3 := cell_call hb1 c1_3
  clear r1_0 c1_0 r1_1 c1_1 r1_2 c1_2 r1_3 c1_3
  have l1_0 : w.heap.size < w1.heap.size := World.block_lt_of_cell? w1 _ d1_0
  have hS1 := hB1.size
  go_wp2_with fail
  refine (K5.out _).mono ?_; rintro e w2 ⟨rfl, hb2⟩
  have hB2 : Below w.heap.size w w2 := Below.next (by go_grown) hb2
  have d2_0 : w2.cell? ⟨w.heap.size, 0, none⟩ = some (.int .i64 m.1) := cell_call hb2 (by first | assumption | go_cell | simp [go_sem] | simp [go_sem, *])
  have d2_1 : w2.cell? ⟨w.heap.size, 1, none⟩ = some (.int .i64 m.2.1) := cell_call hb2 (by first | assumption | go_cell | simp [go_sem] | simp [go_sem, *])
  have d2_2 : w2.cell? ⟨w.heap.size, 2, none⟩ = some (.int .i64 m.2.2.1) := cell_call hb2 (by first | assumption | go_cell | simp [go_sem] | simp [go_sem, *])
  have d2_3 : w2.cell? ⟨w.heap.size, 3, none⟩ = some (.int .i64 m.2.2.2) := cell_call hb2 (by first | assumption | go_cell | simp [go_sem] | simp [go_sem, *])
  have l2_0 : w.heap.size < w2.heap.size := World.block_lt_of_cell? w2 _ d2_0
  clear d1_0 l1_0 d1_1 d1_2 d1_3
  have hS2 := hB2.size
  clear hb2
  go_wp2_with fail
  refine (K4.out _).mono ?_; rintro e w3 ⟨rfl, hb3⟩
  have hB3 : Below w.heap.size w w3 := Below.next (by go_grown) hb3
  have d3_0 : w3.cell? ⟨w.heap.size, 0, none⟩ = some (.int .i64 m.1) := cell_call hb3 (by first | assumption | go_cell | simp [go_sem] | simp [go_sem, *])
  have d3_1 : w3.cell? ⟨w.heap.size, 1, none⟩ = some (.int .i64 m.2.1) := cell_call hb3 (by first | assumption | go_cell | simp [go_sem] | simp [go_sem, *])
  have d3_2 : w3.cell? ⟨w.heap.size, 2, none⟩ = some (.int .i64 m.2.2.1) := cell_call hb3 (by first | assumption | go_cell | simp [go_sem] | simp [go_sem, *])
  have d3_3 : w3.cell? ⟨w.heap.size, 3, none⟩ = some (.int .i64 m.2.2.2) := cell_call hb3 (by first | assumption | go_cell | simp [go_sem] | simp [go_sem, *])
  have l3_0 : w.heap.size < w3.heap.size := World.block_lt_of_cell? w3 _ d3_0
  clear d2_0 d2_1 d2_2 d2_3 l2_0
  have hS3 := hB3.size
  clear hb3
  go_wp2_with fail
  refine (K9.out _).mono ?_; rintro e w4 ⟨rfl, hb4⟩
  have hB4 : Below w.heap.size w w4 := Below.next (by go_grown) hb4
  have d4_0 : w4.cell? ⟨w.heap.size, 0, none⟩ = some (.int .i64 m.1) := cell_call hb4 (by first | assumption | go_cell | simp [go_sem] | simp [go_sem, *])
  have d4_1 : w4.cell? ⟨w.heap.size, 1, none⟩ = some (.int .i64 m.2.1) := cell_call hb4 (by first | assumption | go_cell | simp [go_sem] | simp [go_sem, *])
  have d4_2 : w4.cell? ⟨w.heap.size, 2, none⟩ = some (.int .i64 m.2.2.1) := cell_call hb4 (by first | assumption | go_cell | simp [go_sem] | simp [go_sem, *])
  have d4_3 : w4.cell? ⟨w.heap.size, 3, none⟩ = some (.int .i64 m.2.2.2) := cell_call hb4 (by first | assumption | go_cell | simp [go_sem] | simp [go_sem, *])
  have l4_0 : w.heap.size < w4.heap.size := World.block_lt_of_cell? w4 _ d4_0
  clear d3_0 d3_1 d3_2 d3_3 l3_0
  have hS4 := hB4.size
  clear hb4
  by_cases g1 : 65536 < s
  · obtain rfl : (65536 : Int) = R := by rw [← HR.out]; unfold clampG; rw [if_neg (by omega), if_pos g1]
    go_wp2_with fail
    go_ret
    exact ret_of rfl hB4
  by_cases g2 : s < -65536
  · obtain rfl : (-65536 : Int) = R := by rw [← HR.out]; unfold clampG; rw [if_pos g2]
    go_wp2_with fail
    go_ret
    exact ret_of rfl hB4
  obtain rfl : s = R := by rw [← HR.out]; unfold clampG; rw [if_neg g2, if_neg g1]
  go_wp2_with fail
  go_ret
  exact ret_of rfl hB4

set_option maxRecDepth 100000 in
set_option maxHeartbeats 1600000 in
theorem r20part_01g (o d : Int) (m : M4) (X Y h l q r q1 y s R : Int) (HR : Hid (clampG s = R)) (h1 : 0 < m.2.1) (h2 : m.2.1 ≤ 9223372036854775807) (sb1 : decide (d < 0) = false) (sb2 : decide (m.1 < 0) = true) (hg : m.2.1 ≤ h) (K1 : Hid (∀ w, Calls Try.prog 64 #[.int .i64 d] w (Ret (.int .u64 X) w))) (K2 : Hid (∀ w, Calls Try.prog 64 #[.int .i64 m.1] w (Ret (.int .u64 Y) w))) (K3 : Hid (∀ w, Calls Try.prog 63 #[.int .u64 X, .int .u64 Y] w (Ret (.tuple #[.int .u64 h, .int .u64 l]) w))) (K4 : Hid (∀ w, Calls Try.prog 87 #[.int .u64 0, .bool true, .bool true] w (Ret (.int .i64 y) w))) (K9 : Hid (∀ w, Calls Try.prog 88 #[.int .i64 o, .int .i64 y] w (Ret (.int .i64 s) w))) (w : World) : Calls Try.prog 77 #[.int .i64 o, .int .i64 d, .agg #[.int .i64 m.1, .int .i64 m.2.1, .int .i64 m.2.2.1, .int .i64 m.2.2.2]] w (Ret (.int .i64 R) w) := by
  go_enter Try.func77, Try.ntmps77
  go_wp2_with fail
  refine wp_region_fresh_gen 11 (by kernel_rfl) (by kernel_rfl) (fun W1 HW1 => ?_)
  intro F1_0 U1_0
  have hA1 : Below w.heap.size w W1 := by rw [HW1]; go_grown
  have c1_0 : W1.cell? ⟨w.heap.size, 0, none⟩ = some (.int .i64 m.1) := by rw [HW1]; first | assumption | go_cell | simp [go_sem, *]
  have c1_1 : W1.cell? ⟨w.heap.size, 1, none⟩ = some (.int .i64 m.2.1) := by rw [HW1]; first | assumption | go_cell | simp [go_sem, *]
  have c1_2 : W1.cell? ⟨w.heap.size, 2, none⟩ = some (.int .i64 m.2.2.1) := by rw [HW1]; first | assumption | go_cell | simp [go_sem, *]
  have c1_3 : W1.cell? ⟨w.heap.size, 3, none⟩ = some (.int .i64 m.2.2.2) := by rw [HW1]; first | assumption | go_cell | simp [go_sem, *]
  clear HW1
  have r1_0 := reg_cell c1_0
  have r1_1 := reg_cell c1_1
  have r1_2 := reg_cell c1_2
  have r1_3 := reg_cell c1_3
  simp only [List.take_succ_cons, List.take_zero, List.drop_succ_cons, List.drop_zero]
  refine WL_plain (fun K hK => ?_); go_simp; refine hK _ ?_; clear hK K
  refine WL_call (by kernel_rfl) (fun K hK => ?_)
  go_simp
  apply Exists.intro
  refine ⟨fun w1 hb1 hf1 => ?_, hK _ ?_⟩
  · exact K1.out _
  clear hK K
  iterate 2 (refine WL_plain (fun K hK => ?_); go_simp; refine hK _ ?_; clear hK K)
  refine WL_call (by kernel_rfl) (fun K hK => ?_)
  go_simp
  apply Exists.intro
  refine ⟨fun w1 hb1 hf1 => ?_, hK _ ?_⟩
  · exact K2.out _
  clear hK K
  refine WL_call (by kernel_rfl) (fun K hK => ?_)
  go_simp
  apply Exists.intro
  refine ⟨fun w1 hb1 hf1 => ?_, hK _ ?_⟩
  · exact K3.out _
  clear hK K
  iterate 5 (refine WL_plain (fun K hK => ?_); go_simp; refine hK _ ?_; clear hK K)
  refine WL_nil (fun w1 hb1 hf1 => ?_)
  have hB1 : Below w.heap.size w w1 := Below.next hA1 hb1
  have d1_0 := cell_call hb1 c1_0
  have d1_1 := cell_call hb1 c1_1
  have d1_2 := cell_call hb1 c1_2
  have d1_3 := cell_call hb1 c1_3
  clear r1_0 c1_0 r1_1 c1_1 r1_2 c1_2 r1_3 c1_3
  have l1_0 : w.heap.size < w1.heap.size := World.block_lt_of_cell? w1 _ d1_0
  have hS1 := hB1.size
  go_wp2_with fail
  refine (K4.out _).mono ?_; rintro e w2 ⟨rfl, hb2⟩
  have hB2 : Below w.heap.size w w2 := Below.next (by go_grown) hb2
  have d2_0 : w2.cell? ⟨w.heap.size, 0, none⟩ = some (.int .i64 m.1) := cell_call hb2 (by first | assumption | go_cell | simp [go_sem] | simp [go_sem, *])
  have d2_1 : w2.cell? ⟨w.heap.size, 1, none⟩ = some (.int .i64 m.2.1) := cell_call hb2 (by first | assumption | go_cell | simp [go_sem] | simp [go_sem, *])
  have d2_2 : w2.cell? ⟨w.heap.size, 2, none⟩ = some (.int .i64 m.2.2.1) := cell_call hb2 (by first | assumption | go_cell | simp [go_sem] | simp [go_sem, *])
  have d2_3 : w2.cell? ⟨w.heap.size, 3, none⟩ = some (.int .i64 m.2.2.2) := cell_call hb2 (by first | assumption | go_cell | simp [go_sem] | simp [go_sem, *])
  have l2_0 : w.heap.size < w2.heap.size := World.block_lt_of_cell? w2 _ d2_0
  clear d1_0 l1_0 d1_1 d1_2 d1_3
  have hS2 := hB2.size
  clear hb2
  go_wp2_with fail
  refine (K9.out _).mono ?_; rintro e w3 ⟨rfl, hb3⟩
  have hB3 : Below w.heap.size w w3 := Below.next (by go_grown) hb3
  have d3_0 : w3.cell? ⟨w.heap.size, 0, none⟩ = some (.int .i64 m.1) := cell_call hb3 (by first | assumption | go_cell | simp [go_sem] | simp [go_sem, *])
  have d3_1 : w3.cell? ⟨w.heap.size, 1, none⟩ = some (.int .i64 m.2.1) := cell_call hb3 (by first | assumption | go_cell | simp [go_sem] | simp [go_sem, *])
  have d3_2 : w3.cell? ⟨w.heap.size, 2, none⟩ = some (.int .i64 m.2.2.1) := cell_call hb3 (by first | assumption | go_cell | simp [go_sem] | simp [go_sem, *])
  have d3_3 : w3.cell? ⟨w.heap.size, 3, none⟩ = some (.int .i64 m.2.2.2) := cell_call hb3 (by first | assumption | go_cell | simp [go_sem] | simp [go_sem, *])
  have l3_0 : w.heap.size < w3.heap.size := World.block_lt_of_cell? w3 _ d3_0
  clear d2_0 d2_1 d2_2 d2_3 l2_0
  have hS3 := hB3.size
  clear hb3
  by_cases g1 : 65536 < s
  · obtain rfl : (65536 : Int) = R := by rw [← HR.out]; unfold clampG; rw [if_neg (by omega), if_pos g1]
    go_wp2_with fail
    go_ret
    exact ret_of rfl hB3
  by_cases g2 : s < -65536
  · obtain rfl : (-65536 : Int) = R := by rw [← HR.out]; unfold clampG; rw [if_pos g2]
    go_wp2_with fail
    go_ret
    exact ret_of rfl hB3
  obtain rfl : s = R := by rw [← HR.out]; unfold clampG; rw [if_neg g2, if_neg g1]
  go_wp2_with fail
  go_ret
  exact ret_of rfl hB3

set_option maxRecDepth 100000 in
set_option maxHeartbeats 1600000 in
theorem r20part_01r (o d : Int) (m : M4) (X Y h l q r q1 y s R : Int) (HR : Hid (clampG s = R)) (h1 : 0 < m.2.1) (h2 : m.2.1 ≤ 9223372036854775807) (sb1 : decide (d < 0) = false) (sb2 : decide (m.1 < 0) = true) (hg : ¬ m.2.1 ≤ h) (hr : 0 < r) (hw : IntKind.u64.wrap (q + 1) = q1) (K1 : Hid (∀ w, Calls Try.prog 64 #[.int .i64 d] w (Ret (.int .u64 X) w))) (K2 : Hid (∀ w, Calls Try.prog 64 #[.int .i64 m.1] w (Ret (.int .u64 Y) w))) (K3 : Hid (∀ w, Calls Try.prog 63 #[.int .u64 X, .int .u64 Y] w (Ret (.tuple #[.int .u64 h, .int .u64 l]) w))) (K5 : Hid (∀ w, Calls Try.prog 65 #[.int .u64 h, .int .u64 l, .int .u64 m.2.1] w (Ret (.tuple #[.int .u64 q, .int .u64 r]) w))) (K4 : Hid (∀ w, Calls Try.prog 87 #[.int .u64 q1, .bool true, .bool (q1 == 0)] w (Ret (.int .i64 y) w))) (K9 : Hid (∀ w, Calls Try.prog 88 #[.int .i64 o, .int .i64 y] w (Ret (.int .i64 s) w))) (w : World) : Calls Try.prog 77 #[.int .i64 o, .int .i64 d, .agg #[.int .i64 m.1, .int .i64 m.2.1, .int .i64 m.2.2.1, .int .i64 m.2.2.2]] w (Ret (.int .i64 R) w) := by
  go_enter Try.func77, Try.ntmps77
  go_wp2_with fail
  refine wp_region_fresh_gen 11 (by kernel_rfl) (by kernel_rfl) (fun W1 HW1 => ?_)
  intro F1_0 U1_0
  have hA1 : Below w.heap.size w W1 := by rw [HW1]; go_grown
  have c1_0 : W1.cell? ⟨w.heap.size, 0, none⟩ = some (.int .i64 m.1) := by rw [HW1]; first | assumption | go_cell | simp [go_sem, *]
  have c1_1 : W1.cell? ⟨w.heap.size, 1, none⟩ = some (.int .i64 m.2.1) := by rw [HW1]; first | assumption | go_cell | simp [go_sem, *]
  have c1_2 : W1.cell? ⟨w.heap.size, 2, none⟩ = some (.int .i64 m.2.2.1) := by rw [HW1]; first | assumption | go_cell | simp [go_sem, *]
  have c1_3 : W1.cell? ⟨w.heap.size, 3, none⟩ = some (.int .i64 m.2.2.2) := by rw [HW1]; first | assumption | go_cell | simp [go_sem, *]
  clear HW1
  have r1_0 := reg_cell c1_0
  have r1_1 := reg_cell c1_1
  have r1_2 := reg_cell c1_2
  have r1_3 := reg_cell c1_3
  simp only [List.take_succ_cons, List.take_zero, List.drop_succ_cons, List.drop_zero]
  refine WL_plain (fun K hK => ?_); go_simp; refine hK _ ?_; clear hK K
  refine WL_call (by kernel_rfl) (fun K hK => ?_)
  go_simp
  apply Exists.intro
  refine ⟨fun w1 hb1 hf1 => ?_, hK _ ?_⟩
  · exact K1.out _
  clear hK K
  iterate 2 (refine WL_plain (fun K hK => ?_); go_simp; refine hK _ ?_; clear hK K)
  refine WL_call (by kernel_rfl) (fun K hK => ?_)
  go_simp
  apply Exists.intro
  refine ⟨fun w1 hb1 hf1 => ?_, hK _ ?_⟩
  · exact K2.out _
  clear hK K
  refine WL_call (by kernel_rfl) (fun K hK => ?_)
  go_simp
  apply Exists.intro
  refine ⟨fun w1 hb1 hf1 => ?_, hK _ ?_⟩
  · exact K3.out _
  clear hK K
  iterate 5 (refine WL_plain (fun K hK => ?_); go_simp; refine hK _ ?_; clear hK K)
  refine WL_nil (fun w1 hb1 hf1 => ?_)
  have hB1 : Below w.heap.size w w1 := Below.next hA1 hb1
  have d1_0 := cell_call hb1 c1_0
  have d1_1 := cell_call hb1 c1_1
  have d1_2 := cell_call hb1 c1_2
  have d1_3 := cell_call hb1 c1_3
  clear r1_0 c1_0 r1_1 c1_1 r1_2 c1_2 r1_3 c1_3
  have l1_0 : w.heap.size < w1.heap.size := World.block_lt_of_cell? w1 _ d1_0
  have hS1 := hB1.size
  go_wp2_with fail
  refine (K5.out _).mono ?_; rintro e w2 ⟨rfl, hb2⟩
  have hB2 : Below w.heap.size w w2 := Below.next (by go_grown) hb2
  have d2_0 : w2.cell? ⟨w.heap.size, 0, none⟩ = some (.int .i64 m.1) := cell_call hb2 (by first | assumption | go_cell | simp [go_sem] | simp [go_sem, *])
  have d2_1 : w2.cell? ⟨w.heap.size, 1, none⟩ = some (.int .i64 m.2.1) := cell_call hb2 (by first | assumption | go_cell | simp [go_sem] | simp [go_sem, *])
  have d2_2 : w2.cell? ⟨w.heap.size, 2, none⟩ = some (.int .i64 m.2.2.1) := cell_call hb2 (by first | assumption | go_cell | simp [go_sem] | simp [go_sem, *])
  have d2_3 : w2.cell? ⟨w.heap.size, 3, none⟩ = some (.int .i64 m.2.2.2) := cell_call hb2 (by first | assumption | go_cell | simp [go_sem] | simp [go_sem, *])
  have l2_0 : w.heap.size < w2.heap.size := World.block_lt_of_cell? w2 _ d2_0
  clear d1_0 l1_0 d1_1 d1_2 d1_3
  have hS2 := hB2.size
  clear hb2
  go_wp2_with fail
  refine (K4.out _).mono ?_; rintro e w3 ⟨rfl, hb3⟩
  have hB3 : Below w.heap.size w w3 := Below.next (by go_grown) hb3
  have d3_0 : w3.cell? ⟨w.heap.size, 0, none⟩ = some (.int .i64 m.1) := cell_call hb3 (by first | assumption | go_cell | simp [go_sem] | simp [go_sem, *])
  have d3_1 : w3.cell? ⟨w.heap.size, 1, none⟩ = some (.int .i64 m.2.1) := cell_call hb3 (by first | assumption | go_cell | simp [go_sem] | simp [go_sem, *])
  have d3_2 : w3.cell? ⟨w.heap.size, 2, none⟩ = some (.int .i64 m.2.2.1) := cell_call hb3 (by first | assumption | go_cell | simp [go_sem] | simp [go_sem, *])
  have d3_3 : w3.cell? ⟨w.heap.size, 3, none⟩ = some (.int .i64 m.2.2.2) := cell_call hb3 (by first | assumption | go_cell | simp [go_sem] | simp [go_sem, *])
  have l3_0 : w.heap.size < w3.heap.size := World.block_lt_of_cell? w3 _ d3_0
  clear d2_0 d2_1 d2_2 d2_3 l2_0
  have hS3 := hB3.size
  clear hb3
  go_wp2_with fail
  refine (K9.out _).mono ?_; rintro e w4 ⟨rfl, hb4⟩
  have hB4 : Below w.heap.size w w4 := Below.next (by go_grown) hb4
  have d4_0 : w4.cell? ⟨w.heap.size, 0, none⟩ = some (.int .i64 m.1) := cell_call hb4 (by first | assumption | go_cell | simp [go_sem] | simp [go_sem, *])
  have d4_1 : w4.cell? ⟨w.heap.size, 1, none⟩ = some (.int .i64 m.2.1) := cell_call hb4 (by first | assumption | go_cell | simp [go_sem] | simp [go_sem, *])
  have d4_2 : w4.cell? ⟨w.heap.size, 2, none⟩ = some (.int .i64 m.2.2.1) := cell_call hb4 (by first | assumption | go_cell | simp [go_sem] | simp [go_sem, *])
  have d4_3 : w4.cell? ⟨w.heap.size, 3, none⟩ = some (.int .i64 m.2.2.2) := cell_call hb4 (by first | assumption | go_cell | simp [go_sem] | simp [go_sem, *])
  have l4_0 : w.heap.size < w4.heap.size := World.block_lt_of_cell? w4 _ d4_0
  clear d3_0 d3_1 d3_2 d3_3 l3_0
  have hS4 := hB4.size
  clear hb4
  by_cases g1 : 65536 < s
  · obtain rfl : (65536 : Int) = R := by rw [← HR.out]; unfold clampG; rw [if_neg (by omega), if_pos g1]
    go_wp2_with fail
    go_ret
    exact ret_of rfl hB4
  by_cases g2 : s < -65536
  · obtain rfl : (-65536 : Int) = R := by rw [← HR.out]; unfold clampG; rw [if_pos g2]
    go_wp2_with fail
    go_ret
    exact ret_of rfl hB4
  obtain rfl : s = R := by rw [← HR.out]; unfold clampG; rw [if_neg g2, if_neg g1]
  go_wp2_with fail
  go_ret
  exact ret_of rfl hB4

set_option maxRecDepth 100000 in
set_option maxHeartbeats 1600000 in
theorem r20part_01n (o d : Int) (m : M4) (X Y h l q r q1 y s R : Int) (HR : Hid (clampG s = R)) (h1 : 0 < m.2.1) (h2 : m.2.1 ≤ 9223372036854775807) (sb1 : decide (d < 0) = false) (sb2 : decide (m.1 < 0) = true) (hg : ¬ m.2.1 ≤ h) (hr : ¬ 0 < r) (K1 : Hid (∀ w, Calls Try.prog 64 #[.int .i64 d] w (Ret (.int .u64 X) w))) (K2 : Hid (∀ w, Calls Try.prog 64 #[.int .i64 m.1] w (Ret (.int .u64 Y) w))) (K3 : Hid (∀ w, Calls Try.prog 63 #[.int .u64 X, .int .u64 Y] w (Ret (.tuple #[.int .u64 h, .int .u64 l]) w))) (K5 : Hid (∀ w, Calls Try.prog 65 #[.int .u64 h, .int .u64 l, .int .u64 m.2.1] w (Ret (.tuple #[.int .u64 q, .int .u64 r]) w))) (K4 : Hid (∀ w, Calls Try.prog 87 #[.int .u64 q, .bool true, .bool false] w (Ret (.int .i64 y) w))) (K9 : Hid (∀ w, Calls Try.prog 88 #[.int .i64 o, .int .i64 y] w (Ret (.int .i64 s) w))) (w : World) : Calls Try.prog 77 #[.int .i64 o, .int .i64 d, .agg #[.int .i64 m.1, .int .i64 m.2.1, .int .i64 m.2.2.1, .int .i64 m.2.2.2]] w (Ret (.int .i64 R) w) := by
  go_enter Try.func77, Try.ntmps77
  go_wp2_with fail
  refine wp_region_fresh_gen 11 (by kernel_rfl) (by kernel_rfl) (fun W1 HW1 => ?_)
  intro F1_0 U1_0
  have hA1 : Below w.heap.size w W1 := by rw [HW1]; go_grown
  have c1_0 : W1.cell? ⟨w.heap.size, 0, none⟩ = some (.int .i64 m.1) := by rw [HW1]; first | assumption | go_cell | simp [go_sem, *]
  have c1_1 : W1.cell? ⟨w.heap.size, 1, none⟩ = some (.int .i64 m.2.1) := by rw [HW1]; first | assumption | go_cell | simp [go_sem, *]
  have c1_2 : W1.cell? ⟨w.heap.size, 2, none⟩ = some (.int .i64 m.2.2.1) := by rw [HW1]; first | assumption | go_cell | simp [go_sem, *]
  have c1_3 : W1.cell? ⟨w.heap.size, 3, none⟩ = some (.int .i64 m.2.2.2) := by rw [HW1]; first | assumption | go_cell | simp [go_sem, *]
  clear HW1
  have r1_0 := reg_cell c1_0
  have r1_1 := reg_cell c1_1
  have r1_2 := reg_cell c1_2
  have r1_3 := reg_cell c1_3
  simp only [List.take_succ_cons, List.take_zero, List.drop_succ_cons, List.drop_zero]
  refine WL_plain (fun K hK => ?_); go_simp; refine hK _ ?_; clear hK K
  refine WL_call (by kernel_rfl) (fun K hK => ?_)
  go_simp
  apply Exists.intro
  refine ⟨fun w1 hb1 hf1 => ?_, hK _ ?_⟩
  · exact K1.out _
  clear hK K
  iterate 2 (refine WL_plain (fun K hK => ?_); go_simp; refine hK _ ?_; clear hK K)
  refine WL_call (by kernel_rfl) (fun K hK => ?_)
  go_simp
  apply Exists.intro
  refine ⟨fun w1 hb1 hf1 => ?_, hK _ ?_⟩
  · exact K2.out _
  clear hK K
  refine WL_call (by kernel_rfl) (fun K hK => ?_)
  go_simp
  apply Exists.intro
  refine ⟨fun w1 hb1 hf1 => ?_, hK _ ?_⟩
  · exact K3.out _
  clear hK K
  iterate 5 (refine WL_plain (fun K hK => ?_); go_simp; refine hK _ ?_; clear hK K)
  refine WL_nil (fun w1 hb1 hf1 => ?_)
  have hB1 : Below w.heap.size w w1 := Below.next hA1 hb1
  have d1_0 := cell_call hb1 c1_0
  have d1_1 := cell_call hb1 c1_1
  have d1_2 := cell_call hb1 c1_2
  have d1_3 := cell_call hb1 c1_3
  clear r1_0 c1_0 r1_1 c1_1 r1_2 c1_2 r1_3 c1_3
  have l1_0 : w.heap.size < w1.heap.size := World.block_lt_of_cell? w1 _ d1_0
  have hS1 := hB1.size
  go_wp2_with fail
  refine (K5.out _).mono ?_; rintro e w2 ⟨rfl, hb2⟩
  have hB2 : Below w.heap.size w w2 := Below.next (by go_grown) hb2
  have d2_0 : w2.cell? ⟨w.heap.size, 0, none⟩ = some (.int .i64 m.1) := cell_call hb2 (by first | assumption | go_cell | simp [go_sem] | simp [go_sem, *])
  have d2_1 : w2.cell? ⟨w.heap.size, 1, none⟩ = some (.int .i64 m.2.1) := cell_call hb2 (by first | assumption | go_cell | simp [go_sem] | simp [go_sem, *])
  have d2_2 : w2.cell? ⟨w.heap.size, 2, none⟩ = some (.int .i64 m.2.2.1) := cell_call hb2 (by first | assumption | go_cell | simp [go_sem] | simp [go_sem, *])
  have d2_3 : w2.cell? ⟨w.heap.size, 3, none⟩ = some (.int .i64 m.2.2.2) := cell_call hb2 (by first | assumption | go_cell | simp [go_sem] | simp [go_sem, *])
  have l2_0 : w.heap.size < w2.heap.size := World.block_lt_of_cell? w2 _ d2_0
  clear d1_0 l1_0 d1_1 d1_2 d1_3
  have hS2 := hB2.size
  clear hb2
  go_wp2_with fail
  refine (K4.out _).mono ?_; rintro e w3 ⟨rfl, hb3⟩
  have hB3 : Below w.heap.size w w3 := Below.next (by go_grown) hb3
  have d3_0 : w3.cell? ⟨w.heap.size, 0, none⟩ = some (.int .i64 m.1) := cell_call hb3 (by first | assumption | go_cell | simp [go_sem] | simp [go_sem, *])
  have d3_1 : w3.cell? ⟨w.heap.size, 1, none⟩ = some (.int .i64 m.2.1) := cell_call hb3 (by first | assumption | go_cell | simp [go_sem] | simp [go_sem, *])
  have d3_2 : w3.cell? ⟨w.heap.size, 2, none⟩ = some (.int .i64 m.2.2.1) := cell_call hb3 (by first | assumption | go_cell | simp [go_sem] | simp [go_sem, *])
  have d3_3 : w3.cell? ⟨w.heap.size, 3, none⟩ = some (.int .i64 m.2.2.2) := cell_call hb3 (by first | assumption | go_cell | simp [go_sem] | simp [go_sem, *])
  have l3_0 : w.heap.size < w3.heap.size := World.block_lt_of_cell? w3 _ d3_0
  clear d2_0 d2_1 d2_2 d2_3 l2_0
  have hS3 := hB3.size
  clear hb3
  go_wp2_with fail
  refine (K9.out _).mono ?_; rintro e w4 ⟨rfl, hb4⟩
  have hB4 : Below w.heap.size w w4 := Below.next (by go_grown) hb4
  have d4_0 : w4.cell? ⟨w.heap.size, 0, none⟩ = some (.int .i64 m.1) := cell_call hb4 (by first | assumption | go_cell | simp [go_sem] | simp [go_sem, *])
  have d4_1 : w4.cell? ⟨w.heap.size, 1, none⟩ = some (.int .i64 m.2.1) := cell_call hb4 (by first | assumption | go_cell | simp [go_sem] | simp [go_sem, *])
  have d4_2 : w4.cell? ⟨w.heap.size, 2, none⟩ = some (.int .i64 m.2.2.1) := cell_call hb4 (by first | assumption | go_cell | simp [go_sem] | simp [go_sem, *])
  have d4_3 : w4.cell? ⟨w.heap.size, 3, none⟩ = some (.int .i64 m.2.2.2) := cell_call hb4 (by first | assumption | go_cell | simp [go_sem] | simp [go_sem, *])
  have l4_0 : w.heap.size < w4.heap.size := World.block_lt_of_cell? w4 _ d4_0
  clear d3_0 d3_1 d3_2 d3_3 l3_0
  have hS4 := hB4.size
  clear hb4
  by_cases g1 : 65536 < s
  · obtain rfl : (65536 : Int) = R := by rw [← HR.out]; unfold clampG; rw [if_neg (by omega), if_pos g1]
    go_wp2_with fail
    go_ret
    exact ret_of rfl hB4
  by_cases g2 : s < -65536
  · obtain rfl : (-65536 : Int) = R := by rw [← HR.out]; unfold clampG; rw [if_pos g2]
    go_wp2_with fail
    go_ret
    exact ret_of rfl hB4
  obtain rfl : s = R := by rw [← HR.out]; unfold clampG; rw [if_neg g2, if_neg g1]
  go_wp2_with fail
  go_ret
  exact ret_of rfl hB4

set_option maxRecDepth 100000 in
set_option maxHeartbeats 1600000 in
theorem r20part_10g (o d : Int) (m : M4) (X Y h l q r q1 y s R : Int) (HR : Hid (clampG s = R)) (h1 : 0 < m.2.1) (h2 : m.2.1 ≤ 9223372036854775807) (sb1 : decide (d < 0) = true) (sb2 : decide (m.1 < 0) = false) (hg : m.2.1 ≤ h) (K1 : Hid (∀ w, Calls Try.prog 64 #[.int .i64 d] w (Ret (.int .u64 X) w))) (K2 : Hid (∀ w, Calls Try.prog 64 #[.int .i64 m.1] w (Ret (.int .u64 Y) w))) (K3 : Hid (∀ w, Calls Try.prog 63 #[.int .u64 X, .int .u64 Y] w (Ret (.tuple #[.int .u64 h, .int .u64 l]) w))) (K4 : Hid (∀ w, Calls Try.prog 87 #[.int .u64 0, .bool true, .bool true] w (Ret (.int .i64 y) w))) (K9 : Hid (∀ w, Calls Try.prog 88 #[.int .i64 o, .int .i64 y] w (Ret (.int .i64 s) w))) (w : World) : Calls Try.prog 77 #[.int .i64 o, .int .i64 d, .agg #[.int .i64 m.1, .int .i64 m.2.1, .int .i64 m.2.2.1, .int .i64 m.2.2.2]] w (Ret (.int .i64 R) w) := by
  go_enter Try.func77, Try.ntmps77
  go_wp2_with fail
  refine wp_region_fresh_gen 11 (by kernel_rfl) (by kernel_rfl) (fun W1 HW1 => ?_)
  intro F1_0 U1_0
  have hA1 : Below w.heap.size w W1 := by rw [HW1]; go_grown
  have c1_0 : W1.cell? ⟨w.heap.size, 0, none⟩ = some (.int .i64 m.1) := by rw [HW1]; first | assumption | go_cell | simp [go_sem, *]
  have c1_1 : W1.cell? ⟨w.heap.size, 1, none⟩ = some (.int .i64 m.2.1) := by rw [HW1]; first | assumption | go_cell | simp [go_sem, *]
  have c1_2 : W1.cell? ⟨w.heap.size, 2, none⟩ = some (.int .i64 m.2.2.1) := by rw [HW1]; first | assumption | go_cell | simp [go_sem, *]
  have c1_3 : W1.cell? ⟨w.heap.size, 3, none⟩ = some (.int .i64 m.2.2.2) := by rw [HW1]; first | assumption | go_cell | simp [go_sem, *]
  clear HW1
  have r1_0 := reg_cell c1_0
  have r1_1 := reg_cell c1_1
  have r1_2 := reg_cell c1_2
  have r1_3 := reg_cell c1_3
  simp only [List.take_succ_cons, List.take_zero, List.drop_succ_cons, List.drop_zero]
  refine WL_plain (fun K hK => ?_); go_simp; refine hK _ ?_; clear hK K
  refine WL_call (by kernel_rfl) (fun K hK => ?_)
  go_simp
  apply Exists.intro
  refine ⟨fun w1 hb1 hf1 => ?_, hK _ ?_⟩
  · exact K1.out _
  clear hK K
  iterate 2 (refine WL_plain (fun K hK => ?_); go_simp; refine hK _ ?_; clear hK K)
  refine WL_call (by kernel_rfl) (fun K hK => ?_)
  go_simp
  apply Exists.intro
  refine ⟨fun w1 hb1 hf1 => ?_, hK _ ?_⟩
  · exact K2.out _
  clear hK K
  refine WL_call (by kernel_rfl) (fun K hK => ?_)
  go_simp
  apply Exists.intro
  refine ⟨fun w1 hb1 hf1 => ?_, hK _ ?_⟩
  · exact K3.out _
  clear hK K
  iterate 5 (refine WL_plain (fun K hK => ?_); go_simp; refine hK _ ?_; clear hK K)
  refine WL_nil (fun w1 hb1 hf1 => ?_)
  have hB1 : Below w.heap.size w w1 := Below.next hA1 hb1
  have d1_0 := cell_call hb1 c1_0
  have d1_1 := cell_call hb1 c1_1
  have d1_2 := cell_call hb1 c1_2
  have d1_3 := cell_call hb1 c1_3
  clear r1_0 c1_0 r1_1 c1_1 r1_2 c1_2 r1_3 c1_3
  have l1_0 : w.heap.size < w1.heap.size := World.block_lt_of_cell? w1 _ d1_0
  have hS1 := hB1.size
  go_wp2_with fail
  refine (K4.out _).mono ?_; rintro e w2 ⟨rfl, hb2⟩
  have hB2 : Below w.heap.size w w2 := Below.next (by go_grown) hb2
  have d2_0 : w2.cell? ⟨w.heap.size, 0, none⟩ = some (.int .i64 m.1) := cell_call hb2 (by first | assumption | go_cell | simp [go_sem] | simp [go_sem, *])
  have d2_1 : w2.cell? ⟨w.heap.size, 1, none⟩ = some (.int .i64 m.2.1) := cell_call hb2 (by first | assumption | go_cell | simp [go_sem] | simp [go_sem, *])
  have d2_2 : w2.cell? ⟨w.heap.size, 2, none⟩ = some (.int .i64 m.2.2.1) := cell_call hb2 (by first | assumption | go_cell | simp [go_sem] | simp [go_sem, *])
  have d2_3 : w2.cell? ⟨w.heap.size, 3, none⟩ = some (.int .i64 m.2.2.2) := cell_call hb2 (by first | assumption | go_cell | simp [go_sem] | simp [go_sem, *])
  have l2_0 : w.heap.size < w2.heap.size := World.block_lt_of_cell? w2 _ d2_0
  clear d1_0 l1_0 d1_1 d1_2 d1_3
  have hS2 := hB2.size
  clear hb2
  go_wp2_with fail
  refine (K9.out _).mono ?_; rintro e w3 ⟨rfl, hb3⟩
  have hB3 : Below w.heap.size w w3 := Below.next (by go_grown) hb3
  have d3_0 : w3.cell? ⟨w.heap.size, 0, none⟩ = some (.int .i64 m.1) := cell_call hb3 (by first | assumption | go_cell | simp [go_sem] | simp [go_sem, *])
  have d3_1 : w3.cell? ⟨w.heap.size, 1, none⟩ = some (.int .i64 m.2.1) := cell_call hb3 (by first | assumption | go_cell | simp [go_sem] | simp [go_sem, *])
  have d3_2 : w3.cell? ⟨w.heap.size, 2, none⟩ = some (.int .i64 m.2.2.1) := cell_call hb3 (by first | assumption | go_cell | simp [go_sem] | simp [go_sem, *])
  have d3_3 : w3.cell? ⟨w.heap.size, 3, none⟩ = some (.int .i64 m.2.2.2) := cell_call hb3 (by first | assumption | go_cell | simp [go_sem] | simp [go_sem, *])
  have l3_0 : w.heap.size < w3.heap.size := World.block_lt_of_cell? w3 _ d3_0
  clear d2_0 d2_1 d2_2 d2_3 l2_0
  have hS3 := hB3.size
  clear hb3
  by_cases g1 : 65536 < s
  · obtain rfl : (65536 : Int) = R := by rw [← HR.out]; unfold clampG; rw [if_neg (by omega), if_pos g1]
    go_wp2_with fail
    go_ret
    exact ret_of rfl hB3
  by_cases g2 : s < -65536
  · obtain rfl : (-65536 : Int) = R := by rw [← HR.out]; unfold clampG; rw [if_pos g2]
    go_wp2_with fail
    go_ret
    exact ret_of rfl hB3
  obtain rfl : s = R := by rw [← HR.out]; unfold clampG; rw [if_neg g2, if_neg g1]
  go_wp2_with fail
  go_ret
  exact ret_of rfl hB3

set_option maxRecDepth 100000 in
set_option maxHeartbeats 1600000 in
theorem r20part_10r (o d : Int) (m : M4) (X Y h l q r q1 y s R : Int) (HR : Hid (clampG s = R)) (h1 : 0 < m.2.1) (h2 : m.2.1 ≤ 9223372036854775807) (sb1 : decide (d < 0) = true) (sb2 : decide (m.1 < 0) = false) (hg : ¬ m.2.1 ≤ h) (hr : 0 < r) (hw : IntKind.u64.wrap (q + 1) = q1) (K1 : Hid (∀ w, Calls Try.prog 64 #[.int .i64 d] w (Ret (.int .u64 X) w))) (K2 : Hid (∀ w, Calls Try.prog 64 #[.int .i64 m.1] w (Ret (.int .u64 Y) w))) (K3 : Hid (∀ w, Calls Try.prog 63 #[.int .u64 X, .int .u64 Y] w (Ret (.tuple #[.int .u64 h, .int .u64 l]) w))) (K5 : Hid (∀ w, Calls Try.prog 65 #[.int .u64 h, .int .u64 l, .int .u64 m.2.1] w (Ret (.tuple #[.int .u64 q, .int .u64 r]) w))) (K4 : Hid (∀ w, Calls Try.prog 87 #[.int .u64 q1, .bool true, .bool (q1 == 0)] w (Ret (.int .i64 y) w))) (K9 : Hid (∀ w, Calls Try.prog 88 #[.int .i64 o, .int .i64 y] w (Ret (.int .i64 s) w))) (w : World) : Calls Try.prog 77 #[.int .i64 o, .int .i64 d, .agg #[.int .i64 m.1, .int .i64 m.2.1, .int .i64 m.2.2.1, .int .i64 m.2.2.2]] w (Ret (.int .i64 R) w) := by
  go_enter Try.func77, Try.ntmps77
  go_wp2_with fail
  refine wp_region_fresh_gen 11 (by kernel_rfl) (by kernel_rfl) (fun W1 HW1 => ?_)
  intro F1_0 U1_0
  have hA1 : Below w.heap.size w W1 := by rw [HW1]; go_grown
  have c1_0 : W1.cell? ⟨w.heap.size, 0, none⟩ = some (.int .i64 m.1) := by rw [HW1]; first | assumption | go_cell | simp [go_sem, *]
  have c1_1 : W1.cell? ⟨w.heap.size, 1, none⟩ = some (.int .i64 m.2.1) := by rw [HW1]; first | assumption | go_cell | simp [go_sem, *]
  have c1_2 : W1.cell? ⟨w.heap.size, 2, none⟩ = some (.int .i64 m.2.2.1) := by rw [HW1]; first | assumption | go_cell | simp [go_sem, *]
  have c1_3 : W1.cell? ⟨w.heap.size, 3, none⟩ = some (.int .i64 m.2.2.2) := by rw [HW1]; first | assumption | go_cell | simp [go_sem, *]
  clear HW1
  have r1_0 := reg_cell c1_0
  have r1_1 := reg_cell c1_1
  have r1_2 := reg_cell c1_2
  have r1_3 := reg_cell c1_3
  simp only [List.take_succ_cons, List.take_zero, List.drop_succ_cons, List.drop_zero]
  refine WL_plain (fun K hK => ?_); go_simp; refine hK _ ?_; clear hK K
  refine WL_call (by kernel_rfl) (fun K hK => ?_)
  go_simp
  apply Exists.intro
  refine ⟨fun w1 hb1 hf1 => ?_, hK _ ?_⟩
  · exact K1.out _
  clear hK K
  iterate 2 (refine WL_plain (fun K hK => ?_); go_simp; refine hK _ ?_; clear hK K)
  refine WL_call (by kernel_rfl) (fun K hK => ?_)
  go_simp
  apply Exists.intro
  refine ⟨fun w1 hb1 hf1 => ?_, hK _ ?_⟩
  · exact K2.out _
  clear hK K
  refine WL_call (by kernel_rfl) (fun K hK => ?_)
  go_simp
  apply Exists.intro
  refine ⟨fun w1 hb1 hf1 => ?_, hK _ ?_⟩
  · exact K3.out _
  clear hK K
  iterate 5 (refine WL_plain (fun K hK => ?_); go_simp; refine hK _ ?_; clear hK K)
  refine WL_nil (fun w1 hb1 hf1 => ?_)
  have hB1 : Below w.heap.size w w1 := Below.next hA1 hb1
  have d1_0 := cell_call hb1 c1_0
  have d1_1 := cell_call hb1 c1_1
  have d1_2 := cell_call hb1 c1_2
  have d1_3 := cell_call hb1 c1_3
  clear r1_0 c1_0 r1_1 c1_1 r1_2 c1_2 r1_3 c1_3
  have l1_0 : w.heap.size < w1.heap.size := World.block_lt_of_cell? w1 _ d1_0
  have hS1 := hB1.size
  go_wp2_with fail
  refine (K5.out _).mono ?_; rintro e w2 ⟨rfl, hb2⟩
  have hB2 : Below w.heap.size w w2 := Below.next (by go_grown) hb2
  have d2_0 : w2.cell? ⟨w.heap.size, 0, none⟩ = some (.int .i64 m.1) := cell_call hb2 (by first | assumption | go_cell | simp [go_sem] | simp [go_sem, *])
  have d2_1 : w2.cell? ⟨w.heap.size, 1, none⟩ = some (.int .i64 m.2.1) := cell_call hb2 (by first | assumption | go_cell | simp [go_sem] | simp [go_sem, *])
  have d2_2 : w2.cell? ⟨w.heap.size, 2, none⟩ = some (.int .i64 m.2.2.1) := cell_call hb2 (by first | assumption | go_cell | simp [go_sem] | simp [go_sem, *])
  have d2_3 : w2.cell? ⟨w.heap.size, 3, none⟩ = some (.int .i64 m.2.2.2) := cell_call hb2 (by first | assumption | go_cell | simp [go_sem] | simp [go_sem, *])
  have l2_0 : w.heap.size < w2.heap.size := World.block_lt_of_cell? w2 _ d2_0
  clear d1_0 l1_0 d1_1 d1_2 d1_3
  have hS2 := hB2.size
  clear hb2
  go_wp2_with fail
  refine (K4.out _).mono ?_; rintro e w3 ⟨rfl, hb3⟩
  have hB3 : Below w.heap.size w w3 := Below.next (by go_grown) hb3
  have d3_0 : w3.cell? ⟨w.heap.size, 0, none⟩ = some (.int .i64 m.1) := cell_call hb3 (by first | assumption | go_cell | simp [go_sem] | simp [go_sem, *])
  have d3_1 : w3.cell? ⟨w.heap.size, 1, none⟩ = some (.int .i64 m.2.1) := cell_call hb3 (by first | assumption | go_cell | simp [go_sem] | simp [go_sem, *])
  have d3_2 : w3.cell? ⟨w.heap.size, 2, none⟩ = some (.int .i64 m.2.2.1) := cell_call hb3 (by first | assumption | go_cell | simp [go_sem] | simp [go_sem, *])
  have d3_3 : w3.cell? ⟨w.heap.size, 3, none⟩ = some (.int .i64 m.2.2.2) := cell_call hb3 (by first | assumption | go_cell | simp [go_sem] | simp [go_sem, *])
  have l3_0 : w.heap.size < w3.heap.size := World.block_lt_of_cell? w3 _ d3_0
  clear d2_0 d2_1 d2_2 d2_3 l2_0
  have hS3 := hB3.size
  clear hb3
  go_wp2_with fail
  refine (K9.out _).mono ?_; rintro e w4 ⟨rfl, hb4⟩
  have hB4 : Below w.heap.size w w4 := Below.next (by go_grown) hb4
  have d4_0 : w4.cell? ⟨w.heap.size, 0, none⟩ = some (.int .i64 m.1) := cell_call hb4 (by first | assumption | go_cell | simp [go_sem] | simp [go_sem, *])
  have d4_1 : w4.cell? ⟨w.heap.size, 1, none⟩ = some (.int .i64 m.2.1) := cell_call hb4 (by first | assumption | go_cell | simp [go_sem] | simp [go_sem, *])
  have d4_2 : w4.cell? ⟨w.heap.size, 2, none⟩ = some (.int .i64 m.2.2.1) := cell_call hb4 (by first | assumption | go_cell | simp [go_sem] | simp [go_sem, *])
  have d4_3 : w4.cell? ⟨w.heap.size, 3, none⟩ = some (.int .i64 m.2.2.2) := cell_call hb4 (by first | assumption | go_cell | simp [go_sem] | simp [go_sem, *])
  have l4_0 : w.heap.size < w4.heap.size := World.block_lt_of_cell? w4 _ d4_0
  clear d3_0 d3_1 d3_2 d3_3 l3_0
  have hS4 := hB4.size
  clear hb4
  by_cases g1 : 65536 < s
  · obtain rfl : (65536 : Int) = R := by rw [← HR.out]; unfold clampG; rw [if_neg (by omega), if_pos g1]
    go_wp2_with fail
    go_ret
    exact ret_of rfl hB4
  by_cases g2 : s < -65536
  · obtain rfl : (-65536 : Int) = R := by rw [← HR.out]; unfold clampG; rw [if_pos g2]
    go_wp2_with fail
    go_ret
    exact ret_of rfl hB4
  obtain rfl : s = R := by rw [← HR.out]; unfold clampG; rw [if_neg g2, if_neg g1]
  go_wp2_with fail
  go_ret
  exact ret_of rfl hB4

set_option maxRecDepth 100000 in
set_option maxHeartbeats 1600000 in
theorem r20part_10n (o d : Int) (m : M4) (X Y h l q r q1 y s R : Int) (HR : Hid (clampG s = R)) (h1 : 0 < m.2.1) (h2 : m.2.1 ≤ 9223372036854775807) (sb1 : decide (d < 0) = true) (sb2 : decide (m.1 < 0) = false) (hg : ¬ m.2.1 ≤ h) (hr : ¬ 0 < r) (K1 : Hid (∀ w, Calls Try.prog 64 #[.int .i64 d] w (Ret (.int .u64 X) w))) (K2 : Hid (∀ w, Calls Try.prog 64 #[.int .i64 m.1] w (Ret (.int .u64 Y) w))) (K3 : Hid (∀ w, Calls Try.prog 63 #[.int .u64 X, .int .u64 Y] w (Ret (.tuple #[.int .u64 h, .int .u64 l]) w))) (K5 : Hid (∀ w, Calls Try.prog 65 #[.int .u64 h, .int .u64 l, .int .u64 m.2.1] w (Ret (.tuple #[.int .u64 q, .int .u64 r]) w))) (K4 : Hid (∀ w, Calls Try.prog 87 #[.int .u64 q, .bool true, .bool false] w (Ret (.int .i64 y) w))) (K9 : Hid (∀ w, Calls Try.prog 88 #[.int .i64 o, .int .i64 y] w (Ret (.int .i64 s) w))) (w : World) : Calls Try.prog 77 #[.int .i64 o, .int .i64 d, .agg #[.int .i64 m.1, .int .i64 m.2.1, .int .i64 m.2.2.1, .int .i64 m.2.2.2]] w (Ret (.int .i64 R) w) := by
  go_enter Try.func77, Try.ntmps77
  go_wp2_with fail
  refine wp_region_fresh_gen 11 (by kernel_rfl) (by kernel_rfl) (fun W1 HW1 => ?_)
  intro F1_0 U1_0
  have hA1 : Below w.heap.size w W1 := by rw [HW1]; go_grown
  have c1_0 : W1.cell? ⟨w.heap.size, 0, none⟩ = some (.int .i64 m.1) := by rw [HW1]; first | assumption | go_cell | simp [go_sem, *]
  have c1_1 : W1.cell? ⟨w.heap.size, 1, none⟩ = some (.int .i64 m.2.1) := by rw [HW1]; first | assumption | go_cell | simp [go_sem, *]
  have c1_2 : W1.cell? ⟨w.heap.size, 2, none⟩ = some (.int .i64 m.2.2.1) := by rw [HW1]; first | assumption | go_cell | simp [go_sem, *]
  have c1_3 : W1.cell? ⟨w.heap.size, 3, none⟩ = some (.int .i64 m.2.2.2) := by rw [HW1]; first | assumption | go_cell | simp [go_sem, *]
  clear HW1
  have r1_0 := reg_cell c1_0
  have r1_1 := reg_cell c1_1
  have r1_2 := reg_cell c1_2
  have r1_3 := reg_cell c1_3
  simp only [List.take_succ_cons, List.take_zero, List.drop_succ_cons, List.drop_zero]
  refine WL_plain (fun K hK => ?_); go_simp; refine hK _ ?_; clear hK K
  refine WL_call (by kernel_rfl) (fun K hK => ?_)
  go_simp
  apply Exists.intro
  refine ⟨fun w1 hb1 hf1 => ?_, hK _ ?_⟩
  · exact K1.out _
  clear hK K
  iterate 2 (refine WL_plain (fun K hK => ?_); go_simp; refine hK _ ?_; clear hK K)
  refine WL_call (by kernel_rfl) (fun K hK => ?_)
  go_simp
  apply Exists.intro
  refine ⟨fun w1 hb1 hf1 => ?_, hK _ ?_⟩
  · exact K2.out _
  clear hK K
  refine WL_call (by kernel_rfl) (fun K hK => ?_)
  go_simp
  apply Exists.intro
  refine ⟨fun w1 hb1 hf1 => ?_, hK _ ?_⟩
  · exact K3.out _
  clear hK K
  iterate 5 (refine WL_plain (fun K hK => ?_); go_simp; refine hK _ ?_; clear hK K)
  refine WL_nil (fun w1 hb1 hf1 => ?_)
  have hB1 : Below w.heap.size w w1 := Below.next hA1 hb1
  have d1_0 := cell_call hb1 c1_0
  have d1_1 := cell_call hb1 c1_1
  have d1_2 := cell_call hb1 c1_2
  have d1_3 := cell_call hb1 c1_3
  clear r1_0 c1_0 r1_1 c1_1 r1_2 c1_2 r1_3 c1_3
  have l1_0 : w.heap.size < w1.heap.size := World.block_lt_of_cell? w1 _ d1_0
  have hS1 := hB1.size
  go_wp2_with fail
  refine (K5.out _).mono ?_; rintro e w2 ⟨rfl, hb2⟩
  have hB2 : Below w.heap.size w w2 := Below.next (by go_grown) hb2
  have d2_0 : w2.cell? ⟨w.heap.size, 0, none⟩ = some (.int .i64 m.1) := cell_call hb2 (by first | assumption | go_cell | simp [go_sem] | simp [go_sem, *])
  have d2_1 : w2.cell? ⟨w.heap.size, 1, none⟩ = some (.int .i64 m.2.1) := cell_call hb2 (by first | assumption | go_cell | simp [go_sem] | simp [go_sem, *])
  have d2_2 : w2.cell? ⟨w.heap.size, 2, none⟩ = some (.int .i64 m.2.2.1) := cell_call hb2 (by first | assumption | go_cell | simp [go_sem] | simp [go_sem, *])
  have d2_3 : w2.cell? ⟨w.heap.size, 3, none⟩ = some (.int .i64 m.2.2.2) := cell_call hb2 (by first | assumption | go_cell | simp [go_sem] | simp [go_sem, *])
  have l2_0 : w.heap.size < w2.heap.size := World.block_lt_of_cell? w2 _ d2_0
  clear d1_0 l1_0 d1_1 d1_2 d1_3
  have hS2 := hB2.size
  clear hb2
  go_wp2_with fail
  refine (K4.out _).mono ?_; rintro e w3 ⟨rfl, hb3⟩
  have hB3 : Below w.heap.size w w3 := Below.next (by go_grown) hb3
  have d3_0 : w3.cell? ⟨w.heap.size, 0, none⟩ = some (.int .i64 m.1) := cell_call hb3 (by first | assumption | go_cell | simp [go_sem] | simp [go_sem, *])
  have d3_1 : w3.cell? ⟨w.heap.size, 1, none⟩ = some (.int .i64 m.2.1) := cell_call hb3 (by first | assumption | go_cell | simp [go_sem] | simp [go_sem, *])
  have d3_2 : w3.cell? ⟨w.heap.size, 2, none⟩ = some (.int .i64 m.2.2.1) := cell_call hb3 (by first | assumption | go_cell | simp [go_sem] | simp [go_sem, *])
  have d3_3 : w3.cell? ⟨w.heap.size, 3, none⟩ = some (.int .i64 m.2.2.2) := cell_call hb3 (by first | assumption | go_cell | simp [go_sem] | simp [go_sem, *])
  have l3_0 : w.heap.size < w3.heap.size := World.block_lt_of_cell? w3 _ d3_0
  clear d2_0 d2_1 d2_2 d2_3 l2_0
  have hS3 := hB3.size
  clear hb3
  go_wp2_with fail
  refine (K9.out _).mono ?_; rintro e w4 ⟨rfl, hb4⟩
  have hB4 : Below w.heap.size w w4 := Below.next (by go_grown) hb4
  have d4_0 : w4.cell? ⟨w.heap.size, 0, none⟩ = some (.int .i64 m.1) := cell_call hb4 (by first | assumption | go_cell | simp [go_sem] | simp [go_sem, *])
  have d4_1 : w4.cell? ⟨w.heap.size, 1, none⟩ = some (.int .i64 m.2.1) := cell_call hb4 (by first | assumption | go_cell | simp [go_sem] | simp [go_sem, *])
  have d4_2 : w4.cell? ⟨w.heap.size, 2, none⟩ = some (.int .i64 m.2.2.1) := cell_call hb4 (by first | assumption | go_cell | simp [go_sem] | simp [go_sem, *])
  have d4_3 : w4.cell? ⟨w.heap.size, 3, none⟩ = some (.int .i64 m.2.2.2) := cell_call hb4 (by first | assumption | go_cell | simp [go_sem] | simp [go_sem, *])
  have l4_0 : w.heap.size < w4.heap.size := World.block_lt_of_cell? w4 _ d4_0
  clear d3_0 d3_1 d3_2 d3_3 l3_0
  have hS4 := hB4.size
  clear hb4
  by_cases g1 : 65536 < s
  · obtain rfl : (65536 : Int) = R := by rw [← HR.out]; unfold clampG; rw [if_neg (by omega), if_pos g1]
    go_wp2_with fail
    go_ret
    exact ret_of rfl hB4
  by_cases g2 : s < -65536
  · obtain rfl : (-65536 : Int) = R := by rw [← HR.out]; unfold clampG; rw [if_pos g2]
    go_wp2_with fail
    go_ret
    exact ret_of rfl hB4
  obtain rfl : s = R := by rw [← HR.out]; unfold clampG; rw [if_neg g2, if_neg g1]
  go_wp2_with fail
  go_ret
  exact ret_of rfl hB4

set_option maxRecDepth 100000 in
set_option maxHeartbeats 1600000 in
theorem r20part_11g (o d : Int) (m : M4) (X Y h l q r q1 y s R : Int) (HR : Hid (clampG s = R)) (h1 : 0 < m.2.1) (h2 : m.2.1 ≤ 9223372036854775807) (sb1 : decide (d < 0) = true) (sb2 : decide (m.1 < 0) = true) (hg : m.2.1 ≤ h) (K1 : Hid (∀ w, Calls Try.prog 64 #[.int .i64 d] w (Ret (.int .u64 X) w))) (K2 : Hid (∀ w, Calls Try.prog 64 #[.int .i64 m.1] w (Ret (.int .u64 Y) w))) (K3 : Hid (∀ w, Calls Try.prog 63 #[.int .u64 X, .int .u64 Y] w (Ret (.tuple #[.int .u64 h, .int .u64 l]) w))) (K4 : Hid (∀ w, Calls Try.prog 87 #[.int .u64 0, .bool false, .bool true] w (Ret (.int .i64 y) w))) (K9 : Hid (∀ w, Calls Try.prog 88 #[.int .i64 o, .int .i64 y] w (Ret (.int .i64 s) w))) (w : World) : Calls Try.prog 77 #[.int .i64 o, .int .i64 d, .agg #[.int .i64 m.1, .int .i64 m.2.1, .int .i64 m.2.2.1, .int .i64 m.2.2.2]] w (Ret (.int .i64 R) w) := by
  go_enter Try.func77, Try.ntmps77
  go_wp2_with fail
  refine wp_region_fresh_gen 11 (by kernel_rfl) (by kernel_rfl) (fun W1 HW1 => ?_)
  intro F1_0 U1_0
  have hA1 : Below w.heap.size w W1 := by rw [HW1]; go_grown
  have c1_0 : W1.cell? ⟨w.heap.size, 0, none⟩ = some (.int .i64 m.1) := by rw [HW1]; first | assumption | go_cell | simp [go_sem, *]
  have c1_1 : W1.cell? ⟨w.heap.size, 1, none⟩ = some (.int .i64 m.2.1) := by rw [HW1]; first | assumption | go_cell | simp [go_sem, *]
  have c1_2 : W1.cell? ⟨w.heap.size, 2, none⟩ = some (.int .i64 m.2.2.1) := by rw [HW1]; first | assumption | go_cell | simp [go_sem, *]
  have c1_3 : W1.cell? ⟨w.heap.size, 3, none⟩ = some (.int .i64 m.2.2.2) := by rw [HW1]; first | assumption | go_cell | simp [go_sem, *]
  clear HW1
  have r1_0 := reg_cell c1_0
  have r1_1 := reg_cell c1_1
  have r1_2 := reg_cell c1_2
  have r1_3 := reg_cell c1_3
  simp only [List.take_succ_cons, List.take_zero, List.drop_succ_cons, List.drop_zero]
  refine WL_plain (fun K hK => ?_); go_simp; refine hK _ ?_; clear hK K
  refine WL_call (by kernel_rfl) (fun K hK => ?_)
  go_simp
  apply Exists.intro
  refine ⟨fun w1 hb1 hf1 => ?_, hK _ ?_⟩
  · exact K1.out _
  clear hK K
  iterate 2 (refine WL_plain (fun K hK => ?_); go_simp; refine hK _ ?_; clear hK K)
  refine WL_call (by kernel_rfl) (fun K hK => ?_)
  go_simp
  apply Exists.intro
  refine ⟨fun w1 hb1 hf1 => ?_, hK _ ?_⟩
  · exact K2.out _
  clear hK K
  refine WL_call (by kernel_rfl) (fun K hK => ?_)
  go_simp
  apply Exists.intro
  refine ⟨fun w1 hb1 hf1 => ?_, hK _ ?_⟩
  · exact K3.out _
  clear hK K
  iterate 5 (refine WL_plain (fun K hK => ?_); go_simp; refine hK _ ?_; clear hK K)
  refine WL_nil (fun w1 hb1 hf1 => ?_)
  have hB1 : Below w.heap.size w w1 := Below.next hA1 hb1
  have d1_0 := cell_call hb1 c1_0
  have d1_1 := cell_call hb1 c1_1
  have d1_2 := cell_call hb1 c1_2
  have d1_3 := cell_call hb1 c1_3
  clear r1_0 c1_0 r1_1 c1_1 r1_2 c1_2 r1_3 c1_3
  have l1_0 : w.heap.size < w1.heap.size := World.block_lt_of_cell? w1 _ d1_0
  have hS1 := hB1.size
  go_wp2_with fail
  refine (K4.out _).mono ?_; rintro e w2 ⟨rfl, hb2⟩
  have hB2 : Below w.heap.size w w2 := Below.next (by go_grown) hb2
  have d2_0 : w2.cell? ⟨w.heap.size, 0, none⟩ = some (.int .i64 m.1) := cell_call hb2 (by first | assumption | go_cell | simp [go_sem] | simp [go_sem, *])
  have d2_1 : w2.cell? ⟨w.heap.size, 1, none⟩ = some (.int .i64 m.2.1) := cell_call hb2 (by first | assumption | go_cell | simp [go_sem] | simp [go_sem, *])
  have d2_2 : w2.cell? ⟨w.heap.size, 2, none⟩ = some (.int .i64 m.2.2.1) := cell_call hb2 (by first | assumption | go_cell | simp [go_sem] | simp [go_sem, *])
  have d2_3 : w2.cell? ⟨w.heap.size, 3, none⟩ = some (.int .i64 m.2.2.2) := cell_call hb2 (by first | assumption | go_cell | simp [go_sem] | simp [go_sem, *])
  have l2_0 : w.heap.size < w2.heap.size := World.block_lt_of_cell? w2 _ d2_0
  clear d1_0 l1_0 d1_1 d1_2 d1_3
  have hS2 := hB2.size
  clear hb2
  go_wp2_with fail
  refine (K9.out _).mono ?_; rintro e w3 ⟨rfl, hb3⟩
  have hB3 : Below w.heap.size w w3 := Below.next (by go_grown) hb3
  have d3_0 : w3.cell? ⟨w.heap.size, 0, none⟩ = some (.int .i64 m.1) := cell_call hb3 (by first | assumption | go_cell | simp [go_sem] | simp [go_sem, *])
  have d3_1 : w3.cell? ⟨w.heap.size, 1, none⟩ = some (.int .i64 m.2.1) := cell_call hb3 (by first | assumption | go_cell | simp [go_sem] | simp [go_sem, *])
  have d3_2 : w3.cell? ⟨w.heap.size, 2, none⟩ = some (.int .i64 m.2.2.1) := cell_call hb3 (by first | assumption | go_cell | simp [go_sem] | simp [go_sem, *])
  have d3_3 : w3.cell? ⟨w.heap.size, 3, none⟩ = some (.int .i64 m.2.2.2) := cell_call hb3 (by first | assumption | go_cell | simp [go_sem] | simp [go_sem, *])
  have l3_0 : w.heap.size < w3.heap.size := World.block_lt_of_cell? w3 _ d3_0
  clear d2_0 d2_1 d2_2 d2_3 l2_0
  have hS3 := hB3.size
  clear hb3
  by_cases g1 : 65536 < s
  · obtain rfl : (65536 : Int) = R := by rw [← HR.out]; unfold clampG; rw [if_neg (by omega), if_pos g1]
    go_wp2_with fail
    go_ret
    exact ret_of rfl hB3
  by_cases g2 : s < -65536
  · obtain rfl : (-65536 : Int) = R := by rw [← HR.out]; unfold clampG; rw [if_pos g2]
    go_wp2_with fail
    go_ret
    exact ret_of rfl hB3
  obtain rfl : s = R := by rw [← HR.out]; unfold clampG; rw [if_neg g2, if_neg g1]
  go_wp2_with fail
  go_ret
  exact ret_of rfl hB3

set_option maxRecDepth 100000 in
set_option maxHeartbeats 1600000 in
theorem r20part_11q (o d : Int) (m : M4) (X Y h l q r q1 y s R : Int) (HR : Hid (clampG s = R)) (h1 : 0 < m.2.1) (h2 : m.2.1 ≤ 9223372036854775807) (sb1 : decide (d < 0) = true) (sb2 : decide (m.1 < 0) = true) (hg : ¬ m.2.1 ≤ h) (K1 : Hid (∀ w, Calls Try.prog 64 #[.int .i64 d] w (Ret (.int .u64 X) w))) (K2 : Hid (∀ w, Calls Try.prog 64 #[.int .i64 m.1] w (Ret (.int .u64 Y) w))) (K3 : Hid (∀ w, Calls Try.prog 63 #[.int .u64 X, .int .u64 Y] w (Ret (.tuple #[.int .u64 h, .int .u64 l]) w))) (K5 : Hid (∀ w, Calls Try.prog 65 #[.int .u64 h, .int .u64 l, .int .u64 m.2.1] w (Ret (.tuple #[.int .u64 q, .int .u64 r]) w))) (K4 : Hid (∀ w, Calls Try.prog 87 #[.int .u64 q, .bool false, .bool false] w (Ret (.int .i64 y) w))) (K9 : Hid (∀ w, Calls Try.prog 88 #[.int .i64 o, .int .i64 y] w (Ret (.int .i64 s) w))) (w : World) : Calls Try.prog 77 #[.int .i64 o, .int .i64 d, .agg #[.int .i64 m.1, .int .i64 m.2.1, .int .i64 m.2.2.1, .int .i64 m.2.2.2]] w (Ret (.int .i64 R) w) := by
  go_enter Try.func77, Try.ntmps77
  go_wp2_with fail
  refine wp_region_fresh_gen 11 (by kernel_rfl) (by kernel_rfl) (fun W1 HW1 => ?_)
  intro F1_0 U1_0
  have hA1 : Below w.heap.size w W1 := by rw [HW1]; go_grown
  have c1_0 : W1.cell? ⟨w.heap.size, 0, none⟩ = some (.int .i64 m.1) := by rw [HW1]; first | assumption | go_cell | simp [go_sem, *]
  have c1_1 : W1.cell? ⟨w.heap.size, 1, none⟩ = some (.int .i64 m.2.1) := by rw [HW1]; first | assumption | go_cell | simp [go_sem, *]
  have c1_2 : W1.cell? ⟨w.heap.size, 2, none⟩ = some (.int .i64 m.2.2.1) := by rw [HW1]; first | assumption | go_cell | simp [go_sem, *]
  have c1_3 : W1.cell? ⟨w.heap.size, 3, none⟩ = some (.int .i64 m.2.2.2) := by rw [HW1]; first | assumption | go_cell | simp [go_sem, *]
  clear HW1
  have r1_0 := reg_cell c1_0
  have r1_1 := reg_cell c1_1
  have r1_2 := reg_cell c1_2
  have r1_3 := reg_cell c1_3
  simp only [List.take_succ_cons, List.take_zero, List.drop_succ_cons, List.drop_zero]
  refine WL_plain (fun K hK => ?_); go_simp; refine hK _ ?_; clear hK K
  refine WL_call (by kernel_rfl) (fun K hK => ?_)
  go_simp
  apply Exists.intro
  refine ⟨fun w1 hb1 hf1 => ?_, hK _ ?_⟩
  · exact K1.out _
  clear hK K
  iterate 2 (refine WL_plain (fun K hK => ?_); go_simp; refine hK _ ?_; clear hK K)
  refine WL_call (by kernel_rfl) (fun K hK => ?_)
  go_simp
  apply Exists.intro
  refine ⟨fun w1 hb1 hf1 => ?_, hK _ ?_⟩
  · exact K2.out _
  clear hK K
  refine WL_call (by kernel_rfl) (fun K hK => ?_)
  go_simp
  apply Exists.intro
  refine ⟨fun w1 hb1 hf1 => ?_, hK _ ?_⟩
  · exact K3.out _
  clear hK K
  iterate 5 (refine WL_plain (fun K hK => ?_); go_simp; refine hK _ ?_; clear hK K)
  refine WL_nil (fun w1 hb1 hf1 => ?_)
  have hB1 : Below w.heap.size w w1 := Below.next hA1 hb1
  have d1_0 := cell_call hb1 c1_0
  have d1_1 := cell_call hb1 c1_1
  have d1_2 := cell_call hb1 c1_2
  have d1_3 := cell_call hb1 c1_3
  clear r1_0 c1_0 r1_1 c1_1 r1_2 c1_2 r1_3 c1_3
  have l1_0 : w.heap.size < w1.heap.size := World.block_lt_of_cell? w1 _ d1_0
  have hS1 := hB1.size
  go_wp2_with fail
  refine (K5.out _).mono ?_; rintro e w2 ⟨rfl, hb2⟩
  have hB2 : Below w.heap.size w w2 := Below.next (by go_grown) hb2
  have d2_0 : w2.cell? ⟨w.heap.size, 0, none⟩ = some (.int .i64 m.1) := cell_call hb2 (by first | assumption | go_cell | simp [go_sem] | simp [go_sem, *])
  have d2_1 : w2.cell? ⟨w.heap.size, 1, none⟩ = some (.int .i64 m.2.1) := cell_call hb2 (by first | assumption | go_cell | simp [go_sem] | simp [go_sem, *])
  have d2_2 : w2.cell? ⟨w.heap.size, 2, none⟩ = some (.int .i64 m.2.2.1) := cell_call hb2 (by first | assumption | go_cell | simp [go_sem] | simp [go_sem, *])
  have d2_3 : w2.cell? ⟨w.heap.size, 3, none⟩ = some (.int .i64 m.2.2.2) := cell_call hb2 (by first | assumption | go_cell | simp [go_sem] | simp [go_sem, *])
  have l2_0 : w.heap.size < w2.heap.size := World.block_lt_of_cell? w2 _ d2_0
  clear d1_0 l1_0 d1_1 d1_2 d1_3
  have hS2 := hB2.size
  clear hb2
  go_wp2_with fail
  refine (K4.out _).mono ?_; rintro e w3 ⟨rfl, hb3⟩
  have hB3 : Below w.heap.size w w3 := Below.next (by go_grown) hb3
  have d3_0 : w3.cell? ⟨w.heap.size, 0, none⟩ = some (.int .i64 m.1) := cell_call hb3 (by first | assumption | go_cell | simp [go_sem] | simp [go_sem, *])
  have d3_1 : w3.cell? ⟨w.heap.size, 1, none⟩ = some (.int .i64 m.2.1) := cell_call hb3 (by first | assumption | go_cell | simp [go_sem] | simp [go_sem, *])
  have d3_2 : w3.cell? ⟨w.heap.size, 2, none⟩ = some (.int .i64 m.2.2.1) := cell_call hb3 (by first | assumption | go_cell | simp [go_sem] | simp [go_sem, *])
  have d3_3 : w3.cell? ⟨w.heap.size, 3, none⟩ = some (.int .i64 m.2.2.2) := cell_call hb3 (by first | assumption | go_cell | simp [go_sem] | simp [go_sem, *])
  have l3_0 : w.heap.size < w3.heap.size := World.block_lt_of_cell? w3 _ d3_0
  clear d2_0 d2_1 d2_2 d2_3 l2_0
  have hS3 := hB3.size
  clear hb3
  go_wp2_with fail
  refine (K9.out _).mono ?_; rintro e w4 ⟨rfl, hb4⟩
  have hB4 : Below w.heap.size w w4 := Below.next (by go_grown) hb4
  have d4_0 : w4.cell? ⟨w.heap.size, 0, none⟩ = some (.int .i64 m.1) := cell_call hb4 (by first | assumption | go_cell | simp [go_sem] | simp [go_sem, *])
  have d4_1 : w4.cell? ⟨w.heap.size, 1, none⟩ = some (.int .i64 m.2.1) := cell_call hb4 (by first | assumption | go_cell | simp [go_sem] | simp [go_sem, *])
  have d4_2 : w4.cell? ⟨w.heap.size, 2, none⟩ = some (.int .i64 m.2.2.1) := cell_call hb4 (by first | assumption | go_cell | simp [go_sem] | simp [go_sem, *])
  have d4_3 : w4.cell? ⟨w.heap.size, 3, none⟩ = some (.int .i64 m.2.2.2) := cell_call hb4 (by first | assumption | go_cell | simp [go_sem] | simp [go_sem, *])
  have l4_0 : w.heap.size < w4.heap.size := World.block_lt_of_cell? w4 _ d4_0
  clear d3_0 d3_1 d3_2 d3_3 l3_0
  have hS4 := hB4.size
  clear hb4
  by_cases g1 : 65536 < s
  · obtain rfl : (65536 : Int) = R := by rw [← HR.out]; unfold clampG; rw [if_neg (by omega), if_pos g1]
    go_wp2_with fail
    go_ret
    exact ret_of rfl hB4
  by_cases g2 : s < -65536
  · obtain rfl : (-65536 : Int) = R := by rw [← HR.out]; unfold clampG; rw [if_pos g2]
    go_wp2_with fail
    go_ret
    exact ret_of rfl hB4
  obtain rfl : s = R := by rw [← HR.out]; unfold clampG; rw [if_neg g2, if_neg g1]
  go_wp2_with fail
  go_ret
  exact ret_of rfl hB4

end Go.Proofs.Ytbfgmedjogjkeaa
