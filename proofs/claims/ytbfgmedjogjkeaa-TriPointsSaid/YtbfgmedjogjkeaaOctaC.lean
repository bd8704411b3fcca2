/- Walks: octa.Pick, Quant, Dot, Facing. -/
import Derived.Test.YtbfgmedjogjkeaaOctaA
import Derived.Test.YtbfgmedjogjkeaaWalkI
namespace Go.Proofs.Ytbfgmedjogjkeaa
open Go.RowKit Go.Sort
set_option linter.unusedVariables false
set_option linter.unusedSimpArgs false

theorem wdot_eq (a b c d e f : Int) : wrap64 (wrap64 (wrap64 (a * b) + wrap64 (c * d)) + wrap64 (e * f)) = wrap64 (a * b + c * d + e * f) := by
  generalize a * b = x
  generalize c * d = y
  generalize e * f = z
  unfold wrap64
  omega

set_option maxRecDepth 100000 in
set_option maxHeartbeats 1600000 in
theorem oDot (a b : T3) (w : World) : Calls Try.prog 28 #[V3 a.1 a.2.1 a.2.2, V3 b.1 b.2.1 b.2.2] w (Ret (.int .i64 (wdot a b)) w) := by
  have HK := Lib.hid (wdot_eq a.1 b.1 a.2.1 b.2.1 a.2.2 b.2.2)
  go_enter Try.func28, Try.ntmps28
  go_wp2
  go_ret
  exact ret_of (vint HK.out) (by go_grown)

set_option maxRecDepth 100000 in
set_option maxHeartbeats 1600000 in
theorem r5Dot (a b : T3) (w : World) : Calls Try.prog 29 #[V3 a.1 a.2.1 a.2.2, V3 b.1 b.2.1 b.2.2] w (Ret (.int .i64 (wdot a b)) w) := by
  have HK := Lib.hid (wdot_eq a.1 b.1 a.2.1 b.2.1 a.2.2 b.2.2)
  go_enter Try.func29, Try.ntmps29
  go_wp2
  go_ret
  exact ret_of (vint HK.out) (by go_grown)

set_option maxRecDepth 100000 in
set_option maxHeartbeats 1600000 in
theorem oFacing_P (d n : T3) (m : Int) (HM : Hid (wdot d n = m)) (h : 0 ≤ m) (w : World) : Calls Try.prog 30 #[V3 d.1 d.2.1 d.2.2, V3 n.1 n.2.1 n.2.2] w (Ret (V3 d.1 d.2.1 d.2.2) w) := by
  go_enter Try.func30, Try.ntmps30
  go_wp2_with fail
  refine (oDot d n _).mono ?_; rintro e w1 ⟨rfl, hb1⟩
  have hB1 : Below w.heap.size w w1 := Below.next (by go_grown) hb1
  have d1_0 : w1.cell? ⟨w.heap.size, 0, none⟩ = some (.int .i64 d.1) := cell_call hb1 (by first | assumption | go_cell | simp [go_sem])
  have d1_1 : w1.cell? ⟨w.heap.size, 1, none⟩ = some (.int .i64 d.2.1) := cell_call hb1 (by first | assumption | go_cell | simp [go_sem])
  have d1_2 : w1.cell? ⟨w.heap.size, 2, none⟩ = some (.int .i64 d.2.2) := cell_call hb1 (by first | assumption | go_cell | simp [go_sem])
  have d1_3 : w1.cell? ⟨w.heap.size + 1, 0, none⟩ = some (.int .i64 n.1) := cell_call hb1 (by first | assumption | go_cell | simp [go_sem])
  have d1_4 : w1.cell? ⟨w.heap.size + 1, 1, none⟩ = some (.int .i64 n.2.1) := cell_call hb1 (by first | assumption | go_cell | simp [go_sem])
  have d1_5 : w1.cell? ⟨w.heap.size + 1, 2, none⟩ = some (.int .i64 n.2.2) := cell_call hb1 (by first | assumption | go_cell | simp [go_sem])
  have d1_6 : w1.cell? ⟨w.heap.size + 1 + 1, 0, none⟩ = some (.int .i64 0) := cell_call hb1 (by first | assumption | go_cell | simp [go_sem])
  have t1_6 : w1.frozen? ⟨w.heap.size + 1 + 1, 0, none⟩ = false := (hb1.frozen (p := ⟨w.heap.size + 1 + 1, 0, none⟩) (World.block_lt_of_cell? _ _ (show World.cell? _ ⟨w.heap.size + 1 + 1, 0, none⟩ = some (.int .i64 0) from by first | assumption | go_cell | simp [go_sem]))).trans (by first | assumption | simp [go_sem])
  have d1_7 : w1.cell? ⟨w.heap.size + 1 + 1, 1, none⟩ = some (.int .i64 0) := cell_call hb1 (by first | assumption | go_cell | simp [go_sem])
  have t1_7 : w1.frozen? ⟨w.heap.size + 1 + 1, 1, none⟩ = false := (hb1.frozen (p := ⟨w.heap.size + 1 + 1, 1, none⟩) (World.block_lt_of_cell? _ _ (show World.cell? _ ⟨w.heap.size + 1 + 1, 1, none⟩ = some (.int .i64 0) from by first | assumption | go_cell | simp [go_sem]))).trans (by first | assumption | simp [go_sem])
  have d1_8 : w1.cell? ⟨w.heap.size + 1 + 1, 2, none⟩ = some (.int .i64 0) := cell_call hb1 (by first | assumption | go_cell | simp [go_sem])
  have t1_8 : w1.frozen? ⟨w.heap.size + 1 + 1, 2, none⟩ = false := (hb1.frozen (p := ⟨w.heap.size + 1 + 1, 2, none⟩) (World.block_lt_of_cell? _ _ (show World.cell? _ ⟨w.heap.size + 1 + 1, 2, none⟩ = some (.int .i64 0) from by first | assumption | go_cell | simp [go_sem]))).trans (by first | assumption | simp [go_sem])
  have l1_0 := World.block_lt_of_cell? w1 _ d1_0
  have l1_3 := World.block_lt_of_cell? w1 _ d1_3
  have l1_6 := World.block_lt_of_cell? w1 _ d1_6
  have hS1 := hB1.size
  clear hb1
  rw [HM.out]
  go_wp2_with fail
  exact bodyPost_ret (v := V3 d.1 d.2.1 d.2.2) (by simp (maxDischargeDepth := 9) [results, Try.results30, go_sem, d1_6, d1_7, d1_8]) rfl ⟨rfl, by go_grown⟩

set_option maxRecDepth 100000 in
set_option maxHeartbeats 1600000 in
theorem oFacing_N (d n : T3) (m : Int) (HM : Hid (wdot d n = m)) (h : m < 0) (w : World) : Calls Try.prog 30 #[V3 d.1 d.2.1 d.2.2, V3 n.1 n.2.1 n.2.2] w (Ret (V3 (wneg d.1) (wneg d.2.1) (wneg d.2.2)) w) := by
  go_enter Try.func30, Try.ntmps30
  go_wp2_with fail
  refine (oDot d n _).mono ?_; rintro e w1 ⟨rfl, hb1⟩
  have hB1 : Below w.heap.size w w1 := Below.next (by go_grown) hb1
  have d1_0 : w1.cell? ⟨w.heap.size, 0, none⟩ = some (.int .i64 d.1) := cell_call hb1 (by first | assumption | go_cell | simp [go_sem])
  have d1_1 : w1.cell? ⟨w.heap.size, 1, none⟩ = some (.int .i64 d.2.1) := cell_call hb1 (by first | assumption | go_cell | simp [go_sem])
  have d1_2 : w1.cell? ⟨w.heap.size, 2, none⟩ = some (.int .i64 d.2.2) := cell_call hb1 (by first | assumption | go_cell | simp [go_sem])
  have d1_3 : w1.cell? ⟨w.heap.size + 1, 0, none⟩ = some (.int .i64 n.1) := cell_call hb1 (by first | assumption | go_cell | simp [go_sem])
  have d1_4 : w1.cell? ⟨w.heap.size + 1, 1, none⟩ = some (.int .i64 n.2.1) := cell_call hb1 (by first | assumption | go_cell | simp [go_sem])
  have d1_5 : w1.cell? ⟨w.heap.size + 1, 2, none⟩ = some (.int .i64 n.2.2) := cell_call hb1 (by first | assumption | go_cell | simp [go_sem])
  have d1_6 : w1.cell? ⟨w.heap.size + 1 + 1, 0, none⟩ = some (.int .i64 0) := cell_call hb1 (by first | assumption | go_cell | simp [go_sem])
  have t1_6 : w1.frozen? ⟨w.heap.size + 1 + 1, 0, none⟩ = false := (hb1.frozen (p := ⟨w.heap.size + 1 + 1, 0, none⟩) (World.block_lt_of_cell? _ _ (show World.cell? _ ⟨w.heap.size + 1 + 1, 0, none⟩ = some (.int .i64 0) from by first | assumption | go_cell | simp [go_sem]))).trans (by first | assumption | simp [go_sem])
  have d1_7 : w1.cell? ⟨w.heap.size + 1 + 1, 1, none⟩ = some (.int .i64 0) := cell_call hb1 (by first | assumption | go_cell | simp [go_sem])
  have t1_7 : w1.frozen? ⟨w.heap.size + 1 + 1, 1, none⟩ = false := (hb1.frozen (p := ⟨w.heap.size + 1 + 1, 1, none⟩) (World.block_lt_of_cell? _ _ (show World.cell? _ ⟨w.heap.size + 1 + 1, 1, none⟩ = some (.int .i64 0) from by first | assumption | go_cell | simp [go_sem]))).trans (by first | assumption | simp [go_sem])
  have d1_8 : w1.cell? ⟨w.heap.size + 1 + 1, 2, none⟩ = some (.int .i64 0) := cell_call hb1 (by first | assumption | go_cell | simp [go_sem])
  have t1_8 : w1.frozen? ⟨w.heap.size + 1 + 1, 2, none⟩ = false := (hb1.frozen (p := ⟨w.heap.size + 1 + 1, 2, none⟩) (World.block_lt_of_cell? _ _ (show World.cell? _ ⟨w.heap.size + 1 + 1, 2, none⟩ = some (.int .i64 0) from by first | assumption | go_cell | simp [go_sem]))).trans (by first | assumption | simp [go_sem])
  have l1_0 := World.block_lt_of_cell? w1 _ d1_0
  have l1_3 := World.block_lt_of_cell? w1 _ d1_3
  have l1_6 := World.block_lt_of_cell? w1 _ d1_6
  have hS1 := hB1.size
  clear hb1
  rw [HM.out]
  go_wp2_with fail
  exact bodyPost_ret (v := V3 (wneg d.1) (wneg d.2.1) (wneg d.2.2)) (by simp (maxDischargeDepth := 9) [results, Try.results30, go_sem, d1_6, d1_7, d1_8]; exact ⟨rfl, rfl, rfl⟩) rfl ⟨rfl, by go_grown⟩

theorem oFacing (d n : T3) (w : World) : Calls Try.prog 30 #[V3 d.1 d.2.1 d.2.2, V3 n.1 n.2.1 n.2.2] w (Ret (V3 (face d n).1 (face d n).2.1 (face d n).2.2) w) := by
  unfold face
  by_cases h : 0 ≤ wdot d n
  · rw [if_pos h]; exact oFacing_P d n _ (Lib.hid rfl) h w
  · rw [if_neg h]; exact oFacing_N d n _ (Lib.hid rfl) (by omega) w

set_option maxRecDepth 100000 in
set_option maxHeartbeats 1600000 in
theorem r5Facing_P (d n : T3) (m : Int) (HM : Hid (wdot d n = m)) (h : 0 ≤ m) (w : World) : Calls Try.prog 31 #[V3 d.1 d.2.1 d.2.2, V3 n.1 n.2.1 n.2.2] w (Ret (V3 d.1 d.2.1 d.2.2) w) := by
  go_enter Try.func31, Try.ntmps31
  go_wp2_with fail
  refine (r5Dot d n _).mono ?_; rintro e w1 ⟨rfl, hb1⟩
  have hB1 : Below w.heap.size w w1 := Below.next (by go_grown) hb1
  have d1_0 : w1.cell? ⟨w.heap.size, 0, none⟩ = some (.int .i64 d.1) := cell_call hb1 (by first | assumption | go_cell | simp [go_sem])
  have d1_1 : w1.cell? ⟨w.heap.size, 1, none⟩ = some (.int .i64 d.2.1) := cell_call hb1 (by first | assumption | go_cell | simp [go_sem])
  have d1_2 : w1.cell? ⟨w.heap.size, 2, none⟩ = some (.int .i64 d.2.2) := cell_call hb1 (by first | assumption | go_cell | simp [go_sem])
  have d1_3 : w1.cell? ⟨w.heap.size + 1, 0, none⟩ = some (.int .i64 n.1) := cell_call hb1 (by first | assumption | go_cell | simp [go_sem])
  have d1_4 : w1.cell? ⟨w.heap.size + 1, 1, none⟩ = some (.int .i64 n.2.1) := cell_call hb1 (by first | assumption | go_cell | simp [go_sem])
  have d1_5 : w1.cell? ⟨w.heap.size + 1, 2, none⟩ = some (.int .i64 n.2.2) := cell_call hb1 (by first | assumption | go_cell | simp [go_sem])
  have d1_6 : w1.cell? ⟨w.heap.size + 1 + 1, 0, none⟩ = some (.int .i64 0) := cell_call hb1 (by first | assumption | go_cell | simp [go_sem])
  have t1_6 : w1.frozen? ⟨w.heap.size + 1 + 1, 0, none⟩ = false := (hb1.frozen (p := ⟨w.heap.size + 1 + 1, 0, none⟩) (World.block_lt_of_cell? _ _ (show World.cell? _ ⟨w.heap.size + 1 + 1, 0, none⟩ = some (.int .i64 0) from by first | assumption | go_cell | simp [go_sem]))).trans (by first | assumption | simp [go_sem])
  have d1_7 : w1.cell? ⟨w.heap.size + 1 + 1, 1, none⟩ = some (.int .i64 0) := cell_call hb1 (by first | assumption | go_cell | simp [go_sem])
  have t1_7 : w1.frozen? ⟨w.heap.size + 1 + 1, 1, none⟩ = false := (hb1.frozen (p := ⟨w.heap.size + 1 + 1, 1, none⟩) (World.block_lt_of_cell? _ _ (show World.cell? _ ⟨w.heap.size + 1 + 1, 1, none⟩ = some (.int .i64 0) from by first | assumption | go_cell | simp [go_sem]))).trans (by first | assumption | simp [go_sem])
  have d1_8 : w1.cell? ⟨w.heap.size + 1 + 1, 2, none⟩ = some (.int .i64 0) := cell_call hb1 (by first | assumption | go_cell | simp [go_sem])
  have t1_8 : w1.frozen? ⟨w.heap.size + 1 + 1, 2, none⟩ = false := (hb1.frozen (p := ⟨w.heap.size + 1 + 1, 2, none⟩) (World.block_lt_of_cell? _ _ (show World.cell? _ ⟨w.heap.size + 1 + 1, 2, none⟩ = some (.int .i64 0) from by first | assumption | go_cell | simp [go_sem]))).trans (by first | assumption | simp [go_sem])
  have l1_0 := World.block_lt_of_cell? w1 _ d1_0
  have l1_3 := World.block_lt_of_cell? w1 _ d1_3
  have l1_6 := World.block_lt_of_cell? w1 _ d1_6
  have hS1 := hB1.size
  clear hb1
  rw [HM.out]
  go_wp2_with fail
  exact bodyPost_ret (v := V3 d.1 d.2.1 d.2.2) (by simp (maxDischargeDepth := 9) [results, Try.results31, go_sem, d1_6, d1_7, d1_8]) rfl ⟨rfl, by go_grown⟩

set_option maxRecDepth 100000 in
set_option maxHeartbeats 1600000 in
theorem r5Facing_N (d n : T3) (m : Int) (HM : Hid (wdot d n = m)) (h : m < 0) (w : World) : Calls Try.prog 31 #[V3 d.1 d.2.1 d.2.2, V3 n.1 n.2.1 n.2.2] w (Ret (V3 (wneg d.1) (wneg d.2.1) (wneg d.2.2)) w) := by
  go_enter Try.func31, Try.ntmps31
  go_wp2_with fail
  refine (r5Dot d n _).mono ?_; rintro e w1 ⟨rfl, hb1⟩
  have hB1 : Below w.heap.size w w1 := Below.next (by go_grown) hb1
  have d1_0 : w1.cell? ⟨w.heap.size, 0, none⟩ = some (.int .i64 d.1) := cell_call hb1 (by first | assumption | go_cell | simp [go_sem])
  have d1_1 : w1.cell? ⟨w.heap.size, 1, none⟩ = some (.int .i64 d.2.1) := cell_call hb1 (by first | assumption | go_cell | simp [go_sem])
  have d1_2 : w1.cell? ⟨w.heap.size, 2, none⟩ = some (.int .i64 d.2.2) := cell_call hb1 (by first | assumption | go_cell | simp [go_sem])
  have d1_3 : w1.cell? ⟨w.heap.size + 1, 0, none⟩ = some (.int .i64 n.1) := cell_call hb1 (by first | assumption | go_cell | simp [go_sem])
  have d1_4 : w1.cell? ⟨w.heap.size + 1, 1, none⟩ = some (.int .i64 n.2.1) := cell_call hb1 (by first | assumption | go_cell | simp [go_sem])
  have d1_5 : w1.cell? ⟨w.heap.size + 1, 2, none⟩ = some (.int .i64 n.2.2) := cell_call hb1 (by first | assumption | go_cell | simp [go_sem])
  have d1_6 : w1.cell? ⟨w.heap.size + 1 + 1, 0, none⟩ = some (.int .i64 0) := cell_call hb1 (by first | assumption | go_cell | simp [go_sem])
  have t1_6 : w1.frozen? ⟨w.heap.size + 1 + 1, 0, none⟩ = false := (hb1.frozen (p := ⟨w.heap.size + 1 + 1, 0, none⟩) (World.block_lt_of_cell? _ _ (show World.cell? _ ⟨w.heap.size + 1 + 1, 0, none⟩ = some (.int .i64 0) from by first | assumption | go_cell | simp [go_sem]))).trans (by first | assumption | simp [go_sem])
  have d1_7 : w1.cell? ⟨w.heap.size + 1 + 1, 1, none⟩ = some (.int .i64 0) := cell_call hb1 (by first | assumption | go_cell | simp [go_sem])
  have t1_7 : w1.frozen? ⟨w.heap.size + 1 + 1, 1, none⟩ = false := (hb1.frozen (p := ⟨w.heap.size + 1 + 1, 1, none⟩) (World.block_lt_of_cell? _ _ (show World.cell? _ ⟨w.heap.size + 1 + 1, 1, none⟩ = some (.int .i64 0) from by first | assumption | go_cell | simp [go_sem]))).trans (by first | assumption | simp [go_sem])
  have d1_8 : w1.cell? ⟨w.heap.size + 1 + 1, 2, none⟩ = some (.int .i64 0) := cell_call hb1 (by first | assumption | go_cell | simp [go_sem])
  have t1_8 : w1.frozen? ⟨w.heap.size + 1 + 1, 2, none⟩ = false := (hb1.frozen (p := ⟨w.heap.size + 1 + 1, 2, none⟩) (World.block_lt_of_cell? _ _ (show World.cell? _ ⟨w.heap.size + 1 + 1, 2, none⟩ = some (.int .i64 0) from by first | assumption | go_cell | simp [go_sem]))).trans (by first | assumption | simp [go_sem])
  have l1_0 := World.block_lt_of_cell? w1 _ d1_0
  have l1_3 := World.block_lt_of_cell? w1 _ d1_3
  have l1_6 := World.block_lt_of_cell? w1 _ d1_6
  have hS1 := hB1.size
  clear hb1
  rw [HM.out]
  go_wp2_with fail
  exact bodyPost_ret (v := V3 (wneg d.1) (wneg d.2.1) (wneg d.2.2)) (by simp (maxDischargeDepth := 9) [results, Try.results31, go_sem, d1_6, d1_7, d1_8]; exact ⟨rfl, rfl, rfl⟩) rfl ⟨rfl, by go_grown⟩

theorem r5Facing (d n : T3) (w : World) : Calls Try.prog 31 #[V3 d.1 d.2.1 d.2.2, V3 n.1 n.2.1 n.2.2] w (Ret (V3 (face d n).1 (face d n).2.1 (face d n).2.2) w) := by
  unfold face
  by_cases h : 0 ≤ wdot d n
  · rw [if_pos h]; exact r5Facing_P d n _ (Lib.hid rfl) h w
  · rw [if_neg h]; exact r5Facing_N d n _ (Lib.hid rfl) (by omega) w

theorem oPick1 (x : Int) (hx : 0 ≤ x ∧ x ≤ 65535) (w : World) : Calls Try.prog 58 #[.int .u32 x] w (Same (.int .u32 (x * 32769 / 65536)) w) := by
  go_enter Try.func58, Try.ntmps58
  go_wp2
  go_ret
  exact same_of rfl

set_option maxRecDepth 100000 in
set_option maxHeartbeats 1600000 in
theorem oPick (x : Int) (hx : 0 ≤ x ∧ x ≤ 4294967295) (w : World) : Calls Try.prog 24 #[.int .u32 x] w (Ret (V3 (pdir x).1 (pdir x).2.1 (pdir x).2.2) w) := by
  have f1 : 0 ≤ x / 65536 ∧ x / 65536 ≤ 65535 := by omega
  have f2 : 0 ≤ x % 65536 ∧ x % 65536 ≤ 65535 := by omega
  have f3 : 0 ≤ x / 65536 * 32769 / 65536 ∧ x / 65536 * 32769 / 65536 ≤ 32768 := by omega
  have f4 : 0 ≤ x % 65536 * 32769 / 65536 ∧ x % 65536 * 32769 / 65536 ≤ 32768 := by omega
  have e2 := u32_or16 (x % 65536 * 32769 / 65536) (x / 65536 * 32769 / 65536) (by omega) (by omega) (by omega) (by omega)
  have HP : Hid (x / 65536 * 32769 / 65536 * 65536 + x % 65536 * 32769 / 65536 = pick x) := Lib.hid rfl
  have hp : 0 ≤ pick x ∧ pick x ≤ 4294967295 := by unfold pick; omega
  clear f3 f4
  have HD : Hid (pdir x = dec (pick x)) := Lib.hid rfl
  have e1 := u32_low16 x
  rw [HD.out]
  go_enter Try.func24, Try.ntmps24
  go_wp2_with fail
  refine (oPick1 _ (by omega) _).mono ?_; rintro e w9 ⟨rfl, rfl⟩
  go_wp2_with fail
  refine (oPick1 _ (by omega) _).mono ?_; rintro e w9 ⟨rfl, rfl⟩
  go_wp2_with fail
  rw [HP.out]
  refine (oDec _ hp _).mono ?_; rintro e w1 ⟨rfl, hb1⟩
  have hB1 : Below w.heap.size w w1 := Below.next (by go_grown) hb1
  have d1_0 : w1.cell? ⟨w.heap.size, 0, none⟩ = some (.int .i64 0) := cell_call hb1 (by first | assumption | go_cell | simp [go_sem])
  have t1_0 : w1.frozen? ⟨w.heap.size, 0, none⟩ = false := (hb1.frozen (p := ⟨w.heap.size, 0, none⟩) (World.block_lt_of_cell? _ _ (show World.cell? _ ⟨w.heap.size, 0, none⟩ = some (.int .i64 0) from by first | assumption | go_cell | simp [go_sem]))).trans (by first | assumption | simp [go_sem])
  have d1_1 : w1.cell? ⟨w.heap.size, 1, none⟩ = some (.int .i64 0) := cell_call hb1 (by first | assumption | go_cell | simp [go_sem])
  have t1_1 : w1.frozen? ⟨w.heap.size, 1, none⟩ = false := (hb1.frozen (p := ⟨w.heap.size, 1, none⟩) (World.block_lt_of_cell? _ _ (show World.cell? _ ⟨w.heap.size, 1, none⟩ = some (.int .i64 0) from by first | assumption | go_cell | simp [go_sem]))).trans (by first | assumption | simp [go_sem])
  have d1_2 : w1.cell? ⟨w.heap.size, 2, none⟩ = some (.int .i64 0) := cell_call hb1 (by first | assumption | go_cell | simp [go_sem])
  have t1_2 : w1.frozen? ⟨w.heap.size, 2, none⟩ = false := (hb1.frozen (p := ⟨w.heap.size, 2, none⟩) (World.block_lt_of_cell? _ _ (show World.cell? _ ⟨w.heap.size, 2, none⟩ = some (.int .i64 0) from by first | assumption | go_cell | simp [go_sem]))).trans (by first | assumption | simp [go_sem])
  have l1_0 := World.block_lt_of_cell? w1 _ d1_0
  have hS1 := hB1.size
  clear hb1
  go_wp2_with fail
  exact bodyPost_ret (v := V3 (dec (pick x)).1 (dec (pick x)).2.1 (dec (pick x)).2.2) (by simp (maxDischargeDepth := 9) [results, Try.results24, go_sem, d1_0, d1_1, d1_2]) rfl ⟨rfl, by go_grown⟩

theorem qmd {x m : Int} (hx : InI x) (hm : 1 ≤ m) (h1 : -m - 1 ≤ x ∧ x ≤ m) : max (mdN x 16384 m) (-16384) = qpart x m ∧ -16384 ≤ qpart x m ∧ qpart x m ≤ 16384 := by
  have q0 : -16384 * (m + 1) ≤ x * 16384 ∧ x * 16384 ≤ 16384 * m := by omega
  have e : -32769 ≤ x * 16384 / m ∧ x * 16384 / m ≤ 16384 := by
    constructor
    · rw [Int.le_ediv_iff_mul_le (by omega)]; omega
    · have : x * 16384 / m < 16385 := by rw [Int.ediv_lt_iff_lt_mul (by omega)]; omega
      omega
  have e2 : mdN x 16384 m = x * 16384 / m := by
    unfold mdN fq
    rw [if_neg (by omega), if_pos (by omega), clampI_in (by unfold InI; omega)]
  unfold qpart
  rw [e2]
  omega
theorem oQuant1 (x m : Int) (hx : InI x) (hm : InI m) (k : Int) (HK : Hid (max (mdN x 16384 m) (-16384) = k)) (B : Nat) (w : World) (hc : w.cell? ⟨B, 0, none⟩ = some (.int .i64 m)) :
    Calls Try.prog 60 #[.int .i64 x, .pointer (some ⟨B, 0, none⟩)] w (Ret (.int .i64 k) w) := by
  have e2 := imax
  go_enter Try.func60, Try.ntmps60
  go_wp2_with fail
  refine (wMulDiv _ _ _ hx (by unfold InI; omega) hm _).mono ?_; rintro e w1 ⟨rfl, hb1⟩
  have hB1 : Below w.heap.size w w1 := Below.next (by go_grown) hb1
  go_wp2_with fail
  go_ret
  exact ret_of (vint HK.out) hB1

theorem vmost_zero {a : T3} (ha : InV a) (h : vmost a = 0) : a.1 = 0 ∧ a.2.1 = 0 ∧ a.2.2 = 0 := by
  unfold vmost at h
  have h0 := fabs_val ha.1
  have h1 := fabs_val ha.2.1
  have h2 := fabs_val ha.2.2
  obtain ⟨i0, i1, i2⟩ := ha
  unfold InI at i0 i1 i2
  refine ⟨?_, ?_, ?_⟩ <;> (repeat (split at h0)) <;> (repeat (split at h1)) <;> (repeat (split at h2)) <;> omega
theorem vmost_bd {a : T3} (ha : InV a) : 0 ≤ vmost a ∧ vmost a ≤ 9223372036854775807 ∧ (-vmost a - 1 ≤ a.1 ∧ a.1 ≤ vmost a) ∧ (-vmost a - 1 ≤ a.2.1 ∧ a.2.1 ≤ vmost a) ∧ (-vmost a - 1 ≤ a.2.2 ∧ a.2.2 ≤ vmost a) := by
  unfold vmost
  have h0 := fabs_val ha.1
  have h1 := fabs_val ha.2.1
  have h2 := fabs_val ha.2.2
  obtain ⟨i0, i1, i2⟩ := ha
  unfold InI at i0 i1 i2
  (repeat (split at h0)) <;> (repeat (split at h1)) <;> (repeat (split at h2)) <;> omega

set_option maxRecDepth 100000 in
set_option maxHeartbeats 1600000 in
theorem oQuant_0 (v : T3) (hv : InV v) (HM : Hid (vmost v = 0)) (w : World) : Calls Try.prog 26 #[V3 v.1 v.2.1 v.2.2] w (Ret (.tuple #[V3 0 0 0, .int .i64 2]) w) := by
  go_enter Try.func26, Try.ntmps26
  go_wp2_with fail
  refine (vMost v hv _).mono ?_; rintro e w1 ⟨rfl, hb1⟩
  have hB1 : Below w.heap.size w w1 := Below.next (by go_grown) hb1
  have d1_0 : w1.cell? ⟨w.heap.size, 0, none⟩ = some (.int .i64 v.1) := cell_call hb1 (by first | assumption | go_cell | simp [go_sem])
  have d1_1 : w1.cell? ⟨w.heap.size, 1, none⟩ = some (.int .i64 v.2.1) := cell_call hb1 (by first | assumption | go_cell | simp [go_sem])
  have d1_2 : w1.cell? ⟨w.heap.size, 2, none⟩ = some (.int .i64 v.2.2) := cell_call hb1 (by first | assumption | go_cell | simp [go_sem])
  have d1_3 : w1.cell? ⟨w.heap.size + 1, 0, none⟩ = some (.int .i64 0) := cell_call hb1 (by first | assumption | go_cell | simp [go_sem])
  have t1_3 : w1.frozen? ⟨w.heap.size + 1, 0, none⟩ = false := (hb1.frozen (p := ⟨w.heap.size + 1, 0, none⟩) (World.block_lt_of_cell? _ _ (show World.cell? _ ⟨w.heap.size + 1, 0, none⟩ = some (.int .i64 0) from by first | assumption | go_cell | simp [go_sem]))).trans (by first | assumption | simp [go_sem])
  have d1_4 : w1.cell? ⟨w.heap.size + 1, 1, none⟩ = some (.int .i64 0) := cell_call hb1 (by first | assumption | go_cell | simp [go_sem])
  have t1_4 : w1.frozen? ⟨w.heap.size + 1, 1, none⟩ = false := (hb1.frozen (p := ⟨w.heap.size + 1, 1, none⟩) (World.block_lt_of_cell? _ _ (show World.cell? _ ⟨w.heap.size + 1, 1, none⟩ = some (.int .i64 0) from by first | assumption | go_cell | simp [go_sem]))).trans (by first | assumption | simp [go_sem])
  have d1_5 : w1.cell? ⟨w.heap.size + 1, 2, none⟩ = some (.int .i64 0) := cell_call hb1 (by first | assumption | go_cell | simp [go_sem])
  have t1_5 : w1.frozen? ⟨w.heap.size + 1, 2, none⟩ = false := (hb1.frozen (p := ⟨w.heap.size + 1, 2, none⟩) (World.block_lt_of_cell? _ _ (show World.cell? _ ⟨w.heap.size + 1, 2, none⟩ = some (.int .i64 0) from by first | assumption | go_cell | simp [go_sem]))).trans (by first | assumption | simp [go_sem])
  have l1_0 := World.block_lt_of_cell? w1 _ d1_0
  have l1_3 := World.block_lt_of_cell? w1 _ d1_3
  have hS1 := hB1.size
  clear hb1
  rw [HM.out]
  go_wp2_with fail
  exact bodyPost_ret (v := .tuple #[V3 0 0 0, .int .i64 2]) (by simp (maxDischargeDepth := 9) [results, Try.results26, go_sem, d1_0, l1_0, Nat.ne_of_lt l1_0, Nat.ne_of_gt l1_0, d1_1, d1_2, d1_3, l1_3, Nat.ne_of_lt l1_3, Nat.ne_of_gt l1_3, d1_4, d1_5]) rfl ⟨rfl, by go_grown⟩

set_option maxRecDepth 100000 in
set_option maxHeartbeats 1600000 in
theorem oQuant_1 (v q : T3) (m : Int) (hv : InV v) (HM : Hid (vmost v = m)) (hm : InI m) (h0 : (m == 0) = false) (K0 : Hid (max (mdN v.1 16384 m) (-16384) = q.1)) (K1 : Hid (max (mdN v.2.1 16384 m) (-16384) = q.2.1)) (K2 : Hid (max (mdN v.2.2 16384 m) (-16384) = q.2.2)) (w : World) :
    Calls Try.prog 26 #[V3 v.1 v.2.1 v.2.2] w (Ret (.tuple #[V3 q.1 q.2.1 q.2.2, .int .i64 0]) w) := by
  have hV := Lib.hid hv
  obtain ⟨v0, v1, v2⟩ := hv
  go_enter Try.func26, Try.ntmps26
  go_wp2_with fail
  refine (vMost v hV.out _).mono ?_; rintro e w1 ⟨rfl, hb1⟩
  have hB1 : Below w.heap.size w w1 := Below.next (by go_grown) hb1
  have d1_0 : w1.cell? ⟨w.heap.size, 0, none⟩ = some (.int .i64 v.1) := cell_call hb1 (by first | assumption | go_cell | simp [go_sem])
  have d1_1 : w1.cell? ⟨w.heap.size, 1, none⟩ = some (.int .i64 v.2.1) := cell_call hb1 (by first | assumption | go_cell | simp [go_sem])
  have d1_2 : w1.cell? ⟨w.heap.size, 2, none⟩ = some (.int .i64 v.2.2) := cell_call hb1 (by first | assumption | go_cell | simp [go_sem])
  have d1_3 : w1.cell? ⟨w.heap.size + 1, 0, none⟩ = some (.int .i64 0) := cell_call hb1 (by first | assumption | go_cell | simp [go_sem])
  have t1_3 : w1.frozen? ⟨w.heap.size + 1, 0, none⟩ = false := (hb1.frozen (p := ⟨w.heap.size + 1, 0, none⟩) (World.block_lt_of_cell? _ _ (show World.cell? _ ⟨w.heap.size + 1, 0, none⟩ = some (.int .i64 0) from by first | assumption | go_cell | simp [go_sem]))).trans (by first | assumption | simp [go_sem])
  have d1_4 : w1.cell? ⟨w.heap.size + 1, 1, none⟩ = some (.int .i64 0) := cell_call hb1 (by first | assumption | go_cell | simp [go_sem])
  have t1_4 : w1.frozen? ⟨w.heap.size + 1, 1, none⟩ = false := (hb1.frozen (p := ⟨w.heap.size + 1, 1, none⟩) (World.block_lt_of_cell? _ _ (show World.cell? _ ⟨w.heap.size + 1, 1, none⟩ = some (.int .i64 0) from by first | assumption | go_cell | simp [go_sem]))).trans (by first | assumption | simp [go_sem])
  have d1_5 : w1.cell? ⟨w.heap.size + 1, 2, none⟩ = some (.int .i64 0) := cell_call hb1 (by first | assumption | go_cell | simp [go_sem])
  have t1_5 : w1.frozen? ⟨w.heap.size + 1, 2, none⟩ = false := (hb1.frozen (p := ⟨w.heap.size + 1, 2, none⟩) (World.block_lt_of_cell? _ _ (show World.cell? _ ⟨w.heap.size + 1, 2, none⟩ = some (.int .i64 0) from by first | assumption | go_cell | simp [go_sem]))).trans (by first | assumption | simp [go_sem])
  have l1_0 := World.block_lt_of_cell? w1 _ d1_0
  have l1_3 := World.block_lt_of_cell? w1 _ d1_3
  have hS1 := hB1.size
  clear hb1
  rw [HM.out]
  go_wp2_with fail
  refine wp_region_fresh_gen 13 (by kernel_rfl) (by kernel_rfl) (fun W2 HW2 => ?_)
  intro F2_0 U2_0
  have hA2 : Below w.heap.size w W2 := by rw [HW2]; go_grown
  have c2_0 : W2.cell? ⟨w.heap.size, 0, none⟩ = some (.int .i64 v.1) := by rw [HW2]; first | assumption | go_cell | simp [go_sem, *]
  have c2_1 : W2.cell? ⟨w.heap.size, 1, none⟩ = some (.int .i64 v.2.1) := by rw [HW2]; first | assumption | go_cell | simp [go_sem, *]
  have c2_2 : W2.cell? ⟨w.heap.size, 2, none⟩ = some (.int .i64 v.2.2) := by rw [HW2]; first | assumption | go_cell | simp [go_sem, *]
  have c2_3 : W2.cell? ⟨w.heap.size + 1, 0, none⟩ = some (.int .i64 0) := by rw [HW2]; first | assumption | go_cell | simp [go_sem, *]
  have u2_3 : W2.frozen? ⟨w.heap.size + 1, 0, none⟩ = false := by rw [HW2]; first | assumption | simp [go_sem, *]
  have c2_4 : W2.cell? ⟨w.heap.size + 1, 1, none⟩ = some (.int .i64 0) := by rw [HW2]; first | assumption | go_cell | simp [go_sem, *]
  have u2_4 : W2.frozen? ⟨w.heap.size + 1, 1, none⟩ = false := by rw [HW2]; first | assumption | simp [go_sem, *]
  have c2_5 : W2.cell? ⟨w.heap.size + 1, 2, none⟩ = some (.int .i64 0) := by rw [HW2]; first | assumption | go_cell | simp [go_sem, *]
  have u2_5 : W2.frozen? ⟨w.heap.size + 1, 2, none⟩ = false := by rw [HW2]; first | assumption | simp [go_sem, *]
  have c2_6 : W2.cell? ⟨w1.heap.size, 0, none⟩ = some (.int .i64 m) := by rw [HW2]; first | assumption | go_cell | simp [go_sem, *]
  clear HW2
  have r2_0 := reg_cell c2_0
  have r2_1 := reg_cell c2_1
  have r2_2 := reg_cell c2_2
  have r2_3 := reg_cell c2_3
  have r2_4 := reg_cell c2_4
  have r2_5 := reg_cell c2_5
  have r2_6 := reg_cell c2_6
  simp only [List.take_succ_cons, List.take_zero, List.drop_succ_cons, List.drop_zero]
  iterate 3 (refine WL_plain (fun K hK => ?_); go_simp; refine hK _ ?_; clear hK K)
  refine WL_call (by kernel_rfl) (fun K hK => ?_)
  go_simp
  apply Exists.intro
  refine ⟨fun w1 hb1 hf1 => ?_, hK _ ?_⟩
  · exact oQuant1 _ _ v0 hm _ K0 _ _ (cell_call hb1 c2_6)
  clear hK K
  iterate 3 (refine WL_plain (fun K hK => ?_); go_simp; refine hK _ ?_; clear hK K)
  refine WL_call (by kernel_rfl) (fun K hK => ?_)
  go_simp
  apply Exists.intro
  refine ⟨fun w1 hb1 hf1 => ?_, hK _ ?_⟩
  · exact oQuant1 _ _ v1 hm _ K1 _ _ (cell_call hb1 c2_6)
  clear hK K
  iterate 3 (refine WL_plain (fun K hK => ?_); go_simp; refine hK _ ?_; clear hK K)
  refine WL_call (by kernel_rfl) (fun K hK => ?_)
  go_simp
  apply Exists.intro
  refine ⟨fun w1 hb1 hf1 => ?_, hK _ ?_⟩
  · exact oQuant1 _ _ v2 hm _ K2 _ _ (cell_call hb1 c2_6)
  clear hK K
  refine WL_plain (fun K hK => ?_); go_simp; refine hK _ ?_; clear hK K
  refine WL_nil (fun w2 hb2 hf2 => ?_)
  have hB2 : Below w.heap.size w w2 := Below.next hA2 hb2
  have d2_0 := cell_call hb2 c2_0
  have d2_1 := cell_call hb2 c2_1
  have d2_2 := cell_call hb2 c2_2
  have d2_3 := cell_call hb2 c2_3
  have t2_3 := (hb2.frozen (p := ⟨w.heap.size + 1, 0, none⟩) (World.block_lt_of_cell? _ _ c2_3)).trans u2_3
  have d2_4 := cell_call hb2 c2_4
  have t2_4 := (hb2.frozen (p := ⟨w.heap.size + 1, 1, none⟩) (World.block_lt_of_cell? _ _ c2_4)).trans u2_4
  have d2_5 := cell_call hb2 c2_5
  have t2_5 := (hb2.frozen (p := ⟨w.heap.size + 1, 2, none⟩) (World.block_lt_of_cell? _ _ c2_5)).trans u2_5
  have d2_6 := cell_call hb2 c2_6
  clear r2_0 c2_0 r2_1 c2_1 r2_2 c2_2 r2_3 c2_3 u2_3 r2_4 c2_4 u2_4 r2_5 c2_5 u2_5 r2_6 c2_6
  have l2_0 := World.block_lt_of_cell? w2 _ d2_0
  have l2_3 := World.block_lt_of_cell? w2 _ d2_3
  have l2_6 := World.block_lt_of_cell? w2 _ d2_6
  have hS2 := hB2.size
  go_wp2_with fail
  exact bodyPost_ret (v := .tuple #[V3 q.1 q.2.1 q.2.2, .int .i64 0]) (by simp (maxDischargeDepth := 9) [results, Try.results26, go_sem, d2_0, l2_0, Nat.ne_of_lt l2_0, Nat.ne_of_gt l2_0, d2_1, d2_2, d2_3, l2_3, Nat.ne_of_lt l2_3, Nat.ne_of_gt l2_3, d2_4, d2_5, d2_6, l2_6, Nat.ne_of_lt l2_6, Nat.ne_of_gt l2_6]) rfl ⟨rfl, by go_grown⟩

def quant (v : T3) : T3 := if vmost v = 0 then zero3 else (qpart v.1 (vmost v), qpart v.2.1 (vmost v), qpart v.2.2 (vmost v))
def quantE (v : T3) : Int := if vmost v = 0 then 2 else 0
theorem oQuant (v : T3) (hv : InV v) (w : World) : Calls Try.prog 26 #[V3 v.1 v.2.1 v.2.2] w (Ret (.tuple #[V3 (quant v).1 (quant v).2.1 (quant v).2.2, .int .i64 (quantE v)]) w) := by
  unfold quant quantE
  by_cases h : vmost v = 0
  · rw [if_pos h, if_pos h]; exact oQuant_0 v hv (Lib.hid h) w
  · rw [if_neg h, if_neg h]
    have hb := vmost_bd hv
    exact oQuant_1 v (qpart v.1 (vmost v), qpart v.2.1 (vmost v), qpart v.2.2 (vmost v)) _ hv (Lib.hid rfl) (by unfold InI; omega) (beq_eq_false_iff_ne.2 h) (Lib.hid (qmd hv.1 (by omega) hb.2.2.1).1) (Lib.hid (qmd hv.2.1 (by omega) hb.2.2.2.1).1) (Lib.hid (qmd hv.2.2 (by omega) hb.2.2.2.2).1) w

end Go.Proofs.Ytbfgmedjogjkeaa
