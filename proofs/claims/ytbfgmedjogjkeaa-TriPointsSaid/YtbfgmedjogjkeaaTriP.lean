/- Walks: tri.near, tri.Place. -/
import Derived.Test.YtbfgmedjogjkeaaTriL
import Derived.Test.YtbfgmedjogjkeaaTriA
import Derived.Test.YtbfgmedjogjkeaaAddTwo
import Derived.Test.YtbfgmedjogjkeaaWalkI
namespace Go.Proofs.Ytbfgmedjogjkeaa
open Go.RowKit Go.Sort
set_option linter.unusedVariables false
set_option linter.unusedSimpArgs false

/-- No farther than the grid. -/
def clampG (x : Int) : Int := if x < -65536 then -65536 else if 65536 < x then 65536 else x
/-- One part of a place. -/
def partV (o d : Int) (m : M4) : Int := clampG (o + (if m.2.1 < 1 then 0 else mdN d m.1 m.2.1))

set_option maxRecDepth 100000 in
set_option maxHeartbeats 1600000 in
theorem tNear_lo (o y s k l n : Int) (b : Bool) (h1 : k < 0) (K1 : Hid (∀ w, Calls Try.prog 86 #[.int .i64 o] w (Ret (W o) w))) (K2 : Hid (∀ w, Calls Try.prog 86 #[.int .i64 y] w (Ret (W y) w))) (K3 : Hid (∀ w B, w.cell? ⟨B, 0, none⟩ = some (.int .i64 (wHi o)) → w.cell? ⟨B, 1, none⟩ = some (.int .u64 (wLo o)) → w.cell? ⟨B, 2, none⟩ = some (.int .i64 (wHi y)) → w.cell? ⟨B, 3, none⟩ = some (.int .u64 (wLo y)) → Calls Try.prog 37 #[.slice (some ⟨B, 0, none⟩) 2 2] w (Ret (.tuple #[W s, .bool true]) w))) (K4 : Hid (∀ w, Calls Try.prog 86 #[.int .i64 (-65536)] w (Ret (W (-65536)) w))) (K5 : Hid (∀ w, Calls Try.prog 86 #[.int .i64 65536] w (Ret (W 65536) w))) (K6 : Hid (∀ w, Calls Try.prog 75 #[W s, W (-65536)] w (Ret (.int .i64 k) w))) (w : World) : Calls Try.prog 74 #[.int .i64 o, .int .i64 y] w (Ret (.int .i64 (-65536)) w) := by
  go_enter Try.func74, Try.ntmps74
  go_wp2_with fail
  refine (K1.out _).mono ?_; rintro e w1 ⟨rfl, hb1⟩
  have hB1 : Below w.heap.size w w1 := Below.next (by go_grown) hb1
  have hS1 := hB1.size
  clear hb1
  go_wp2_with fail
  refine (K2.out _).mono ?_; rintro e w2 ⟨rfl, hb2⟩
  have hB2 : Below w.heap.size w w2 := Below.next (by go_grown) hb2
  have hS2 := hB2.size
  clear hb2
  go_wp2_with fail
  refine (K3.out _ _ (by first | go_cell | simp [go_sem]) (by first | go_cell | simp [go_sem]) (by first | go_cell | simp [go_sem]) (by first | go_cell | simp [go_sem])).mono ?_; rintro e w3 ⟨rfl, hb3⟩
  have hB3 : Below w.heap.size w w3 := Below.next (by go_grown) hb3
  have hS3 := hB3.size
  clear hb3
  go_upto_region 2 with fail
  refine code_settle (fun w4 hW4 => ?_)
  have hB4 : Below w.heap.size w w4 := by rw [hW4]; go_grown
  have d4_0 : w4.cell? ⟨w3.heap.size, 0, none⟩ = some (.int .i64 (wHi s)) := by rw [hW4]; first | go_cell | simp [go_sem, *]
  have d4_1 : w4.cell? ⟨w3.heap.size, 1, none⟩ = some (.int .u64 (wLo s)) := by rw [hW4]; first | go_cell | simp [go_sem, *]
  have l4_0 : w3.heap.size < w4.heap.size := World.block_lt_of_cell? w4 _ d4_0
  have hS4 := hB4.size
  clear hW4
  go_wp2_with fail
  refine (K4.out _).mono ?_; rintro e w5 ⟨rfl, hb5⟩
  have hB5 : Below w.heap.size w w5 := Below.next (by go_grown) hb5
  have d5_0 : w5.cell? ⟨w3.heap.size, 0, none⟩ = some (.int .i64 (wHi s)) := cell_call hb5 (by first | assumption | go_cell | simp [go_sem] | simp [go_sem, *])
  have d5_1 : w5.cell? ⟨w3.heap.size, 1, none⟩ = some (.int .u64 (wLo s)) := cell_call hb5 (by first | assumption | go_cell | simp [go_sem] | simp [go_sem, *])
  have l5_0 : w3.heap.size < w5.heap.size := World.block_lt_of_cell? w5 _ d5_0
  clear d4_0 d4_1 l4_0
  have hS5 := hB5.size
  clear hb5
  go_wp2_with fail
  refine (K5.out _).mono ?_; rintro e w6 ⟨rfl, hb6⟩
  have hB6 : Below w.heap.size w w6 := Below.next (by go_grown) hb6
  have d6_0 : w6.cell? ⟨w3.heap.size, 0, none⟩ = some (.int .i64 (wHi s)) := cell_call hb6 (by first | assumption | go_cell | simp [go_sem] | simp [go_sem, *])
  have d6_1 : w6.cell? ⟨w3.heap.size, 1, none⟩ = some (.int .u64 (wLo s)) := cell_call hb6 (by first | assumption | go_cell | simp [go_sem] | simp [go_sem, *])
  have l6_0 : w3.heap.size < w6.heap.size := World.block_lt_of_cell? w6 _ d6_0
  clear d5_0 d5_1 l5_0
  have hS6 := hB6.size
  clear hb6
  go_upto_region 3 with fail
  refine code_settle (fun w7 hW7 => ?_)
  have hB7 : Below w.heap.size w w7 := by rw [hW7]; go_grown
  have d7_0 : w7.cell? ⟨w3.heap.size, 0, none⟩ = some (.int .i64 (wHi s)) := by rw [hW7]; first | go_cell | simp [go_sem, *]
  have d7_1 : w7.cell? ⟨w3.heap.size, 1, none⟩ = some (.int .u64 (wLo s)) := by rw [hW7]; first | go_cell | simp [go_sem, *]
  have d7_2 : w7.cell? ⟨w6.heap.size, 0, none⟩ = some (.int .i64 (wHi (-65536))) := by rw [hW7]; first | go_cell | simp [go_sem, *]
  have d7_3 : w7.cell? ⟨w6.heap.size, 1, none⟩ = some (.int .u64 (wLo (-65536))) := by rw [hW7]; first | go_cell | simp [go_sem, *]
  have d7_4 : w7.cell? ⟨w6.heap.size + 1, 0, none⟩ = some (.int .i64 (wHi 65536)) := by rw [hW7]; first | go_cell | simp [go_sem, *]
  have d7_5 : w7.cell? ⟨w6.heap.size + 1, 1, none⟩ = some (.int .u64 (wLo 65536)) := by rw [hW7]; first | go_cell | simp [go_sem, *]
  have l7_0 : w3.heap.size < w7.heap.size := World.block_lt_of_cell? w7 _ d7_0
  have l7_2 : w6.heap.size < w7.heap.size := World.block_lt_of_cell? w7 _ d7_2
  have l7_4 : w6.heap.size + 1 < w7.heap.size := World.block_lt_of_cell? w7 _ d7_4
  have hS7 := hB7.size
  clear d6_0 d6_1 l6_0
  clear hW7
  go_wp2_with fail
  refine (K6.out _).mono ?_; rintro e w8 ⟨rfl, hb8⟩
  have hB8 : Below w.heap.size w w8 := Below.next (by go_grown) hb8
  have d8_0 : w8.cell? ⟨w3.heap.size, 0, none⟩ = some (.int .i64 (wHi s)) := cell_call hb8 (by first | assumption | go_cell | simp [go_sem] | simp [go_sem, *])
  have d8_1 : w8.cell? ⟨w3.heap.size, 1, none⟩ = some (.int .u64 (wLo s)) := cell_call hb8 (by first | assumption | go_cell | simp [go_sem] | simp [go_sem, *])
  have d8_2 : w8.cell? ⟨w6.heap.size, 0, none⟩ = some (.int .i64 (wHi (-65536))) := cell_call hb8 (by first | assumption | go_cell | simp [go_sem] | simp [go_sem, *])
  have d8_3 : w8.cell? ⟨w6.heap.size, 1, none⟩ = some (.int .u64 (wLo (-65536))) := cell_call hb8 (by first | assumption | go_cell | simp [go_sem] | simp [go_sem, *])
  have d8_4 : w8.cell? ⟨w6.heap.size + 1, 0, none⟩ = some (.int .i64 (wHi 65536)) := cell_call hb8 (by first | assumption | go_cell | simp [go_sem] | simp [go_sem, *])
  have d8_5 : w8.cell? ⟨w6.heap.size + 1, 1, none⟩ = some (.int .u64 (wLo 65536)) := cell_call hb8 (by first | assumption | go_cell | simp [go_sem] | simp [go_sem, *])
  have l8_0 : w3.heap.size < w8.heap.size := World.block_lt_of_cell? w8 _ d8_0
  have l8_2 : w6.heap.size < w8.heap.size := World.block_lt_of_cell? w8 _ d8_2
  have l8_4 : w6.heap.size + 1 < w8.heap.size := World.block_lt_of_cell? w8 _ d8_4
  clear d7_0 d7_1 d7_2 d7_3 d7_4 d7_5 l7_0 l7_2 l7_4
  have hS8 := hB8.size
  clear hb8
  go_wp2_with fail
  go_ret
  exact ret_of rfl hB8

set_option maxRecDepth 100000 in
set_option maxHeartbeats 1600000 in
theorem tNear_hi (o y s k l n : Int) (b : Bool) (h1 : ¬ k < 0) (h2 : 0 < l) (K1 : Hid (∀ w, Calls Try.prog 86 #[.int .i64 o] w (Ret (W o) w))) (K2 : Hid (∀ w, Calls Try.prog 86 #[.int .i64 y] w (Ret (W y) w))) (K3 : Hid (∀ w B, w.cell? ⟨B, 0, none⟩ = some (.int .i64 (wHi o)) → w.cell? ⟨B, 1, none⟩ = some (.int .u64 (wLo o)) → w.cell? ⟨B, 2, none⟩ = some (.int .i64 (wHi y)) → w.cell? ⟨B, 3, none⟩ = some (.int .u64 (wLo y)) → Calls Try.prog 37 #[.slice (some ⟨B, 0, none⟩) 2 2] w (Ret (.tuple #[W s, .bool true]) w))) (K4 : Hid (∀ w, Calls Try.prog 86 #[.int .i64 (-65536)] w (Ret (W (-65536)) w))) (K5 : Hid (∀ w, Calls Try.prog 86 #[.int .i64 65536] w (Ret (W 65536) w))) (K6 : Hid (∀ w, Calls Try.prog 75 #[W s, W (-65536)] w (Ret (.int .i64 k) w))) (K7 : Hid (∀ w, Calls Try.prog 75 #[W s, W 65536] w (Ret (.int .i64 l) w))) (w : World) : Calls Try.prog 74 #[.int .i64 o, .int .i64 y] w (Ret (.int .i64 (65536)) w) := by
  go_enter Try.func74, Try.ntmps74
  go_wp2_with fail
  refine (K1.out _).mono ?_; rintro e w1 ⟨rfl, hb1⟩
  have hB1 : Below w.heap.size w w1 := Below.next (by go_grown) hb1
  have hS1 := hB1.size
  clear hb1
  go_wp2_with fail
  refine (K2.out _).mono ?_; rintro e w2 ⟨rfl, hb2⟩
  have hB2 : Below w.heap.size w w2 := Below.next (by go_grown) hb2
  have hS2 := hB2.size
  clear hb2
  go_wp2_with fail
  refine (K3.out _ _ (by first | go_cell | simp [go_sem]) (by first | go_cell | simp [go_sem]) (by first | go_cell | simp [go_sem]) (by first | go_cell | simp [go_sem])).mono ?_; rintro e w3 ⟨rfl, hb3⟩
  have hB3 : Below w.heap.size w w3 := Below.next (by go_grown) hb3
  have hS3 := hB3.size
  clear hb3
  go_upto_region 2 with fail
  refine code_settle (fun w4 hW4 => ?_)
  have hB4 : Below w.heap.size w w4 := by rw [hW4]; go_grown
  have d4_0 : w4.cell? ⟨w3.heap.size, 0, none⟩ = some (.int .i64 (wHi s)) := by rw [hW4]; first | go_cell | simp [go_sem, *]
  have d4_1 : w4.cell? ⟨w3.heap.size, 1, none⟩ = some (.int .u64 (wLo s)) := by rw [hW4]; first | go_cell | simp [go_sem, *]
  have l4_0 : w3.heap.size < w4.heap.size := World.block_lt_of_cell? w4 _ d4_0
  have hS4 := hB4.size
  clear hW4
  go_wp2_with fail
  refine (K4.out _).mono ?_; rintro e w5 ⟨rfl, hb5⟩
  have hB5 : Below w.heap.size w w5 := Below.next (by go_grown) hb5
  have d5_0 : w5.cell? ⟨w3.heap.size, 0, none⟩ = some (.int .i64 (wHi s)) := cell_call hb5 (by first | assumption | go_cell | simp [go_sem] | simp [go_sem, *])
  have d5_1 : w5.cell? ⟨w3.heap.size, 1, none⟩ = some (.int .u64 (wLo s)) := cell_call hb5 (by first | assumption | go_cell | simp [go_sem] | simp [go_sem, *])
  have l5_0 : w3.heap.size < w5.heap.size := World.block_lt_of_cell? w5 _ d5_0
  clear d4_0 d4_1 l4_0
  have hS5 := hB5.size
  clear hb5
  go_wp2_with fail
  refine (K5.out _).mono ?_; rintro e w6 ⟨rfl, hb6⟩
  have hB6 : Below w.heap.size w w6 := Below.next (by go_grown) hb6
  have d6_0 : w6.cell? ⟨w3.heap.size, 0, none⟩ = some (.int .i64 (wHi s)) := cell_call hb6 (by first | assumption | go_cell | simp [go_sem] | simp [go_sem, *])
  have d6_1 : w6.cell? ⟨w3.heap.size, 1, none⟩ = some (.int .u64 (wLo s)) := cell_call hb6 (by first | assumption | go_cell | simp [go_sem] | simp [go_sem, *])
  have l6_0 : w3.heap.size < w6.heap.size := World.block_lt_of_cell? w6 _ d6_0
  clear d5_0 d5_1 l5_0
  have hS6 := hB6.size
  clear hb6
  go_upto_region 3 with fail
  refine code_settle (fun w7 hW7 => ?_)
  have hB7 : Below w.heap.size w w7 := by rw [hW7]; go_grown
  have d7_0 : w7.cell? ⟨w3.heap.size, 0, none⟩ = some (.int .i64 (wHi s)) := by rw [hW7]; first | go_cell | simp [go_sem, *]
  have d7_1 : w7.cell? ⟨w3.heap.size, 1, none⟩ = some (.int .u64 (wLo s)) := by rw [hW7]; first | go_cell | simp [go_sem, *]
  have d7_2 : w7.cell? ⟨w6.heap.size, 0, none⟩ = some (.int .i64 (wHi (-65536))) := by rw [hW7]; first | go_cell | simp [go_sem, *]
  have d7_3 : w7.cell? ⟨w6.heap.size, 1, none⟩ = some (.int .u64 (wLo (-65536))) := by rw [hW7]; first | go_cell | simp [go_sem, *]
  have d7_4 : w7.cell? ⟨w6.heap.size + 1, 0, none⟩ = some (.int .i64 (wHi 65536)) := by rw [hW7]; first | go_cell | simp [go_sem, *]
  have d7_5 : w7.cell? ⟨w6.heap.size + 1, 1, none⟩ = some (.int .u64 (wLo 65536)) := by rw [hW7]; first | go_cell | simp [go_sem, *]
  have l7_0 : w3.heap.size < w7.heap.size := World.block_lt_of_cell? w7 _ d7_0
  have l7_2 : w6.heap.size < w7.heap.size := World.block_lt_of_cell? w7 _ d7_2
  have l7_4 : w6.heap.size + 1 < w7.heap.size := World.block_lt_of_cell? w7 _ d7_4
  have hS7 := hB7.size
  clear d6_0 d6_1 l6_0
  clear hW7
  go_wp2_with fail
  refine (K6.out _).mono ?_; rintro e w8 ⟨rfl, hb8⟩
  have hB8 : Below w.heap.size w w8 := Below.next (by go_grown) hb8
  have d8_0 : w8.cell? ⟨w3.heap.size, 0, none⟩ = some (.int .i64 (wHi s)) := cell_call hb8 (by first | assumption | go_cell | simp [go_sem] | simp [go_sem, *])
  have d8_1 : w8.cell? ⟨w3.heap.size, 1, none⟩ = some (.int .u64 (wLo s)) := cell_call hb8 (by first | assumption | go_cell | simp [go_sem] | simp [go_sem, *])
  have d8_2 : w8.cell? ⟨w6.heap.size, 0, none⟩ = some (.int .i64 (wHi (-65536))) := cell_call hb8 (by first | assumption | go_cell | simp [go_sem] | simp [go_sem, *])
  have d8_3 : w8.cell? ⟨w6.heap.size, 1, none⟩ = some (.int .u64 (wLo (-65536))) := cell_call hb8 (by first | assumption | go_cell | simp [go_sem] | simp [go_sem, *])
  have d8_4 : w8.cell? ⟨w6.heap.size + 1, 0, none⟩ = some (.int .i64 (wHi 65536)) := cell_call hb8 (by first | assumption | go_cell | simp [go_sem] | simp [go_sem, *])
  have d8_5 : w8.cell? ⟨w6.heap.size + 1, 1, none⟩ = some (.int .u64 (wLo 65536)) := cell_call hb8 (by first | assumption | go_cell | simp [go_sem] | simp [go_sem, *])
  have l8_0 : w3.heap.size < w8.heap.size := World.block_lt_of_cell? w8 _ d8_0
  have l8_2 : w6.heap.size < w8.heap.size := World.block_lt_of_cell? w8 _ d8_2
  have l8_4 : w6.heap.size + 1 < w8.heap.size := World.block_lt_of_cell? w8 _ d8_4
  clear d7_0 d7_1 d7_2 d7_3 d7_4 d7_5 l7_0 l7_2 l7_4
  have hS8 := hB8.size
  clear hb8
  go_wp2_with fail
  refine (K7.out _).mono ?_; rintro e w9 ⟨rfl, hb9⟩
  have hB9 : Below w.heap.size w w9 := Below.next (by go_grown) hb9
  have d9_0 : w9.cell? ⟨w3.heap.size, 0, none⟩ = some (.int .i64 (wHi s)) := cell_call hb9 (by first | assumption | go_cell | simp [go_sem] | simp [go_sem, *])
  have d9_1 : w9.cell? ⟨w3.heap.size, 1, none⟩ = some (.int .u64 (wLo s)) := cell_call hb9 (by first | assumption | go_cell | simp [go_sem] | simp [go_sem, *])
  have d9_2 : w9.cell? ⟨w6.heap.size, 0, none⟩ = some (.int .i64 (wHi (-65536))) := cell_call hb9 (by first | assumption | go_cell | simp [go_sem] | simp [go_sem, *])
  have d9_3 : w9.cell? ⟨w6.heap.size, 1, none⟩ = some (.int .u64 (wLo (-65536))) := cell_call hb9 (by first | assumption | go_cell | simp [go_sem] | simp [go_sem, *])
  have d9_4 : w9.cell? ⟨w6.heap.size + 1, 0, none⟩ = some (.int .i64 (wHi 65536)) := cell_call hb9 (by first | assumption | go_cell | simp [go_sem] | simp [go_sem, *])
  have d9_5 : w9.cell? ⟨w6.heap.size + 1, 1, none⟩ = some (.int .u64 (wLo 65536)) := cell_call hb9 (by first | assumption | go_cell | simp [go_sem] | simp [go_sem, *])
  have l9_0 : w3.heap.size < w9.heap.size := World.block_lt_of_cell? w9 _ d9_0
  have l9_2 : w6.heap.size < w9.heap.size := World.block_lt_of_cell? w9 _ d9_2
  have l9_4 : w6.heap.size + 1 < w9.heap.size := World.block_lt_of_cell? w9 _ d9_4
  clear d8_0 d8_1 d8_2 d8_3 d8_4 d8_5 l8_0 l8_2 l8_4
  have hS9 := hB9.size
  clear hb9
  go_wp2_with fail
  go_ret
  exact ret_of rfl hB9

set_option maxRecDepth 100000 in
set_option maxHeartbeats 1600000 in
theorem tNear_in (o y s k l n : Int) (b : Bool) (h1 : ¬ k < 0) (h2 : ¬ 0 < l) (K1 : Hid (∀ w, Calls Try.prog 86 #[.int .i64 o] w (Ret (W o) w))) (K2 : Hid (∀ w, Calls Try.prog 86 #[.int .i64 y] w (Ret (W y) w))) (K3 : Hid (∀ w B, w.cell? ⟨B, 0, none⟩ = some (.int .i64 (wHi o)) → w.cell? ⟨B, 1, none⟩ = some (.int .u64 (wLo o)) → w.cell? ⟨B, 2, none⟩ = some (.int .i64 (wHi y)) → w.cell? ⟨B, 3, none⟩ = some (.int .u64 (wLo y)) → Calls Try.prog 37 #[.slice (some ⟨B, 0, none⟩) 2 2] w (Ret (.tuple #[W s, .bool true]) w))) (K4 : Hid (∀ w, Calls Try.prog 86 #[.int .i64 (-65536)] w (Ret (W (-65536)) w))) (K5 : Hid (∀ w, Calls Try.prog 86 #[.int .i64 65536] w (Ret (W 65536) w))) (K6 : Hid (∀ w, Calls Try.prog 75 #[W s, W (-65536)] w (Ret (.int .i64 k) w))) (K7 : Hid (∀ w, Calls Try.prog 75 #[W s, W 65536] w (Ret (.int .i64 l) w))) (K8 : Hid (∀ w, Calls Try.prog 81 #[W s] w (Ret (.tuple #[.int .i64 n, .bool b]) w))) (w : World) : Calls Try.prog 74 #[.int .i64 o, .int .i64 y] w (Ret (.int .i64 (n)) w) := by
  go_enter Try.func74, Try.ntmps74
  go_wp2_with fail
  refine (K1.out _).mono ?_; rintro e w1 ⟨rfl, hb1⟩
  have hB1 : Below w.heap.size w w1 := Below.next (by go_grown) hb1
  have hS1 := hB1.size
  clear hb1
  go_wp2_with fail
  refine (K2.out _).mono ?_; rintro e w2 ⟨rfl, hb2⟩
  have hB2 : Below w.heap.size w w2 := Below.next (by go_grown) hb2
  have hS2 := hB2.size
  clear hb2
  go_wp2_with fail
  refine (K3.out _ _ (by first | go_cell | simp [go_sem]) (by first | go_cell | simp [go_sem]) (by first | go_cell | simp [go_sem]) (by first | go_cell | simp [go_sem])).mono ?_; rintro e w3 ⟨rfl, hb3⟩
  have hB3 : Below w.heap.size w w3 := Below.next (by go_grown) hb3
  have hS3 := hB3.size
  clear hb3
  go_upto_region 2 with fail
  refine code_settle (fun w4 hW4 => ?_)
  have hB4 : Below w.heap.size w w4 := by rw [hW4]; go_grown
  have d4_0 : w4.cell? ⟨w3.heap.size, 0, none⟩ = some (.int .i64 (wHi s)) := by rw [hW4]; first | go_cell | simp [go_sem, *]
  have d4_1 : w4.cell? ⟨w3.heap.size, 1, none⟩ = some (.int .u64 (wLo s)) := by rw [hW4]; first | go_cell | simp [go_sem, *]
  have l4_0 : w3.heap.size < w4.heap.size := World.block_lt_of_cell? w4 _ d4_0
  have hS4 := hB4.size
  clear hW4
  go_wp2_with fail
  refine (K4.out _).mono ?_; rintro e w5 ⟨rfl, hb5⟩
  have hB5 : Below w.heap.size w w5 := Below.next (by go_grown) hb5
  have d5_0 : w5.cell? ⟨w3.heap.size, 0, none⟩ = some (.int .i64 (wHi s)) := cell_call hb5 (by first | assumption | go_cell | simp [go_sem] | simp [go_sem, *])
  have d5_1 : w5.cell? ⟨w3.heap.size, 1, none⟩ = some (.int .u64 (wLo s)) := cell_call hb5 (by first | assumption | go_cell | simp [go_sem] | simp [go_sem, *])
  have l5_0 : w3.heap.size < w5.heap.size := World.block_lt_of_cell? w5 _ d5_0
  clear d4_0 d4_1 l4_0
  have hS5 := hB5.size
  clear hb5
  go_wp2_with fail
  refine (K5.out _).mono ?_; rintro e w6 ⟨rfl, hb6⟩
  have hB6 : Below w.heap.size w w6 := Below.next (by go_grown) hb6
  have d6_0 : w6.cell? ⟨w3.heap.size, 0, none⟩ = some (.int .i64 (wHi s)) := cell_call hb6 (by first | assumption | go_cell | simp [go_sem] | simp [go_sem, *])
  have d6_1 : w6.cell? ⟨w3.heap.size, 1, none⟩ = some (.int .u64 (wLo s)) := cell_call hb6 (by first | assumption | go_cell | simp [go_sem] | simp [go_sem, *])
  have l6_0 : w3.heap.size < w6.heap.size := World.block_lt_of_cell? w6 _ d6_0
  clear d5_0 d5_1 l5_0
  have hS6 := hB6.size
  clear hb6
  go_upto_region 3 with fail
  refine code_settle (fun w7 hW7 => ?_)
  have hB7 : Below w.heap.size w w7 := by rw [hW7]; go_grown
  have d7_0 : w7.cell? ⟨w3.heap.size, 0, none⟩ = some (.int .i64 (wHi s)) := by rw [hW7]; first | go_cell | simp [go_sem, *]
  have d7_1 : w7.cell? ⟨w3.heap.size, 1, none⟩ = some (.int .u64 (wLo s)) := by rw [hW7]; first | go_cell | simp [go_sem, *]
  have d7_2 : w7.cell? ⟨w6.heap.size, 0, none⟩ = some (.int .i64 (wHi (-65536))) := by rw [hW7]; first | go_cell | simp [go_sem, *]
  have d7_3 : w7.cell? ⟨w6.heap.size, 1, none⟩ = some (.int .u64 (wLo (-65536))) := by rw [hW7]; first | go_cell | simp [go_sem, *]
  have d7_4 : w7.cell? ⟨w6.heap.size + 1, 0, none⟩ = some (.int .i64 (wHi 65536)) := by rw [hW7]; first | go_cell | simp [go_sem, *]
  have d7_5 : w7.cell? ⟨w6.heap.size + 1, 1, none⟩ = some (.int .u64 (wLo 65536)) := by rw [hW7]; first | go_cell | simp [go_sem, *]
  have l7_0 : w3.heap.size < w7.heap.size := World.block_lt_of_cell? w7 _ d7_0
  have l7_2 : w6.heap.size < w7.heap.size := World.block_lt_of_cell? w7 _ d7_2
  have l7_4 : w6.heap.size + 1 < w7.heap.size := World.block_lt_of_cell? w7 _ d7_4
  have hS7 := hB7.size
  clear d6_0 d6_1 l6_0
  clear hW7
  go_wp2_with fail
  refine (K6.out _).mono ?_; rintro e w8 ⟨rfl, hb8⟩
  have hB8 : Below w.heap.size w w8 := Below.next (by go_grown) hb8
  have d8_0 : w8.cell? ⟨w3.heap.size, 0, none⟩ = some (.int .i64 (wHi s)) := cell_call hb8 (by first | assumption | go_cell | simp [go_sem] | simp [go_sem, *])
  have d8_1 : w8.cell? ⟨w3.heap.size, 1, none⟩ = some (.int .u64 (wLo s)) := cell_call hb8 (by first | assumption | go_cell | simp [go_sem] | simp [go_sem, *])
  have d8_2 : w8.cell? ⟨w6.heap.size, 0, none⟩ = some (.int .i64 (wHi (-65536))) := cell_call hb8 (by first | assumption | go_cell | simp [go_sem] | simp [go_sem, *])
  have d8_3 : w8.cell? ⟨w6.heap.size, 1, none⟩ = some (.int .u64 (wLo (-65536))) := cell_call hb8 (by first | assumption | go_cell | simp [go_sem] | simp [go_sem, *])
  have d8_4 : w8.cell? ⟨w6.heap.size + 1, 0, none⟩ = some (.int .i64 (wHi 65536)) := cell_call hb8 (by first | assumption | go_cell | simp [go_sem] | simp [go_sem, *])
  have d8_5 : w8.cell? ⟨w6.heap.size + 1, 1, none⟩ = some (.int .u64 (wLo 65536)) := cell_call hb8 (by first | assumption | go_cell | simp [go_sem] | simp [go_sem, *])
  have l8_0 : w3.heap.size < w8.heap.size := World.block_lt_of_cell? w8 _ d8_0
  have l8_2 : w6.heap.size < w8.heap.size := World.block_lt_of_cell? w8 _ d8_2
  have l8_4 : w6.heap.size + 1 < w8.heap.size := World.block_lt_of_cell? w8 _ d8_4
  clear d7_0 d7_1 d7_2 d7_3 d7_4 d7_5 l7_0 l7_2 l7_4
  have hS8 := hB8.size
  clear hb8
  go_wp2_with fail
  refine (K7.out _).mono ?_; rintro e w9 ⟨rfl, hb9⟩
  have hB9 : Below w.heap.size w w9 := Below.next (by go_grown) hb9
  have d9_0 : w9.cell? ⟨w3.heap.size, 0, none⟩ = some (.int .i64 (wHi s)) := cell_call hb9 (by first | assumption | go_cell | simp [go_sem] | simp [go_sem, *])
  have d9_1 : w9.cell? ⟨w3.heap.size, 1, none⟩ = some (.int .u64 (wLo s)) := cell_call hb9 (by first | assumption | go_cell | simp [go_sem] | simp [go_sem, *])
  have d9_2 : w9.cell? ⟨w6.heap.size, 0, none⟩ = some (.int .i64 (wHi (-65536))) := cell_call hb9 (by first | assumption | go_cell | simp [go_sem] | simp [go_sem, *])
  have d9_3 : w9.cell? ⟨w6.heap.size, 1, none⟩ = some (.int .u64 (wLo (-65536))) := cell_call hb9 (by first | assumption | go_cell | simp [go_sem] | simp [go_sem, *])
  have d9_4 : w9.cell? ⟨w6.heap.size + 1, 0, none⟩ = some (.int .i64 (wHi 65536)) := cell_call hb9 (by first | assumption | go_cell | simp [go_sem] | simp [go_sem, *])
  have d9_5 : w9.cell? ⟨w6.heap.size + 1, 1, none⟩ = some (.int .u64 (wLo 65536)) := cell_call hb9 (by first | assumption | go_cell | simp [go_sem] | simp [go_sem, *])
  have l9_0 : w3.heap.size < w9.heap.size := World.block_lt_of_cell? w9 _ d9_0
  have l9_2 : w6.heap.size < w9.heap.size := World.block_lt_of_cell? w9 _ d9_2
  have l9_4 : w6.heap.size + 1 < w9.heap.size := World.block_lt_of_cell? w9 _ d9_4
  clear d8_0 d8_1 d8_2 d8_3 d8_4 d8_5 l8_0 l8_2 l8_4
  have hS9 := hB9.size
  clear hb9
  go_wp2_with fail
  refine (K8.out _).mono ?_; rintro e w10 ⟨rfl, hb10⟩
  have hB10 : Below w.heap.size w w10 := Below.next (by go_grown) hb10
  have d10_0 : w10.cell? ⟨w3.heap.size, 0, none⟩ = some (.int .i64 (wHi s)) := cell_call hb10 (by first | assumption | go_cell | simp [go_sem] | simp [go_sem, *])
  have d10_1 : w10.cell? ⟨w3.heap.size, 1, none⟩ = some (.int .u64 (wLo s)) := cell_call hb10 (by first | assumption | go_cell | simp [go_sem] | simp [go_sem, *])
  have d10_2 : w10.cell? ⟨w6.heap.size, 0, none⟩ = some (.int .i64 (wHi (-65536))) := cell_call hb10 (by first | assumption | go_cell | simp [go_sem] | simp [go_sem, *])
  have d10_3 : w10.cell? ⟨w6.heap.size, 1, none⟩ = some (.int .u64 (wLo (-65536))) := cell_call hb10 (by first | assumption | go_cell | simp [go_sem] | simp [go_sem, *])
  have d10_4 : w10.cell? ⟨w6.heap.size + 1, 0, none⟩ = some (.int .i64 (wHi 65536)) := cell_call hb10 (by first | assumption | go_cell | simp [go_sem] | simp [go_sem, *])
  have d10_5 : w10.cell? ⟨w6.heap.size + 1, 1, none⟩ = some (.int .u64 (wLo 65536)) := cell_call hb10 (by first | assumption | go_cell | simp [go_sem] | simp [go_sem, *])
  have l10_0 : w3.heap.size < w10.heap.size := World.block_lt_of_cell? w10 _ d10_0
  have l10_2 : w6.heap.size < w10.heap.size := World.block_lt_of_cell? w10 _ d10_2
  have l10_4 : w6.heap.size + 1 < w10.heap.size := World.block_lt_of_cell? w10 _ d10_4
  clear d9_0 d9_1 d9_2 d9_3 d9_4 d9_5 l9_0 l9_2 l9_4
  have hS10 := hB10.size
  clear hb10
  go_wp2_with fail
  go_ret
  exact ret_of rfl hB10

theorem tNear (o y : Int) (ho : InI o) (hy : InI y) (w : World) : Calls Try.prog 74 #[.int .i64 o, .int .i64 y] w (Ret (.int .i64 (clampG (o + y))) w) := by
  have W0 : InW (o + y) := by unfold InI at ho hy; unfold InW; omega
  have kA := Lib.hid (fun (w : World) B c0 c1 c2 c3 => by
    have := wAdd2c o y (InW_of_I ho) (InW_of_I hy) B 2 w c0 c1 c2 c3
    rwa [sumV_some (s := o + y) (by rw [addL_one (by rw [Int.zero_add]; exact InW_of_I ho), addL_one (by rw [Int.zero_add]; exact W0), Int.zero_add]; rfl)] at this)
  have k1 := Lib.hid (wOf o ho)
  have k2 := Lib.hid (wOf y hy)
  have k4 := Lib.hid (wOf (-65536) (by unfold InI; omega))
  have k5 := Lib.hid (wOf 65536 (by unfold InI; omega))
  have k6 := Lib.hid (wCmp (o + y) (-65536) W0 (by unfold InW; omega))
  have k7 := Lib.hid (wCmp (o + y) 65536 W0 (by unfold InW; omega))
  have k8 := Lib.hid (wInt (o + y) W0)
  unfold clampG
  split
  · rename_i h
    exact tNear_lo o y _ _ 0 0 false (by rw [cmpW_lt h]; decide) k1 k2 kA k4 k5 k6 w
  · rename_i h
    have n6 : ¬ cmpW (o + y) (-65536) < 0 := by
      rcases Int.lt_or_le (-65536) (o + y) with g | g
      · rw [cmpW_gt g]; decide
      · rw [cmpW_eq (by omega)]; decide
    split
    · rename_i h2
      exact tNear_hi o y _ _ _ 0 false n6 (by rw [cmpW_gt h2]; decide) k1 k2 kA k4 k5 k6 k7 w
    · rename_i h2
      have e : intN (o + y) = o + y := by unfold intN fits; rw [decide_eq_true (by omega)]; rfl
      rw [e] at k8
      refine tNear_in o y _ _ _ _ _ n6 ?_ k1 k2 kA k4 k5 k6 k7 k8 w
      rcases Int.lt_or_le (o + y) 65536 with g | g
      · rw [cmpW_lt g]; decide
      · rw [cmpW_eq (by omega)]; decide

set_option maxRecDepth 100000 in
set_option maxHeartbeats 1600000 in
theorem tPart_a (o d y r : Int) (m : M4) (B : Nat) (h1 : m.2.1 < 1) (K1 : Hid (∀ w, Calls Try.prog 74 #[.int .i64 o, .int .i64 0] w (Ret (.int .i64 r) w))) (w : World) (c0 : w.cell? ⟨B, 0, none⟩ = some (.int .i64 m.1)) (c1 : w.cell? ⟨B, 1, none⟩ = some (.int .i64 m.2.1)) : Calls Try.prog 73 #[.int .i64 o, .int .i64 d, .pointer (some ⟨B, 0, none⟩)] w (Ret (.int .i64 r) w) := by
  go_enter Try.func73, Try.ntmps73
  go_wp2_with fail
  refine (K1.out _).mono ?_; rintro e w1 ⟨rfl, hb1⟩
  have hB1 : Below w.heap.size w w1 := Below.next (by go_grown) hb1
  have hS1 := hB1.size
  clear hb1
  go_wp2_with fail
  go_ret
  exact ret_of rfl hB1

set_option maxRecDepth 100000 in
set_option maxHeartbeats 1600000 in
theorem tPart_b (o d y r : Int) (m : M4) (B : Nat) (h1 : ¬ m.2.1 < 1) (K1 : Hid (∀ w, Calls Try.prog 61 #[.int .i64 d, .int .i64 m.1, .int .i64 m.2.1] w (Ret (.int .i64 y) w))) (K2 : Hid (∀ w, Calls Try.prog 74 #[.int .i64 o, .int .i64 y] w (Ret (.int .i64 r) w))) (w : World) (c0 : w.cell? ⟨B, 0, none⟩ = some (.int .i64 m.1)) (c1 : w.cell? ⟨B, 1, none⟩ = some (.int .i64 m.2.1)) : Calls Try.prog 73 #[.int .i64 o, .int .i64 d, .pointer (some ⟨B, 0, none⟩)] w (Ret (.int .i64 r) w) := by
  go_enter Try.func73, Try.ntmps73
  go_wp2_with fail
  refine (K1.out _).mono ?_; rintro e w1 ⟨rfl, hb1⟩
  have hB1 : Below w.heap.size w w1 := Below.next (by go_grown) hb1
  have hS1 := hB1.size
  clear hb1
  go_wp2_with fail
  refine (K2.out _).mono ?_; rintro e w2 ⟨rfl, hb2⟩
  have hB2 : Below w.heap.size w w2 := Below.next (by go_grown) hb2
  have hS2 := hB2.size
  clear hb2
  go_wp2_with fail
  go_ret
  exact ret_of rfl hB2

theorem tPart (o d : Int) (m : M4) (ho : InI o) (hd : InI d) (hm : InM m) (B : Nat) (w : World) (c0 : w.cell? ⟨B, 0, none⟩ = some (.int .i64 m.1)) (c1 : w.cell? ⟨B, 1, none⟩ = some (.int .i64 m.2.1)) : Calls Try.prog 73 #[.int .i64 o, .int .i64 d, .pointer (some ⟨B, 0, none⟩)] w (Ret (.int .i64 (partV o d m)) w) := by
  unfold partV
  by_cases h1 : m.2.1 < 1
  · rw [if_pos h1]
    exact tPart_a o d 0 _ m B h1 (Lib.hid (tNear o 0 ho (by unfold InI; omega))) w c0 c1
  · rw [if_neg h1]
    have hy : InI (mdN d m.1 m.2.1) := by
      unfold mdN
      split
      · unfold InI; omega
      · exact clampI_I _
    exact tPart_b o d _ _ m B h1 (Lib.hid (wMulDiv d m.1 m.2.1 hd hm.1 hm.2.1)) (Lib.hid (tNear o _ ho hy)) w c0 c1

set_option maxRecDepth 100000 in
set_option maxHeartbeats 1600000 in
theorem tPlace_w (o d : T3) (m : M4) (x y z : Int) (K1 : Hid (∀ w B, w.cell? ⟨B, 0, none⟩ = some (.int .i64 m.1) → w.cell? ⟨B, 1, none⟩ = some (.int .i64 m.2.1) → Calls Try.prog 73 #[.int .i64 o.1, .int .i64 d.1, .pointer (some ⟨B, 0, none⟩)] w (Ret (.int .i64 x) w))) (K2 : Hid (∀ w B, w.cell? ⟨B, 0, none⟩ = some (.int .i64 m.1) → w.cell? ⟨B, 1, none⟩ = some (.int .i64 m.2.1) → Calls Try.prog 73 #[.int .i64 o.2.1, .int .i64 d.2.1, .pointer (some ⟨B, 0, none⟩)] w (Ret (.int .i64 y) w))) (K3 : Hid (∀ w B, w.cell? ⟨B, 0, none⟩ = some (.int .i64 m.1) → w.cell? ⟨B, 1, none⟩ = some (.int .i64 m.2.1) → Calls Try.prog 73 #[.int .i64 o.2.2, .int .i64 d.2.2, .pointer (some ⟨B, 0, none⟩)] w (Ret (.int .i64 z) w))) (w : World) : Calls Try.prog 44 #[V3 o.1 o.2.1 o.2.2, V3 d.1 d.2.1 d.2.2, .agg #[.int .i64 m.1, .int .i64 m.2.1, .int .i64 m.2.2.1, .int .i64 m.2.2.2]] w (Ret (V3 x y z) w) := by
  go_enter Try.func44, Try.ntmps44
  go_wp2_with fail
  refine wp_region_fresh_gen 19 (by kernel_rfl) (by kernel_rfl) (fun W1 HW1 => ?_)
  intro F1_0 U1_0
  have hA1 : Below w.heap.size w W1 := by rw [HW1]; go_grown
  have c1_0 : W1.cell? ⟨w.heap.size, 0, none⟩ = some (.int .i64 o.1) := by rw [HW1]; first | assumption | go_cell | simp [go_sem, *]
  have c1_1 : W1.cell? ⟨w.heap.size, 1, none⟩ = some (.int .i64 o.2.1) := by rw [HW1]; first | assumption | go_cell | simp [go_sem, *]
  have c1_2 : W1.cell? ⟨w.heap.size, 2, none⟩ = some (.int .i64 o.2.2) := by rw [HW1]; first | assumption | go_cell | simp [go_sem, *]
  have c1_3 : W1.cell? ⟨w.heap.size + 1, 0, none⟩ = some (.int .i64 d.1) := by rw [HW1]; first | assumption | go_cell | simp [go_sem, *]
  have c1_4 : W1.cell? ⟨w.heap.size + 1, 1, none⟩ = some (.int .i64 d.2.1) := by rw [HW1]; first | assumption | go_cell | simp [go_sem, *]
  have c1_5 : W1.cell? ⟨w.heap.size + 1, 2, none⟩ = some (.int .i64 d.2.2) := by rw [HW1]; first | assumption | go_cell | simp [go_sem, *]
  have c1_6 : W1.cell? ⟨w.heap.size + 1 + 1, 0, none⟩ = some (.int .i64 m.1) := by rw [HW1]; first | assumption | go_cell | simp [go_sem, *]
  have c1_7 : W1.cell? ⟨w.heap.size + 1 + 1, 1, none⟩ = some (.int .i64 m.2.1) := by rw [HW1]; first | assumption | go_cell | simp [go_sem, *]
  have c1_8 : W1.cell? ⟨w.heap.size + 1 + 1, 2, none⟩ = some (.int .i64 m.2.2.1) := by rw [HW1]; first | assumption | go_cell | simp [go_sem, *]
  have c1_9 : W1.cell? ⟨w.heap.size + 1 + 1, 3, none⟩ = some (.int .i64 m.2.2.2) := by rw [HW1]; first | assumption | go_cell | simp [go_sem, *]
  have c1_10 : W1.cell? ⟨w.heap.size + 1 + 1 + 1, 0, none⟩ = some (.int .i64 0) := by rw [HW1]; first | assumption | go_cell | simp [go_sem, *]
  have u1_10 : W1.frozen? ⟨w.heap.size + 1 + 1 + 1, 0, none⟩ = false := by rw [HW1]; first | assumption | simp [go_sem, *]
  have c1_11 : W1.cell? ⟨w.heap.size + 1 + 1 + 1, 1, none⟩ = some (.int .i64 0) := by rw [HW1]; first | assumption | go_cell | simp [go_sem, *]
  have u1_11 : W1.frozen? ⟨w.heap.size + 1 + 1 + 1, 1, none⟩ = false := by rw [HW1]; first | assumption | simp [go_sem, *]
  have c1_12 : W1.cell? ⟨w.heap.size + 1 + 1 + 1, 2, none⟩ = some (.int .i64 0) := by rw [HW1]; first | assumption | go_cell | simp [go_sem, *]
  have u1_12 : W1.frozen? ⟨w.heap.size + 1 + 1 + 1, 2, none⟩ = false := by rw [HW1]; first | assumption | simp [go_sem, *]
  clear HW1
  have r1_0 := reg_cell c1_0
  have r1_1 := reg_cell c1_1
  have r1_2 := reg_cell c1_2
  have r1_3 := reg_cell c1_3
  have r1_4 := reg_cell c1_4
  have r1_5 := reg_cell c1_5
  have r1_6 := reg_cell c1_6
  have r1_7 := reg_cell c1_7
  have r1_8 := reg_cell c1_8
  have r1_9 := reg_cell c1_9
  have r1_10 := reg_cell c1_10
  have r1_11 := reg_cell c1_11
  have r1_12 := reg_cell c1_12
  simp only [List.take_succ_cons, List.take_zero, List.drop_succ_cons, List.drop_zero]
  iterate 5 (refine WL_plain (fun K hK => ?_); go_simp; refine hK _ ?_; clear hK K)
  refine WL_call (by kernel_rfl) (fun K hK => ?_)
  go_simp
  apply Exists.intro
  refine ⟨fun w1 hb1 hf1 => ?_, hK _ ?_⟩
  · exact K1.out _ _ (by first | assumption | exact cell_call hb1 (by assumption) | go_cell) (by first | assumption | exact cell_call hb1 (by assumption) | go_cell)
  clear hK K
  iterate 5 (refine WL_plain (fun K hK => ?_); go_simp; refine hK _ ?_; clear hK K)
  refine WL_call (by kernel_rfl) (fun K hK => ?_)
  go_simp
  apply Exists.intro
  refine ⟨fun w1 hb1 hf1 => ?_, hK _ ?_⟩
  · exact K2.out _ _ (by first | assumption | exact cell_call hb1 (by assumption) | go_cell) (by first | assumption | exact cell_call hb1 (by assumption) | go_cell)
  clear hK K
  iterate 5 (refine WL_plain (fun K hK => ?_); go_simp; refine hK _ ?_; clear hK K)
  refine WL_call (by kernel_rfl) (fun K hK => ?_)
  go_simp
  apply Exists.intro
  refine ⟨fun w1 hb1 hf1 => ?_, hK _ ?_⟩
  · exact K3.out _ _ (by first | assumption | exact cell_call hb1 (by assumption) | go_cell) (by first | assumption | exact cell_call hb1 (by assumption) | go_cell)
  clear hK K
  refine WL_plain (fun K hK => ?_); go_simp; refine hK _ ?_; clear hK K
  refine WL_nil (fun w1 hb1 hf1 => ?_)
  have hB1 : Below w.heap.size w w1 := Below.next hA1 hb1
  have d1_0 := cell_call hb1 c1_0
  have d1_1 := cell_call hb1 c1_1
  have d1_2 := cell_call hb1 c1_2
  have d1_3 := cell_call hb1 c1_3
  have d1_4 := cell_call hb1 c1_4
  have d1_5 := cell_call hb1 c1_5
  have d1_6 := cell_call hb1 c1_6
  have d1_7 := cell_call hb1 c1_7
  have d1_8 := cell_call hb1 c1_8
  have d1_9 := cell_call hb1 c1_9
  have d1_10 := cell_call hb1 c1_10
  have t1_10 := (hb1.frozen (p := ⟨w.heap.size + 1 + 1 + 1, 0, none⟩) (World.block_lt_of_cell? _ _ c1_10)).trans u1_10
  have d1_11 := cell_call hb1 c1_11
  have t1_11 := (hb1.frozen (p := ⟨w.heap.size + 1 + 1 + 1, 1, none⟩) (World.block_lt_of_cell? _ _ c1_11)).trans u1_11
  have d1_12 := cell_call hb1 c1_12
  have t1_12 := (hb1.frozen (p := ⟨w.heap.size + 1 + 1 + 1, 2, none⟩) (World.block_lt_of_cell? _ _ c1_12)).trans u1_12
  clear r1_0 c1_0 r1_1 c1_1 r1_2 c1_2 r1_3 c1_3 r1_4 c1_4 r1_5 c1_5 r1_6 c1_6 r1_7 c1_7 r1_8 c1_8 r1_9 c1_9 r1_10 c1_10 u1_10 r1_11 c1_11 u1_11 r1_12 c1_12 u1_12
  have l1_0 : w.heap.size < w1.heap.size := World.block_lt_of_cell? w1 _ d1_0
  have l1_3 : w.heap.size + 1 < w1.heap.size := World.block_lt_of_cell? w1 _ d1_3
  have l1_6 : w.heap.size + 1 + 1 < w1.heap.size := World.block_lt_of_cell? w1 _ d1_6
  have l1_10 : w.heap.size + 1 + 1 + 1 < w1.heap.size := World.block_lt_of_cell? w1 _ d1_10
  have hS1 := hB1.size
  go_wp2_with fail
  exact bodyPost_ret (v := V3 x y z) (by simp (maxDischargeDepth := 9) [results, Try.results44, go_sem, d1_0, l1_0, Nat.ne_of_lt l1_0, Nat.ne_of_gt l1_0, d1_1, d1_2, d1_3, l1_3, Nat.ne_of_lt l1_3, Nat.ne_of_gt l1_3, d1_4, d1_5, d1_6, l1_6, Nat.ne_of_lt l1_6, Nat.ne_of_gt l1_6, d1_7, d1_8, d1_9, d1_10, l1_10, Nat.ne_of_lt l1_10, Nat.ne_of_gt l1_10, d1_11, d1_12]) rfl ⟨rfl, by go_grown⟩

def placeV (o d : T3) (m : M4) : T3 := (partV o.1 d.1 m, partV o.2.1 d.2.1 m, partV o.2.2 d.2.2 m)
theorem tPlace (o d : T3) (m : M4) (ho : InV o) (hd : InV d) (hm : InM m) (w : World) : Calls Try.prog 44 #[V3 o.1 o.2.1 o.2.2, V3 d.1 d.2.1 d.2.2, VM m] w (Ret (V3 (placeV o d m).1 (placeV o d m).2.1 (placeV o d m).2.2) w) :=
  tPlace_w o d m _ _ _ (Lib.hid fun w B c0 c1 => tPart _ _ m ho.1 hd.1 hm B w c0 c1) (Lib.hid fun w B c0 c1 => tPart _ _ m ho.2.1 hd.2.1 hm B w c0 c1) (Lib.hid fun w B c0 c1 => tPart _ _ m ho.2.2 hd.2.2 hm B w c0 c1) w

end Go.Proofs.Ytbfgmedjogjkeaa
