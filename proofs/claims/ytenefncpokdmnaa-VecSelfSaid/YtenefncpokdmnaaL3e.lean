/- Walk: the law VecSelf. -/
import Derived.Test.YtenefncpokdmnaaLaw3
import Derived.Test.YtenefncpokdmnaaVecH
import Derived.Test.YtenefncpokdmnaaFrameV
namespace Go.Proofs.Ytenefncpokdmnaa
open Go.RowKit Go.Sort
set_option linter.unusedVariables false
set_option linter.unusedSimpArgs false

theorem satSub_self (a : Int) : satSub a a = 0 := by unfold satSub; rw [Int.sub_self]; rfl
theorem vcross_self (a : T3) : vcross a a = zero3 := by
  unfold vcross
  rw [fmul_comm a.2.2 a.2.1, fmul_comm a.2.2 a.1, fmul_comm a.2.1 a.1, satSub_self, satSub_self, satSub_self]
  rfl
theorem fmul_bd {x y : Int} (hx : -70368744177664 < x ∧ x < 70368744177664) (hy : -70368744177664 < y ∧ y < 70368744177664) : -1152921504606846977 ≤ fmul x y ∧ fmul x y ≤ 1152921504606846977 := by
  have h1 : -4951760157141521099596496896 ≤ x * y ∧ x * y ≤ 4951760157141521099596496896 := by
    constructor
    · rcases Int.le_total 0 x with g | g
      · have := Int.mul_le_mul_of_nonneg_left (show -70368744177664 ≤ y by omega) g; omega
      · have := Int.mul_le_mul_of_nonpos_left g (show y ≤ 70368744177664 by omega); omega
    · rcases Int.le_total 0 x with g | g
      · have := Int.mul_le_mul_of_nonneg_left (show y ≤ 70368744177664 by omega) g; omega
      · have := Int.mul_le_mul_of_nonpos_left g (show -70368744177664 ≤ y by omega); omega
  unfold fmul clampI
  generalize x * y = p at h1
  split <;> (try split) <;> omega
theorem fabs_lt {x : Int} (h : InI x) (hm : fabs x < 70368744177664) : -70368744177664 < x ∧ x < 70368744177664 := by
  rw [fabs_val h] at hm
  split at hm <;> (try split at hm) <;> omega
theorem vmost_lt {a : T3} (ha : InV a) (h : vmost a < 70368744177664) : (-70368744177664 < a.1 ∧ a.1 < 70368744177664) ∧ (-70368744177664 < a.2.1 ∧ a.2.1 < 70368744177664) ∧ (-70368744177664 < a.2.2 ∧ a.2.2 < 70368744177664) := by
  unfold vmost at h
  exact ⟨fabs_lt ha.1 (by omega), fabs_lt ha.2.1 (by omega), fabs_lt ha.2.2 (by omega)⟩
theorem add_sub_neg {p q : Int} (hp : -1152921504606846977 ≤ p ∧ p ≤ 1152921504606846977) (hq : -1152921504606846977 ≤ q ∧ q ≤ 1152921504606846977) : satAdd (satSub p q) (satSub q p) = 0 := by
  unfold satAdd satSub
  rw [clampI_in (show InI (p - q) by unfold InI; omega), clampI_in (show InI (q - p) by unfold InI; omega), show p - q + (q - p) = 0 by omega]
  rfl
theorem vcross_turn {a b : T3} (ha : InV a) (hb : InV b) (h1 : vmost a < 70368744177664) (h2 : vmost b < 70368744177664) : vadd (vcross a b) (vcross b a) = zero3 := by
  obtain ⟨a0, a1, a2⟩ := vmost_lt ha h1
  obtain ⟨b0, b1, b2⟩ := vmost_lt hb h2
  unfold vcross vadd
  simp only
  rw [fmul_comm b.2.1 a.2.2, fmul_comm b.2.2 a.2.1, fmul_comm b.2.2 a.1, fmul_comm b.1 a.2.2, fmul_comm b.1 a.2.1, fmul_comm b.2.1 a.1]
  rw [add_sub_neg (fmul_bd a1 b2) (fmul_bd a2 b1), add_sub_neg (fmul_bd a2 b0) (fmul_bd a0 b2), add_sub_neg (fmul_bd a0 b1) (fmul_bd a1 b0)]
  rfl

set_option maxRecDepth 100000 in
set_option maxHeartbeats 1600000 in
theorem walkVecSelf_1 (a b : T3) (m : Int) (K1 : Hid (∀ w, Calls Try.prog 66 #[V3 a.1 a.2.1 a.2.2, V3 a.1 a.2.1 a.2.2] w (Ret (V3 0 0 0) w))) (K2 : Hid (∀ w, Calls Try.prog 38 #[V3 a.1 a.2.1 a.2.2] w (Ret (.int .i64 m) w)))
    (hm : 70368744177664 ≤ m) (w : World) :
    Calls Try.prog 16 #[V3 a.1 a.2.1 a.2.2, V3 b.1 b.2.1 b.2.2] w (Ret (.bool true) w) := by
  go_enter Try.func16, Try.ntmps16
  go_wp2_with fail
  refine (K1.out _).mono ?_; rintro e w1 ⟨rfl, hb1⟩
  have hB1 : Below w.heap.size w w1 := Below.next (by go_grown) hb1
  have d1_0 : w1.cell? ⟨w.heap.size, 0, none⟩ = some (.int .i64 a.1) := cell_call hb1 (by first | assumption | go_cell | simp [go_sem])
  have d1_1 : w1.cell? ⟨w.heap.size, 1, none⟩ = some (.int .i64 a.2.1) := cell_call hb1 (by first | assumption | go_cell | simp [go_sem])
  have d1_2 : w1.cell? ⟨w.heap.size, 2, none⟩ = some (.int .i64 a.2.2) := cell_call hb1 (by first | assumption | go_cell | simp [go_sem])
  have d1_3 : w1.cell? ⟨w.heap.size + 1, 0, none⟩ = some (.int .i64 b.1) := cell_call hb1 (by first | assumption | go_cell | simp [go_sem])
  have d1_4 : w1.cell? ⟨w.heap.size + 1, 1, none⟩ = some (.int .i64 b.2.1) := cell_call hb1 (by first | assumption | go_cell | simp [go_sem])
  have d1_5 : w1.cell? ⟨w.heap.size + 1, 2, none⟩ = some (.int .i64 b.2.2) := cell_call hb1 (by first | assumption | go_cell | simp [go_sem])
  have l1_0 := World.block_lt_of_cell? w1 _ d1_0
  have l1_3 := World.block_lt_of_cell? w1 _ d1_3
  have hS1 := hB1.size
  clear hb1
  go_wp2_with fail
  refine (K2.out _).mono ?_; rintro e w2 ⟨rfl, hb2⟩
  have hB2 : Below w.heap.size w w2 := Below.next (by go_grown) hb2
  have d2_0 : w2.cell? ⟨w.heap.size, 0, none⟩ = some (.int .i64 a.1) := cell_call hb2 (by first | assumption | go_cell | simp [go_sem])
  have d2_1 : w2.cell? ⟨w.heap.size, 1, none⟩ = some (.int .i64 a.2.1) := cell_call hb2 (by first | assumption | go_cell | simp [go_sem])
  have d2_2 : w2.cell? ⟨w.heap.size, 2, none⟩ = some (.int .i64 a.2.2) := cell_call hb2 (by first | assumption | go_cell | simp [go_sem])
  have d2_3 : w2.cell? ⟨w.heap.size + 1, 0, none⟩ = some (.int .i64 b.1) := cell_call hb2 (by first | assumption | go_cell | simp [go_sem])
  have d2_4 : w2.cell? ⟨w.heap.size + 1, 1, none⟩ = some (.int .i64 b.2.1) := cell_call hb2 (by first | assumption | go_cell | simp [go_sem])
  have d2_5 : w2.cell? ⟨w.heap.size + 1, 2, none⟩ = some (.int .i64 b.2.2) := cell_call hb2 (by first | assumption | go_cell | simp [go_sem])
  have l2_0 := World.block_lt_of_cell? w2 _ d2_0
  have l2_3 := World.block_lt_of_cell? w2 _ d2_3
  have hS2 := hB2.size
  clear hb2
  go_wp2_with fail
  refine (works3 _).mono ?_; rintro e w3 ⟨rfl, hb3⟩
  have hB3 : Below w.heap.size w w3 := Below.next (by go_grown) hb3
  have d3_0 : w3.cell? ⟨w.heap.size, 0, none⟩ = some (.int .i64 a.1) := cell_call hb3 (by first | assumption | go_cell | simp [go_sem])
  have d3_1 : w3.cell? ⟨w.heap.size, 1, none⟩ = some (.int .i64 a.2.1) := cell_call hb3 (by first | assumption | go_cell | simp [go_sem])
  have d3_2 : w3.cell? ⟨w.heap.size, 2, none⟩ = some (.int .i64 a.2.2) := cell_call hb3 (by first | assumption | go_cell | simp [go_sem])
  have d3_3 : w3.cell? ⟨w.heap.size + 1, 0, none⟩ = some (.int .i64 b.1) := cell_call hb3 (by first | assumption | go_cell | simp [go_sem])
  have d3_4 : w3.cell? ⟨w.heap.size + 1, 1, none⟩ = some (.int .i64 b.2.1) := cell_call hb3 (by first | assumption | go_cell | simp [go_sem])
  have d3_5 : w3.cell? ⟨w.heap.size + 1, 2, none⟩ = some (.int .i64 b.2.2) := cell_call hb3 (by first | assumption | go_cell | simp [go_sem])
  have l3_0 := World.block_lt_of_cell? w3 _ d3_0
  have l3_3 := World.block_lt_of_cell? w3 _ d3_3
  have hS3 := hB3.size
  clear hb3
  go_wp2_with fail
  go_ret
  exact ret_of rfl hB3

set_option maxRecDepth 100000 in
set_option maxHeartbeats 1600000 in
theorem walkVecSelf_2 (a b : T3) (m : Int) (K1 : Hid (∀ w, Calls Try.prog 66 #[V3 a.1 a.2.1 a.2.2, V3 a.1 a.2.1 a.2.2] w (Ret (V3 0 0 0) w))) (K2 : Hid (∀ w, Calls Try.prog 38 #[V3 a.1 a.2.1 a.2.2] w (Ret (.int .i64 m) w)))
    (hm : m < 70368744177664) (m2 : Int) (hm2 : 70368744177664 ≤ m2) (K3 : Hid (∀ w, Calls Try.prog 38 #[V3 b.1 b.2.1 b.2.2] w (Ret (.int .i64 m2) w))) (w : World) :
    Calls Try.prog 16 #[V3 a.1 a.2.1 a.2.2, V3 b.1 b.2.1 b.2.2] w (Ret (.bool true) w) := by
  go_enter Try.func16, Try.ntmps16
  go_wp2_with fail
  refine (K1.out _).mono ?_; rintro e w1 ⟨rfl, hb1⟩
  have hB1 : Below w.heap.size w w1 := Below.next (by go_grown) hb1
  have d1_0 : w1.cell? ⟨w.heap.size, 0, none⟩ = some (.int .i64 a.1) := cell_call hb1 (by first | assumption | go_cell | simp [go_sem])
  have d1_1 : w1.cell? ⟨w.heap.size, 1, none⟩ = some (.int .i64 a.2.1) := cell_call hb1 (by first | assumption | go_cell | simp [go_sem])
  have d1_2 : w1.cell? ⟨w.heap.size, 2, none⟩ = some (.int .i64 a.2.2) := cell_call hb1 (by first | assumption | go_cell | simp [go_sem])
  have d1_3 : w1.cell? ⟨w.heap.size + 1, 0, none⟩ = some (.int .i64 b.1) := cell_call hb1 (by first | assumption | go_cell | simp [go_sem])
  have d1_4 : w1.cell? ⟨w.heap.size + 1, 1, none⟩ = some (.int .i64 b.2.1) := cell_call hb1 (by first | assumption | go_cell | simp [go_sem])
  have d1_5 : w1.cell? ⟨w.heap.size + 1, 2, none⟩ = some (.int .i64 b.2.2) := cell_call hb1 (by first | assumption | go_cell | simp [go_sem])
  have l1_0 := World.block_lt_of_cell? w1 _ d1_0
  have l1_3 := World.block_lt_of_cell? w1 _ d1_3
  have hS1 := hB1.size
  clear hb1
  go_wp2_with fail
  refine (K2.out _).mono ?_; rintro e w2 ⟨rfl, hb2⟩
  have hB2 : Below w.heap.size w w2 := Below.next (by go_grown) hb2
  have d2_0 : w2.cell? ⟨w.heap.size, 0, none⟩ = some (.int .i64 a.1) := cell_call hb2 (by first | assumption | go_cell | simp [go_sem])
  have d2_1 : w2.cell? ⟨w.heap.size, 1, none⟩ = some (.int .i64 a.2.1) := cell_call hb2 (by first | assumption | go_cell | simp [go_sem])
  have d2_2 : w2.cell? ⟨w.heap.size, 2, none⟩ = some (.int .i64 a.2.2) := cell_call hb2 (by first | assumption | go_cell | simp [go_sem])
  have d2_3 : w2.cell? ⟨w.heap.size + 1, 0, none⟩ = some (.int .i64 b.1) := cell_call hb2 (by first | assumption | go_cell | simp [go_sem])
  have d2_4 : w2.cell? ⟨w.heap.size + 1, 1, none⟩ = some (.int .i64 b.2.1) := cell_call hb2 (by first | assumption | go_cell | simp [go_sem])
  have d2_5 : w2.cell? ⟨w.heap.size + 1, 2, none⟩ = some (.int .i64 b.2.2) := cell_call hb2 (by first | assumption | go_cell | simp [go_sem])
  have l2_0 := World.block_lt_of_cell? w2 _ d2_0
  have l2_3 := World.block_lt_of_cell? w2 _ d2_3
  have hS2 := hB2.size
  clear hb2
  go_wp2_with fail
  refine (K3.out _).mono ?_; rintro e w3 ⟨rfl, hb3⟩
  have hB3 : Below w.heap.size w w3 := Below.next (by go_grown) hb3
  have d3_0 : w3.cell? ⟨w.heap.size, 0, none⟩ = some (.int .i64 a.1) := cell_call hb3 (by first | assumption | go_cell | simp [go_sem])
  have d3_1 : w3.cell? ⟨w.heap.size, 1, none⟩ = some (.int .i64 a.2.1) := cell_call hb3 (by first | assumption | go_cell | simp [go_sem])
  have d3_2 : w3.cell? ⟨w.heap.size, 2, none⟩ = some (.int .i64 a.2.2) := cell_call hb3 (by first | assumption | go_cell | simp [go_sem])
  have d3_3 : w3.cell? ⟨w.heap.size + 1, 0, none⟩ = some (.int .i64 b.1) := cell_call hb3 (by first | assumption | go_cell | simp [go_sem])
  have d3_4 : w3.cell? ⟨w.heap.size + 1, 1, none⟩ = some (.int .i64 b.2.1) := cell_call hb3 (by first | assumption | go_cell | simp [go_sem])
  have d3_5 : w3.cell? ⟨w.heap.size + 1, 2, none⟩ = some (.int .i64 b.2.2) := cell_call hb3 (by first | assumption | go_cell | simp [go_sem])
  have l3_0 := World.block_lt_of_cell? w3 _ d3_0
  have l3_3 := World.block_lt_of_cell? w3 _ d3_3
  have hS3 := hB3.size
  clear hb3
  go_wp2_with fail
  refine (works3 _).mono ?_; rintro e w4 ⟨rfl, hb4⟩
  have hB4 : Below w.heap.size w w4 := Below.next (by go_grown) hb4
  have d4_0 : w4.cell? ⟨w.heap.size, 0, none⟩ = some (.int .i64 a.1) := cell_call hb4 (by first | assumption | go_cell | simp [go_sem])
  have d4_1 : w4.cell? ⟨w.heap.size, 1, none⟩ = some (.int .i64 a.2.1) := cell_call hb4 (by first | assumption | go_cell | simp [go_sem])
  have d4_2 : w4.cell? ⟨w.heap.size, 2, none⟩ = some (.int .i64 a.2.2) := cell_call hb4 (by first | assumption | go_cell | simp [go_sem])
  have d4_3 : w4.cell? ⟨w.heap.size + 1, 0, none⟩ = some (.int .i64 b.1) := cell_call hb4 (by first | assumption | go_cell | simp [go_sem])
  have d4_4 : w4.cell? ⟨w.heap.size + 1, 1, none⟩ = some (.int .i64 b.2.1) := cell_call hb4 (by first | assumption | go_cell | simp [go_sem])
  have d4_5 : w4.cell? ⟨w.heap.size + 1, 2, none⟩ = some (.int .i64 b.2.2) := cell_call hb4 (by first | assumption | go_cell | simp [go_sem])
  have l4_0 := World.block_lt_of_cell? w4 _ d4_0
  have l4_3 := World.block_lt_of_cell? w4 _ d4_3
  have hS4 := hB4.size
  clear hb4
  go_wp2_with fail
  go_ret
  exact ret_of rfl hB4

set_option maxRecDepth 100000 in
set_option maxHeartbeats 1600000 in
theorem walkVecSelf_3 (a b : T3) (m : Int) (K1 : Hid (∀ w, Calls Try.prog 66 #[V3 a.1 a.2.1 a.2.2, V3 a.1 a.2.1 a.2.2] w (Ret (V3 0 0 0) w))) (K2 : Hid (∀ w, Calls Try.prog 38 #[V3 a.1 a.2.1 a.2.2] w (Ret (.int .i64 m) w)))
    (hm : m < 70368744177664) (m2 : Int) (hm2 : m2 < 70368744177664) (c d : T3) (hc : InV c) (hd : InV d) (hz : Hid (vadd c d = zero3)) (K3 : Hid (∀ w, Calls Try.prog 38 #[V3 b.1 b.2.1 b.2.2] w (Ret (.int .i64 m2) w))) (K4 : Hid (∀ w, Calls Try.prog 66 #[V3 a.1 a.2.1 a.2.2, V3 b.1 b.2.1 b.2.2] w (Ret (V3 c.1 c.2.1 c.2.2) w))) (K5 : Hid (∀ w, Calls Try.prog 66 #[V3 b.1 b.2.1 b.2.2, V3 a.1 a.2.1 a.2.2] w (Ret (V3 d.1 d.2.1 d.2.2) w))) (w : World) :
    Calls Try.prog 16 #[V3 a.1 a.2.1 a.2.2, V3 b.1 b.2.1 b.2.2] w (Ret (.bool true) w) := by
  go_enter Try.func16, Try.ntmps16
  go_wp2_with fail
  refine (K1.out _).mono ?_; rintro e w1 ⟨rfl, hb1⟩
  have hB1 : Below w.heap.size w w1 := Below.next (by go_grown) hb1
  have d1_0 : w1.cell? ⟨w.heap.size, 0, none⟩ = some (.int .i64 a.1) := cell_call hb1 (by first | assumption | go_cell | simp [go_sem])
  have d1_1 : w1.cell? ⟨w.heap.size, 1, none⟩ = some (.int .i64 a.2.1) := cell_call hb1 (by first | assumption | go_cell | simp [go_sem])
  have d1_2 : w1.cell? ⟨w.heap.size, 2, none⟩ = some (.int .i64 a.2.2) := cell_call hb1 (by first | assumption | go_cell | simp [go_sem])
  have d1_3 : w1.cell? ⟨w.heap.size + 1, 0, none⟩ = some (.int .i64 b.1) := cell_call hb1 (by first | assumption | go_cell | simp [go_sem])
  have d1_4 : w1.cell? ⟨w.heap.size + 1, 1, none⟩ = some (.int .i64 b.2.1) := cell_call hb1 (by first | assumption | go_cell | simp [go_sem])
  have d1_5 : w1.cell? ⟨w.heap.size + 1, 2, none⟩ = some (.int .i64 b.2.2) := cell_call hb1 (by first | assumption | go_cell | simp [go_sem])
  have l1_0 := World.block_lt_of_cell? w1 _ d1_0
  have l1_3 := World.block_lt_of_cell? w1 _ d1_3
  have hS1 := hB1.size
  clear hb1
  go_wp2_with fail
  refine (K2.out _).mono ?_; rintro e w2 ⟨rfl, hb2⟩
  have hB2 : Below w.heap.size w w2 := Below.next (by go_grown) hb2
  have d2_0 : w2.cell? ⟨w.heap.size, 0, none⟩ = some (.int .i64 a.1) := cell_call hb2 (by first | assumption | go_cell | simp [go_sem])
  have d2_1 : w2.cell? ⟨w.heap.size, 1, none⟩ = some (.int .i64 a.2.1) := cell_call hb2 (by first | assumption | go_cell | simp [go_sem])
  have d2_2 : w2.cell? ⟨w.heap.size, 2, none⟩ = some (.int .i64 a.2.2) := cell_call hb2 (by first | assumption | go_cell | simp [go_sem])
  have d2_3 : w2.cell? ⟨w.heap.size + 1, 0, none⟩ = some (.int .i64 b.1) := cell_call hb2 (by first | assumption | go_cell | simp [go_sem])
  have d2_4 : w2.cell? ⟨w.heap.size + 1, 1, none⟩ = some (.int .i64 b.2.1) := cell_call hb2 (by first | assumption | go_cell | simp [go_sem])
  have d2_5 : w2.cell? ⟨w.heap.size + 1, 2, none⟩ = some (.int .i64 b.2.2) := cell_call hb2 (by first | assumption | go_cell | simp [go_sem])
  have l2_0 := World.block_lt_of_cell? w2 _ d2_0
  have l2_3 := World.block_lt_of_cell? w2 _ d2_3
  have hS2 := hB2.size
  clear hb2
  go_wp2_with fail
  refine (K3.out _).mono ?_; rintro e w3 ⟨rfl, hb3⟩
  have hB3 : Below w.heap.size w w3 := Below.next (by go_grown) hb3
  have d3_0 : w3.cell? ⟨w.heap.size, 0, none⟩ = some (.int .i64 a.1) := cell_call hb3 (by first | assumption | go_cell | simp [go_sem])
  have d3_1 : w3.cell? ⟨w.heap.size, 1, none⟩ = some (.int .i64 a.2.1) := cell_call hb3 (by first | assumption | go_cell | simp [go_sem])
  have d3_2 : w3.cell? ⟨w.heap.size, 2, none⟩ = some (.int .i64 a.2.2) := cell_call hb3 (by first | assumption | go_cell | simp [go_sem])
  have d3_3 : w3.cell? ⟨w.heap.size + 1, 0, none⟩ = some (.int .i64 b.1) := cell_call hb3 (by first | assumption | go_cell | simp [go_sem])
  have d3_4 : w3.cell? ⟨w.heap.size + 1, 1, none⟩ = some (.int .i64 b.2.1) := cell_call hb3 (by first | assumption | go_cell | simp [go_sem])
  have d3_5 : w3.cell? ⟨w.heap.size + 1, 2, none⟩ = some (.int .i64 b.2.2) := cell_call hb3 (by first | assumption | go_cell | simp [go_sem])
  have l3_0 := World.block_lt_of_cell? w3 _ d3_0
  have l3_3 := World.block_lt_of_cell? w3 _ d3_3
  have hS3 := hB3.size
  clear hb3
  go_wp2_with fail
  refine wp_region_fresh_gen 8 (by kernel_rfl) (by kernel_rfl) (fun W4 HW4 => ?_)
  intro F4_0 U4_0
  have hA4 : Below w.heap.size w W4 := by rw [HW4]; go_grown
  have c4_0 : W4.cell? ⟨w.heap.size, 0, none⟩ = some (.int .i64 a.1) := by rw [HW4]; first | assumption | go_cell | simp [go_sem, *]
  have c4_1 : W4.cell? ⟨w.heap.size, 1, none⟩ = some (.int .i64 a.2.1) := by rw [HW4]; first | assumption | go_cell | simp [go_sem, *]
  have c4_2 : W4.cell? ⟨w.heap.size, 2, none⟩ = some (.int .i64 a.2.2) := by rw [HW4]; first | assumption | go_cell | simp [go_sem, *]
  have c4_3 : W4.cell? ⟨w.heap.size + 1, 0, none⟩ = some (.int .i64 b.1) := by rw [HW4]; first | assumption | go_cell | simp [go_sem, *]
  have c4_4 : W4.cell? ⟨w.heap.size + 1, 1, none⟩ = some (.int .i64 b.2.1) := by rw [HW4]; first | assumption | go_cell | simp [go_sem, *]
  have c4_5 : W4.cell? ⟨w.heap.size + 1, 2, none⟩ = some (.int .i64 b.2.2) := by rw [HW4]; first | assumption | go_cell | simp [go_sem, *]
  clear HW4
  have r4_0 := reg_cell c4_0
  have r4_1 := reg_cell c4_1
  have r4_2 := reg_cell c4_2
  have r4_3 := reg_cell c4_3
  have r4_4 := reg_cell c4_4
  have r4_5 := reg_cell c4_5
  simp only [List.take_succ_cons, List.take_zero, List.drop_succ_cons, List.drop_zero]
  iterate 2 (refine WL_plain (fun K hK => ?_); go_simp; refine hK _ ?_; clear hK K)
  refine WL_call (by kernel_rfl) (fun K hK => ?_)
  go_simp
  apply Exists.intro
  refine ⟨fun w1 hb1 hf1 => ?_, hK _ ?_⟩
  · exact K4.out _
  clear hK K
  iterate 2 (refine WL_plain (fun K hK => ?_); go_simp; refine hK _ ?_; clear hK K)
  refine WL_call (by kernel_rfl) (fun K hK => ?_)
  go_simp
  apply Exists.intro
  refine ⟨fun w1 hb1 hf1 => ?_, hK _ ?_⟩
  · exact K5.out _
  clear hK K
  refine WL_ptr (.cells #[.int .i64 0, .int .i64 0, .int .i64 0] 26) rfl (by first | rfl | go_simp) (fun w1 => by go_simp; first | rfl | done) ?_
  intro g4_1 F4_1 U4_1 hg4_1 hn4_1 hF4_1 hU4_1
  have HF4_1 := Lib.hid hF4_1; have HU4_1 := Lib.hid hU4_1; clear hF4_1 hU4_1
  refine WL_ptr (.cells #[.int .i64 0, .int .i64 0, .int .i64 0] 26) rfl (by first | rfl | go_simp) (fun w1 => by go_simp; first | rfl | done) ?_
  intro g4_2 F4_2 U4_2 hg4_2 hn4_2 hF4_2 hU4_2
  have HF4_2 := Lib.hid hF4_2; have HU4_2 := Lib.hid hU4_2; clear hF4_2 hU4_2
  refine WL_nil (fun w4 hb4 hf4 => ?_)
  have hB4 : Below w.heap.size w w4 := Below.next hA4 hb4
  obtain ⟨hf4, q4_2⟩ := HF4_2.out _ hf4
  obtain ⟨hf4, q4_1⟩ := HF4_1.out _ hf4
  obtain ⟨m4_2_1, e4_2_1⟩ := HU4_1.out _ hn4_2
  have e4_1_2 := Ne.symm e4_2_1
  have kg4_1 := q4_1.lt
  have hg4_1 := Nat.le_trans hA4.size hg4_1
  have p4_1_0 : w4.cell? ⟨g4_1, 0, none⟩ = some (.int .i64 0) := (q4_1.cell 0).trans rfl
  have y4_1_0 := q4_1.free 0
  have p4_1_1 : w4.cell? ⟨g4_1, 1, none⟩ = some (.int .i64 0) := (q4_1.cell 1).trans rfl
  have y4_1_1 := q4_1.free 1
  have p4_1_2 : w4.cell? ⟨g4_1, 2, none⟩ = some (.int .i64 0) := (q4_1.cell 2).trans rfl
  have y4_1_2 := q4_1.free 2
  have kg4_2 := q4_2.lt
  have hg4_2 := Nat.le_trans hA4.size hg4_2
  have p4_2_0 : w4.cell? ⟨g4_2, 0, none⟩ = some (.int .i64 0) := (q4_2.cell 0).trans rfl
  have y4_2_0 := q4_2.free 0
  have p4_2_1 : w4.cell? ⟨g4_2, 1, none⟩ = some (.int .i64 0) := (q4_2.cell 1).trans rfl
  have y4_2_1 := q4_2.free 1
  have p4_2_2 : w4.cell? ⟨g4_2, 2, none⟩ = some (.int .i64 0) := (q4_2.cell 2).trans rfl
  have y4_2_2 := q4_2.free 2
  have d4_0 := cell_call hb4 c4_0
  have d4_1 := cell_call hb4 c4_1
  have d4_2 := cell_call hb4 c4_2
  have d4_3 := cell_call hb4 c4_3
  have d4_4 := cell_call hb4 c4_4
  have d4_5 := cell_call hb4 c4_5
  clear r4_0 c4_0 r4_1 c4_1 r4_2 c4_2 r4_3 c4_3 r4_4 c4_4 r4_5 c4_5
  have l4_0 := World.block_lt_of_cell? w4 _ d4_0
  have l4_3 := World.block_lt_of_cell? w4 _ d4_3
  have hS4 := hB4.size
  go_wp2_with fail
  refine (vAdd2 c d hc hd _ _ _ (by refine cellsV2 ?_ ?_ ?_ ?_ ?_ ?_ <;> first | go_cell | simp [go_sem])).mono ?_; rintro e w5 ⟨rfl, hb5⟩
  have hB5 : Below w.heap.size w w5 := Below.next (by go_grown) hb5
  have hS5 := hB5.size
  clear hb5
  rw [hz.out]
  go_wp2_with fail
  refine (works3 _).mono ?_; rintro e w6 ⟨rfl, hb6⟩
  have hB6 : Below w.heap.size w w6 := Below.next (by go_grown) hb6
  have hS6 := hB6.size
  clear hb6
  go_wp2_with fail
  go_ret
  exact ret_of rfl hB6

theorem lawVecSelf (ns0 : List Int) (h0 : Al2 Fits [.i64, .i64, .i64] ns0) (ns1 : List Int) (h1 : Al2 Fits [.i64, .i64, .i64] ns1) (w : World) :
    Calls Try.prog 16 #[.agg (vals [.i64, .i64, .i64] ns0).toArray, .agg (vals [.i64, .i64, .i64] ns1).toArray] w (Ret (.bool true) w) := by
  obtain ⟨a, ha, e0⟩ := three_in h0
  obtain ⟨b, hb, e1⟩ := three_in h1
  rw [e0, e1]
  have K1 : Hid (∀ w, Calls Try.prog 66 #[V3 a.1 a.2.1 a.2.2, V3 a.1 a.2.1 a.2.2] w (Ret (V3 0 0 0) w)) := Lib.hid (fun w => by have := vCross a a ha ha w; rw [vcross_self] at this; exact this)
  by_cases s1 : vmost a < 70368744177664
  · by_cases s2 : vmost b < 70368744177664
    · exact walkVecSelf_3 a b (vmost a) K1 (Lib.hid (vMost a ha)) s1 (vmost b) s2 (vcross a b) (vcross b a) (vcross_I _ _) (vcross_I _ _) (Lib.hid (vcross_turn ha hb s1 s2)) (Lib.hid (vMost b hb)) (Lib.hid (vCross a b ha hb)) (Lib.hid (vCross b a hb ha)) w
    · exact walkVecSelf_2 a b (vmost a) K1 (Lib.hid (vMost a ha)) s1 (vmost b) (by omega) (Lib.hid (vMost b hb)) w
  · exact walkVecSelf_1 a b (vmost a) K1 (Lib.hid (vMost a ha)) (by omega) w

end Go.Proofs.Ytenefncpokdmnaa
