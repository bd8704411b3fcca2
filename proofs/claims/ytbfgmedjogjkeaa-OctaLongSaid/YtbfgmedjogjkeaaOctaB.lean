/- Walks: octa.Encode, Pick, Dot, Facing. -/
import Derived.Test.YtbfgmedjogjkeaaOctaA
namespace Go.Proofs.Ytbfgmedjogjkeaa
open Go.RowKit Go.Sort
set_option linter.unusedVariables false
set_option linter.unusedSimpArgs false

theorem tdiv_neg' {n l : Int} (h : n < 0) : (16384 * n).tdiv l = -(16384 * -n / l) := by
  rw [show 16384 * n = -(16384 * -n) by omega, Int.neg_tdiv, Int.tdiv_eq_ediv_of_nonneg (by omega)]
theorem tdiv_pos' {n l : Int} (h : 0 ≤ n) : (16384 * n).tdiv l = 16384 * n / l := Int.tdiv_eq_ediv_of_nonneg (by omega)

set_option maxRecDepth 100000 in
set_option maxHeartbeats 1600000 in
theorem oEnc_NNN (x y z l A B : Int) (hm : mayB (x, y, z) = true) (hx : -16384 ≤ x ∧ x ≤ 16384) (hy : -16384 ≤ y ∧ y ≤ 16384) (hz : -16384 ≤ z ∧ z ≤ 16384) (s0 : x < 0) (s1 : y < 0) (s2 : z < 0)
    (HL : Hid (-x + -y + -z = l)) (l1 : 1 ≤ l) (HA : Hid ((16384 * x).tdiv l = A)) (HB : Hid ((16384 * y).tdiv l = B)) (a1 : -16384 ≤ A ∧ A ≤ 16384) (b1 : -16384 ≤ B ∧ B ≤ 16384) (w : World) :
    Calls Try.prog 16 #[V3 x y z] w (Ret (.tuple #[.int .u32 ((-(16384 - oabs B) + 16384) * 65536 + (-(16384 - oabs A) + 16384)), .int .i64 0]) w) := by
  have HM := Lib.hid hm; clear hm
  go_enter Try.func16, Try.ntmps16
  go_wp2_with fail
  have hM := (fun w => oMay x y z (by unfold InI; omega) (by unfold InI; omega) (by unfold InI; omega) w)
  rw [HM.out] at hM
  refine (hM _).mono ?_; rintro e w1 ⟨rfl, hb1⟩
  have hB1 : Below w.heap.size w w1 := Below.next (by go_grown) hb1
  have d1_0 : w1.cell? ⟨w.heap.size, 0, none⟩ = some (.int .i64 x) := cell_call hb1 (by first | assumption | go_cell | simp [go_sem])
  have d1_1 : w1.cell? ⟨w.heap.size, 1, none⟩ = some (.int .i64 y) := cell_call hb1 (by first | assumption | go_cell | simp [go_sem])
  have d1_2 : w1.cell? ⟨w.heap.size, 2, none⟩ = some (.int .i64 z) := cell_call hb1 (by first | assumption | go_cell | simp [go_sem])
  have l1_0 := World.block_lt_of_cell? w1 _ d1_0
  have hS1 := hB1.size
  clear hb1
  go_wp2_with fail
  clear hM
  refine wp_region_fresh_gen 12 (by kernel_rfl) (by kernel_rfl) (fun W2 HW2 => ?_)
  intro F2_0 U2_0
  have hA2 : Below w.heap.size w W2 := by rw [HW2]; go_grown
  have c2_0 : W2.cell? ⟨w.heap.size, 0, none⟩ = some (.int .i64 x) := by rw [HW2]; first | assumption | go_cell | simp [go_sem, *]
  have c2_1 : W2.cell? ⟨w.heap.size, 1, none⟩ = some (.int .i64 y) := by rw [HW2]; first | assumption | go_cell | simp [go_sem, *]
  have c2_2 : W2.cell? ⟨w.heap.size, 2, none⟩ = some (.int .i64 z) := by rw [HW2]; first | assumption | go_cell | simp [go_sem, *]
  clear HW2
  have r2_0 := reg_cell c2_0
  have r2_1 := reg_cell c2_1
  have r2_2 := reg_cell c2_2
  simp only [List.take_succ_cons, List.take_zero, List.drop_succ_cons, List.drop_zero]
  have x2_0 : IntKind.i64.wrap (-x + -y) = -x + -y := IntWalk.i64_in _ (by omega)
  have x2_1 : IntKind.i64.wrap (-x + -y + -z) = l := (IntWalk.i64_in _ (by omega)).trans HL.out
  iterate 2 (refine WL_plain (fun K hK => ?_); go_simp; refine hK _ ?_; clear hK K)
  refine WL_call (by kernel_rfl) (fun K hK => ?_)
  go_simp
  apply Exists.intro
  refine ⟨fun w1 hb1 hf1 => ?_, hK _ ?_⟩
  · exact (oAbsN _ (by omega) (by omega) _).mono fun _ _ h => h.ret
  clear hK K
  iterate 2 (refine WL_plain (fun K hK => ?_); go_simp; refine hK _ ?_; clear hK K)
  refine WL_call (by kernel_rfl) (fun K hK => ?_)
  go_simp
  apply Exists.intro
  refine ⟨fun w1 hb1 hf1 => ?_, hK _ ?_⟩
  · exact (oAbsN _ (by omega) (by omega) _).mono fun _ _ h => h.ret
  clear hK K
  iterate 3 (refine WL_plain (fun K hK => ?_); go_simp; refine hK _ ?_; clear hK K)
  refine WL_call (by kernel_rfl) (fun K hK => ?_)
  go_simp
  apply Exists.intro
  refine ⟨fun w1 hb1 hf1 => ?_, hK _ ?_⟩
  · exact (oAbsN _ (by omega) (by omega) _).mono fun _ _ h => h.ret
  clear hK K
  iterate 2 (refine WL_plain (fun K hK => ?_); go_simp; refine hK _ ?_; clear hK K)
  clear x2_0 x2_1
  refine WL_nil (fun w2 hb2 hf2 => ?_)
  have hB2 : Below w.heap.size w w2 := Below.next hA2 hb2
  have d2_0 := cell_call hb2 c2_0
  have d2_1 := cell_call hb2 c2_1
  have d2_2 := cell_call hb2 c2_2
  clear r2_0 c2_0 r2_1 c2_1 r2_2 c2_2
  have l2_0 := World.block_lt_of_cell? w2 _ d2_0
  have hS2 := hB2.size
  go_wp2_with fail
  refine wp_region_fresh_gen 12 (by kernel_rfl) (by kernel_rfl) (fun W3 HW3 => ?_)
  intro F3_0 U3_0
  have hA3 : Below w.heap.size w W3 := by rw [HW3]; go_grown
  have c3_0 : W3.cell? ⟨w.heap.size, 0, none⟩ = some (.int .i64 x) := by rw [HW3]; first | assumption | go_cell | simp [go_sem, *]
  have c3_1 : W3.cell? ⟨w.heap.size, 1, none⟩ = some (.int .i64 y) := by rw [HW3]; first | assumption | go_cell | simp [go_sem, *]
  have c3_2 : W3.cell? ⟨w.heap.size, 2, none⟩ = some (.int .i64 z) := by rw [HW3]; first | assumption | go_cell | simp [go_sem, *]
  clear HW3
  have r3_0 := reg_cell c3_0
  have r3_1 := reg_cell c3_1
  have r3_2 := reg_cell c3_2
  simp only [List.take_succ_cons, List.take_zero, List.drop_succ_cons, List.drop_zero]
  have x3_0 : IntKind.i64.wrap (16384 * x) = 16384 * x := IntWalk.i64_in _ (by omega)
  have x3_1 : IntKind.i64.wrap (16384 * y) = 16384 * y := IntWalk.i64_in _ (by omega)
  have x3_2 : (16384 * x).tdiv l = A := HA.out
  have x3_3 : (16384 * y).tdiv l = B := HB.out
  have x3_4 : IntKind.i64.wrap A = A := IntWalk.i64_in _ (by omega)
  have x3_5 : IntKind.i64.wrap B = B := IntWalk.i64_in _ (by omega)
  have x3_6 : (l == 0) = false := beq_eq_false_iff_ne.2 (by omega)
  have x3_7 : l ≠ 0 := by omega
  iterate 12 (refine WL_plain (fun K hK => ?_); go_simp; refine hK _ ?_; clear hK K)
  clear x3_0 x3_1 x3_2 x3_3 x3_4 x3_5 x3_6 x3_7
  refine WL_nil (fun w3 hb3 hf3 => ?_)
  have hB3 : Below w.heap.size w w3 := Below.next hA3 hb3
  have d3_0 := cell_call hb3 c3_0
  have d3_1 := cell_call hb3 c3_1
  have d3_2 := cell_call hb3 c3_2
  clear r3_0 c3_0 r3_1 c3_1 r3_2 c3_2
  have l3_0 := World.block_lt_of_cell? w3 _ d3_0
  have hS3 := hB3.size
  have k1 := oabs_bd a1
  have k2 := oabs_bd b1
  have e1 := u32_or16 (-(16384 - oabs A) + 16384) (-(16384 - oabs B) + 16384) (by omega) (by omega) (by omega) (by omega)
  go_wp2_with (go_at_call 53; refine (oAbs _ (by omega) _).mono ?_; rintro e w9 ⟨rfl, rfl⟩)
  go_ret2
  exact ret_of rfl hB3

set_option maxRecDepth 100000 in
set_option maxHeartbeats 1600000 in
theorem oEnc_NNP (x y z l A B : Int) (hm : mayB (x, y, z) = true) (hx : -16384 ≤ x ∧ x ≤ 16384) (hy : -16384 ≤ y ∧ y ≤ 16384) (hz : -16384 ≤ z ∧ z ≤ 16384) (s0 : x < 0) (s1 : y < 0) (s2 : 0 ≤ z)
    (HL : Hid (-x + -y + z = l)) (l1 : 1 ≤ l) (HA : Hid ((16384 * x).tdiv l = A)) (HB : Hid ((16384 * y).tdiv l = B)) (a1 : -16384 ≤ A ∧ A ≤ 16384) (b1 : -16384 ≤ B ∧ B ≤ 16384) (w : World) :
    Calls Try.prog 16 #[V3 x y z] w (Ret (.tuple #[.int .u32 ((A + 16384) * 65536 + (B + 16384)), .int .i64 0]) w) := by
  have HM := Lib.hid hm; clear hm
  go_enter Try.func16, Try.ntmps16
  go_wp2_with fail
  have hM := (fun w => oMay x y z (by unfold InI; omega) (by unfold InI; omega) (by unfold InI; omega) w)
  rw [HM.out] at hM
  refine (hM _).mono ?_; rintro e w1 ⟨rfl, hb1⟩
  have hB1 : Below w.heap.size w w1 := Below.next (by go_grown) hb1
  have d1_0 : w1.cell? ⟨w.heap.size, 0, none⟩ = some (.int .i64 x) := cell_call hb1 (by first | assumption | go_cell | simp [go_sem])
  have d1_1 : w1.cell? ⟨w.heap.size, 1, none⟩ = some (.int .i64 y) := cell_call hb1 (by first | assumption | go_cell | simp [go_sem])
  have d1_2 : w1.cell? ⟨w.heap.size, 2, none⟩ = some (.int .i64 z) := cell_call hb1 (by first | assumption | go_cell | simp [go_sem])
  have l1_0 := World.block_lt_of_cell? w1 _ d1_0
  have hS1 := hB1.size
  clear hb1
  go_wp2_with fail
  clear hM
  refine wp_region_fresh_gen 12 (by kernel_rfl) (by kernel_rfl) (fun W2 HW2 => ?_)
  intro F2_0 U2_0
  have hA2 : Below w.heap.size w W2 := by rw [HW2]; go_grown
  have c2_0 : W2.cell? ⟨w.heap.size, 0, none⟩ = some (.int .i64 x) := by rw [HW2]; first | assumption | go_cell | simp [go_sem, *]
  have c2_1 : W2.cell? ⟨w.heap.size, 1, none⟩ = some (.int .i64 y) := by rw [HW2]; first | assumption | go_cell | simp [go_sem, *]
  have c2_2 : W2.cell? ⟨w.heap.size, 2, none⟩ = some (.int .i64 z) := by rw [HW2]; first | assumption | go_cell | simp [go_sem, *]
  clear HW2
  have r2_0 := reg_cell c2_0
  have r2_1 := reg_cell c2_1
  have r2_2 := reg_cell c2_2
  simp only [List.take_succ_cons, List.take_zero, List.drop_succ_cons, List.drop_zero]
  have x2_0 : IntKind.i64.wrap (-x + -y) = -x + -y := IntWalk.i64_in _ (by omega)
  have x2_1 : IntKind.i64.wrap (-x + -y + z) = l := (IntWalk.i64_in _ (by omega)).trans HL.out
  iterate 2 (refine WL_plain (fun K hK => ?_); go_simp; refine hK _ ?_; clear hK K)
  refine WL_call (by kernel_rfl) (fun K hK => ?_)
  go_simp
  apply Exists.intro
  refine ⟨fun w1 hb1 hf1 => ?_, hK _ ?_⟩
  · exact (oAbsN _ (by omega) (by omega) _).mono fun _ _ h => h.ret
  clear hK K
  iterate 2 (refine WL_plain (fun K hK => ?_); go_simp; refine hK _ ?_; clear hK K)
  refine WL_call (by kernel_rfl) (fun K hK => ?_)
  go_simp
  apply Exists.intro
  refine ⟨fun w1 hb1 hf1 => ?_, hK _ ?_⟩
  · exact (oAbsN _ (by omega) (by omega) _).mono fun _ _ h => h.ret
  clear hK K
  iterate 3 (refine WL_plain (fun K hK => ?_); go_simp; refine hK _ ?_; clear hK K)
  refine WL_call (by kernel_rfl) (fun K hK => ?_)
  go_simp
  apply Exists.intro
  refine ⟨fun w1 hb1 hf1 => ?_, hK _ ?_⟩
  · exact (oAbsP _ (by omega) _).mono fun _ _ h => h.ret
  clear hK K
  iterate 2 (refine WL_plain (fun K hK => ?_); go_simp; refine hK _ ?_; clear hK K)
  clear x2_0 x2_1
  refine WL_nil (fun w2 hb2 hf2 => ?_)
  have hB2 : Below w.heap.size w w2 := Below.next hA2 hb2
  have d2_0 := cell_call hb2 c2_0
  have d2_1 := cell_call hb2 c2_1
  have d2_2 := cell_call hb2 c2_2
  clear r2_0 c2_0 r2_1 c2_1 r2_2 c2_2
  have l2_0 := World.block_lt_of_cell? w2 _ d2_0
  have hS2 := hB2.size
  go_wp2_with fail
  refine wp_region_fresh_gen 12 (by kernel_rfl) (by kernel_rfl) (fun W3 HW3 => ?_)
  intro F3_0 U3_0
  have hA3 : Below w.heap.size w W3 := by rw [HW3]; go_grown
  have c3_0 : W3.cell? ⟨w.heap.size, 0, none⟩ = some (.int .i64 x) := by rw [HW3]; first | assumption | go_cell | simp [go_sem, *]
  have c3_1 : W3.cell? ⟨w.heap.size, 1, none⟩ = some (.int .i64 y) := by rw [HW3]; first | assumption | go_cell | simp [go_sem, *]
  have c3_2 : W3.cell? ⟨w.heap.size, 2, none⟩ = some (.int .i64 z) := by rw [HW3]; first | assumption | go_cell | simp [go_sem, *]
  clear HW3
  have r3_0 := reg_cell c3_0
  have r3_1 := reg_cell c3_1
  have r3_2 := reg_cell c3_2
  simp only [List.take_succ_cons, List.take_zero, List.drop_succ_cons, List.drop_zero]
  have x3_0 : IntKind.i64.wrap (16384 * x) = 16384 * x := IntWalk.i64_in _ (by omega)
  have x3_1 : IntKind.i64.wrap (16384 * y) = 16384 * y := IntWalk.i64_in _ (by omega)
  have x3_2 : (16384 * x).tdiv l = A := HA.out
  have x3_3 : (16384 * y).tdiv l = B := HB.out
  have x3_4 : IntKind.i64.wrap A = A := IntWalk.i64_in _ (by omega)
  have x3_5 : IntKind.i64.wrap B = B := IntWalk.i64_in _ (by omega)
  have x3_6 : (l == 0) = false := beq_eq_false_iff_ne.2 (by omega)
  have x3_7 : l ≠ 0 := by omega
  iterate 12 (refine WL_plain (fun K hK => ?_); go_simp; refine hK _ ?_; clear hK K)
  clear x3_0 x3_1 x3_2 x3_3 x3_4 x3_5 x3_6 x3_7
  refine WL_nil (fun w3 hb3 hf3 => ?_)
  have hB3 : Below w.heap.size w w3 := Below.next hA3 hb3
  have d3_0 := cell_call hb3 c3_0
  have d3_1 := cell_call hb3 c3_1
  have d3_2 := cell_call hb3 c3_2
  clear r3_0 c3_0 r3_1 c3_1 r3_2 c3_2
  have l3_0 := World.block_lt_of_cell? w3 _ d3_0
  have hS3 := hB3.size
  have k1 := oabs_bd a1
  have k2 := oabs_bd b1
  have e1 := u32_or16 (B + 16384) (A + 16384) (by omega) (by omega) (by omega) (by omega)
  go_wp2_with (go_at_call 53; refine (oAbs _ (by omega) _).mono ?_; rintro e w9 ⟨rfl, rfl⟩)
  go_ret2
  exact ret_of rfl hB3

set_option maxRecDepth 100000 in
set_option maxHeartbeats 1600000 in
theorem oEnc_NPN (x y z l A B : Int) (hm : mayB (x, y, z) = true) (hx : -16384 ≤ x ∧ x ≤ 16384) (hy : -16384 ≤ y ∧ y ≤ 16384) (hz : -16384 ≤ z ∧ z ≤ 16384) (s0 : x < 0) (s1 : 0 ≤ y) (s2 : z < 0)
    (HL : Hid (-x + y + -z = l)) (l1 : 1 ≤ l) (HA : Hid ((16384 * x).tdiv l = A)) (HB : Hid ((16384 * y).tdiv l = B)) (a1 : -16384 ≤ A ∧ A ≤ 16384) (b1 : -16384 ≤ B ∧ B ≤ 16384) (w : World) :
    Calls Try.prog 16 #[V3 x y z] w (Ret (.tuple #[.int .u32 ((-(16384 - oabs B) + 16384) * 65536 + (16384 - oabs A + 16384)), .int .i64 0]) w) := by
  have HM := Lib.hid hm; clear hm
  go_enter Try.func16, Try.ntmps16
  go_wp2_with fail
  have hM := (fun w => oMay x y z (by unfold InI; omega) (by unfold InI; omega) (by unfold InI; omega) w)
  rw [HM.out] at hM
  refine (hM _).mono ?_; rintro e w1 ⟨rfl, hb1⟩
  have hB1 : Below w.heap.size w w1 := Below.next (by go_grown) hb1
  have d1_0 : w1.cell? ⟨w.heap.size, 0, none⟩ = some (.int .i64 x) := cell_call hb1 (by first | assumption | go_cell | simp [go_sem])
  have d1_1 : w1.cell? ⟨w.heap.size, 1, none⟩ = some (.int .i64 y) := cell_call hb1 (by first | assumption | go_cell | simp [go_sem])
  have d1_2 : w1.cell? ⟨w.heap.size, 2, none⟩ = some (.int .i64 z) := cell_call hb1 (by first | assumption | go_cell | simp [go_sem])
  have l1_0 := World.block_lt_of_cell? w1 _ d1_0
  have hS1 := hB1.size
  clear hb1
  go_wp2_with fail
  clear hM
  refine wp_region_fresh_gen 12 (by kernel_rfl) (by kernel_rfl) (fun W2 HW2 => ?_)
  intro F2_0 U2_0
  have hA2 : Below w.heap.size w W2 := by rw [HW2]; go_grown
  have c2_0 : W2.cell? ⟨w.heap.size, 0, none⟩ = some (.int .i64 x) := by rw [HW2]; first | assumption | go_cell | simp [go_sem, *]
  have c2_1 : W2.cell? ⟨w.heap.size, 1, none⟩ = some (.int .i64 y) := by rw [HW2]; first | assumption | go_cell | simp [go_sem, *]
  have c2_2 : W2.cell? ⟨w.heap.size, 2, none⟩ = some (.int .i64 z) := by rw [HW2]; first | assumption | go_cell | simp [go_sem, *]
  clear HW2
  have r2_0 := reg_cell c2_0
  have r2_1 := reg_cell c2_1
  have r2_2 := reg_cell c2_2
  simp only [List.take_succ_cons, List.take_zero, List.drop_succ_cons, List.drop_zero]
  have x2_0 : IntKind.i64.wrap (-x + y) = -x + y := IntWalk.i64_in _ (by omega)
  have x2_1 : IntKind.i64.wrap (-x + y + -z) = l := (IntWalk.i64_in _ (by omega)).trans HL.out
  iterate 2 (refine WL_plain (fun K hK => ?_); go_simp; refine hK _ ?_; clear hK K)
  refine WL_call (by kernel_rfl) (fun K hK => ?_)
  go_simp
  apply Exists.intro
  refine ⟨fun w1 hb1 hf1 => ?_, hK _ ?_⟩
  · exact (oAbsN _ (by omega) (by omega) _).mono fun _ _ h => h.ret
  clear hK K
  iterate 2 (refine WL_plain (fun K hK => ?_); go_simp; refine hK _ ?_; clear hK K)
  refine WL_call (by kernel_rfl) (fun K hK => ?_)
  go_simp
  apply Exists.intro
  refine ⟨fun w1 hb1 hf1 => ?_, hK _ ?_⟩
  · exact (oAbsP _ (by omega) _).mono fun _ _ h => h.ret
  clear hK K
  iterate 3 (refine WL_plain (fun K hK => ?_); go_simp; refine hK _ ?_; clear hK K)
  refine WL_call (by kernel_rfl) (fun K hK => ?_)
  go_simp
  apply Exists.intro
  refine ⟨fun w1 hb1 hf1 => ?_, hK _ ?_⟩
  · exact (oAbsN _ (by omega) (by omega) _).mono fun _ _ h => h.ret
  clear hK K
  iterate 2 (refine WL_plain (fun K hK => ?_); go_simp; refine hK _ ?_; clear hK K)
  clear x2_0 x2_1
  refine WL_nil (fun w2 hb2 hf2 => ?_)
  have hB2 : Below w.heap.size w w2 := Below.next hA2 hb2
  have d2_0 := cell_call hb2 c2_0
  have d2_1 := cell_call hb2 c2_1
  have d2_2 := cell_call hb2 c2_2
  clear r2_0 c2_0 r2_1 c2_1 r2_2 c2_2
  have l2_0 := World.block_lt_of_cell? w2 _ d2_0
  have hS2 := hB2.size
  go_wp2_with fail
  refine wp_region_fresh_gen 12 (by kernel_rfl) (by kernel_rfl) (fun W3 HW3 => ?_)
  intro F3_0 U3_0
  have hA3 : Below w.heap.size w W3 := by rw [HW3]; go_grown
  have c3_0 : W3.cell? ⟨w.heap.size, 0, none⟩ = some (.int .i64 x) := by rw [HW3]; first | assumption | go_cell | simp [go_sem, *]
  have c3_1 : W3.cell? ⟨w.heap.size, 1, none⟩ = some (.int .i64 y) := by rw [HW3]; first | assumption | go_cell | simp [go_sem, *]
  have c3_2 : W3.cell? ⟨w.heap.size, 2, none⟩ = some (.int .i64 z) := by rw [HW3]; first | assumption | go_cell | simp [go_sem, *]
  clear HW3
  have r3_0 := reg_cell c3_0
  have r3_1 := reg_cell c3_1
  have r3_2 := reg_cell c3_2
  simp only [List.take_succ_cons, List.take_zero, List.drop_succ_cons, List.drop_zero]
  have x3_0 : IntKind.i64.wrap (16384 * x) = 16384 * x := IntWalk.i64_in _ (by omega)
  have x3_1 : IntKind.i64.wrap (16384 * y) = 16384 * y := IntWalk.i64_in _ (by omega)
  have x3_2 : (16384 * x).tdiv l = A := HA.out
  have x3_3 : (16384 * y).tdiv l = B := HB.out
  have x3_4 : IntKind.i64.wrap A = A := IntWalk.i64_in _ (by omega)
  have x3_5 : IntKind.i64.wrap B = B := IntWalk.i64_in _ (by omega)
  have x3_6 : (l == 0) = false := beq_eq_false_iff_ne.2 (by omega)
  have x3_7 : l ≠ 0 := by omega
  iterate 12 (refine WL_plain (fun K hK => ?_); go_simp; refine hK _ ?_; clear hK K)
  clear x3_0 x3_1 x3_2 x3_3 x3_4 x3_5 x3_6 x3_7
  refine WL_nil (fun w3 hb3 hf3 => ?_)
  have hB3 : Below w.heap.size w w3 := Below.next hA3 hb3
  have d3_0 := cell_call hb3 c3_0
  have d3_1 := cell_call hb3 c3_1
  have d3_2 := cell_call hb3 c3_2
  clear r3_0 c3_0 r3_1 c3_1 r3_2 c3_2
  have l3_0 := World.block_lt_of_cell? w3 _ d3_0
  have hS3 := hB3.size
  have k1 := oabs_bd a1
  have k2 := oabs_bd b1
  have e1 := u32_or16 (16384 - oabs A + 16384) (-(16384 - oabs B) + 16384) (by omega) (by omega) (by omega) (by omega)
  go_wp2_with (go_at_call 53; refine (oAbs _ (by omega) _).mono ?_; rintro e w9 ⟨rfl, rfl⟩)
  go_ret2
  exact ret_of rfl hB3

set_option maxRecDepth 100000 in
set_option maxHeartbeats 1600000 in
theorem oEnc_NPP (x y z l A B : Int) (hm : mayB (x, y, z) = true) (hx : -16384 ≤ x ∧ x ≤ 16384) (hy : -16384 ≤ y ∧ y ≤ 16384) (hz : -16384 ≤ z ∧ z ≤ 16384) (s0 : x < 0) (s1 : 0 ≤ y) (s2 : 0 ≤ z)
    (HL : Hid (-x + y + z = l)) (l1 : 1 ≤ l) (HA : Hid ((16384 * x).tdiv l = A)) (HB : Hid ((16384 * y).tdiv l = B)) (a1 : -16384 ≤ A ∧ A ≤ 16384) (b1 : -16384 ≤ B ∧ B ≤ 16384) (w : World) :
    Calls Try.prog 16 #[V3 x y z] w (Ret (.tuple #[.int .u32 ((A + 16384) * 65536 + (B + 16384)), .int .i64 0]) w) := by
  have HM := Lib.hid hm; clear hm
  go_enter Try.func16, Try.ntmps16
  go_wp2_with fail
  have hM := (fun w => oMay x y z (by unfold InI; omega) (by unfold InI; omega) (by unfold InI; omega) w)
  rw [HM.out] at hM
  refine (hM _).mono ?_; rintro e w1 ⟨rfl, hb1⟩
  have hB1 : Below w.heap.size w w1 := Below.next (by go_grown) hb1
  have d1_0 : w1.cell? ⟨w.heap.size, 0, none⟩ = some (.int .i64 x) := cell_call hb1 (by first | assumption | go_cell | simp [go_sem])
  have d1_1 : w1.cell? ⟨w.heap.size, 1, none⟩ = some (.int .i64 y) := cell_call hb1 (by first | assumption | go_cell | simp [go_sem])
  have d1_2 : w1.cell? ⟨w.heap.size, 2, none⟩ = some (.int .i64 z) := cell_call hb1 (by first | assumption | go_cell | simp [go_sem])
  have l1_0 := World.block_lt_of_cell? w1 _ d1_0
  have hS1 := hB1.size
  clear hb1
  go_wp2_with fail
  clear hM
  refine wp_region_fresh_gen 12 (by kernel_rfl) (by kernel_rfl) (fun W2 HW2 => ?_)
  intro F2_0 U2_0
  have hA2 : Below w.heap.size w W2 := by rw [HW2]; go_grown
  have c2_0 : W2.cell? ⟨w.heap.size, 0, none⟩ = some (.int .i64 x) := by rw [HW2]; first | assumption | go_cell | simp [go_sem, *]
  have c2_1 : W2.cell? ⟨w.heap.size, 1, none⟩ = some (.int .i64 y) := by rw [HW2]; first | assumption | go_cell | simp [go_sem, *]
  have c2_2 : W2.cell? ⟨w.heap.size, 2, none⟩ = some (.int .i64 z) := by rw [HW2]; first | assumption | go_cell | simp [go_sem, *]
  clear HW2
  have r2_0 := reg_cell c2_0
  have r2_1 := reg_cell c2_1
  have r2_2 := reg_cell c2_2
  simp only [List.take_succ_cons, List.take_zero, List.drop_succ_cons, List.drop_zero]
  have x2_0 : IntKind.i64.wrap (-x + y) = -x + y := IntWalk.i64_in _ (by omega)
  have x2_1 : IntKind.i64.wrap (-x + y + z) = l := (IntWalk.i64_in _ (by omega)).trans HL.out
  iterate 2 (refine WL_plain (fun K hK => ?_); go_simp; refine hK _ ?_; clear hK K)
  refine WL_call (by kernel_rfl) (fun K hK => ?_)
  go_simp
  apply Exists.intro
  refine ⟨fun w1 hb1 hf1 => ?_, hK _ ?_⟩
  · exact (oAbsN _ (by omega) (by omega) _).mono fun _ _ h => h.ret
  clear hK K
  iterate 2 (refine WL_plain (fun K hK => ?_); go_simp; refine hK _ ?_; clear hK K)
  refine WL_call (by kernel_rfl) (fun K hK => ?_)
  go_simp
  apply Exists.intro
  refine ⟨fun w1 hb1 hf1 => ?_, hK _ ?_⟩
  · exact (oAbsP _ (by omega) _).mono fun _ _ h => h.ret
  clear hK K
  iterate 3 (refine WL_plain (fun K hK => ?_); go_simp; refine hK _ ?_; clear hK K)
  refine WL_call (by kernel_rfl) (fun K hK => ?_)
  go_simp
  apply Exists.intro
  refine ⟨fun w1 hb1 hf1 => ?_, hK _ ?_⟩
  · exact (oAbsP _ (by omega) _).mono fun _ _ h => h.ret
  clear hK K
  iterate 2 (refine WL_plain (fun K hK => ?_); go_simp; refine hK _ ?_; clear hK K)
  clear x2_0 x2_1
  refine WL_nil (fun w2 hb2 hf2 => ?_)
  have hB2 : Below w.heap.size w w2 := Below.next hA2 hb2
  have d2_0 := cell_call hb2 c2_0
  have d2_1 := cell_call hb2 c2_1
  have d2_2 := cell_call hb2 c2_2
  clear r2_0 c2_0 r2_1 c2_1 r2_2 c2_2
  have l2_0 := World.block_lt_of_cell? w2 _ d2_0
  have hS2 := hB2.size
  go_wp2_with fail
  refine wp_region_fresh_gen 12 (by kernel_rfl) (by kernel_rfl) (fun W3 HW3 => ?_)
  intro F3_0 U3_0
  have hA3 : Below w.heap.size w W3 := by rw [HW3]; go_grown
  have c3_0 : W3.cell? ⟨w.heap.size, 0, none⟩ = some (.int .i64 x) := by rw [HW3]; first | assumption | go_cell | simp [go_sem, *]
  have c3_1 : W3.cell? ⟨w.heap.size, 1, none⟩ = some (.int .i64 y) := by rw [HW3]; first | assumption | go_cell | simp [go_sem, *]
  have c3_2 : W3.cell? ⟨w.heap.size, 2, none⟩ = some (.int .i64 z) := by rw [HW3]; first | assumption | go_cell | simp [go_sem, *]
  clear HW3
  have r3_0 := reg_cell c3_0
  have r3_1 := reg_cell c3_1
  have r3_2 := reg_cell c3_2
  simp only [List.take_succ_cons, List.take_zero, List.drop_succ_cons, List.drop_zero]
  have x3_0 : IntKind.i64.wrap (16384 * x) = 16384 * x := IntWalk.i64_in _ (by omega)
  have x3_1 : IntKind.i64.wrap (16384 * y) = 16384 * y := IntWalk.i64_in _ (by omega)
  have x3_2 : (16384 * x).tdiv l = A := HA.out
  have x3_3 : (16384 * y).tdiv l = B := HB.out
  have x3_4 : IntKind.i64.wrap A = A := IntWalk.i64_in _ (by omega)
  have x3_5 : IntKind.i64.wrap B = B := IntWalk.i64_in _ (by omega)
  have x3_6 : (l == 0) = false := beq_eq_false_iff_ne.2 (by omega)
  have x3_7 : l ≠ 0 := by omega
  iterate 12 (refine WL_plain (fun K hK => ?_); go_simp; refine hK _ ?_; clear hK K)
  clear x3_0 x3_1 x3_2 x3_3 x3_4 x3_5 x3_6 x3_7
  refine WL_nil (fun w3 hb3 hf3 => ?_)
  have hB3 : Below w.heap.size w w3 := Below.next hA3 hb3
  have d3_0 := cell_call hb3 c3_0
  have d3_1 := cell_call hb3 c3_1
  have d3_2 := cell_call hb3 c3_2
  clear r3_0 c3_0 r3_1 c3_1 r3_2 c3_2
  have l3_0 := World.block_lt_of_cell? w3 _ d3_0
  have hS3 := hB3.size
  have k1 := oabs_bd a1
  have k2 := oabs_bd b1
  have e1 := u32_or16 (B + 16384) (A + 16384) (by omega) (by omega) (by omega) (by omega)
  go_wp2_with (go_at_call 53; refine (oAbs _ (by omega) _).mono ?_; rintro e w9 ⟨rfl, rfl⟩)
  go_ret2
  exact ret_of rfl hB3

set_option maxRecDepth 100000 in
set_option maxHeartbeats 1600000 in
theorem oEnc_PNN (x y z l A B : Int) (hm : mayB (x, y, z) = true) (hx : -16384 ≤ x ∧ x ≤ 16384) (hy : -16384 ≤ y ∧ y ≤ 16384) (hz : -16384 ≤ z ∧ z ≤ 16384) (s0 : 0 ≤ x) (s1 : y < 0) (s2 : z < 0)
    (HL : Hid (x + -y + -z = l)) (l1 : 1 ≤ l) (HA : Hid ((16384 * x).tdiv l = A)) (HB : Hid ((16384 * y).tdiv l = B)) (a1 : -16384 ≤ A ∧ A ≤ 16384) (b1 : -16384 ≤ B ∧ B ≤ 16384) (w : World) :
    Calls Try.prog 16 #[V3 x y z] w (Ret (.tuple #[.int .u32 ((16384 - oabs B + 16384) * 65536 + (-(16384 - oabs A) + 16384)), .int .i64 0]) w) := by
  have HM := Lib.hid hm; clear hm
  go_enter Try.func16, Try.ntmps16
  go_wp2_with fail
  have hM := (fun w => oMay x y z (by unfold InI; omega) (by unfold InI; omega) (by unfold InI; omega) w)
  rw [HM.out] at hM
  refine (hM _).mono ?_; rintro e w1 ⟨rfl, hb1⟩
  have hB1 : Below w.heap.size w w1 := Below.next (by go_grown) hb1
  have d1_0 : w1.cell? ⟨w.heap.size, 0, none⟩ = some (.int .i64 x) := cell_call hb1 (by first | assumption | go_cell | simp [go_sem])
  have d1_1 : w1.cell? ⟨w.heap.size, 1, none⟩ = some (.int .i64 y) := cell_call hb1 (by first | assumption | go_cell | simp [go_sem])
  have d1_2 : w1.cell? ⟨w.heap.size, 2, none⟩ = some (.int .i64 z) := cell_call hb1 (by first | assumption | go_cell | simp [go_sem])
  have l1_0 := World.block_lt_of_cell? w1 _ d1_0
  have hS1 := hB1.size
  clear hb1
  go_wp2_with fail
  clear hM
  refine wp_region_fresh_gen 12 (by kernel_rfl) (by kernel_rfl) (fun W2 HW2 => ?_)
  intro F2_0 U2_0
  have hA2 : Below w.heap.size w W2 := by rw [HW2]; go_grown
  have c2_0 : W2.cell? ⟨w.heap.size, 0, none⟩ = some (.int .i64 x) := by rw [HW2]; first | assumption | go_cell | simp [go_sem, *]
  have c2_1 : W2.cell? ⟨w.heap.size, 1, none⟩ = some (.int .i64 y) := by rw [HW2]; first | assumption | go_cell | simp [go_sem, *]
  have c2_2 : W2.cell? ⟨w.heap.size, 2, none⟩ = some (.int .i64 z) := by rw [HW2]; first | assumption | go_cell | simp [go_sem, *]
  clear HW2
  have r2_0 := reg_cell c2_0
  have r2_1 := reg_cell c2_1
  have r2_2 := reg_cell c2_2
  simp only [List.take_succ_cons, List.take_zero, List.drop_succ_cons, List.drop_zero]
  have x2_0 : IntKind.i64.wrap (x + -y) = x + -y := IntWalk.i64_in _ (by omega)
  have x2_1 : IntKind.i64.wrap (x + -y + -z) = l := (IntWalk.i64_in _ (by omega)).trans HL.out
  iterate 2 (refine WL_plain (fun K hK => ?_); go_simp; refine hK _ ?_; clear hK K)
  refine WL_call (by kernel_rfl) (fun K hK => ?_)
  go_simp
  apply Exists.intro
  refine ⟨fun w1 hb1 hf1 => ?_, hK _ ?_⟩
  · exact (oAbsP _ (by omega) _).mono fun _ _ h => h.ret
  clear hK K
  iterate 2 (refine WL_plain (fun K hK => ?_); go_simp; refine hK _ ?_; clear hK K)
  refine WL_call (by kernel_rfl) (fun K hK => ?_)
  go_simp
  apply Exists.intro
  refine ⟨fun w1 hb1 hf1 => ?_, hK _ ?_⟩
  · exact (oAbsN _ (by omega) (by omega) _).mono fun _ _ h => h.ret
  clear hK K
  iterate 3 (refine WL_plain (fun K hK => ?_); go_simp; refine hK _ ?_; clear hK K)
  refine WL_call (by kernel_rfl) (fun K hK => ?_)
  go_simp
  apply Exists.intro
  refine ⟨fun w1 hb1 hf1 => ?_, hK _ ?_⟩
  · exact (oAbsN _ (by omega) (by omega) _).mono fun _ _ h => h.ret
  clear hK K
  iterate 2 (refine WL_plain (fun K hK => ?_); go_simp; refine hK _ ?_; clear hK K)
  clear x2_0 x2_1
  refine WL_nil (fun w2 hb2 hf2 => ?_)
  have hB2 : Below w.heap.size w w2 := Below.next hA2 hb2
  have d2_0 := cell_call hb2 c2_0
  have d2_1 := cell_call hb2 c2_1
  have d2_2 := cell_call hb2 c2_2
  clear r2_0 c2_0 r2_1 c2_1 r2_2 c2_2
  have l2_0 := World.block_lt_of_cell? w2 _ d2_0
  have hS2 := hB2.size
  go_wp2_with fail
  refine wp_region_fresh_gen 12 (by kernel_rfl) (by kernel_rfl) (fun W3 HW3 => ?_)
  intro F3_0 U3_0
  have hA3 : Below w.heap.size w W3 := by rw [HW3]; go_grown
  have c3_0 : W3.cell? ⟨w.heap.size, 0, none⟩ = some (.int .i64 x) := by rw [HW3]; first | assumption | go_cell | simp [go_sem, *]
  have c3_1 : W3.cell? ⟨w.heap.size, 1, none⟩ = some (.int .i64 y) := by rw [HW3]; first | assumption | go_cell | simp [go_sem, *]
  have c3_2 : W3.cell? ⟨w.heap.size, 2, none⟩ = some (.int .i64 z) := by rw [HW3]; first | assumption | go_cell | simp [go_sem, *]
  clear HW3
  have r3_0 := reg_cell c3_0
  have r3_1 := reg_cell c3_1
  have r3_2 := reg_cell c3_2
  simp only [List.take_succ_cons, List.take_zero, List.drop_succ_cons, List.drop_zero]
  have x3_0 : IntKind.i64.wrap (16384 * x) = 16384 * x := IntWalk.i64_in _ (by omega)
  have x3_1 : IntKind.i64.wrap (16384 * y) = 16384 * y := IntWalk.i64_in _ (by omega)
  have x3_2 : (16384 * x).tdiv l = A := HA.out
  have x3_3 : (16384 * y).tdiv l = B := HB.out
  have x3_4 : IntKind.i64.wrap A = A := IntWalk.i64_in _ (by omega)
  have x3_5 : IntKind.i64.wrap B = B := IntWalk.i64_in _ (by omega)
  have x3_6 : (l == 0) = false := beq_eq_false_iff_ne.2 (by omega)
  have x3_7 : l ≠ 0 := by omega
  iterate 12 (refine WL_plain (fun K hK => ?_); go_simp; refine hK _ ?_; clear hK K)
  clear x3_0 x3_1 x3_2 x3_3 x3_4 x3_5 x3_6 x3_7
  refine WL_nil (fun w3 hb3 hf3 => ?_)
  have hB3 : Below w.heap.size w w3 := Below.next hA3 hb3
  have d3_0 := cell_call hb3 c3_0
  have d3_1 := cell_call hb3 c3_1
  have d3_2 := cell_call hb3 c3_2
  clear r3_0 c3_0 r3_1 c3_1 r3_2 c3_2
  have l3_0 := World.block_lt_of_cell? w3 _ d3_0
  have hS3 := hB3.size
  have k1 := oabs_bd a1
  have k2 := oabs_bd b1
  have e1 := u32_or16 (-(16384 - oabs A) + 16384) (16384 - oabs B + 16384) (by omega) (by omega) (by omega) (by omega)
  go_wp2_with (go_at_call 53; refine (oAbs _ (by omega) _).mono ?_; rintro e w9 ⟨rfl, rfl⟩)
  go_ret2
  exact ret_of rfl hB3

set_option maxRecDepth 100000 in
set_option maxHeartbeats 1600000 in
theorem oEnc_PNP (x y z l A B : Int) (hm : mayB (x, y, z) = true) (hx : -16384 ≤ x ∧ x ≤ 16384) (hy : -16384 ≤ y ∧ y ≤ 16384) (hz : -16384 ≤ z ∧ z ≤ 16384) (s0 : 0 ≤ x) (s1 : y < 0) (s2 : 0 ≤ z)
    (HL : Hid (x + -y + z = l)) (l1 : 1 ≤ l) (HA : Hid ((16384 * x).tdiv l = A)) (HB : Hid ((16384 * y).tdiv l = B)) (a1 : -16384 ≤ A ∧ A ≤ 16384) (b1 : -16384 ≤ B ∧ B ≤ 16384) (w : World) :
    Calls Try.prog 16 #[V3 x y z] w (Ret (.tuple #[.int .u32 ((A + 16384) * 65536 + (B + 16384)), .int .i64 0]) w) := by
  have HM := Lib.hid hm; clear hm
  go_enter Try.func16, Try.ntmps16
  go_wp2_with fail
  have hM := (fun w => oMay x y z (by unfold InI; omega) (by unfold InI; omega) (by unfold InI; omega) w)
  rw [HM.out] at hM
  refine (hM _).mono ?_; rintro e w1 ⟨rfl, hb1⟩
  have hB1 : Below w.heap.size w w1 := Below.next (by go_grown) hb1
  have d1_0 : w1.cell? ⟨w.heap.size, 0, none⟩ = some (.int .i64 x) := cell_call hb1 (by first | assumption | go_cell | simp [go_sem])
  have d1_1 : w1.cell? ⟨w.heap.size, 1, none⟩ = some (.int .i64 y) := cell_call hb1 (by first | assumption | go_cell | simp [go_sem])
  have d1_2 : w1.cell? ⟨w.heap.size, 2, none⟩ = some (.int .i64 z) := cell_call hb1 (by first | assumption | go_cell | simp [go_sem])
  have l1_0 := World.block_lt_of_cell? w1 _ d1_0
  have hS1 := hB1.size
  clear hb1
  go_wp2_with fail
  clear hM
  refine wp_region_fresh_gen 12 (by kernel_rfl) (by kernel_rfl) (fun W2 HW2 => ?_)
  intro F2_0 U2_0
  have hA2 : Below w.heap.size w W2 := by rw [HW2]; go_grown
  have c2_0 : W2.cell? ⟨w.heap.size, 0, none⟩ = some (.int .i64 x) := by rw [HW2]; first | assumption | go_cell | simp [go_sem, *]
  have c2_1 : W2.cell? ⟨w.heap.size, 1, none⟩ = some (.int .i64 y) := by rw [HW2]; first | assumption | go_cell | simp [go_sem, *]
  have c2_2 : W2.cell? ⟨w.heap.size, 2, none⟩ = some (.int .i64 z) := by rw [HW2]; first | assumption | go_cell | simp [go_sem, *]
  clear HW2
  have r2_0 := reg_cell c2_0
  have r2_1 := reg_cell c2_1
  have r2_2 := reg_cell c2_2
  simp only [List.take_succ_cons, List.take_zero, List.drop_succ_cons, List.drop_zero]
  have x2_0 : IntKind.i64.wrap (x + -y) = x + -y := IntWalk.i64_in _ (by omega)
  have x2_1 : IntKind.i64.wrap (x + -y + z) = l := (IntWalk.i64_in _ (by omega)).trans HL.out
  iterate 2 (refine WL_plain (fun K hK => ?_); go_simp; refine hK _ ?_; clear hK K)
  refine WL_call (by kernel_rfl) (fun K hK => ?_)
  go_simp
  apply Exists.intro
  refine ⟨fun w1 hb1 hf1 => ?_, hK _ ?_⟩
  · exact (oAbsP _ (by omega) _).mono fun _ _ h => h.ret
  clear hK K
  iterate 2 (refine WL_plain (fun K hK => ?_); go_simp; refine hK _ ?_; clear hK K)
  refine WL_call (by kernel_rfl) (fun K hK => ?_)
  go_simp
  apply Exists.intro
  refine ⟨fun w1 hb1 hf1 => ?_, hK _ ?_⟩
  · exact (oAbsN _ (by omega) (by omega) _).mono fun _ _ h => h.ret
  clear hK K
  iterate 3 (refine WL_plain (fun K hK => ?_); go_simp; refine hK _ ?_; clear hK K)
  refine WL_call (by kernel_rfl) (fun K hK => ?_)
  go_simp
  apply Exists.intro
  refine ⟨fun w1 hb1 hf1 => ?_, hK _ ?_⟩
  · exact (oAbsP _ (by omega) _).mono fun _ _ h => h.ret
  clear hK K
  iterate 2 (refine WL_plain (fun K hK => ?_); go_simp; refine hK _ ?_; clear hK K)
  clear x2_0 x2_1
  refine WL_nil (fun w2 hb2 hf2 => ?_)
  have hB2 : Below w.heap.size w w2 := Below.next hA2 hb2
  have d2_0 := cell_call hb2 c2_0
  have d2_1 := cell_call hb2 c2_1
  have d2_2 := cell_call hb2 c2_2
  clear r2_0 c2_0 r2_1 c2_1 r2_2 c2_2
  have l2_0 := World.block_lt_of_cell? w2 _ d2_0
  have hS2 := hB2.size
  go_wp2_with fail
  refine wp_region_fresh_gen 12 (by kernel_rfl) (by kernel_rfl) (fun W3 HW3 => ?_)
  intro F3_0 U3_0
  have hA3 : Below w.heap.size w W3 := by rw [HW3]; go_grown
  have c3_0 : W3.cell? ⟨w.heap.size, 0, none⟩ = some (.int .i64 x) := by rw [HW3]; first | assumption | go_cell | simp [go_sem, *]
  have c3_1 : W3.cell? ⟨w.heap.size, 1, none⟩ = some (.int .i64 y) := by rw [HW3]; first | assumption | go_cell | simp [go_sem, *]
  have c3_2 : W3.cell? ⟨w.heap.size, 2, none⟩ = some (.int .i64 z) := by rw [HW3]; first | assumption | go_cell | simp [go_sem, *]
  clear HW3
  have r3_0 := reg_cell c3_0
  have r3_1 := reg_cell c3_1
  have r3_2 := reg_cell c3_2
  simp only [List.take_succ_cons, List.take_zero, List.drop_succ_cons, List.drop_zero]
  have x3_0 : IntKind.i64.wrap (16384 * x) = 16384 * x := IntWalk.i64_in _ (by omega)
  have x3_1 : IntKind.i64.wrap (16384 * y) = 16384 * y := IntWalk.i64_in _ (by omega)
  have x3_2 : (16384 * x).tdiv l = A := HA.out
  have x3_3 : (16384 * y).tdiv l = B := HB.out
  have x3_4 : IntKind.i64.wrap A = A := IntWalk.i64_in _ (by omega)
  have x3_5 : IntKind.i64.wrap B = B := IntWalk.i64_in _ (by omega)
  have x3_6 : (l == 0) = false := beq_eq_false_iff_ne.2 (by omega)
  have x3_7 : l ≠ 0 := by omega
  iterate 12 (refine WL_plain (fun K hK => ?_); go_simp; refine hK _ ?_; clear hK K)
  clear x3_0 x3_1 x3_2 x3_3 x3_4 x3_5 x3_6 x3_7
  refine WL_nil (fun w3 hb3 hf3 => ?_)
  have hB3 : Below w.heap.size w w3 := Below.next hA3 hb3
  have d3_0 := cell_call hb3 c3_0
  have d3_1 := cell_call hb3 c3_1
  have d3_2 := cell_call hb3 c3_2
  clear r3_0 c3_0 r3_1 c3_1 r3_2 c3_2
  have l3_0 := World.block_lt_of_cell? w3 _ d3_0
  have hS3 := hB3.size
  have k1 := oabs_bd a1
  have k2 := oabs_bd b1
  have e1 := u32_or16 (B + 16384) (A + 16384) (by omega) (by omega) (by omega) (by omega)
  go_wp2_with (go_at_call 53; refine (oAbs _ (by omega) _).mono ?_; rintro e w9 ⟨rfl, rfl⟩)
  go_ret2
  exact ret_of rfl hB3

set_option maxRecDepth 100000 in
set_option maxHeartbeats 1600000 in
theorem oEnc_PPN (x y z l A B : Int) (hm : mayB (x, y, z) = true) (hx : -16384 ≤ x ∧ x ≤ 16384) (hy : -16384 ≤ y ∧ y ≤ 16384) (hz : -16384 ≤ z ∧ z ≤ 16384) (s0 : 0 ≤ x) (s1 : 0 ≤ y) (s2 : z < 0)
    (HL : Hid (x + y + -z = l)) (l1 : 1 ≤ l) (HA : Hid ((16384 * x).tdiv l = A)) (HB : Hid ((16384 * y).tdiv l = B)) (a1 : -16384 ≤ A ∧ A ≤ 16384) (b1 : -16384 ≤ B ∧ B ≤ 16384) (w : World) :
    Calls Try.prog 16 #[V3 x y z] w (Ret (.tuple #[.int .u32 ((16384 - oabs B + 16384) * 65536 + (16384 - oabs A + 16384)), .int .i64 0]) w) := by
  have HM := Lib.hid hm; clear hm
  go_enter Try.func16, Try.ntmps16
  go_wp2_with fail
  have hM := (fun w => oMay x y z (by unfold InI; omega) (by unfold InI; omega) (by unfold InI; omega) w)
  rw [HM.out] at hM
  refine (hM _).mono ?_; rintro e w1 ⟨rfl, hb1⟩
  have hB1 : Below w.heap.size w w1 := Below.next (by go_grown) hb1
  have d1_0 : w1.cell? ⟨w.heap.size, 0, none⟩ = some (.int .i64 x) := cell_call hb1 (by first | assumption | go_cell | simp [go_sem])
  have d1_1 : w1.cell? ⟨w.heap.size, 1, none⟩ = some (.int .i64 y) := cell_call hb1 (by first | assumption | go_cell | simp [go_sem])
  have d1_2 : w1.cell? ⟨w.heap.size, 2, none⟩ = some (.int .i64 z) := cell_call hb1 (by first | assumption | go_cell | simp [go_sem])
  have l1_0 := World.block_lt_of_cell? w1 _ d1_0
  have hS1 := hB1.size
  clear hb1
  go_wp2_with fail
  clear hM
  refine wp_region_fresh_gen 12 (by kernel_rfl) (by kernel_rfl) (fun W2 HW2 => ?_)
  intro F2_0 U2_0
  have hA2 : Below w.heap.size w W2 := by rw [HW2]; go_grown
  have c2_0 : W2.cell? ⟨w.heap.size, 0, none⟩ = some (.int .i64 x) := by rw [HW2]; first | assumption | go_cell | simp [go_sem, *]
  have c2_1 : W2.cell? ⟨w.heap.size, 1, none⟩ = some (.int .i64 y) := by rw [HW2]; first | assumption | go_cell | simp [go_sem, *]
  have c2_2 : W2.cell? ⟨w.heap.size, 2, none⟩ = some (.int .i64 z) := by rw [HW2]; first | assumption | go_cell | simp [go_sem, *]
  clear HW2
  have r2_0 := reg_cell c2_0
  have r2_1 := reg_cell c2_1
  have r2_2 := reg_cell c2_2
  simp only [List.take_succ_cons, List.take_zero, List.drop_succ_cons, List.drop_zero]
  have x2_0 : IntKind.i64.wrap (x + y) = x + y := IntWalk.i64_in _ (by omega)
  have x2_1 : IntKind.i64.wrap (x + y + -z) = l := (IntWalk.i64_in _ (by omega)).trans HL.out
  iterate 2 (refine WL_plain (fun K hK => ?_); go_simp; refine hK _ ?_; clear hK K)
  refine WL_call (by kernel_rfl) (fun K hK => ?_)
  go_simp
  apply Exists.intro
  refine ⟨fun w1 hb1 hf1 => ?_, hK _ ?_⟩
  · exact (oAbsP _ (by omega) _).mono fun _ _ h => h.ret
  clear hK K
  iterate 2 (refine WL_plain (fun K hK => ?_); go_simp; refine hK _ ?_; clear hK K)
  refine WL_call (by kernel_rfl) (fun K hK => ?_)
  go_simp
  apply Exists.intro
  refine ⟨fun w1 hb1 hf1 => ?_, hK _ ?_⟩
  · exact (oAbsP _ (by omega) _).mono fun _ _ h => h.ret
  clear hK K
  iterate 3 (refine WL_plain (fun K hK => ?_); go_simp; refine hK _ ?_; clear hK K)
  refine WL_call (by kernel_rfl) (fun K hK => ?_)
  go_simp
  apply Exists.intro
  refine ⟨fun w1 hb1 hf1 => ?_, hK _ ?_⟩
  · exact (oAbsN _ (by omega) (by omega) _).mono fun _ _ h => h.ret
  clear hK K
  iterate 2 (refine WL_plain (fun K hK => ?_); go_simp; refine hK _ ?_; clear hK K)
  clear x2_0 x2_1
  refine WL_nil (fun w2 hb2 hf2 => ?_)
  have hB2 : Below w.heap.size w w2 := Below.next hA2 hb2
  have d2_0 := cell_call hb2 c2_0
  have d2_1 := cell_call hb2 c2_1
  have d2_2 := cell_call hb2 c2_2
  clear r2_0 c2_0 r2_1 c2_1 r2_2 c2_2
  have l2_0 := World.block_lt_of_cell? w2 _ d2_0
  have hS2 := hB2.size
  go_wp2_with fail
  refine wp_region_fresh_gen 12 (by kernel_rfl) (by kernel_rfl) (fun W3 HW3 => ?_)
  intro F3_0 U3_0
  have hA3 : Below w.heap.size w W3 := by rw [HW3]; go_grown
  have c3_0 : W3.cell? ⟨w.heap.size, 0, none⟩ = some (.int .i64 x) := by rw [HW3]; first | assumption | go_cell | simp [go_sem, *]
  have c3_1 : W3.cell? ⟨w.heap.size, 1, none⟩ = some (.int .i64 y) := by rw [HW3]; first | assumption | go_cell | simp [go_sem, *]
  have c3_2 : W3.cell? ⟨w.heap.size, 2, none⟩ = some (.int .i64 z) := by rw [HW3]; first | assumption | go_cell | simp [go_sem, *]
  clear HW3
  have r3_0 := reg_cell c3_0
  have r3_1 := reg_cell c3_1
  have r3_2 := reg_cell c3_2
  simp only [List.take_succ_cons, List.take_zero, List.drop_succ_cons, List.drop_zero]
  have x3_0 : IntKind.i64.wrap (16384 * x) = 16384 * x := IntWalk.i64_in _ (by omega)
  have x3_1 : IntKind.i64.wrap (16384 * y) = 16384 * y := IntWalk.i64_in _ (by omega)
  have x3_2 : (16384 * x).tdiv l = A := HA.out
  have x3_3 : (16384 * y).tdiv l = B := HB.out
  have x3_4 : IntKind.i64.wrap A = A := IntWalk.i64_in _ (by omega)
  have x3_5 : IntKind.i64.wrap B = B := IntWalk.i64_in _ (by omega)
  have x3_6 : (l == 0) = false := beq_eq_false_iff_ne.2 (by omega)
  have x3_7 : l ≠ 0 := by omega
  iterate 12 (refine WL_plain (fun K hK => ?_); go_simp; refine hK _ ?_; clear hK K)
  clear x3_0 x3_1 x3_2 x3_3 x3_4 x3_5 x3_6 x3_7
  refine WL_nil (fun w3 hb3 hf3 => ?_)
  have hB3 : Below w.heap.size w w3 := Below.next hA3 hb3
  have d3_0 := cell_call hb3 c3_0
  have d3_1 := cell_call hb3 c3_1
  have d3_2 := cell_call hb3 c3_2
  clear r3_0 c3_0 r3_1 c3_1 r3_2 c3_2
  have l3_0 := World.block_lt_of_cell? w3 _ d3_0
  have hS3 := hB3.size
  have k1 := oabs_bd a1
  have k2 := oabs_bd b1
  have e1 := u32_or16 (16384 - oabs A + 16384) (16384 - oabs B + 16384) (by omega) (by omega) (by omega) (by omega)
  go_wp2_with (go_at_call 53; refine (oAbs _ (by omega) _).mono ?_; rintro e w9 ⟨rfl, rfl⟩)
  go_ret2
  exact ret_of rfl hB3

set_option maxRecDepth 100000 in
set_option maxHeartbeats 1600000 in
theorem oEnc_PPP (x y z l A B : Int) (hm : mayB (x, y, z) = true) (hx : -16384 ≤ x ∧ x ≤ 16384) (hy : -16384 ≤ y ∧ y ≤ 16384) (hz : -16384 ≤ z ∧ z ≤ 16384) (s0 : 0 ≤ x) (s1 : 0 ≤ y) (s2 : 0 ≤ z)
    (HL : Hid (x + y + z = l)) (l1 : 1 ≤ l) (HA : Hid ((16384 * x).tdiv l = A)) (HB : Hid ((16384 * y).tdiv l = B)) (a1 : -16384 ≤ A ∧ A ≤ 16384) (b1 : -16384 ≤ B ∧ B ≤ 16384) (w : World) :
    Calls Try.prog 16 #[V3 x y z] w (Ret (.tuple #[.int .u32 ((A + 16384) * 65536 + (B + 16384)), .int .i64 0]) w) := by
  have HM := Lib.hid hm; clear hm
  go_enter Try.func16, Try.ntmps16
  go_wp2_with fail
  have hM := (fun w => oMay x y z (by unfold InI; omega) (by unfold InI; omega) (by unfold InI; omega) w)
  rw [HM.out] at hM
  refine (hM _).mono ?_; rintro e w1 ⟨rfl, hb1⟩
  have hB1 : Below w.heap.size w w1 := Below.next (by go_grown) hb1
  have d1_0 : w1.cell? ⟨w.heap.size, 0, none⟩ = some (.int .i64 x) := cell_call hb1 (by first | assumption | go_cell | simp [go_sem])
  have d1_1 : w1.cell? ⟨w.heap.size, 1, none⟩ = some (.int .i64 y) := cell_call hb1 (by first | assumption | go_cell | simp [go_sem])
  have d1_2 : w1.cell? ⟨w.heap.size, 2, none⟩ = some (.int .i64 z) := cell_call hb1 (by first | assumption | go_cell | simp [go_sem])
  have l1_0 := World.block_lt_of_cell? w1 _ d1_0
  have hS1 := hB1.size
  clear hb1
  go_wp2_with fail
  clear hM
  refine wp_region_fresh_gen 12 (by kernel_rfl) (by kernel_rfl) (fun W2 HW2 => ?_)
  intro F2_0 U2_0
  have hA2 : Below w.heap.size w W2 := by rw [HW2]; go_grown
  have c2_0 : W2.cell? ⟨w.heap.size, 0, none⟩ = some (.int .i64 x) := by rw [HW2]; first | assumption | go_cell | simp [go_sem, *]
  have c2_1 : W2.cell? ⟨w.heap.size, 1, none⟩ = some (.int .i64 y) := by rw [HW2]; first | assumption | go_cell | simp [go_sem, *]
  have c2_2 : W2.cell? ⟨w.heap.size, 2, none⟩ = some (.int .i64 z) := by rw [HW2]; first | assumption | go_cell | simp [go_sem, *]
  clear HW2
  have r2_0 := reg_cell c2_0
  have r2_1 := reg_cell c2_1
  have r2_2 := reg_cell c2_2
  simp only [List.take_succ_cons, List.take_zero, List.drop_succ_cons, List.drop_zero]
  have x2_0 : IntKind.i64.wrap (x + y) = x + y := IntWalk.i64_in _ (by omega)
  have x2_1 : IntKind.i64.wrap (x + y + z) = l := (IntWalk.i64_in _ (by omega)).trans HL.out
  iterate 2 (refine WL_plain (fun K hK => ?_); go_simp; refine hK _ ?_; clear hK K)
  refine WL_call (by kernel_rfl) (fun K hK => ?_)
  go_simp
  apply Exists.intro
  refine ⟨fun w1 hb1 hf1 => ?_, hK _ ?_⟩
  · exact (oAbsP _ (by omega) _).mono fun _ _ h => h.ret
  clear hK K
  iterate 2 (refine WL_plain (fun K hK => ?_); go_simp; refine hK _ ?_; clear hK K)
  refine WL_call (by kernel_rfl) (fun K hK => ?_)
  go_simp
  apply Exists.intro
  refine ⟨fun w1 hb1 hf1 => ?_, hK _ ?_⟩
  · exact (oAbsP _ (by omega) _).mono fun _ _ h => h.ret
  clear hK K
  iterate 3 (refine WL_plain (fun K hK => ?_); go_simp; refine hK _ ?_; clear hK K)
  refine WL_call (by kernel_rfl) (fun K hK => ?_)
  go_simp
  apply Exists.intro
  refine ⟨fun w1 hb1 hf1 => ?_, hK _ ?_⟩
  · exact (oAbsP _ (by omega) _).mono fun _ _ h => h.ret
  clear hK K
  iterate 2 (refine WL_plain (fun K hK => ?_); go_simp; refine hK _ ?_; clear hK K)
  clear x2_0 x2_1
  refine WL_nil (fun w2 hb2 hf2 => ?_)
  have hB2 : Below w.heap.size w w2 := Below.next hA2 hb2
  have d2_0 := cell_call hb2 c2_0
  have d2_1 := cell_call hb2 c2_1
  have d2_2 := cell_call hb2 c2_2
  clear r2_0 c2_0 r2_1 c2_1 r2_2 c2_2
  have l2_0 := World.block_lt_of_cell? w2 _ d2_0
  have hS2 := hB2.size
  go_wp2_with fail
  refine wp_region_fresh_gen 12 (by kernel_rfl) (by kernel_rfl) (fun W3 HW3 => ?_)
  intro F3_0 U3_0
  have hA3 : Below w.heap.size w W3 := by rw [HW3]; go_grown
  have c3_0 : W3.cell? ⟨w.heap.size, 0, none⟩ = some (.int .i64 x) := by rw [HW3]; first | assumption | go_cell | simp [go_sem, *]
  have c3_1 : W3.cell? ⟨w.heap.size, 1, none⟩ = some (.int .i64 y) := by rw [HW3]; first | assumption | go_cell | simp [go_sem, *]
  have c3_2 : W3.cell? ⟨w.heap.size, 2, none⟩ = some (.int .i64 z) := by rw [HW3]; first | assumption | go_cell | simp [go_sem, *]
  clear HW3
  have r3_0 := reg_cell c3_0
  have r3_1 := reg_cell c3_1
  have r3_2 := reg_cell c3_2
  simp only [List.take_succ_cons, List.take_zero, List.drop_succ_cons, List.drop_zero]
  have x3_0 : IntKind.i64.wrap (16384 * x) = 16384 * x := IntWalk.i64_in _ (by omega)
  have x3_1 : IntKind.i64.wrap (16384 * y) = 16384 * y := IntWalk.i64_in _ (by omega)
  have x3_2 : (16384 * x).tdiv l = A := HA.out
  have x3_3 : (16384 * y).tdiv l = B := HB.out
  have x3_4 : IntKind.i64.wrap A = A := IntWalk.i64_in _ (by omega)
  have x3_5 : IntKind.i64.wrap B = B := IntWalk.i64_in _ (by omega)
  have x3_6 : (l == 0) = false := beq_eq_false_iff_ne.2 (by omega)
  have x3_7 : l ≠ 0 := by omega
  iterate 12 (refine WL_plain (fun K hK => ?_); go_simp; refine hK _ ?_; clear hK K)
  clear x3_0 x3_1 x3_2 x3_3 x3_4 x3_5 x3_6 x3_7
  refine WL_nil (fun w3 hb3 hf3 => ?_)
  have hB3 : Below w.heap.size w w3 := Below.next hA3 hb3
  have d3_0 := cell_call hb3 c3_0
  have d3_1 := cell_call hb3 c3_1
  have d3_2 := cell_call hb3 c3_2
  clear r3_0 c3_0 r3_1 c3_1 r3_2 c3_2
  have l3_0 := World.block_lt_of_cell? w3 _ d3_0
  have hS3 := hB3.size
  have k1 := oabs_bd a1
  have k2 := oabs_bd b1
  have e1 := u32_or16 (B + 16384) (A + 16384) (by omega) (by omega) (by omega) (by omega)
  go_wp2_with (go_at_call 53; refine (oAbs _ (by omega) _).mono ?_; rintro e w9 ⟨rfl, rfl⟩)
  go_ret2
  exact ret_of rfl hB3

end Go.Proofs.Ytbfgmedjogjkeaa
