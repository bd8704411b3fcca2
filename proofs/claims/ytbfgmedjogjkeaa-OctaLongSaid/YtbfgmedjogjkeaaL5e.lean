/- Walk: the law OctaLong. -/
import Derived.Test.YtbfgmedjogjkeaaL5b
namespace Go.Proofs.Ytbfgmedjogjkeaa
open Go.RowKit Go.Sort
set_option linter.unusedVariables false
set_option linter.unusedSimpArgs false

theorem qpart_top {x m : Int} (hm : 1 ≤ m) (hm2 : m ≤ 9223372036854775807) (hx : InI x) (h : fabs x = m) : oabs (qpart x m) = 16384 := by
  rw [fabs_val hx] at h
  unfold qpart
  have e1 : m * 16384 / m = 16384 := by rw [Int.mul_comm, Int.mul_ediv_cancel _ (by omega)]
  have e2 : -m * 16384 / m = -16384 := by rw [show -m * 16384 = -16384 * m by omega, Int.mul_ediv_cancel _ (by omega)]
  split at h
  · split at h
    · rename_i s
      subst s h
      decide
    · have : x = -m := by omega
      rw [this, e2]
      decide
  · rw [h, e1]
    decide
theorem quant_top {v : T3} (hv : InV v) (h : vmost v ≠ 0) : ((-16384 ≤ (quant v).1 ∧ (quant v).1 ≤ 16384) ∧ (-16384 ≤ (quant v).2.1 ∧ (quant v).2.1 ≤ 16384) ∧ (-16384 ≤ (quant v).2.2 ∧ (quant v).2.2 ≤ 16384)) ∧ max (oabs (quant v).1) (max (oabs (quant v).2.1) (oabs (quant v).2.2)) = 16384 := by
  have hb := vmost_bd hv
  have a0 := (qmd hv.1 (show 1 ≤ vmost v by omega) hb.2.2.1).2
  have a1 := (qmd hv.2.1 (show 1 ≤ vmost v by omega) hb.2.2.2.1).2
  have a2 := (qmd hv.2.2 (show 1 ≤ vmost v by omega) hb.2.2.2.2).2
  have o0 := oabs_bd a0
  have o1 := oabs_bd a1
  have o2 := oabs_bd a2
  unfold quant
  rw [if_neg h]
  refine ⟨⟨a0, a1, a2⟩, ?_⟩
  simp only
  have : fabs v.1 = vmost v ∨ fabs v.2.1 = vmost v ∨ fabs v.2.2 = vmost v := by unfold vmost; omega
  rcases this with e | e | e
  · have := qpart_top (by omega) hb.2.1 hv.1 e; omega
  · have := qpart_top (by omega) hb.2.1 hv.2.1 e; omega
  · have := qpart_top (by omega) hb.2.1 hv.2.2 e; omega
theorem quant_may {v : T3} (hv : InV v) (h : vmost v ≠ 0) : mayB (quant v) = true := by
  obtain ⟨hb, hm⟩ := quant_top hv h
  unfold mayB
  simp only [Bool.and_eq_true, decide_eq_true_eq]
  refine ⟨fun ⟨e1, e2, e3⟩ => ?_, hb⟩
  rw [e1, e2, e3] at hm
  revert hm
  decide
theorem prod_bd {a b : Int} (ha : -16384 ≤ a ∧ a ≤ 16384) (hb : -16384 ≤ b ∧ b ≤ 16384) : -268435456 ≤ a * b ∧ a * b ≤ 268435456 := by
  constructor
  · rcases Int.le_total 0 a with g | g
    · have := Int.mul_le_mul_of_nonneg_left hb.1 g; omega
    · have := Int.mul_le_mul_of_nonpos_left g hb.2; omega
  · rcases Int.le_total 0 a with g | g
    · have := Int.mul_le_mul_of_nonneg_left hb.2 g; omega
    · have := Int.mul_le_mul_of_nonpos_left g hb.1; omega
theorem wdot_small {a b : T3} (ha : (-16384 ≤ a.1 ∧ a.1 ≤ 16384) ∧ (-16384 ≤ a.2.1 ∧ a.2.1 ≤ 16384) ∧ (-16384 ≤ a.2.2 ∧ a.2.2 ≤ 16384)) (hb : (-16384 ≤ b.1 ∧ b.1 ≤ 16384) ∧ (-16384 ≤ b.2.1 ∧ b.2.1 ≤ 16384) ∧ (-16384 ≤ b.2.2 ∧ b.2.2 ≤ 16384)) :
    wdot a b = a.1 * b.1 + a.2.1 * b.2.1 + a.2.2 * b.2.2 ∧ wdot (-a.1, -a.2.1, -a.2.2) b = -(a.1 * b.1 + a.2.1 * b.2.1 + a.2.2 * b.2.2) := by
  have p0 := prod_bd ha.1 hb.1
  have p1 := prod_bd ha.2.1 hb.2.1
  have p2 := prod_bd ha.2.2 hb.2.2
  unfold wdot
  simp only
  rw [Int.neg_mul, Int.neg_mul, Int.neg_mul]
  generalize a.1 * b.1 = x at *
  generalize a.2.1 * b.2.1 = y at *
  generalize a.2.2 * b.2.2 = z at *
  unfold wrap64
  omega

set_option maxRecDepth 100000 in
set_option maxHeartbeats 1600000 in
theorem walkOctaLong_0 (n : T3) (K1 : Hid (∀ w, Calls Try.prog 26 #[V3 0 0 0] w (Ret (.tuple #[V3 0 0 0, .int .i64 2]) w))) (w : World) : Calls Try.prog 8 #[V3 0 0 0, V3 n.1 n.2.1 n.2.2] w (Ret (.bool true) w) := by
  go_enter Try.func8, Try.ntmps8
  go_wp2_with fail
  refine (K1.out _).mono ?_; rintro e w1 ⟨rfl, hb1⟩
  have hB1 : Below w.heap.size w w1 := Below.next (by go_grown) hb1
  have d1_0 : w1.cell? ⟨w.heap.size, 0, none⟩ = some (.int .i64 0) := cell_call hb1 (by first | assumption | go_cell | simp [go_sem])
  have d1_1 : w1.cell? ⟨w.heap.size, 1, none⟩ = some (.int .i64 0) := cell_call hb1 (by first | assumption | go_cell | simp [go_sem])
  have d1_2 : w1.cell? ⟨w.heap.size, 2, none⟩ = some (.int .i64 0) := cell_call hb1 (by first | assumption | go_cell | simp [go_sem])
  have d1_3 : w1.cell? ⟨w.heap.size + 1, 0, none⟩ = some (.int .i64 n.1) := cell_call hb1 (by first | assumption | go_cell | simp [go_sem])
  have d1_4 : w1.cell? ⟨w.heap.size + 1, 1, none⟩ = some (.int .i64 n.2.1) := cell_call hb1 (by first | assumption | go_cell | simp [go_sem])
  have d1_5 : w1.cell? ⟨w.heap.size + 1, 2, none⟩ = some (.int .i64 n.2.2) := cell_call hb1 (by first | assumption | go_cell | simp [go_sem])
  have l1_0 := World.block_lt_of_cell? w1 _ d1_0
  have l1_3 := World.block_lt_of_cell? w1 _ d1_3
  have hS1 := hB1.size
  clear hb1
  go_wp2_with fail
  refine (works5 _).mono ?_; rintro e w2 ⟨rfl, hb2⟩
  have hB2 : Below w.heap.size w w2 := Below.next (by go_grown) hb2
  have d2_0 : w2.cell? ⟨w.heap.size, 0, none⟩ = some (.int .i64 0) := cell_call hb2 (by first | assumption | go_cell | simp [go_sem])
  have d2_1 : w2.cell? ⟨w.heap.size, 1, none⟩ = some (.int .i64 0) := cell_call hb2 (by first | assumption | go_cell | simp [go_sem])
  have d2_2 : w2.cell? ⟨w.heap.size, 2, none⟩ = some (.int .i64 0) := cell_call hb2 (by first | assumption | go_cell | simp [go_sem])
  have d2_3 : w2.cell? ⟨w.heap.size + 1, 0, none⟩ = some (.int .i64 n.1) := cell_call hb2 (by first | assumption | go_cell | simp [go_sem])
  have d2_4 : w2.cell? ⟨w.heap.size + 1, 1, none⟩ = some (.int .i64 n.2.1) := cell_call hb2 (by first | assumption | go_cell | simp [go_sem])
  have d2_5 : w2.cell? ⟨w.heap.size + 1, 2, none⟩ = some (.int .i64 n.2.2) := cell_call hb2 (by first | assumption | go_cell | simp [go_sem])
  have l2_0 := World.block_lt_of_cell? w2 _ d2_0
  have l2_3 := World.block_lt_of_cell? w2 _ d2_3
  have hS2 := hB2.size
  clear hb2
  go_wp2_with fail
  go_ret
  exact ret_of rfl hB2

set_option maxRecDepth 100000 in
set_option maxHeartbeats 1600000 in
theorem walkOctaLong_xo (x y z k : Int) (d n : T3) (h : x ≠ 0) (hk : 0 ≤ k) (K1 : Hid (∀ w, Calls Try.prog 26 #[V3 x y z] w (Ret (.tuple #[V3 d.1 d.2.1 d.2.2, .int .i64 0]) w))) (K2 : Hid (∀ w, Calls Try.prog 18 #[V3 d.1 d.2.1 d.2.2] w (Ret (.bool true) w))) (K3 : Hid (∀ w, Calls Try.prog 18 #[V3 n.1 n.2.1 n.2.2] w (Ret (.bool false) w)))
    (b0 : -16384 ≤ d.1 ∧ d.1 ≤ 16384) (b1 : -16384 ≤ d.2.1 ∧ d.2.1 ≤ 16384) (b2 : -16384 ≤ d.2.2 ∧ d.2.2 ≤ 16384) (HM : Hid (max (oabs d.1) (max (oabs d.2.1) (oabs d.2.2)) = 16384)) (w : World) : Calls Try.prog 8 #[V3 x y z, V3 n.1 n.2.1 n.2.2] w (Ret (.bool true) w) := by
  have e0 : (x == 0) = false := beq_eq_false_iff_ne.2 h
  clear h
  go_enter Try.func8, Try.ntmps8
  go_wp2_with fail
  refine (K1.out _).mono ?_; rintro e w1 ⟨rfl, hb1⟩
  have hB1 : Below w.heap.size w w1 := Below.next (by go_grown) hb1
  have d1_0 : w1.cell? ⟨w.heap.size, 0, none⟩ = some (.int .i64 x) := cell_call hb1 (by first | assumption | go_cell | simp [go_sem])
  have d1_1 : w1.cell? ⟨w.heap.size, 1, none⟩ = some (.int .i64 y) := cell_call hb1 (by first | assumption | go_cell | simp [go_sem])
  have d1_2 : w1.cell? ⟨w.heap.size, 2, none⟩ = some (.int .i64 z) := cell_call hb1 (by first | assumption | go_cell | simp [go_sem])
  have d1_3 : w1.cell? ⟨w.heap.size + 1, 0, none⟩ = some (.int .i64 n.1) := cell_call hb1 (by first | assumption | go_cell | simp [go_sem])
  have d1_4 : w1.cell? ⟨w.heap.size + 1, 1, none⟩ = some (.int .i64 n.2.1) := cell_call hb1 (by first | assumption | go_cell | simp [go_sem])
  have d1_5 : w1.cell? ⟨w.heap.size + 1, 2, none⟩ = some (.int .i64 n.2.2) := cell_call hb1 (by first | assumption | go_cell | simp [go_sem])
  have l1_0 := World.block_lt_of_cell? w1 _ d1_0
  have l1_3 := World.block_lt_of_cell? w1 _ d1_3
  have hS1 := hB1.size
  clear hb1
  go_wp2_with fail
  refine wp_region_fresh_gen 20 (by kernel_rfl) (by kernel_rfl) (fun W2 HW2 => ?_)
  intro F2_0 U2_0
  have hA2 : Below w.heap.size w W2 := by rw [HW2]; go_grown
  have c2_0 : W2.cell? ⟨w.heap.size, 0, none⟩ = some (.int .i64 x) := by rw [HW2]; first | assumption | go_cell | simp [go_sem, *]
  have c2_1 : W2.cell? ⟨w.heap.size, 1, none⟩ = some (.int .i64 y) := by rw [HW2]; first | assumption | go_cell | simp [go_sem, *]
  have c2_2 : W2.cell? ⟨w.heap.size, 2, none⟩ = some (.int .i64 z) := by rw [HW2]; first | assumption | go_cell | simp [go_sem, *]
  have c2_3 : W2.cell? ⟨w.heap.size + 1, 0, none⟩ = some (.int .i64 n.1) := by rw [HW2]; first | assumption | go_cell | simp [go_sem, *]
  have c2_4 : W2.cell? ⟨w.heap.size + 1, 1, none⟩ = some (.int .i64 n.2.1) := by rw [HW2]; first | assumption | go_cell | simp [go_sem, *]
  have c2_5 : W2.cell? ⟨w.heap.size + 1, 2, none⟩ = some (.int .i64 n.2.2) := by rw [HW2]; first | assumption | go_cell | simp [go_sem, *]
  have c2_6 : W2.cell? ⟨w1.heap.size, 0, none⟩ = some (.int .i64 d.1) := by rw [HW2]; first | assumption | go_cell | simp [go_sem, *]
  have c2_7 : W2.cell? ⟨w1.heap.size, 1, none⟩ = some (.int .i64 d.2.1) := by rw [HW2]; first | assumption | go_cell | simp [go_sem, *]
  have c2_8 : W2.cell? ⟨w1.heap.size, 2, none⟩ = some (.int .i64 d.2.2) := by rw [HW2]; first | assumption | go_cell | simp [go_sem, *]
  clear HW2
  have r2_0 := reg_cell c2_0
  have r2_1 := reg_cell c2_1
  have r2_2 := reg_cell c2_2
  have r2_3 := reg_cell c2_3
  have r2_4 := reg_cell c2_4
  have r2_5 := reg_cell c2_5
  have r2_6 := reg_cell c2_6
  have r2_7 := reg_cell c2_7
  have r2_8 := reg_cell c2_8
  simp only [List.take_succ_cons, List.take_zero, List.drop_succ_cons, List.drop_zero]
  have x2_0 : ∀ x y : Int, (if x < y then y else x) = max x y := imax
  have x2_1 : max (oabs d.1) (max (oabs d.2.1) (oabs d.2.2)) = 16384 := HM.out
  iterate 4 (refine WL_plain (fun K hK => ?_); go_simp; refine hK _ ?_; clear hK K)
  refine WL_call (by kernel_rfl) (fun K hK => ?_)
  go_simp
  apply Exists.intro
  refine ⟨fun w1 hb1 hf1 => ?_, hK _ ?_⟩
  · exact K2.out _
  clear hK K
  iterate 5 (refine WL_plain (fun K hK => ?_); go_simp; refine hK _ ?_; clear hK K)
  refine WL_call (by kernel_rfl) (fun K hK => ?_)
  go_simp
  apply Exists.intro
  refine ⟨fun w1 hb1 hf1 => ?_, hK _ ?_⟩
  · exact (lAbs5 _ (by omega) _).mono fun _ _ h => h.ret
  clear hK K
  iterate 2 (refine WL_plain (fun K hK => ?_); go_simp; refine hK _ ?_; clear hK K)
  refine WL_call (by kernel_rfl) (fun K hK => ?_)
  go_simp
  apply Exists.intro
  refine ⟨fun w1 hb1 hf1 => ?_, hK _ ?_⟩
  · exact (lAbs5 _ (by omega) _).mono fun _ _ h => h.ret
  clear hK K
  iterate 2 (refine WL_plain (fun K hK => ?_); go_simp; refine hK _ ?_; clear hK K)
  refine WL_call (by kernel_rfl) (fun K hK => ?_)
  go_simp
  apply Exists.intro
  refine ⟨fun w1 hb1 hf1 => ?_, hK _ ?_⟩
  · exact (lAbs5 _ (by omega) _).mono fun _ _ h => h.ret
  clear hK K
  iterate 3 (refine WL_plain (fun K hK => ?_); go_simp; refine hK _ ?_; clear hK K)
  clear x2_0 x2_1
  refine WL_nil (fun w2 hb2 hf2 => ?_)
  have hB2 : Below w.heap.size w w2 := Below.next hA2 hb2
  have d2_0 := cell_call hb2 c2_0
  have d2_1 := cell_call hb2 c2_1
  have d2_2 := cell_call hb2 c2_2
  have d2_3 := cell_call hb2 c2_3
  have d2_4 := cell_call hb2 c2_4
  have d2_5 := cell_call hb2 c2_5
  have d2_6 := cell_call hb2 c2_6
  have d2_7 := cell_call hb2 c2_7
  have d2_8 := cell_call hb2 c2_8
  clear r2_0 c2_0 r2_1 c2_1 r2_2 c2_2 r2_3 c2_3 r2_4 c2_4 r2_5 c2_5 r2_6 c2_6 r2_7 c2_7 r2_8 c2_8
  have l2_0 := World.block_lt_of_cell? w2 _ d2_0
  have l2_3 := World.block_lt_of_cell? w2 _ d2_3
  have l2_6 := World.block_lt_of_cell? w2 _ d2_6
  have hS2 := hB2.size
  go_wp2_with fail
  refine (K3.out _).mono ?_; rintro e w3 ⟨rfl, hb3⟩
  have hB3 : Below w.heap.size w w3 := Below.next (by go_grown) hb3
  have d3_0 : w3.cell? ⟨w.heap.size, 0, none⟩ = some (.int .i64 x) := cell_call hb3 (by first | assumption | go_cell | simp [go_sem])
  have d3_1 : w3.cell? ⟨w.heap.size, 1, none⟩ = some (.int .i64 y) := cell_call hb3 (by first | assumption | go_cell | simp [go_sem])
  have d3_2 : w3.cell? ⟨w.heap.size, 2, none⟩ = some (.int .i64 z) := cell_call hb3 (by first | assumption | go_cell | simp [go_sem])
  have d3_3 : w3.cell? ⟨w.heap.size + 1, 0, none⟩ = some (.int .i64 n.1) := cell_call hb3 (by first | assumption | go_cell | simp [go_sem])
  have d3_4 : w3.cell? ⟨w.heap.size + 1, 1, none⟩ = some (.int .i64 n.2.1) := cell_call hb3 (by first | assumption | go_cell | simp [go_sem])
  have d3_5 : w3.cell? ⟨w.heap.size + 1, 2, none⟩ = some (.int .i64 n.2.2) := cell_call hb3 (by first | assumption | go_cell | simp [go_sem])
  have d3_6 : w3.cell? ⟨w1.heap.size, 0, none⟩ = some (.int .i64 d.1) := cell_call hb3 (by first | assumption | go_cell | simp [go_sem])
  have d3_7 : w3.cell? ⟨w1.heap.size, 1, none⟩ = some (.int .i64 d.2.1) := cell_call hb3 (by first | assumption | go_cell | simp [go_sem])
  have d3_8 : w3.cell? ⟨w1.heap.size, 2, none⟩ = some (.int .i64 d.2.2) := cell_call hb3 (by first | assumption | go_cell | simp [go_sem])
  have l3_0 := World.block_lt_of_cell? w3 _ d3_0
  have l3_3 := World.block_lt_of_cell? w3 _ d3_3
  have l3_6 := World.block_lt_of_cell? w3 _ d3_6
  have hS3 := hB3.size
  clear hb3
  go_wp2_with fail
  refine (works5 _).mono ?_; rintro e w4 ⟨rfl, hb4⟩
  have hB4 : Below w.heap.size w w4 := Below.next (by go_grown) hb4
  have d4_0 : w4.cell? ⟨w.heap.size, 0, none⟩ = some (.int .i64 x) := cell_call hb4 (by first | assumption | go_cell | simp [go_sem])
  have d4_1 : w4.cell? ⟨w.heap.size, 1, none⟩ = some (.int .i64 y) := cell_call hb4 (by first | assumption | go_cell | simp [go_sem])
  have d4_2 : w4.cell? ⟨w.heap.size, 2, none⟩ = some (.int .i64 z) := cell_call hb4 (by first | assumption | go_cell | simp [go_sem])
  have d4_3 : w4.cell? ⟨w.heap.size + 1, 0, none⟩ = some (.int .i64 n.1) := cell_call hb4 (by first | assumption | go_cell | simp [go_sem])
  have d4_4 : w4.cell? ⟨w.heap.size + 1, 1, none⟩ = some (.int .i64 n.2.1) := cell_call hb4 (by first | assumption | go_cell | simp [go_sem])
  have d4_5 : w4.cell? ⟨w.heap.size + 1, 2, none⟩ = some (.int .i64 n.2.2) := cell_call hb4 (by first | assumption | go_cell | simp [go_sem])
  have d4_6 : w4.cell? ⟨w1.heap.size, 0, none⟩ = some (.int .i64 d.1) := cell_call hb4 (by first | assumption | go_cell | simp [go_sem])
  have d4_7 : w4.cell? ⟨w1.heap.size, 1, none⟩ = some (.int .i64 d.2.1) := cell_call hb4 (by first | assumption | go_cell | simp [go_sem])
  have d4_8 : w4.cell? ⟨w1.heap.size, 2, none⟩ = some (.int .i64 d.2.2) := cell_call hb4 (by first | assumption | go_cell | simp [go_sem])
  have l4_0 := World.block_lt_of_cell? w4 _ d4_0
  have l4_3 := World.block_lt_of_cell? w4 _ d4_3
  have l4_6 := World.block_lt_of_cell? w4 _ d4_6
  have hS4 := hB4.size
  clear hb4
  go_wp2_with fail
  go_ret
  exact ret_of rfl hB4

set_option maxRecDepth 100000 in
set_option maxHeartbeats 1600000 in
theorem walkOctaLong_xp (x y z k : Int) (d n : T3) (h : x ≠ 0) (hk : 0 ≤ k) (K1 : Hid (∀ w, Calls Try.prog 26 #[V3 x y z] w (Ret (.tuple #[V3 d.1 d.2.1 d.2.2, .int .i64 0]) w))) (K2 : Hid (∀ w, Calls Try.prog 18 #[V3 d.1 d.2.1 d.2.2] w (Ret (.bool true) w))) (K3 : Hid (∀ w, Calls Try.prog 18 #[V3 n.1 n.2.1 n.2.2] w (Ret (.bool true) w))) (K4 : Hid (∀ w, Calls Try.prog 30 #[V3 d.1 d.2.1 d.2.2, V3 n.1 n.2.1 n.2.2] w (Ret (V3 d.1 d.2.1 d.2.2) w))) (K5 : Hid (∀ w, Calls Try.prog 28 #[V3 d.1 d.2.1 d.2.2, V3 n.1 n.2.1 n.2.2] w (Ret (.int .i64 k) w)))
    (b0 : -16384 ≤ d.1 ∧ d.1 ≤ 16384) (b1 : -16384 ≤ d.2.1 ∧ d.2.1 ≤ 16384) (b2 : -16384 ≤ d.2.2 ∧ d.2.2 ≤ 16384) (HM : Hid (max (oabs d.1) (max (oabs d.2.1) (oabs d.2.2)) = 16384)) (w : World) : Calls Try.prog 8 #[V3 x y z, V3 n.1 n.2.1 n.2.2] w (Ret (.bool true) w) := by
  have e0 : (x == 0) = false := beq_eq_false_iff_ne.2 h
  clear h
  go_enter Try.func8, Try.ntmps8
  go_wp2_with fail
  refine (K1.out _).mono ?_; rintro e w1 ⟨rfl, hb1⟩
  have hB1 : Below w.heap.size w w1 := Below.next (by go_grown) hb1
  have d1_0 : w1.cell? ⟨w.heap.size, 0, none⟩ = some (.int .i64 x) := cell_call hb1 (by first | assumption | go_cell | simp [go_sem])
  have d1_1 : w1.cell? ⟨w.heap.size, 1, none⟩ = some (.int .i64 y) := cell_call hb1 (by first | assumption | go_cell | simp [go_sem])
  have d1_2 : w1.cell? ⟨w.heap.size, 2, none⟩ = some (.int .i64 z) := cell_call hb1 (by first | assumption | go_cell | simp [go_sem])
  have d1_3 : w1.cell? ⟨w.heap.size + 1, 0, none⟩ = some (.int .i64 n.1) := cell_call hb1 (by first | assumption | go_cell | simp [go_sem])
  have d1_4 : w1.cell? ⟨w.heap.size + 1, 1, none⟩ = some (.int .i64 n.2.1) := cell_call hb1 (by first | assumption | go_cell | simp [go_sem])
  have d1_5 : w1.cell? ⟨w.heap.size + 1, 2, none⟩ = some (.int .i64 n.2.2) := cell_call hb1 (by first | assumption | go_cell | simp [go_sem])
  have l1_0 := World.block_lt_of_cell? w1 _ d1_0
  have l1_3 := World.block_lt_of_cell? w1 _ d1_3
  have hS1 := hB1.size
  clear hb1
  go_wp2_with fail
  refine wp_region_fresh_gen 20 (by kernel_rfl) (by kernel_rfl) (fun W2 HW2 => ?_)
  intro F2_0 U2_0
  have hA2 : Below w.heap.size w W2 := by rw [HW2]; go_grown
  have c2_0 : W2.cell? ⟨w.heap.size, 0, none⟩ = some (.int .i64 x) := by rw [HW2]; first | assumption | go_cell | simp [go_sem, *]
  have c2_1 : W2.cell? ⟨w.heap.size, 1, none⟩ = some (.int .i64 y) := by rw [HW2]; first | assumption | go_cell | simp [go_sem, *]
  have c2_2 : W2.cell? ⟨w.heap.size, 2, none⟩ = some (.int .i64 z) := by rw [HW2]; first | assumption | go_cell | simp [go_sem, *]
  have c2_3 : W2.cell? ⟨w.heap.size + 1, 0, none⟩ = some (.int .i64 n.1) := by rw [HW2]; first | assumption | go_cell | simp [go_sem, *]
  have c2_4 : W2.cell? ⟨w.heap.size + 1, 1, none⟩ = some (.int .i64 n.2.1) := by rw [HW2]; first | assumption | go_cell | simp [go_sem, *]
  have c2_5 : W2.cell? ⟨w.heap.size + 1, 2, none⟩ = some (.int .i64 n.2.2) := by rw [HW2]; first | assumption | go_cell | simp [go_sem, *]
  have c2_6 : W2.cell? ⟨w1.heap.size, 0, none⟩ = some (.int .i64 d.1) := by rw [HW2]; first | assumption | go_cell | simp [go_sem, *]
  have c2_7 : W2.cell? ⟨w1.heap.size, 1, none⟩ = some (.int .i64 d.2.1) := by rw [HW2]; first | assumption | go_cell | simp [go_sem, *]
  have c2_8 : W2.cell? ⟨w1.heap.size, 2, none⟩ = some (.int .i64 d.2.2) := by rw [HW2]; first | assumption | go_cell | simp [go_sem, *]
  clear HW2
  have r2_0 := reg_cell c2_0
  have r2_1 := reg_cell c2_1
  have r2_2 := reg_cell c2_2
  have r2_3 := reg_cell c2_3
  have r2_4 := reg_cell c2_4
  have r2_5 := reg_cell c2_5
  have r2_6 := reg_cell c2_6
  have r2_7 := reg_cell c2_7
  have r2_8 := reg_cell c2_8
  simp only [List.take_succ_cons, List.take_zero, List.drop_succ_cons, List.drop_zero]
  have x2_0 : ∀ x y : Int, (if x < y then y else x) = max x y := imax
  have x2_1 : max (oabs d.1) (max (oabs d.2.1) (oabs d.2.2)) = 16384 := HM.out
  iterate 4 (refine WL_plain (fun K hK => ?_); go_simp; refine hK _ ?_; clear hK K)
  refine WL_call (by kernel_rfl) (fun K hK => ?_)
  go_simp
  apply Exists.intro
  refine ⟨fun w1 hb1 hf1 => ?_, hK _ ?_⟩
  · exact K2.out _
  clear hK K
  iterate 5 (refine WL_plain (fun K hK => ?_); go_simp; refine hK _ ?_; clear hK K)
  refine WL_call (by kernel_rfl) (fun K hK => ?_)
  go_simp
  apply Exists.intro
  refine ⟨fun w1 hb1 hf1 => ?_, hK _ ?_⟩
  · exact (lAbs5 _ (by omega) _).mono fun _ _ h => h.ret
  clear hK K
  iterate 2 (refine WL_plain (fun K hK => ?_); go_simp; refine hK _ ?_; clear hK K)
  refine WL_call (by kernel_rfl) (fun K hK => ?_)
  go_simp
  apply Exists.intro
  refine ⟨fun w1 hb1 hf1 => ?_, hK _ ?_⟩
  · exact (lAbs5 _ (by omega) _).mono fun _ _ h => h.ret
  clear hK K
  iterate 2 (refine WL_plain (fun K hK => ?_); go_simp; refine hK _ ?_; clear hK K)
  refine WL_call (by kernel_rfl) (fun K hK => ?_)
  go_simp
  apply Exists.intro
  refine ⟨fun w1 hb1 hf1 => ?_, hK _ ?_⟩
  · exact (lAbs5 _ (by omega) _).mono fun _ _ h => h.ret
  clear hK K
  iterate 3 (refine WL_plain (fun K hK => ?_); go_simp; refine hK _ ?_; clear hK K)
  clear x2_0 x2_1
  refine WL_nil (fun w2 hb2 hf2 => ?_)
  have hB2 : Below w.heap.size w w2 := Below.next hA2 hb2
  have d2_0 := cell_call hb2 c2_0
  have d2_1 := cell_call hb2 c2_1
  have d2_2 := cell_call hb2 c2_2
  have d2_3 := cell_call hb2 c2_3
  have d2_4 := cell_call hb2 c2_4
  have d2_5 := cell_call hb2 c2_5
  have d2_6 := cell_call hb2 c2_6
  have d2_7 := cell_call hb2 c2_7
  have d2_8 := cell_call hb2 c2_8
  clear r2_0 c2_0 r2_1 c2_1 r2_2 c2_2 r2_3 c2_3 r2_4 c2_4 r2_5 c2_5 r2_6 c2_6 r2_7 c2_7 r2_8 c2_8
  have l2_0 := World.block_lt_of_cell? w2 _ d2_0
  have l2_3 := World.block_lt_of_cell? w2 _ d2_3
  have l2_6 := World.block_lt_of_cell? w2 _ d2_6
  have hS2 := hB2.size
  go_wp2_with fail
  refine (K3.out _).mono ?_; rintro e w3 ⟨rfl, hb3⟩
  have hB3 : Below w.heap.size w w3 := Below.next (by go_grown) hb3
  have d3_0 : w3.cell? ⟨w.heap.size, 0, none⟩ = some (.int .i64 x) := cell_call hb3 (by first | assumption | go_cell | simp [go_sem])
  have d3_1 : w3.cell? ⟨w.heap.size, 1, none⟩ = some (.int .i64 y) := cell_call hb3 (by first | assumption | go_cell | simp [go_sem])
  have d3_2 : w3.cell? ⟨w.heap.size, 2, none⟩ = some (.int .i64 z) := cell_call hb3 (by first | assumption | go_cell | simp [go_sem])
  have d3_3 : w3.cell? ⟨w.heap.size + 1, 0, none⟩ = some (.int .i64 n.1) := cell_call hb3 (by first | assumption | go_cell | simp [go_sem])
  have d3_4 : w3.cell? ⟨w.heap.size + 1, 1, none⟩ = some (.int .i64 n.2.1) := cell_call hb3 (by first | assumption | go_cell | simp [go_sem])
  have d3_5 : w3.cell? ⟨w.heap.size + 1, 2, none⟩ = some (.int .i64 n.2.2) := cell_call hb3 (by first | assumption | go_cell | simp [go_sem])
  have d3_6 : w3.cell? ⟨w1.heap.size, 0, none⟩ = some (.int .i64 d.1) := cell_call hb3 (by first | assumption | go_cell | simp [go_sem])
  have d3_7 : w3.cell? ⟨w1.heap.size, 1, none⟩ = some (.int .i64 d.2.1) := cell_call hb3 (by first | assumption | go_cell | simp [go_sem])
  have d3_8 : w3.cell? ⟨w1.heap.size, 2, none⟩ = some (.int .i64 d.2.2) := cell_call hb3 (by first | assumption | go_cell | simp [go_sem])
  have l3_0 := World.block_lt_of_cell? w3 _ d3_0
  have l3_3 := World.block_lt_of_cell? w3 _ d3_3
  have l3_6 := World.block_lt_of_cell? w3 _ d3_6
  have hS3 := hB3.size
  clear hb3
  go_wp2_with fail
  refine (K4.out _).mono ?_; rintro e w4 ⟨rfl, hb4⟩
  have hB4 : Below w.heap.size w w4 := Below.next (by go_grown) hb4
  have d4_0 : w4.cell? ⟨w.heap.size, 0, none⟩ = some (.int .i64 x) := cell_call hb4 (by first | assumption | go_cell | simp [go_sem])
  have d4_1 : w4.cell? ⟨w.heap.size, 1, none⟩ = some (.int .i64 y) := cell_call hb4 (by first | assumption | go_cell | simp [go_sem])
  have d4_2 : w4.cell? ⟨w.heap.size, 2, none⟩ = some (.int .i64 z) := cell_call hb4 (by first | assumption | go_cell | simp [go_sem])
  have d4_3 : w4.cell? ⟨w.heap.size + 1, 0, none⟩ = some (.int .i64 n.1) := cell_call hb4 (by first | assumption | go_cell | simp [go_sem])
  have d4_4 : w4.cell? ⟨w.heap.size + 1, 1, none⟩ = some (.int .i64 n.2.1) := cell_call hb4 (by first | assumption | go_cell | simp [go_sem])
  have d4_5 : w4.cell? ⟨w.heap.size + 1, 2, none⟩ = some (.int .i64 n.2.2) := cell_call hb4 (by first | assumption | go_cell | simp [go_sem])
  have d4_6 : w4.cell? ⟨w1.heap.size, 0, none⟩ = some (.int .i64 d.1) := cell_call hb4 (by first | assumption | go_cell | simp [go_sem])
  have d4_7 : w4.cell? ⟨w1.heap.size, 1, none⟩ = some (.int .i64 d.2.1) := cell_call hb4 (by first | assumption | go_cell | simp [go_sem])
  have d4_8 : w4.cell? ⟨w1.heap.size, 2, none⟩ = some (.int .i64 d.2.2) := cell_call hb4 (by first | assumption | go_cell | simp [go_sem])
  have l4_0 := World.block_lt_of_cell? w4 _ d4_0
  have l4_3 := World.block_lt_of_cell? w4 _ d4_3
  have l4_6 := World.block_lt_of_cell? w4 _ d4_6
  have hS4 := hB4.size
  clear hb4
  go_wp2_with fail
  refine (K5.out _).mono ?_; rintro e w5 ⟨rfl, hb5⟩
  have hB5 : Below w.heap.size w w5 := Below.next (by go_grown) hb5
  have d5_0 : w5.cell? ⟨w.heap.size, 0, none⟩ = some (.int .i64 x) := cell_call hb5 (by first | assumption | go_cell | simp [go_sem])
  have d5_1 : w5.cell? ⟨w.heap.size, 1, none⟩ = some (.int .i64 y) := cell_call hb5 (by first | assumption | go_cell | simp [go_sem])
  have d5_2 : w5.cell? ⟨w.heap.size, 2, none⟩ = some (.int .i64 z) := cell_call hb5 (by first | assumption | go_cell | simp [go_sem])
  have d5_3 : w5.cell? ⟨w.heap.size + 1, 0, none⟩ = some (.int .i64 n.1) := cell_call hb5 (by first | assumption | go_cell | simp [go_sem])
  have d5_4 : w5.cell? ⟨w.heap.size + 1, 1, none⟩ = some (.int .i64 n.2.1) := cell_call hb5 (by first | assumption | go_cell | simp [go_sem])
  have d5_5 : w5.cell? ⟨w.heap.size + 1, 2, none⟩ = some (.int .i64 n.2.2) := cell_call hb5 (by first | assumption | go_cell | simp [go_sem])
  have d5_6 : w5.cell? ⟨w1.heap.size, 0, none⟩ = some (.int .i64 d.1) := cell_call hb5 (by first | assumption | go_cell | simp [go_sem])
  have d5_7 : w5.cell? ⟨w1.heap.size, 1, none⟩ = some (.int .i64 d.2.1) := cell_call hb5 (by first | assumption | go_cell | simp [go_sem])
  have d5_8 : w5.cell? ⟨w1.heap.size, 2, none⟩ = some (.int .i64 d.2.2) := cell_call hb5 (by first | assumption | go_cell | simp [go_sem])
  have d5_9 : w5.cell? ⟨w4.heap.size, 0, none⟩ = some (.int .i64 d.1) := cell_call hb5 (by first | assumption | go_cell | simp [go_sem])
  have d5_10 : w5.cell? ⟨w4.heap.size, 1, none⟩ = some (.int .i64 d.2.1) := cell_call hb5 (by first | assumption | go_cell | simp [go_sem])
  have d5_11 : w5.cell? ⟨w4.heap.size, 2, none⟩ = some (.int .i64 d.2.2) := cell_call hb5 (by first | assumption | go_cell | simp [go_sem])
  have l5_0 := World.block_lt_of_cell? w5 _ d5_0
  have l5_3 := World.block_lt_of_cell? w5 _ d5_3
  have l5_6 := World.block_lt_of_cell? w5 _ d5_6
  have l5_9 := World.block_lt_of_cell? w5 _ d5_9
  have hS5 := hB5.size
  clear hb5
  go_wp2_with fail
  refine (works5 _).mono ?_; rintro e w6 ⟨rfl, hb6⟩
  have hB6 : Below w.heap.size w w6 := Below.next (by go_grown) hb6
  have d6_0 : w6.cell? ⟨w.heap.size, 0, none⟩ = some (.int .i64 x) := cell_call hb6 (by first | assumption | go_cell | simp [go_sem])
  have d6_1 : w6.cell? ⟨w.heap.size, 1, none⟩ = some (.int .i64 y) := cell_call hb6 (by first | assumption | go_cell | simp [go_sem])
  have d6_2 : w6.cell? ⟨w.heap.size, 2, none⟩ = some (.int .i64 z) := cell_call hb6 (by first | assumption | go_cell | simp [go_sem])
  have d6_3 : w6.cell? ⟨w.heap.size + 1, 0, none⟩ = some (.int .i64 n.1) := cell_call hb6 (by first | assumption | go_cell | simp [go_sem])
  have d6_4 : w6.cell? ⟨w.heap.size + 1, 1, none⟩ = some (.int .i64 n.2.1) := cell_call hb6 (by first | assumption | go_cell | simp [go_sem])
  have d6_5 : w6.cell? ⟨w.heap.size + 1, 2, none⟩ = some (.int .i64 n.2.2) := cell_call hb6 (by first | assumption | go_cell | simp [go_sem])
  have d6_6 : w6.cell? ⟨w1.heap.size, 0, none⟩ = some (.int .i64 d.1) := cell_call hb6 (by first | assumption | go_cell | simp [go_sem])
  have d6_7 : w6.cell? ⟨w1.heap.size, 1, none⟩ = some (.int .i64 d.2.1) := cell_call hb6 (by first | assumption | go_cell | simp [go_sem])
  have d6_8 : w6.cell? ⟨w1.heap.size, 2, none⟩ = some (.int .i64 d.2.2) := cell_call hb6 (by first | assumption | go_cell | simp [go_sem])
  have d6_9 : w6.cell? ⟨w4.heap.size, 0, none⟩ = some (.int .i64 d.1) := cell_call hb6 (by first | assumption | go_cell | simp [go_sem])
  have d6_10 : w6.cell? ⟨w4.heap.size, 1, none⟩ = some (.int .i64 d.2.1) := cell_call hb6 (by first | assumption | go_cell | simp [go_sem])
  have d6_11 : w6.cell? ⟨w4.heap.size, 2, none⟩ = some (.int .i64 d.2.2) := cell_call hb6 (by first | assumption | go_cell | simp [go_sem])
  have l6_0 := World.block_lt_of_cell? w6 _ d6_0
  have l6_3 := World.block_lt_of_cell? w6 _ d6_3
  have l6_6 := World.block_lt_of_cell? w6 _ d6_6
  have l6_9 := World.block_lt_of_cell? w6 _ d6_9
  have hS6 := hB6.size
  clear hb6
  go_wp2_with fail
  go_ret
  exact ret_of rfl hB6

set_option maxRecDepth 100000 in
set_option maxHeartbeats 1600000 in
theorem walkOctaLong_xn (x y z k : Int) (d n : T3) (h : x ≠ 0) (hk : 0 ≤ k) (K1 : Hid (∀ w, Calls Try.prog 26 #[V3 x y z] w (Ret (.tuple #[V3 d.1 d.2.1 d.2.2, .int .i64 0]) w))) (K2 : Hid (∀ w, Calls Try.prog 18 #[V3 d.1 d.2.1 d.2.2] w (Ret (.bool true) w))) (K3 : Hid (∀ w, Calls Try.prog 18 #[V3 n.1 n.2.1 n.2.2] w (Ret (.bool true) w))) (K4 : Hid (∀ w, Calls Try.prog 30 #[V3 d.1 d.2.1 d.2.2, V3 n.1 n.2.1 n.2.2] w (Ret (V3 (-d.1) (-d.2.1) (-d.2.2)) w))) (K5 : Hid (∀ w, Calls Try.prog 28 #[V3 (-d.1) (-d.2.1) (-d.2.2), V3 n.1 n.2.1 n.2.2] w (Ret (.int .i64 k) w)))
    (b0 : -16384 ≤ d.1 ∧ d.1 ≤ 16384) (b1 : -16384 ≤ d.2.1 ∧ d.2.1 ≤ 16384) (b2 : -16384 ≤ d.2.2 ∧ d.2.2 ≤ 16384) (HM : Hid (max (oabs d.1) (max (oabs d.2.1) (oabs d.2.2)) = 16384)) (w : World) : Calls Try.prog 8 #[V3 x y z, V3 n.1 n.2.1 n.2.2] w (Ret (.bool true) w) := by
  have e0 : (x == 0) = false := beq_eq_false_iff_ne.2 h
  clear h
  go_enter Try.func8, Try.ntmps8
  go_wp2_with fail
  refine (K1.out _).mono ?_; rintro e w1 ⟨rfl, hb1⟩
  have hB1 : Below w.heap.size w w1 := Below.next (by go_grown) hb1
  have d1_0 : w1.cell? ⟨w.heap.size, 0, none⟩ = some (.int .i64 x) := cell_call hb1 (by first | assumption | go_cell | simp [go_sem])
  have d1_1 : w1.cell? ⟨w.heap.size, 1, none⟩ = some (.int .i64 y) := cell_call hb1 (by first | assumption | go_cell | simp [go_sem])
  have d1_2 : w1.cell? ⟨w.heap.size, 2, none⟩ = some (.int .i64 z) := cell_call hb1 (by first | assumption | go_cell | simp [go_sem])
  have d1_3 : w1.cell? ⟨w.heap.size + 1, 0, none⟩ = some (.int .i64 n.1) := cell_call hb1 (by first | assumption | go_cell | simp [go_sem])
  have d1_4 : w1.cell? ⟨w.heap.size + 1, 1, none⟩ = some (.int .i64 n.2.1) := cell_call hb1 (by first | assumption | go_cell | simp [go_sem])
  have d1_5 : w1.cell? ⟨w.heap.size + 1, 2, none⟩ = some (.int .i64 n.2.2) := cell_call hb1 (by first | assumption | go_cell | simp [go_sem])
  have l1_0 := World.block_lt_of_cell? w1 _ d1_0
  have l1_3 := World.block_lt_of_cell? w1 _ d1_3
  have hS1 := hB1.size
  clear hb1
  go_wp2_with fail
  refine wp_region_fresh_gen 20 (by kernel_rfl) (by kernel_rfl) (fun W2 HW2 => ?_)
  intro F2_0 U2_0
  have hA2 : Below w.heap.size w W2 := by rw [HW2]; go_grown
  have c2_0 : W2.cell? ⟨w.heap.size, 0, none⟩ = some (.int .i64 x) := by rw [HW2]; first | assumption | go_cell | simp [go_sem, *]
  have c2_1 : W2.cell? ⟨w.heap.size, 1, none⟩ = some (.int .i64 y) := by rw [HW2]; first | assumption | go_cell | simp [go_sem, *]
  have c2_2 : W2.cell? ⟨w.heap.size, 2, none⟩ = some (.int .i64 z) := by rw [HW2]; first | assumption | go_cell | simp [go_sem, *]
  have c2_3 : W2.cell? ⟨w.heap.size + 1, 0, none⟩ = some (.int .i64 n.1) := by rw [HW2]; first | assumption | go_cell | simp [go_sem, *]
  have c2_4 : W2.cell? ⟨w.heap.size + 1, 1, none⟩ = some (.int .i64 n.2.1) := by rw [HW2]; first | assumption | go_cell | simp [go_sem, *]
  have c2_5 : W2.cell? ⟨w.heap.size + 1, 2, none⟩ = some (.int .i64 n.2.2) := by rw [HW2]; first | assumption | go_cell | simp [go_sem, *]
  have c2_6 : W2.cell? ⟨w1.heap.size, 0, none⟩ = some (.int .i64 d.1) := by rw [HW2]; first | assumption | go_cell | simp [go_sem, *]
  have c2_7 : W2.cell? ⟨w1.heap.size, 1, none⟩ = some (.int .i64 d.2.1) := by rw [HW2]; first | assumption | go_cell | simp [go_sem, *]
  have c2_8 : W2.cell? ⟨w1.heap.size, 2, none⟩ = some (.int .i64 d.2.2) := by rw [HW2]; first | assumption | go_cell | simp [go_sem, *]
  clear HW2
  have r2_0 := reg_cell c2_0
  have r2_1 := reg_cell c2_1
  have r2_2 := reg_cell c2_2
  have r2_3 := reg_cell c2_3
  have r2_4 := reg_cell c2_4
  have r2_5 := reg_cell c2_5
  have r2_6 := reg_cell c2_6
  have r2_7 := reg_cell c2_7
  have r2_8 := reg_cell c2_8
  simp only [List.take_succ_cons, List.take_zero, List.drop_succ_cons, List.drop_zero]
  have x2_0 : ∀ x y : Int, (if x < y then y else x) = max x y := imax
  have x2_1 : max (oabs d.1) (max (oabs d.2.1) (oabs d.2.2)) = 16384 := HM.out
  iterate 4 (refine WL_plain (fun K hK => ?_); go_simp; refine hK _ ?_; clear hK K)
  refine WL_call (by kernel_rfl) (fun K hK => ?_)
  go_simp
  apply Exists.intro
  refine ⟨fun w1 hb1 hf1 => ?_, hK _ ?_⟩
  · exact K2.out _
  clear hK K
  iterate 5 (refine WL_plain (fun K hK => ?_); go_simp; refine hK _ ?_; clear hK K)
  refine WL_call (by kernel_rfl) (fun K hK => ?_)
  go_simp
  apply Exists.intro
  refine ⟨fun w1 hb1 hf1 => ?_, hK _ ?_⟩
  · exact (lAbs5 _ (by omega) _).mono fun _ _ h => h.ret
  clear hK K
  iterate 2 (refine WL_plain (fun K hK => ?_); go_simp; refine hK _ ?_; clear hK K)
  refine WL_call (by kernel_rfl) (fun K hK => ?_)
  go_simp
  apply Exists.intro
  refine ⟨fun w1 hb1 hf1 => ?_, hK _ ?_⟩
  · exact (lAbs5 _ (by omega) _).mono fun _ _ h => h.ret
  clear hK K
  iterate 2 (refine WL_plain (fun K hK => ?_); go_simp; refine hK _ ?_; clear hK K)
  refine WL_call (by kernel_rfl) (fun K hK => ?_)
  go_simp
  apply Exists.intro
  refine ⟨fun w1 hb1 hf1 => ?_, hK _ ?_⟩
  · exact (lAbs5 _ (by omega) _).mono fun _ _ h => h.ret
  clear hK K
  iterate 3 (refine WL_plain (fun K hK => ?_); go_simp; refine hK _ ?_; clear hK K)
  clear x2_0 x2_1
  refine WL_nil (fun w2 hb2 hf2 => ?_)
  have hB2 : Below w.heap.size w w2 := Below.next hA2 hb2
  have d2_0 := cell_call hb2 c2_0
  have d2_1 := cell_call hb2 c2_1
  have d2_2 := cell_call hb2 c2_2
  have d2_3 := cell_call hb2 c2_3
  have d2_4 := cell_call hb2 c2_4
  have d2_5 := cell_call hb2 c2_5
  have d2_6 := cell_call hb2 c2_6
  have d2_7 := cell_call hb2 c2_7
  have d2_8 := cell_call hb2 c2_8
  clear r2_0 c2_0 r2_1 c2_1 r2_2 c2_2 r2_3 c2_3 r2_4 c2_4 r2_5 c2_5 r2_6 c2_6 r2_7 c2_7 r2_8 c2_8
  have l2_0 := World.block_lt_of_cell? w2 _ d2_0
  have l2_3 := World.block_lt_of_cell? w2 _ d2_3
  have l2_6 := World.block_lt_of_cell? w2 _ d2_6
  have hS2 := hB2.size
  go_wp2_with fail
  refine (K3.out _).mono ?_; rintro e w3 ⟨rfl, hb3⟩
  have hB3 : Below w.heap.size w w3 := Below.next (by go_grown) hb3
  have d3_0 : w3.cell? ⟨w.heap.size, 0, none⟩ = some (.int .i64 x) := cell_call hb3 (by first | assumption | go_cell | simp [go_sem])
  have d3_1 : w3.cell? ⟨w.heap.size, 1, none⟩ = some (.int .i64 y) := cell_call hb3 (by first | assumption | go_cell | simp [go_sem])
  have d3_2 : w3.cell? ⟨w.heap.size, 2, none⟩ = some (.int .i64 z) := cell_call hb3 (by first | assumption | go_cell | simp [go_sem])
  have d3_3 : w3.cell? ⟨w.heap.size + 1, 0, none⟩ = some (.int .i64 n.1) := cell_call hb3 (by first | assumption | go_cell | simp [go_sem])
  have d3_4 : w3.cell? ⟨w.heap.size + 1, 1, none⟩ = some (.int .i64 n.2.1) := cell_call hb3 (by first | assumption | go_cell | simp [go_sem])
  have d3_5 : w3.cell? ⟨w.heap.size + 1, 2, none⟩ = some (.int .i64 n.2.2) := cell_call hb3 (by first | assumption | go_cell | simp [go_sem])
  have d3_6 : w3.cell? ⟨w1.heap.size, 0, none⟩ = some (.int .i64 d.1) := cell_call hb3 (by first | assumption | go_cell | simp [go_sem])
  have d3_7 : w3.cell? ⟨w1.heap.size, 1, none⟩ = some (.int .i64 d.2.1) := cell_call hb3 (by first | assumption | go_cell | simp [go_sem])
  have d3_8 : w3.cell? ⟨w1.heap.size, 2, none⟩ = some (.int .i64 d.2.2) := cell_call hb3 (by first | assumption | go_cell | simp [go_sem])
  have l3_0 := World.block_lt_of_cell? w3 _ d3_0
  have l3_3 := World.block_lt_of_cell? w3 _ d3_3
  have l3_6 := World.block_lt_of_cell? w3 _ d3_6
  have hS3 := hB3.size
  clear hb3
  go_wp2_with fail
  refine (K4.out _).mono ?_; rintro e w4 ⟨rfl, hb4⟩
  have hB4 : Below w.heap.size w w4 := Below.next (by go_grown) hb4
  have d4_0 : w4.cell? ⟨w.heap.size, 0, none⟩ = some (.int .i64 x) := cell_call hb4 (by first | assumption | go_cell | simp [go_sem])
  have d4_1 : w4.cell? ⟨w.heap.size, 1, none⟩ = some (.int .i64 y) := cell_call hb4 (by first | assumption | go_cell | simp [go_sem])
  have d4_2 : w4.cell? ⟨w.heap.size, 2, none⟩ = some (.int .i64 z) := cell_call hb4 (by first | assumption | go_cell | simp [go_sem])
  have d4_3 : w4.cell? ⟨w.heap.size + 1, 0, none⟩ = some (.int .i64 n.1) := cell_call hb4 (by first | assumption | go_cell | simp [go_sem])
  have d4_4 : w4.cell? ⟨w.heap.size + 1, 1, none⟩ = some (.int .i64 n.2.1) := cell_call hb4 (by first | assumption | go_cell | simp [go_sem])
  have d4_5 : w4.cell? ⟨w.heap.size + 1, 2, none⟩ = some (.int .i64 n.2.2) := cell_call hb4 (by first | assumption | go_cell | simp [go_sem])
  have d4_6 : w4.cell? ⟨w1.heap.size, 0, none⟩ = some (.int .i64 d.1) := cell_call hb4 (by first | assumption | go_cell | simp [go_sem])
  have d4_7 : w4.cell? ⟨w1.heap.size, 1, none⟩ = some (.int .i64 d.2.1) := cell_call hb4 (by first | assumption | go_cell | simp [go_sem])
  have d4_8 : w4.cell? ⟨w1.heap.size, 2, none⟩ = some (.int .i64 d.2.2) := cell_call hb4 (by first | assumption | go_cell | simp [go_sem])
  have l4_0 := World.block_lt_of_cell? w4 _ d4_0
  have l4_3 := World.block_lt_of_cell? w4 _ d4_3
  have l4_6 := World.block_lt_of_cell? w4 _ d4_6
  have hS4 := hB4.size
  clear hb4
  go_wp2_with fail
  refine (K5.out _).mono ?_; rintro e w5 ⟨rfl, hb5⟩
  have hB5 : Below w.heap.size w w5 := Below.next (by go_grown) hb5
  have d5_0 : w5.cell? ⟨w.heap.size, 0, none⟩ = some (.int .i64 x) := cell_call hb5 (by first | assumption | go_cell | simp [go_sem])
  have d5_1 : w5.cell? ⟨w.heap.size, 1, none⟩ = some (.int .i64 y) := cell_call hb5 (by first | assumption | go_cell | simp [go_sem])
  have d5_2 : w5.cell? ⟨w.heap.size, 2, none⟩ = some (.int .i64 z) := cell_call hb5 (by first | assumption | go_cell | simp [go_sem])
  have d5_3 : w5.cell? ⟨w.heap.size + 1, 0, none⟩ = some (.int .i64 n.1) := cell_call hb5 (by first | assumption | go_cell | simp [go_sem])
  have d5_4 : w5.cell? ⟨w.heap.size + 1, 1, none⟩ = some (.int .i64 n.2.1) := cell_call hb5 (by first | assumption | go_cell | simp [go_sem])
  have d5_5 : w5.cell? ⟨w.heap.size + 1, 2, none⟩ = some (.int .i64 n.2.2) := cell_call hb5 (by first | assumption | go_cell | simp [go_sem])
  have d5_6 : w5.cell? ⟨w1.heap.size, 0, none⟩ = some (.int .i64 d.1) := cell_call hb5 (by first | assumption | go_cell | simp [go_sem])
  have d5_7 : w5.cell? ⟨w1.heap.size, 1, none⟩ = some (.int .i64 d.2.1) := cell_call hb5 (by first | assumption | go_cell | simp [go_sem])
  have d5_8 : w5.cell? ⟨w1.heap.size, 2, none⟩ = some (.int .i64 d.2.2) := cell_call hb5 (by first | assumption | go_cell | simp [go_sem])
  have d5_9 : w5.cell? ⟨w4.heap.size, 0, none⟩ = some (.int .i64 (-d.1)) := cell_call hb5 (by first | assumption | go_cell | simp [go_sem])
  have d5_10 : w5.cell? ⟨w4.heap.size, 1, none⟩ = some (.int .i64 (-d.2.1)) := cell_call hb5 (by first | assumption | go_cell | simp [go_sem])
  have d5_11 : w5.cell? ⟨w4.heap.size, 2, none⟩ = some (.int .i64 (-d.2.2)) := cell_call hb5 (by first | assumption | go_cell | simp [go_sem])
  have l5_0 := World.block_lt_of_cell? w5 _ d5_0
  have l5_3 := World.block_lt_of_cell? w5 _ d5_3
  have l5_6 := World.block_lt_of_cell? w5 _ d5_6
  have l5_9 := World.block_lt_of_cell? w5 _ d5_9
  have hS5 := hB5.size
  clear hb5
  go_wp2_with fail
  all_goals
    refine (works5 _).mono ?_; rintro e w6 ⟨rfl, hb6⟩
    have hB6 : Below w.heap.size w w6 := Below.next (by go_grown) hb6
    clear hb6
    go_wp2_with fail
    go_ret
    exact ret_of rfl hB6

set_option maxRecDepth 100000 in
set_option maxHeartbeats 1600000 in
theorem walkOctaLong_yo (x y z k : Int) (d n : T3) (h : y ≠ 0) (hk : 0 ≤ k) (K1 : Hid (∀ w, Calls Try.prog 26 #[V3 0 y z] w (Ret (.tuple #[V3 d.1 d.2.1 d.2.2, .int .i64 0]) w))) (K2 : Hid (∀ w, Calls Try.prog 18 #[V3 d.1 d.2.1 d.2.2] w (Ret (.bool true) w))) (K3 : Hid (∀ w, Calls Try.prog 18 #[V3 n.1 n.2.1 n.2.2] w (Ret (.bool false) w)))
    (b0 : -16384 ≤ d.1 ∧ d.1 ≤ 16384) (b1 : -16384 ≤ d.2.1 ∧ d.2.1 ≤ 16384) (b2 : -16384 ≤ d.2.2 ∧ d.2.2 ≤ 16384) (HM : Hid (max (oabs d.1) (max (oabs d.2.1) (oabs d.2.2)) = 16384)) (w : World) : Calls Try.prog 8 #[V3 0 y z, V3 n.1 n.2.1 n.2.2] w (Ret (.bool true) w) := by
  have e0 : (y == 0) = false := beq_eq_false_iff_ne.2 h
  clear h
  go_enter Try.func8, Try.ntmps8
  go_wp2_with fail
  refine (K1.out _).mono ?_; rintro e w1 ⟨rfl, hb1⟩
  have hB1 : Below w.heap.size w w1 := Below.next (by go_grown) hb1
  have d1_0 : w1.cell? ⟨w.heap.size, 0, none⟩ = some (.int .i64 0) := cell_call hb1 (by first | assumption | go_cell | simp [go_sem])
  have d1_1 : w1.cell? ⟨w.heap.size, 1, none⟩ = some (.int .i64 y) := cell_call hb1 (by first | assumption | go_cell | simp [go_sem])
  have d1_2 : w1.cell? ⟨w.heap.size, 2, none⟩ = some (.int .i64 z) := cell_call hb1 (by first | assumption | go_cell | simp [go_sem])
  have d1_3 : w1.cell? ⟨w.heap.size + 1, 0, none⟩ = some (.int .i64 n.1) := cell_call hb1 (by first | assumption | go_cell | simp [go_sem])
  have d1_4 : w1.cell? ⟨w.heap.size + 1, 1, none⟩ = some (.int .i64 n.2.1) := cell_call hb1 (by first | assumption | go_cell | simp [go_sem])
  have d1_5 : w1.cell? ⟨w.heap.size + 1, 2, none⟩ = some (.int .i64 n.2.2) := cell_call hb1 (by first | assumption | go_cell | simp [go_sem])
  have l1_0 := World.block_lt_of_cell? w1 _ d1_0
  have l1_3 := World.block_lt_of_cell? w1 _ d1_3
  have hS1 := hB1.size
  clear hb1
  go_wp2_with fail
  refine wp_region_fresh_gen 20 (by kernel_rfl) (by kernel_rfl) (fun W2 HW2 => ?_)
  intro F2_0 U2_0
  have hA2 : Below w.heap.size w W2 := by rw [HW2]; go_grown
  have c2_0 : W2.cell? ⟨w.heap.size, 0, none⟩ = some (.int .i64 0) := by rw [HW2]; first | assumption | go_cell | simp [go_sem, *]
  have c2_1 : W2.cell? ⟨w.heap.size, 1, none⟩ = some (.int .i64 y) := by rw [HW2]; first | assumption | go_cell | simp [go_sem, *]
  have c2_2 : W2.cell? ⟨w.heap.size, 2, none⟩ = some (.int .i64 z) := by rw [HW2]; first | assumption | go_cell | simp [go_sem, *]
  have c2_3 : W2.cell? ⟨w.heap.size + 1, 0, none⟩ = some (.int .i64 n.1) := by rw [HW2]; first | assumption | go_cell | simp [go_sem, *]
  have c2_4 : W2.cell? ⟨w.heap.size + 1, 1, none⟩ = some (.int .i64 n.2.1) := by rw [HW2]; first | assumption | go_cell | simp [go_sem, *]
  have c2_5 : W2.cell? ⟨w.heap.size + 1, 2, none⟩ = some (.int .i64 n.2.2) := by rw [HW2]; first | assumption | go_cell | simp [go_sem, *]
  have c2_6 : W2.cell? ⟨w1.heap.size, 0, none⟩ = some (.int .i64 d.1) := by rw [HW2]; first | assumption | go_cell | simp [go_sem, *]
  have c2_7 : W2.cell? ⟨w1.heap.size, 1, none⟩ = some (.int .i64 d.2.1) := by rw [HW2]; first | assumption | go_cell | simp [go_sem, *]
  have c2_8 : W2.cell? ⟨w1.heap.size, 2, none⟩ = some (.int .i64 d.2.2) := by rw [HW2]; first | assumption | go_cell | simp [go_sem, *]
  clear HW2
  have r2_0 := reg_cell c2_0
  have r2_1 := reg_cell c2_1
  have r2_2 := reg_cell c2_2
  have r2_3 := reg_cell c2_3
  have r2_4 := reg_cell c2_4
  have r2_5 := reg_cell c2_5
  have r2_6 := reg_cell c2_6
  have r2_7 := reg_cell c2_7
  have r2_8 := reg_cell c2_8
  simp only [List.take_succ_cons, List.take_zero, List.drop_succ_cons, List.drop_zero]
  have x2_0 : ∀ x y : Int, (if x < y then y else x) = max x y := imax
  have x2_1 : max (oabs d.1) (max (oabs d.2.1) (oabs d.2.2)) = 16384 := HM.out
  iterate 4 (refine WL_plain (fun K hK => ?_); go_simp; refine hK _ ?_; clear hK K)
  refine WL_call (by kernel_rfl) (fun K hK => ?_)
  go_simp
  apply Exists.intro
  refine ⟨fun w1 hb1 hf1 => ?_, hK _ ?_⟩
  · exact K2.out _
  clear hK K
  iterate 5 (refine WL_plain (fun K hK => ?_); go_simp; refine hK _ ?_; clear hK K)
  refine WL_call (by kernel_rfl) (fun K hK => ?_)
  go_simp
  apply Exists.intro
  refine ⟨fun w1 hb1 hf1 => ?_, hK _ ?_⟩
  · exact (lAbs5 _ (by omega) _).mono fun _ _ h => h.ret
  clear hK K
  iterate 2 (refine WL_plain (fun K hK => ?_); go_simp; refine hK _ ?_; clear hK K)
  refine WL_call (by kernel_rfl) (fun K hK => ?_)
  go_simp
  apply Exists.intro
  refine ⟨fun w1 hb1 hf1 => ?_, hK _ ?_⟩
  · exact (lAbs5 _ (by omega) _).mono fun _ _ h => h.ret
  clear hK K
  iterate 2 (refine WL_plain (fun K hK => ?_); go_simp; refine hK _ ?_; clear hK K)
  refine WL_call (by kernel_rfl) (fun K hK => ?_)
  go_simp
  apply Exists.intro
  refine ⟨fun w1 hb1 hf1 => ?_, hK _ ?_⟩
  · exact (lAbs5 _ (by omega) _).mono fun _ _ h => h.ret
  clear hK K
  iterate 3 (refine WL_plain (fun K hK => ?_); go_simp; refine hK _ ?_; clear hK K)
  clear x2_0 x2_1
  refine WL_nil (fun w2 hb2 hf2 => ?_)
  have hB2 : Below w.heap.size w w2 := Below.next hA2 hb2
  have d2_0 := cell_call hb2 c2_0
  have d2_1 := cell_call hb2 c2_1
  have d2_2 := cell_call hb2 c2_2
  have d2_3 := cell_call hb2 c2_3
  have d2_4 := cell_call hb2 c2_4
  have d2_5 := cell_call hb2 c2_5
  have d2_6 := cell_call hb2 c2_6
  have d2_7 := cell_call hb2 c2_7
  have d2_8 := cell_call hb2 c2_8
  clear r2_0 c2_0 r2_1 c2_1 r2_2 c2_2 r2_3 c2_3 r2_4 c2_4 r2_5 c2_5 r2_6 c2_6 r2_7 c2_7 r2_8 c2_8
  have l2_0 := World.block_lt_of_cell? w2 _ d2_0
  have l2_3 := World.block_lt_of_cell? w2 _ d2_3
  have l2_6 := World.block_lt_of_cell? w2 _ d2_6
  have hS2 := hB2.size
  go_wp2_with fail
  refine (K3.out _).mono ?_; rintro e w3 ⟨rfl, hb3⟩
  have hB3 : Below w.heap.size w w3 := Below.next (by go_grown) hb3
  have d3_0 : w3.cell? ⟨w.heap.size, 0, none⟩ = some (.int .i64 0) := cell_call hb3 (by first | assumption | go_cell | simp [go_sem])
  have d3_1 : w3.cell? ⟨w.heap.size, 1, none⟩ = some (.int .i64 y) := cell_call hb3 (by first | assumption | go_cell | simp [go_sem])
  have d3_2 : w3.cell? ⟨w.heap.size, 2, none⟩ = some (.int .i64 z) := cell_call hb3 (by first | assumption | go_cell | simp [go_sem])
  have d3_3 : w3.cell? ⟨w.heap.size + 1, 0, none⟩ = some (.int .i64 n.1) := cell_call hb3 (by first | assumption | go_cell | simp [go_sem])
  have d3_4 : w3.cell? ⟨w.heap.size + 1, 1, none⟩ = some (.int .i64 n.2.1) := cell_call hb3 (by first | assumption | go_cell | simp [go_sem])
  have d3_5 : w3.cell? ⟨w.heap.size + 1, 2, none⟩ = some (.int .i64 n.2.2) := cell_call hb3 (by first | assumption | go_cell | simp [go_sem])
  have d3_6 : w3.cell? ⟨w1.heap.size, 0, none⟩ = some (.int .i64 d.1) := cell_call hb3 (by first | assumption | go_cell | simp [go_sem])
  have d3_7 : w3.cell? ⟨w1.heap.size, 1, none⟩ = some (.int .i64 d.2.1) := cell_call hb3 (by first | assumption | go_cell | simp [go_sem])
  have d3_8 : w3.cell? ⟨w1.heap.size, 2, none⟩ = some (.int .i64 d.2.2) := cell_call hb3 (by first | assumption | go_cell | simp [go_sem])
  have l3_0 := World.block_lt_of_cell? w3 _ d3_0
  have l3_3 := World.block_lt_of_cell? w3 _ d3_3
  have l3_6 := World.block_lt_of_cell? w3 _ d3_6
  have hS3 := hB3.size
  clear hb3
  go_wp2_with fail
  refine (works5 _).mono ?_; rintro e w4 ⟨rfl, hb4⟩
  have hB4 : Below w.heap.size w w4 := Below.next (by go_grown) hb4
  have d4_0 : w4.cell? ⟨w.heap.size, 0, none⟩ = some (.int .i64 0) := cell_call hb4 (by first | assumption | go_cell | simp [go_sem])
  have d4_1 : w4.cell? ⟨w.heap.size, 1, none⟩ = some (.int .i64 y) := cell_call hb4 (by first | assumption | go_cell | simp [go_sem])
  have d4_2 : w4.cell? ⟨w.heap.size, 2, none⟩ = some (.int .i64 z) := cell_call hb4 (by first | assumption | go_cell | simp [go_sem])
  have d4_3 : w4.cell? ⟨w.heap.size + 1, 0, none⟩ = some (.int .i64 n.1) := cell_call hb4 (by first | assumption | go_cell | simp [go_sem])
  have d4_4 : w4.cell? ⟨w.heap.size + 1, 1, none⟩ = some (.int .i64 n.2.1) := cell_call hb4 (by first | assumption | go_cell | simp [go_sem])
  have d4_5 : w4.cell? ⟨w.heap.size + 1, 2, none⟩ = some (.int .i64 n.2.2) := cell_call hb4 (by first | assumption | go_cell | simp [go_sem])
  have d4_6 : w4.cell? ⟨w1.heap.size, 0, none⟩ = some (.int .i64 d.1) := cell_call hb4 (by first | assumption | go_cell | simp [go_sem])
  have d4_7 : w4.cell? ⟨w1.heap.size, 1, none⟩ = some (.int .i64 d.2.1) := cell_call hb4 (by first | assumption | go_cell | simp [go_sem])
  have d4_8 : w4.cell? ⟨w1.heap.size, 2, none⟩ = some (.int .i64 d.2.2) := cell_call hb4 (by first | assumption | go_cell | simp [go_sem])
  have l4_0 := World.block_lt_of_cell? w4 _ d4_0
  have l4_3 := World.block_lt_of_cell? w4 _ d4_3
  have l4_6 := World.block_lt_of_cell? w4 _ d4_6
  have hS4 := hB4.size
  clear hb4
  go_wp2_with fail
  go_ret
  exact ret_of rfl hB4

set_option maxRecDepth 100000 in
set_option maxHeartbeats 1600000 in
theorem walkOctaLong_yp (x y z k : Int) (d n : T3) (h : y ≠ 0) (hk : 0 ≤ k) (K1 : Hid (∀ w, Calls Try.prog 26 #[V3 0 y z] w (Ret (.tuple #[V3 d.1 d.2.1 d.2.2, .int .i64 0]) w))) (K2 : Hid (∀ w, Calls Try.prog 18 #[V3 d.1 d.2.1 d.2.2] w (Ret (.bool true) w))) (K3 : Hid (∀ w, Calls Try.prog 18 #[V3 n.1 n.2.1 n.2.2] w (Ret (.bool true) w))) (K4 : Hid (∀ w, Calls Try.prog 30 #[V3 d.1 d.2.1 d.2.2, V3 n.1 n.2.1 n.2.2] w (Ret (V3 d.1 d.2.1 d.2.2) w))) (K5 : Hid (∀ w, Calls Try.prog 28 #[V3 d.1 d.2.1 d.2.2, V3 n.1 n.2.1 n.2.2] w (Ret (.int .i64 k) w)))
    (b0 : -16384 ≤ d.1 ∧ d.1 ≤ 16384) (b1 : -16384 ≤ d.2.1 ∧ d.2.1 ≤ 16384) (b2 : -16384 ≤ d.2.2 ∧ d.2.2 ≤ 16384) (HM : Hid (max (oabs d.1) (max (oabs d.2.1) (oabs d.2.2)) = 16384)) (w : World) : Calls Try.prog 8 #[V3 0 y z, V3 n.1 n.2.1 n.2.2] w (Ret (.bool true) w) := by
  have e0 : (y == 0) = false := beq_eq_false_iff_ne.2 h
  clear h
  go_enter Try.func8, Try.ntmps8
  go_wp2_with fail
  refine (K1.out _).mono ?_; rintro e w1 ⟨rfl, hb1⟩
  have hB1 : Below w.heap.size w w1 := Below.next (by go_grown) hb1
  have d1_0 : w1.cell? ⟨w.heap.size, 0, none⟩ = some (.int .i64 0) := cell_call hb1 (by first | assumption | go_cell | simp [go_sem])
  have d1_1 : w1.cell? ⟨w.heap.size, 1, none⟩ = some (.int .i64 y) := cell_call hb1 (by first | assumption | go_cell | simp [go_sem])
  have d1_2 : w1.cell? ⟨w.heap.size, 2, none⟩ = some (.int .i64 z) := cell_call hb1 (by first | assumption | go_cell | simp [go_sem])
  have d1_3 : w1.cell? ⟨w.heap.size + 1, 0, none⟩ = some (.int .i64 n.1) := cell_call hb1 (by first | assumption | go_cell | simp [go_sem])
  have d1_4 : w1.cell? ⟨w.heap.size + 1, 1, none⟩ = some (.int .i64 n.2.1) := cell_call hb1 (by first | assumption | go_cell | simp [go_sem])
  have d1_5 : w1.cell? ⟨w.heap.size + 1, 2, none⟩ = some (.int .i64 n.2.2) := cell_call hb1 (by first | assumption | go_cell | simp [go_sem])
  have l1_0 := World.block_lt_of_cell? w1 _ d1_0
  have l1_3 := World.block_lt_of_cell? w1 _ d1_3
  have hS1 := hB1.size
  clear hb1
  go_wp2_with fail
  refine wp_region_fresh_gen 20 (by kernel_rfl) (by kernel_rfl) (fun W2 HW2 => ?_)
  intro F2_0 U2_0
  have hA2 : Below w.heap.size w W2 := by rw [HW2]; go_grown
  have c2_0 : W2.cell? ⟨w.heap.size, 0, none⟩ = some (.int .i64 0) := by rw [HW2]; first | assumption | go_cell | simp [go_sem, *]
  have c2_1 : W2.cell? ⟨w.heap.size, 1, none⟩ = some (.int .i64 y) := by rw [HW2]; first | assumption | go_cell | simp [go_sem, *]
  have c2_2 : W2.cell? ⟨w.heap.size, 2, none⟩ = some (.int .i64 z) := by rw [HW2]; first | assumption | go_cell | simp [go_sem, *]
  have c2_3 : W2.cell? ⟨w.heap.size + 1, 0, none⟩ = some (.int .i64 n.1) := by rw [HW2]; first | assumption | go_cell | simp [go_sem, *]
  have c2_4 : W2.cell? ⟨w.heap.size + 1, 1, none⟩ = some (.int .i64 n.2.1) := by rw [HW2]; first | assumption | go_cell | simp [go_sem, *]
  have c2_5 : W2.cell? ⟨w.heap.size + 1, 2, none⟩ = some (.int .i64 n.2.2) := by rw [HW2]; first | assumption | go_cell | simp [go_sem, *]
  have c2_6 : W2.cell? ⟨w1.heap.size, 0, none⟩ = some (.int .i64 d.1) := by rw [HW2]; first | assumption | go_cell | simp [go_sem, *]
  have c2_7 : W2.cell? ⟨w1.heap.size, 1, none⟩ = some (.int .i64 d.2.1) := by rw [HW2]; first | assumption | go_cell | simp [go_sem, *]
  have c2_8 : W2.cell? ⟨w1.heap.size, 2, none⟩ = some (.int .i64 d.2.2) := by rw [HW2]; first | assumption | go_cell | simp [go_sem, *]
  clear HW2
  have r2_0 := reg_cell c2_0
  have r2_1 := reg_cell c2_1
  have r2_2 := reg_cell c2_2
  have r2_3 := reg_cell c2_3
  have r2_4 := reg_cell c2_4
  have r2_5 := reg_cell c2_5
  have r2_6 := reg_cell c2_6
  have r2_7 := reg_cell c2_7
  have r2_8 := reg_cell c2_8
  simp only [List.take_succ_cons, List.take_zero, List.drop_succ_cons, List.drop_zero]
  have x2_0 : ∀ x y : Int, (if x < y then y else x) = max x y := imax
  have x2_1 : max (oabs d.1) (max (oabs d.2.1) (oabs d.2.2)) = 16384 := HM.out
  iterate 4 (refine WL_plain (fun K hK => ?_); go_simp; refine hK _ ?_; clear hK K)
  refine WL_call (by kernel_rfl) (fun K hK => ?_)
  go_simp
  apply Exists.intro
  refine ⟨fun w1 hb1 hf1 => ?_, hK _ ?_⟩
  · exact K2.out _
  clear hK K
  iterate 5 (refine WL_plain (fun K hK => ?_); go_simp; refine hK _ ?_; clear hK K)
  refine WL_call (by kernel_rfl) (fun K hK => ?_)
  go_simp
  apply Exists.intro
  refine ⟨fun w1 hb1 hf1 => ?_, hK _ ?_⟩
  · exact (lAbs5 _ (by omega) _).mono fun _ _ h => h.ret
  clear hK K
  iterate 2 (refine WL_plain (fun K hK => ?_); go_simp; refine hK _ ?_; clear hK K)
  refine WL_call (by kernel_rfl) (fun K hK => ?_)
  go_simp
  apply Exists.intro
  refine ⟨fun w1 hb1 hf1 => ?_, hK _ ?_⟩
  · exact (lAbs5 _ (by omega) _).mono fun _ _ h => h.ret
  clear hK K
  iterate 2 (refine WL_plain (fun K hK => ?_); go_simp; refine hK _ ?_; clear hK K)
  refine WL_call (by kernel_rfl) (fun K hK => ?_)
  go_simp
  apply Exists.intro
  refine ⟨fun w1 hb1 hf1 => ?_, hK _ ?_⟩
  · exact (lAbs5 _ (by omega) _).mono fun _ _ h => h.ret
  clear hK K
  iterate 3 (refine WL_plain (fun K hK => ?_); go_simp; refine hK _ ?_; clear hK K)
  clear x2_0 x2_1
  refine WL_nil (fun w2 hb2 hf2 => ?_)
  have hB2 : Below w.heap.size w w2 := Below.next hA2 hb2
  have d2_0 := cell_call hb2 c2_0
  have d2_1 := cell_call hb2 c2_1
  have d2_2 := cell_call hb2 c2_2
  have d2_3 := cell_call hb2 c2_3
  have d2_4 := cell_call hb2 c2_4
  have d2_5 := cell_call hb2 c2_5
  have d2_6 := cell_call hb2 c2_6
  have d2_7 := cell_call hb2 c2_7
  have d2_8 := cell_call hb2 c2_8
  clear r2_0 c2_0 r2_1 c2_1 r2_2 c2_2 r2_3 c2_3 r2_4 c2_4 r2_5 c2_5 r2_6 c2_6 r2_7 c2_7 r2_8 c2_8
  have l2_0 := World.block_lt_of_cell? w2 _ d2_0
  have l2_3 := World.block_lt_of_cell? w2 _ d2_3
  have l2_6 := World.block_lt_of_cell? w2 _ d2_6
  have hS2 := hB2.size
  go_wp2_with fail
  refine (K3.out _).mono ?_; rintro e w3 ⟨rfl, hb3⟩
  have hB3 : Below w.heap.size w w3 := Below.next (by go_grown) hb3
  have d3_0 : w3.cell? ⟨w.heap.size, 0, none⟩ = some (.int .i64 0) := cell_call hb3 (by first | assumption | go_cell | simp [go_sem])
  have d3_1 : w3.cell? ⟨w.heap.size, 1, none⟩ = some (.int .i64 y) := cell_call hb3 (by first | assumption | go_cell | simp [go_sem])
  have d3_2 : w3.cell? ⟨w.heap.size, 2, none⟩ = some (.int .i64 z) := cell_call hb3 (by first | assumption | go_cell | simp [go_sem])
  have d3_3 : w3.cell? ⟨w.heap.size + 1, 0, none⟩ = some (.int .i64 n.1) := cell_call hb3 (by first | assumption | go_cell | simp [go_sem])
  have d3_4 : w3.cell? ⟨w.heap.size + 1, 1, none⟩ = some (.int .i64 n.2.1) := cell_call hb3 (by first | assumption | go_cell | simp [go_sem])
  have d3_5 : w3.cell? ⟨w.heap.size + 1, 2, none⟩ = some (.int .i64 n.2.2) := cell_call hb3 (by first | assumption | go_cell | simp [go_sem])
  have d3_6 : w3.cell? ⟨w1.heap.size, 0, none⟩ = some (.int .i64 d.1) := cell_call hb3 (by first | assumption | go_cell | simp [go_sem])
  have d3_7 : w3.cell? ⟨w1.heap.size, 1, none⟩ = some (.int .i64 d.2.1) := cell_call hb3 (by first | assumption | go_cell | simp [go_sem])
  have d3_8 : w3.cell? ⟨w1.heap.size, 2, none⟩ = some (.int .i64 d.2.2) := cell_call hb3 (by first | assumption | go_cell | simp [go_sem])
  have l3_0 := World.block_lt_of_cell? w3 _ d3_0
  have l3_3 := World.block_lt_of_cell? w3 _ d3_3
  have l3_6 := World.block_lt_of_cell? w3 _ d3_6
  have hS3 := hB3.size
  clear hb3
  go_wp2_with fail
  refine (K4.out _).mono ?_; rintro e w4 ⟨rfl, hb4⟩
  have hB4 : Below w.heap.size w w4 := Below.next (by go_grown) hb4
  have d4_0 : w4.cell? ⟨w.heap.size, 0, none⟩ = some (.int .i64 0) := cell_call hb4 (by first | assumption | go_cell | simp [go_sem])
  have d4_1 : w4.cell? ⟨w.heap.size, 1, none⟩ = some (.int .i64 y) := cell_call hb4 (by first | assumption | go_cell | simp [go_sem])
  have d4_2 : w4.cell? ⟨w.heap.size, 2, none⟩ = some (.int .i64 z) := cell_call hb4 (by first | assumption | go_cell | simp [go_sem])
  have d4_3 : w4.cell? ⟨w.heap.size + 1, 0, none⟩ = some (.int .i64 n.1) := cell_call hb4 (by first | assumption | go_cell | simp [go_sem])
  have d4_4 : w4.cell? ⟨w.heap.size + 1, 1, none⟩ = some (.int .i64 n.2.1) := cell_call hb4 (by first | assumption | go_cell | simp [go_sem])
  have d4_5 : w4.cell? ⟨w.heap.size + 1, 2, none⟩ = some (.int .i64 n.2.2) := cell_call hb4 (by first | assumption | go_cell | simp [go_sem])
  have d4_6 : w4.cell? ⟨w1.heap.size, 0, none⟩ = some (.int .i64 d.1) := cell_call hb4 (by first | assumption | go_cell | simp [go_sem])
  have d4_7 : w4.cell? ⟨w1.heap.size, 1, none⟩ = some (.int .i64 d.2.1) := cell_call hb4 (by first | assumption | go_cell | simp [go_sem])
  have d4_8 : w4.cell? ⟨w1.heap.size, 2, none⟩ = some (.int .i64 d.2.2) := cell_call hb4 (by first | assumption | go_cell | simp [go_sem])
  have l4_0 := World.block_lt_of_cell? w4 _ d4_0
  have l4_3 := World.block_lt_of_cell? w4 _ d4_3
  have l4_6 := World.block_lt_of_cell? w4 _ d4_6
  have hS4 := hB4.size
  clear hb4
  go_wp2_with fail
  refine (K5.out _).mono ?_; rintro e w5 ⟨rfl, hb5⟩
  have hB5 : Below w.heap.size w w5 := Below.next (by go_grown) hb5
  have d5_0 : w5.cell? ⟨w.heap.size, 0, none⟩ = some (.int .i64 0) := cell_call hb5 (by first | assumption | go_cell | simp [go_sem])
  have d5_1 : w5.cell? ⟨w.heap.size, 1, none⟩ = some (.int .i64 y) := cell_call hb5 (by first | assumption | go_cell | simp [go_sem])
  have d5_2 : w5.cell? ⟨w.heap.size, 2, none⟩ = some (.int .i64 z) := cell_call hb5 (by first | assumption | go_cell | simp [go_sem])
  have d5_3 : w5.cell? ⟨w.heap.size + 1, 0, none⟩ = some (.int .i64 n.1) := cell_call hb5 (by first | assumption | go_cell | simp [go_sem])
  have d5_4 : w5.cell? ⟨w.heap.size + 1, 1, none⟩ = some (.int .i64 n.2.1) := cell_call hb5 (by first | assumption | go_cell | simp [go_sem])
  have d5_5 : w5.cell? ⟨w.heap.size + 1, 2, none⟩ = some (.int .i64 n.2.2) := cell_call hb5 (by first | assumption | go_cell | simp [go_sem])
  have d5_6 : w5.cell? ⟨w1.heap.size, 0, none⟩ = some (.int .i64 d.1) := cell_call hb5 (by first | assumption | go_cell | simp [go_sem])
  have d5_7 : w5.cell? ⟨w1.heap.size, 1, none⟩ = some (.int .i64 d.2.1) := cell_call hb5 (by first | assumption | go_cell | simp [go_sem])
  have d5_8 : w5.cell? ⟨w1.heap.size, 2, none⟩ = some (.int .i64 d.2.2) := cell_call hb5 (by first | assumption | go_cell | simp [go_sem])
  have d5_9 : w5.cell? ⟨w4.heap.size, 0, none⟩ = some (.int .i64 d.1) := cell_call hb5 (by first | assumption | go_cell | simp [go_sem])
  have d5_10 : w5.cell? ⟨w4.heap.size, 1, none⟩ = some (.int .i64 d.2.1) := cell_call hb5 (by first | assumption | go_cell | simp [go_sem])
  have d5_11 : w5.cell? ⟨w4.heap.size, 2, none⟩ = some (.int .i64 d.2.2) := cell_call hb5 (by first | assumption | go_cell | simp [go_sem])
  have l5_0 := World.block_lt_of_cell? w5 _ d5_0
  have l5_3 := World.block_lt_of_cell? w5 _ d5_3
  have l5_6 := World.block_lt_of_cell? w5 _ d5_6
  have l5_9 := World.block_lt_of_cell? w5 _ d5_9
  have hS5 := hB5.size
  clear hb5
  go_wp2_with fail
  refine (works5 _).mono ?_; rintro e w6 ⟨rfl, hb6⟩
  have hB6 : Below w.heap.size w w6 := Below.next (by go_grown) hb6
  have d6_0 : w6.cell? ⟨w.heap.size, 0, none⟩ = some (.int .i64 0) := cell_call hb6 (by first | assumption | go_cell | simp [go_sem])
  have d6_1 : w6.cell? ⟨w.heap.size, 1, none⟩ = some (.int .i64 y) := cell_call hb6 (by first | assumption | go_cell | simp [go_sem])
  have d6_2 : w6.cell? ⟨w.heap.size, 2, none⟩ = some (.int .i64 z) := cell_call hb6 (by first | assumption | go_cell | simp [go_sem])
  have d6_3 : w6.cell? ⟨w.heap.size + 1, 0, none⟩ = some (.int .i64 n.1) := cell_call hb6 (by first | assumption | go_cell | simp [go_sem])
  have d6_4 : w6.cell? ⟨w.heap.size + 1, 1, none⟩ = some (.int .i64 n.2.1) := cell_call hb6 (by first | assumption | go_cell | simp [go_sem])
  have d6_5 : w6.cell? ⟨w.heap.size + 1, 2, none⟩ = some (.int .i64 n.2.2) := cell_call hb6 (by first | assumption | go_cell | simp [go_sem])
  have d6_6 : w6.cell? ⟨w1.heap.size, 0, none⟩ = some (.int .i64 d.1) := cell_call hb6 (by first | assumption | go_cell | simp [go_sem])
  have d6_7 : w6.cell? ⟨w1.heap.size, 1, none⟩ = some (.int .i64 d.2.1) := cell_call hb6 (by first | assumption | go_cell | simp [go_sem])
  have d6_8 : w6.cell? ⟨w1.heap.size, 2, none⟩ = some (.int .i64 d.2.2) := cell_call hb6 (by first | assumption | go_cell | simp [go_sem])
  have d6_9 : w6.cell? ⟨w4.heap.size, 0, none⟩ = some (.int .i64 d.1) := cell_call hb6 (by first | assumption | go_cell | simp [go_sem])
  have d6_10 : w6.cell? ⟨w4.heap.size, 1, none⟩ = some (.int .i64 d.2.1) := cell_call hb6 (by first | assumption | go_cell | simp [go_sem])
  have d6_11 : w6.cell? ⟨w4.heap.size, 2, none⟩ = some (.int .i64 d.2.2) := cell_call hb6 (by first | assumption | go_cell | simp [go_sem])
  have l6_0 := World.block_lt_of_cell? w6 _ d6_0
  have l6_3 := World.block_lt_of_cell? w6 _ d6_3
  have l6_6 := World.block_lt_of_cell? w6 _ d6_6
  have l6_9 := World.block_lt_of_cell? w6 _ d6_9
  have hS6 := hB6.size
  clear hb6
  go_wp2_with fail
  go_ret
  exact ret_of rfl hB6

set_option maxRecDepth 100000 in
set_option maxHeartbeats 1600000 in
theorem walkOctaLong_yn (x y z k : Int) (d n : T3) (h : y ≠ 0) (hk : 0 ≤ k) (K1 : Hid (∀ w, Calls Try.prog 26 #[V3 0 y z] w (Ret (.tuple #[V3 d.1 d.2.1 d.2.2, .int .i64 0]) w))) (K2 : Hid (∀ w, Calls Try.prog 18 #[V3 d.1 d.2.1 d.2.2] w (Ret (.bool true) w))) (K3 : Hid (∀ w, Calls Try.prog 18 #[V3 n.1 n.2.1 n.2.2] w (Ret (.bool true) w))) (K4 : Hid (∀ w, Calls Try.prog 30 #[V3 d.1 d.2.1 d.2.2, V3 n.1 n.2.1 n.2.2] w (Ret (V3 (-d.1) (-d.2.1) (-d.2.2)) w))) (K5 : Hid (∀ w, Calls Try.prog 28 #[V3 (-d.1) (-d.2.1) (-d.2.2), V3 n.1 n.2.1 n.2.2] w (Ret (.int .i64 k) w)))
    (b0 : -16384 ≤ d.1 ∧ d.1 ≤ 16384) (b1 : -16384 ≤ d.2.1 ∧ d.2.1 ≤ 16384) (b2 : -16384 ≤ d.2.2 ∧ d.2.2 ≤ 16384) (HM : Hid (max (oabs d.1) (max (oabs d.2.1) (oabs d.2.2)) = 16384)) (w : World) : Calls Try.prog 8 #[V3 0 y z, V3 n.1 n.2.1 n.2.2] w (Ret (.bool true) w) := by
  have e0 : (y == 0) = false := beq_eq_false_iff_ne.2 h
  clear h
  go_enter Try.func8, Try.ntmps8
  go_wp2_with fail
  refine (K1.out _).mono ?_; rintro e w1 ⟨rfl, hb1⟩
  have hB1 : Below w.heap.size w w1 := Below.next (by go_grown) hb1
  have d1_0 : w1.cell? ⟨w.heap.size, 0, none⟩ = some (.int .i64 0) := cell_call hb1 (by first | assumption | go_cell | simp [go_sem])
  have d1_1 : w1.cell? ⟨w.heap.size, 1, none⟩ = some (.int .i64 y) := cell_call hb1 (by first | assumption | go_cell | simp [go_sem])
  have d1_2 : w1.cell? ⟨w.heap.size, 2, none⟩ = some (.int .i64 z) := cell_call hb1 (by first | assumption | go_cell | simp [go_sem])
  have d1_3 : w1.cell? ⟨w.heap.size + 1, 0, none⟩ = some (.int .i64 n.1) := cell_call hb1 (by first | assumption | go_cell | simp [go_sem])
  have d1_4 : w1.cell? ⟨w.heap.size + 1, 1, none⟩ = some (.int .i64 n.2.1) := cell_call hb1 (by first | assumption | go_cell | simp [go_sem])
  have d1_5 : w1.cell? ⟨w.heap.size + 1, 2, none⟩ = some (.int .i64 n.2.2) := cell_call hb1 (by first | assumption | go_cell | simp [go_sem])
  have l1_0 := World.block_lt_of_cell? w1 _ d1_0
  have l1_3 := World.block_lt_of_cell? w1 _ d1_3
  have hS1 := hB1.size
  clear hb1
  go_wp2_with fail
  refine wp_region_fresh_gen 20 (by kernel_rfl) (by kernel_rfl) (fun W2 HW2 => ?_)
  intro F2_0 U2_0
  have hA2 : Below w.heap.size w W2 := by rw [HW2]; go_grown
  have c2_0 : W2.cell? ⟨w.heap.size, 0, none⟩ = some (.int .i64 0) := by rw [HW2]; first | assumption | go_cell | simp [go_sem, *]
  have c2_1 : W2.cell? ⟨w.heap.size, 1, none⟩ = some (.int .i64 y) := by rw [HW2]; first | assumption | go_cell | simp [go_sem, *]
  have c2_2 : W2.cell? ⟨w.heap.size, 2, none⟩ = some (.int .i64 z) := by rw [HW2]; first | assumption | go_cell | simp [go_sem, *]
  have c2_3 : W2.cell? ⟨w.heap.size + 1, 0, none⟩ = some (.int .i64 n.1) := by rw [HW2]; first | assumption | go_cell | simp [go_sem, *]
  have c2_4 : W2.cell? ⟨w.heap.size + 1, 1, none⟩ = some (.int .i64 n.2.1) := by rw [HW2]; first | assumption | go_cell | simp [go_sem, *]
  have c2_5 : W2.cell? ⟨w.heap.size + 1, 2, none⟩ = some (.int .i64 n.2.2) := by rw [HW2]; first | assumption | go_cell | simp [go_sem, *]
  have c2_6 : W2.cell? ⟨w1.heap.size, 0, none⟩ = some (.int .i64 d.1) := by rw [HW2]; first | assumption | go_cell | simp [go_sem, *]
  have c2_7 : W2.cell? ⟨w1.heap.size, 1, none⟩ = some (.int .i64 d.2.1) := by rw [HW2]; first | assumption | go_cell | simp [go_sem, *]
  have c2_8 : W2.cell? ⟨w1.heap.size, 2, none⟩ = some (.int .i64 d.2.2) := by rw [HW2]; first | assumption | go_cell | simp [go_sem, *]
  clear HW2
  have r2_0 := reg_cell c2_0
  have r2_1 := reg_cell c2_1
  have r2_2 := reg_cell c2_2
  have r2_3 := reg_cell c2_3
  have r2_4 := reg_cell c2_4
  have r2_5 := reg_cell c2_5
  have r2_6 := reg_cell c2_6
  have r2_7 := reg_cell c2_7
  have r2_8 := reg_cell c2_8
  simp only [List.take_succ_cons, List.take_zero, List.drop_succ_cons, List.drop_zero]
  have x2_0 : ∀ x y : Int, (if x < y then y else x) = max x y := imax
  have x2_1 : max (oabs d.1) (max (oabs d.2.1) (oabs d.2.2)) = 16384 := HM.out
  iterate 4 (refine WL_plain (fun K hK => ?_); go_simp; refine hK _ ?_; clear hK K)
  refine WL_call (by kernel_rfl) (fun K hK => ?_)
  go_simp
  apply Exists.intro
  refine ⟨fun w1 hb1 hf1 => ?_, hK _ ?_⟩
  · exact K2.out _
  clear hK K
  iterate 5 (refine WL_plain (fun K hK => ?_); go_simp; refine hK _ ?_; clear hK K)
  refine WL_call (by kernel_rfl) (fun K hK => ?_)
  go_simp
  apply Exists.intro
  refine ⟨fun w1 hb1 hf1 => ?_, hK _ ?_⟩
  · exact (lAbs5 _ (by omega) _).mono fun _ _ h => h.ret
  clear hK K
  iterate 2 (refine WL_plain (fun K hK => ?_); go_simp; refine hK _ ?_; clear hK K)
  refine WL_call (by kernel_rfl) (fun K hK => ?_)
  go_simp
  apply Exists.intro
  refine ⟨fun w1 hb1 hf1 => ?_, hK _ ?_⟩
  · exact (lAbs5 _ (by omega) _).mono fun _ _ h => h.ret
  clear hK K
  iterate 2 (refine WL_plain (fun K hK => ?_); go_simp; refine hK _ ?_; clear hK K)
  refine WL_call (by kernel_rfl) (fun K hK => ?_)
  go_simp
  apply Exists.intro
  refine ⟨fun w1 hb1 hf1 => ?_, hK _ ?_⟩
  · exact (lAbs5 _ (by omega) _).mono fun _ _ h => h.ret
  clear hK K
  iterate 3 (refine WL_plain (fun K hK => ?_); go_simp; refine hK _ ?_; clear hK K)
  clear x2_0 x2_1
  refine WL_nil (fun w2 hb2 hf2 => ?_)
  have hB2 : Below w.heap.size w w2 := Below.next hA2 hb2
  have d2_0 := cell_call hb2 c2_0
  have d2_1 := cell_call hb2 c2_1
  have d2_2 := cell_call hb2 c2_2
  have d2_3 := cell_call hb2 c2_3
  have d2_4 := cell_call hb2 c2_4
  have d2_5 := cell_call hb2 c2_5
  have d2_6 := cell_call hb2 c2_6
  have d2_7 := cell_call hb2 c2_7
  have d2_8 := cell_call hb2 c2_8
  clear r2_0 c2_0 r2_1 c2_1 r2_2 c2_2 r2_3 c2_3 r2_4 c2_4 r2_5 c2_5 r2_6 c2_6 r2_7 c2_7 r2_8 c2_8
  have l2_0 := World.block_lt_of_cell? w2 _ d2_0
  have l2_3 := World.block_lt_of_cell? w2 _ d2_3
  have l2_6 := World.block_lt_of_cell? w2 _ d2_6
  have hS2 := hB2.size
  go_wp2_with fail
  refine (K3.out _).mono ?_; rintro e w3 ⟨rfl, hb3⟩
  have hB3 : Below w.heap.size w w3 := Below.next (by go_grown) hb3
  have d3_0 : w3.cell? ⟨w.heap.size, 0, none⟩ = some (.int .i64 0) := cell_call hb3 (by first | assumption | go_cell | simp [go_sem])
  have d3_1 : w3.cell? ⟨w.heap.size, 1, none⟩ = some (.int .i64 y) := cell_call hb3 (by first | assumption | go_cell | simp [go_sem])
  have d3_2 : w3.cell? ⟨w.heap.size, 2, none⟩ = some (.int .i64 z) := cell_call hb3 (by first | assumption | go_cell | simp [go_sem])
  have d3_3 : w3.cell? ⟨w.heap.size + 1, 0, none⟩ = some (.int .i64 n.1) := cell_call hb3 (by first | assumption | go_cell | simp [go_sem])
  have d3_4 : w3.cell? ⟨w.heap.size + 1, 1, none⟩ = some (.int .i64 n.2.1) := cell_call hb3 (by first | assumption | go_cell | simp [go_sem])
  have d3_5 : w3.cell? ⟨w.heap.size + 1, 2, none⟩ = some (.int .i64 n.2.2) := cell_call hb3 (by first | assumption | go_cell | simp [go_sem])
  have d3_6 : w3.cell? ⟨w1.heap.size, 0, none⟩ = some (.int .i64 d.1) := cell_call hb3 (by first | assumption | go_cell | simp [go_sem])
  have d3_7 : w3.cell? ⟨w1.heap.size, 1, none⟩ = some (.int .i64 d.2.1) := cell_call hb3 (by first | assumption | go_cell | simp [go_sem])
  have d3_8 : w3.cell? ⟨w1.heap.size, 2, none⟩ = some (.int .i64 d.2.2) := cell_call hb3 (by first | assumption | go_cell | simp [go_sem])
  have l3_0 := World.block_lt_of_cell? w3 _ d3_0
  have l3_3 := World.block_lt_of_cell? w3 _ d3_3
  have l3_6 := World.block_lt_of_cell? w3 _ d3_6
  have hS3 := hB3.size
  clear hb3
  go_wp2_with fail
  refine (K4.out _).mono ?_; rintro e w4 ⟨rfl, hb4⟩
  have hB4 : Below w.heap.size w w4 := Below.next (by go_grown) hb4
  have d4_0 : w4.cell? ⟨w.heap.size, 0, none⟩ = some (.int .i64 0) := cell_call hb4 (by first | assumption | go_cell | simp [go_sem])
  have d4_1 : w4.cell? ⟨w.heap.size, 1, none⟩ = some (.int .i64 y) := cell_call hb4 (by first | assumption | go_cell | simp [go_sem])
  have d4_2 : w4.cell? ⟨w.heap.size, 2, none⟩ = some (.int .i64 z) := cell_call hb4 (by first | assumption | go_cell | simp [go_sem])
  have d4_3 : w4.cell? ⟨w.heap.size + 1, 0, none⟩ = some (.int .i64 n.1) := cell_call hb4 (by first | assumption | go_cell | simp [go_sem])
  have d4_4 : w4.cell? ⟨w.heap.size + 1, 1, none⟩ = some (.int .i64 n.2.1) := cell_call hb4 (by first | assumption | go_cell | simp [go_sem])
  have d4_5 : w4.cell? ⟨w.heap.size + 1, 2, none⟩ = some (.int .i64 n.2.2) := cell_call hb4 (by first | assumption | go_cell | simp [go_sem])
  have d4_6 : w4.cell? ⟨w1.heap.size, 0, none⟩ = some (.int .i64 d.1) := cell_call hb4 (by first | assumption | go_cell | simp [go_sem])
  have d4_7 : w4.cell? ⟨w1.heap.size, 1, none⟩ = some (.int .i64 d.2.1) := cell_call hb4 (by first | assumption | go_cell | simp [go_sem])
  have d4_8 : w4.cell? ⟨w1.heap.size, 2, none⟩ = some (.int .i64 d.2.2) := cell_call hb4 (by first | assumption | go_cell | simp [go_sem])
  have l4_0 := World.block_lt_of_cell? w4 _ d4_0
  have l4_3 := World.block_lt_of_cell? w4 _ d4_3
  have l4_6 := World.block_lt_of_cell? w4 _ d4_6
  have hS4 := hB4.size
  clear hb4
  go_wp2_with fail
  refine (K5.out _).mono ?_; rintro e w5 ⟨rfl, hb5⟩
  have hB5 : Below w.heap.size w w5 := Below.next (by go_grown) hb5
  have d5_0 : w5.cell? ⟨w.heap.size, 0, none⟩ = some (.int .i64 0) := cell_call hb5 (by first | assumption | go_cell | simp [go_sem])
  have d5_1 : w5.cell? ⟨w.heap.size, 1, none⟩ = some (.int .i64 y) := cell_call hb5 (by first | assumption | go_cell | simp [go_sem])
  have d5_2 : w5.cell? ⟨w.heap.size, 2, none⟩ = some (.int .i64 z) := cell_call hb5 (by first | assumption | go_cell | simp [go_sem])
  have d5_3 : w5.cell? ⟨w.heap.size + 1, 0, none⟩ = some (.int .i64 n.1) := cell_call hb5 (by first | assumption | go_cell | simp [go_sem])
  have d5_4 : w5.cell? ⟨w.heap.size + 1, 1, none⟩ = some (.int .i64 n.2.1) := cell_call hb5 (by first | assumption | go_cell | simp [go_sem])
  have d5_5 : w5.cell? ⟨w.heap.size + 1, 2, none⟩ = some (.int .i64 n.2.2) := cell_call hb5 (by first | assumption | go_cell | simp [go_sem])
  have d5_6 : w5.cell? ⟨w1.heap.size, 0, none⟩ = some (.int .i64 d.1) := cell_call hb5 (by first | assumption | go_cell | simp [go_sem])
  have d5_7 : w5.cell? ⟨w1.heap.size, 1, none⟩ = some (.int .i64 d.2.1) := cell_call hb5 (by first | assumption | go_cell | simp [go_sem])
  have d5_8 : w5.cell? ⟨w1.heap.size, 2, none⟩ = some (.int .i64 d.2.2) := cell_call hb5 (by first | assumption | go_cell | simp [go_sem])
  have d5_9 : w5.cell? ⟨w4.heap.size, 0, none⟩ = some (.int .i64 (-d.1)) := cell_call hb5 (by first | assumption | go_cell | simp [go_sem])
  have d5_10 : w5.cell? ⟨w4.heap.size, 1, none⟩ = some (.int .i64 (-d.2.1)) := cell_call hb5 (by first | assumption | go_cell | simp [go_sem])
  have d5_11 : w5.cell? ⟨w4.heap.size, 2, none⟩ = some (.int .i64 (-d.2.2)) := cell_call hb5 (by first | assumption | go_cell | simp [go_sem])
  have l5_0 := World.block_lt_of_cell? w5 _ d5_0
  have l5_3 := World.block_lt_of_cell? w5 _ d5_3
  have l5_6 := World.block_lt_of_cell? w5 _ d5_6
  have l5_9 := World.block_lt_of_cell? w5 _ d5_9
  have hS5 := hB5.size
  clear hb5
  go_wp2_with fail
  all_goals
    refine (works5 _).mono ?_; rintro e w6 ⟨rfl, hb6⟩
    have hB6 : Below w.heap.size w w6 := Below.next (by go_grown) hb6
    clear hb6
    go_wp2_with fail
    go_ret
    exact ret_of rfl hB6

set_option maxRecDepth 100000 in
set_option maxHeartbeats 1600000 in
theorem walkOctaLong_zo (x y z k : Int) (d n : T3) (h : z ≠ 0) (hk : 0 ≤ k) (K1 : Hid (∀ w, Calls Try.prog 26 #[V3 0 0 z] w (Ret (.tuple #[V3 d.1 d.2.1 d.2.2, .int .i64 0]) w))) (K2 : Hid (∀ w, Calls Try.prog 18 #[V3 d.1 d.2.1 d.2.2] w (Ret (.bool true) w))) (K3 : Hid (∀ w, Calls Try.prog 18 #[V3 n.1 n.2.1 n.2.2] w (Ret (.bool false) w)))
    (b0 : -16384 ≤ d.1 ∧ d.1 ≤ 16384) (b1 : -16384 ≤ d.2.1 ∧ d.2.1 ≤ 16384) (b2 : -16384 ≤ d.2.2 ∧ d.2.2 ≤ 16384) (HM : Hid (max (oabs d.1) (max (oabs d.2.1) (oabs d.2.2)) = 16384)) (w : World) : Calls Try.prog 8 #[V3 0 0 z, V3 n.1 n.2.1 n.2.2] w (Ret (.bool true) w) := by
  have e0 : (z == 0) = false := beq_eq_false_iff_ne.2 h
  clear h
  go_enter Try.func8, Try.ntmps8
  go_wp2_with fail
  refine (K1.out _).mono ?_; rintro e w1 ⟨rfl, hb1⟩
  have hB1 : Below w.heap.size w w1 := Below.next (by go_grown) hb1
  have d1_0 : w1.cell? ⟨w.heap.size, 0, none⟩ = some (.int .i64 0) := cell_call hb1 (by first | assumption | go_cell | simp [go_sem])
  have d1_1 : w1.cell? ⟨w.heap.size, 1, none⟩ = some (.int .i64 0) := cell_call hb1 (by first | assumption | go_cell | simp [go_sem])
  have d1_2 : w1.cell? ⟨w.heap.size, 2, none⟩ = some (.int .i64 z) := cell_call hb1 (by first | assumption | go_cell | simp [go_sem])
  have d1_3 : w1.cell? ⟨w.heap.size + 1, 0, none⟩ = some (.int .i64 n.1) := cell_call hb1 (by first | assumption | go_cell | simp [go_sem])
  have d1_4 : w1.cell? ⟨w.heap.size + 1, 1, none⟩ = some (.int .i64 n.2.1) := cell_call hb1 (by first | assumption | go_cell | simp [go_sem])
  have d1_5 : w1.cell? ⟨w.heap.size + 1, 2, none⟩ = some (.int .i64 n.2.2) := cell_call hb1 (by first | assumption | go_cell | simp [go_sem])
  have l1_0 := World.block_lt_of_cell? w1 _ d1_0
  have l1_3 := World.block_lt_of_cell? w1 _ d1_3
  have hS1 := hB1.size
  clear hb1
  go_wp2_with fail
  refine wp_region_fresh_gen 20 (by kernel_rfl) (by kernel_rfl) (fun W2 HW2 => ?_)
  intro F2_0 U2_0
  have hA2 : Below w.heap.size w W2 := by rw [HW2]; go_grown
  have c2_0 : W2.cell? ⟨w.heap.size, 0, none⟩ = some (.int .i64 0) := by rw [HW2]; first | assumption | go_cell | simp [go_sem, *]
  have c2_1 : W2.cell? ⟨w.heap.size, 1, none⟩ = some (.int .i64 0) := by rw [HW2]; first | assumption | go_cell | simp [go_sem, *]
  have c2_2 : W2.cell? ⟨w.heap.size, 2, none⟩ = some (.int .i64 z) := by rw [HW2]; first | assumption | go_cell | simp [go_sem, *]
  have c2_3 : W2.cell? ⟨w.heap.size + 1, 0, none⟩ = some (.int .i64 n.1) := by rw [HW2]; first | assumption | go_cell | simp [go_sem, *]
  have c2_4 : W2.cell? ⟨w.heap.size + 1, 1, none⟩ = some (.int .i64 n.2.1) := by rw [HW2]; first | assumption | go_cell | simp [go_sem, *]
  have c2_5 : W2.cell? ⟨w.heap.size + 1, 2, none⟩ = some (.int .i64 n.2.2) := by rw [HW2]; first | assumption | go_cell | simp [go_sem, *]
  have c2_6 : W2.cell? ⟨w1.heap.size, 0, none⟩ = some (.int .i64 d.1) := by rw [HW2]; first | assumption | go_cell | simp [go_sem, *]
  have c2_7 : W2.cell? ⟨w1.heap.size, 1, none⟩ = some (.int .i64 d.2.1) := by rw [HW2]; first | assumption | go_cell | simp [go_sem, *]
  have c2_8 : W2.cell? ⟨w1.heap.size, 2, none⟩ = some (.int .i64 d.2.2) := by rw [HW2]; first | assumption | go_cell | simp [go_sem, *]
  clear HW2
  have r2_0 := reg_cell c2_0
  have r2_1 := reg_cell c2_1
  have r2_2 := reg_cell c2_2
  have r2_3 := reg_cell c2_3
  have r2_4 := reg_cell c2_4
  have r2_5 := reg_cell c2_5
  have r2_6 := reg_cell c2_6
  have r2_7 := reg_cell c2_7
  have r2_8 := reg_cell c2_8
  simp only [List.take_succ_cons, List.take_zero, List.drop_succ_cons, List.drop_zero]
  have x2_0 : ∀ x y : Int, (if x < y then y else x) = max x y := imax
  have x2_1 : max (oabs d.1) (max (oabs d.2.1) (oabs d.2.2)) = 16384 := HM.out
  iterate 4 (refine WL_plain (fun K hK => ?_); go_simp; refine hK _ ?_; clear hK K)
  refine WL_call (by kernel_rfl) (fun K hK => ?_)
  go_simp
  apply Exists.intro
  refine ⟨fun w1 hb1 hf1 => ?_, hK _ ?_⟩
  · exact K2.out _
  clear hK K
  iterate 5 (refine WL_plain (fun K hK => ?_); go_simp; refine hK _ ?_; clear hK K)
  refine WL_call (by kernel_rfl) (fun K hK => ?_)
  go_simp
  apply Exists.intro
  refine ⟨fun w1 hb1 hf1 => ?_, hK _ ?_⟩
  · exact (lAbs5 _ (by omega) _).mono fun _ _ h => h.ret
  clear hK K
  iterate 2 (refine WL_plain (fun K hK => ?_); go_simp; refine hK _ ?_; clear hK K)
  refine WL_call (by kernel_rfl) (fun K hK => ?_)
  go_simp
  apply Exists.intro
  refine ⟨fun w1 hb1 hf1 => ?_, hK _ ?_⟩
  · exact (lAbs5 _ (by omega) _).mono fun _ _ h => h.ret
  clear hK K
  iterate 2 (refine WL_plain (fun K hK => ?_); go_simp; refine hK _ ?_; clear hK K)
  refine WL_call (by kernel_rfl) (fun K hK => ?_)
  go_simp
  apply Exists.intro
  refine ⟨fun w1 hb1 hf1 => ?_, hK _ ?_⟩
  · exact (lAbs5 _ (by omega) _).mono fun _ _ h => h.ret
  clear hK K
  iterate 3 (refine WL_plain (fun K hK => ?_); go_simp; refine hK _ ?_; clear hK K)
  clear x2_0 x2_1
  refine WL_nil (fun w2 hb2 hf2 => ?_)
  have hB2 : Below w.heap.size w w2 := Below.next hA2 hb2
  have d2_0 := cell_call hb2 c2_0
  have d2_1 := cell_call hb2 c2_1
  have d2_2 := cell_call hb2 c2_2
  have d2_3 := cell_call hb2 c2_3
  have d2_4 := cell_call hb2 c2_4
  have d2_5 := cell_call hb2 c2_5
  have d2_6 := cell_call hb2 c2_6
  have d2_7 := cell_call hb2 c2_7
  have d2_8 := cell_call hb2 c2_8
  clear r2_0 c2_0 r2_1 c2_1 r2_2 c2_2 r2_3 c2_3 r2_4 c2_4 r2_5 c2_5 r2_6 c2_6 r2_7 c2_7 r2_8 c2_8
  have l2_0 := World.block_lt_of_cell? w2 _ d2_0
  have l2_3 := World.block_lt_of_cell? w2 _ d2_3
  have l2_6 := World.block_lt_of_cell? w2 _ d2_6
  have hS2 := hB2.size
  go_wp2_with fail
  refine (K3.out _).mono ?_; rintro e w3 ⟨rfl, hb3⟩
  have hB3 : Below w.heap.size w w3 := Below.next (by go_grown) hb3
  have d3_0 : w3.cell? ⟨w.heap.size, 0, none⟩ = some (.int .i64 0) := cell_call hb3 (by first | assumption | go_cell | simp [go_sem])
  have d3_1 : w3.cell? ⟨w.heap.size, 1, none⟩ = some (.int .i64 0) := cell_call hb3 (by first | assumption | go_cell | simp [go_sem])
  have d3_2 : w3.cell? ⟨w.heap.size, 2, none⟩ = some (.int .i64 z) := cell_call hb3 (by first | assumption | go_cell | simp [go_sem])
  have d3_3 : w3.cell? ⟨w.heap.size + 1, 0, none⟩ = some (.int .i64 n.1) := cell_call hb3 (by first | assumption | go_cell | simp [go_sem])
  have d3_4 : w3.cell? ⟨w.heap.size + 1, 1, none⟩ = some (.int .i64 n.2.1) := cell_call hb3 (by first | assumption | go_cell | simp [go_sem])
  have d3_5 : w3.cell? ⟨w.heap.size + 1, 2, none⟩ = some (.int .i64 n.2.2) := cell_call hb3 (by first | assumption | go_cell | simp [go_sem])
  have d3_6 : w3.cell? ⟨w1.heap.size, 0, none⟩ = some (.int .i64 d.1) := cell_call hb3 (by first | assumption | go_cell | simp [go_sem])
  have d3_7 : w3.cell? ⟨w1.heap.size, 1, none⟩ = some (.int .i64 d.2.1) := cell_call hb3 (by first | assumption | go_cell | simp [go_sem])
  have d3_8 : w3.cell? ⟨w1.heap.size, 2, none⟩ = some (.int .i64 d.2.2) := cell_call hb3 (by first | assumption | go_cell | simp [go_sem])
  have l3_0 := World.block_lt_of_cell? w3 _ d3_0
  have l3_3 := World.block_lt_of_cell? w3 _ d3_3
  have l3_6 := World.block_lt_of_cell? w3 _ d3_6
  have hS3 := hB3.size
  clear hb3
  go_wp2_with fail
  refine (works5 _).mono ?_; rintro e w4 ⟨rfl, hb4⟩
  have hB4 : Below w.heap.size w w4 := Below.next (by go_grown) hb4
  have d4_0 : w4.cell? ⟨w.heap.size, 0, none⟩ = some (.int .i64 0) := cell_call hb4 (by first | assumption | go_cell | simp [go_sem])
  have d4_1 : w4.cell? ⟨w.heap.size, 1, none⟩ = some (.int .i64 0) := cell_call hb4 (by first | assumption | go_cell | simp [go_sem])
  have d4_2 : w4.cell? ⟨w.heap.size, 2, none⟩ = some (.int .i64 z) := cell_call hb4 (by first | assumption | go_cell | simp [go_sem])
  have d4_3 : w4.cell? ⟨w.heap.size + 1, 0, none⟩ = some (.int .i64 n.1) := cell_call hb4 (by first | assumption | go_cell | simp [go_sem])
  have d4_4 : w4.cell? ⟨w.heap.size + 1, 1, none⟩ = some (.int .i64 n.2.1) := cell_call hb4 (by first | assumption | go_cell | simp [go_sem])
  have d4_5 : w4.cell? ⟨w.heap.size + 1, 2, none⟩ = some (.int .i64 n.2.2) := cell_call hb4 (by first | assumption | go_cell | simp [go_sem])
  have d4_6 : w4.cell? ⟨w1.heap.size, 0, none⟩ = some (.int .i64 d.1) := cell_call hb4 (by first | assumption | go_cell | simp [go_sem])
  have d4_7 : w4.cell? ⟨w1.heap.size, 1, none⟩ = some (.int .i64 d.2.1) := cell_call hb4 (by first | assumption | go_cell | simp [go_sem])
  have d4_8 : w4.cell? ⟨w1.heap.size, 2, none⟩ = some (.int .i64 d.2.2) := cell_call hb4 (by first | assumption | go_cell | simp [go_sem])
  have l4_0 := World.block_lt_of_cell? w4 _ d4_0
  have l4_3 := World.block_lt_of_cell? w4 _ d4_3
  have l4_6 := World.block_lt_of_cell? w4 _ d4_6
  have hS4 := hB4.size
  clear hb4
  go_wp2_with fail
  go_ret
  exact ret_of rfl hB4

set_option maxRecDepth 100000 in
set_option maxHeartbeats 1600000 in
theorem walkOctaLong_zp (x y z k : Int) (d n : T3) (h : z ≠ 0) (hk : 0 ≤ k) (K1 : Hid (∀ w, Calls Try.prog 26 #[V3 0 0 z] w (Ret (.tuple #[V3 d.1 d.2.1 d.2.2, .int .i64 0]) w))) (K2 : Hid (∀ w, Calls Try.prog 18 #[V3 d.1 d.2.1 d.2.2] w (Ret (.bool true) w))) (K3 : Hid (∀ w, Calls Try.prog 18 #[V3 n.1 n.2.1 n.2.2] w (Ret (.bool true) w))) (K4 : Hid (∀ w, Calls Try.prog 30 #[V3 d.1 d.2.1 d.2.2, V3 n.1 n.2.1 n.2.2] w (Ret (V3 d.1 d.2.1 d.2.2) w))) (K5 : Hid (∀ w, Calls Try.prog 28 #[V3 d.1 d.2.1 d.2.2, V3 n.1 n.2.1 n.2.2] w (Ret (.int .i64 k) w)))
    (b0 : -16384 ≤ d.1 ∧ d.1 ≤ 16384) (b1 : -16384 ≤ d.2.1 ∧ d.2.1 ≤ 16384) (b2 : -16384 ≤ d.2.2 ∧ d.2.2 ≤ 16384) (HM : Hid (max (oabs d.1) (max (oabs d.2.1) (oabs d.2.2)) = 16384)) (w : World) : Calls Try.prog 8 #[V3 0 0 z, V3 n.1 n.2.1 n.2.2] w (Ret (.bool true) w) := by
  have e0 : (z == 0) = false := beq_eq_false_iff_ne.2 h
  clear h
  go_enter Try.func8, Try.ntmps8
  go_wp2_with fail
  refine (K1.out _).mono ?_; rintro e w1 ⟨rfl, hb1⟩
  have hB1 : Below w.heap.size w w1 := Below.next (by go_grown) hb1
  have d1_0 : w1.cell? ⟨w.heap.size, 0, none⟩ = some (.int .i64 0) := cell_call hb1 (by first | assumption | go_cell | simp [go_sem])
  have d1_1 : w1.cell? ⟨w.heap.size, 1, none⟩ = some (.int .i64 0) := cell_call hb1 (by first | assumption | go_cell | simp [go_sem])
  have d1_2 : w1.cell? ⟨w.heap.size, 2, none⟩ = some (.int .i64 z) := cell_call hb1 (by first | assumption | go_cell | simp [go_sem])
  have d1_3 : w1.cell? ⟨w.heap.size + 1, 0, none⟩ = some (.int .i64 n.1) := cell_call hb1 (by first | assumption | go_cell | simp [go_sem])
  have d1_4 : w1.cell? ⟨w.heap.size + 1, 1, none⟩ = some (.int .i64 n.2.1) := cell_call hb1 (by first | assumption | go_cell | simp [go_sem])
  have d1_5 : w1.cell? ⟨w.heap.size + 1, 2, none⟩ = some (.int .i64 n.2.2) := cell_call hb1 (by first | assumption | go_cell | simp [go_sem])
  have l1_0 := World.block_lt_of_cell? w1 _ d1_0
  have l1_3 := World.block_lt_of_cell? w1 _ d1_3
  have hS1 := hB1.size
  clear hb1
  go_wp2_with fail
  refine wp_region_fresh_gen 20 (by kernel_rfl) (by kernel_rfl) (fun W2 HW2 => ?_)
  intro F2_0 U2_0
  have hA2 : Below w.heap.size w W2 := by rw [HW2]; go_grown
  have c2_0 : W2.cell? ⟨w.heap.size, 0, none⟩ = some (.int .i64 0) := by rw [HW2]; first | assumption | go_cell | simp [go_sem, *]
  have c2_1 : W2.cell? ⟨w.heap.size, 1, none⟩ = some (.int .i64 0) := by rw [HW2]; first | assumption | go_cell | simp [go_sem, *]
  have c2_2 : W2.cell? ⟨w.heap.size, 2, none⟩ = some (.int .i64 z) := by rw [HW2]; first | assumption | go_cell | simp [go_sem, *]
  have c2_3 : W2.cell? ⟨w.heap.size + 1, 0, none⟩ = some (.int .i64 n.1) := by rw [HW2]; first | assumption | go_cell | simp [go_sem, *]
  have c2_4 : W2.cell? ⟨w.heap.size + 1, 1, none⟩ = some (.int .i64 n.2.1) := by rw [HW2]; first | assumption | go_cell | simp [go_sem, *]
  have c2_5 : W2.cell? ⟨w.heap.size + 1, 2, none⟩ = some (.int .i64 n.2.2) := by rw [HW2]; first | assumption | go_cell | simp [go_sem, *]
  have c2_6 : W2.cell? ⟨w1.heap.size, 0, none⟩ = some (.int .i64 d.1) := by rw [HW2]; first | assumption | go_cell | simp [go_sem, *]
  have c2_7 : W2.cell? ⟨w1.heap.size, 1, none⟩ = some (.int .i64 d.2.1) := by rw [HW2]; first | assumption | go_cell | simp [go_sem, *]
  have c2_8 : W2.cell? ⟨w1.heap.size, 2, none⟩ = some (.int .i64 d.2.2) := by rw [HW2]; first | assumption | go_cell | simp [go_sem, *]
  clear HW2
  have r2_0 := reg_cell c2_0
  have r2_1 := reg_cell c2_1
  have r2_2 := reg_cell c2_2
  have r2_3 := reg_cell c2_3
  have r2_4 := reg_cell c2_4
  have r2_5 := reg_cell c2_5
  have r2_6 := reg_cell c2_6
  have r2_7 := reg_cell c2_7
  have r2_8 := reg_cell c2_8
  simp only [List.take_succ_cons, List.take_zero, List.drop_succ_cons, List.drop_zero]
  have x2_0 : ∀ x y : Int, (if x < y then y else x) = max x y := imax
  have x2_1 : max (oabs d.1) (max (oabs d.2.1) (oabs d.2.2)) = 16384 := HM.out
  iterate 4 (refine WL_plain (fun K hK => ?_); go_simp; refine hK _ ?_; clear hK K)
  refine WL_call (by kernel_rfl) (fun K hK => ?_)
  go_simp
  apply Exists.intro
  refine ⟨fun w1 hb1 hf1 => ?_, hK _ ?_⟩
  · exact K2.out _
  clear hK K
  iterate 5 (refine WL_plain (fun K hK => ?_); go_simp; refine hK _ ?_; clear hK K)
  refine WL_call (by kernel_rfl) (fun K hK => ?_)
  go_simp
  apply Exists.intro
  refine ⟨fun w1 hb1 hf1 => ?_, hK _ ?_⟩
  · exact (lAbs5 _ (by omega) _).mono fun _ _ h => h.ret
  clear hK K
  iterate 2 (refine WL_plain (fun K hK => ?_); go_simp; refine hK _ ?_; clear hK K)
  refine WL_call (by kernel_rfl) (fun K hK => ?_)
  go_simp
  apply Exists.intro
  refine ⟨fun w1 hb1 hf1 => ?_, hK _ ?_⟩
  · exact (lAbs5 _ (by omega) _).mono fun _ _ h => h.ret
  clear hK K
  iterate 2 (refine WL_plain (fun K hK => ?_); go_simp; refine hK _ ?_; clear hK K)
  refine WL_call (by kernel_rfl) (fun K hK => ?_)
  go_simp
  apply Exists.intro
  refine ⟨fun w1 hb1 hf1 => ?_, hK _ ?_⟩
  · exact (lAbs5 _ (by omega) _).mono fun _ _ h => h.ret
  clear hK K
  iterate 3 (refine WL_plain (fun K hK => ?_); go_simp; refine hK _ ?_; clear hK K)
  clear x2_0 x2_1
  refine WL_nil (fun w2 hb2 hf2 => ?_)
  have hB2 : Below w.heap.size w w2 := Below.next hA2 hb2
  have d2_0 := cell_call hb2 c2_0
  have d2_1 := cell_call hb2 c2_1
  have d2_2 := cell_call hb2 c2_2
  have d2_3 := cell_call hb2 c2_3
  have d2_4 := cell_call hb2 c2_4
  have d2_5 := cell_call hb2 c2_5
  have d2_6 := cell_call hb2 c2_6
  have d2_7 := cell_call hb2 c2_7
  have d2_8 := cell_call hb2 c2_8
  clear r2_0 c2_0 r2_1 c2_1 r2_2 c2_2 r2_3 c2_3 r2_4 c2_4 r2_5 c2_5 r2_6 c2_6 r2_7 c2_7 r2_8 c2_8
  have l2_0 := World.block_lt_of_cell? w2 _ d2_0
  have l2_3 := World.block_lt_of_cell? w2 _ d2_3
  have l2_6 := World.block_lt_of_cell? w2 _ d2_6
  have hS2 := hB2.size
  go_wp2_with fail
  refine (K3.out _).mono ?_; rintro e w3 ⟨rfl, hb3⟩
  have hB3 : Below w.heap.size w w3 := Below.next (by go_grown) hb3
  have d3_0 : w3.cell? ⟨w.heap.size, 0, none⟩ = some (.int .i64 0) := cell_call hb3 (by first | assumption | go_cell | simp [go_sem])
  have d3_1 : w3.cell? ⟨w.heap.size, 1, none⟩ = some (.int .i64 0) := cell_call hb3 (by first | assumption | go_cell | simp [go_sem])
  have d3_2 : w3.cell? ⟨w.heap.size, 2, none⟩ = some (.int .i64 z) := cell_call hb3 (by first | assumption | go_cell | simp [go_sem])
  have d3_3 : w3.cell? ⟨w.heap.size + 1, 0, none⟩ = some (.int .i64 n.1) := cell_call hb3 (by first | assumption | go_cell | simp [go_sem])
  have d3_4 : w3.cell? ⟨w.heap.size + 1, 1, none⟩ = some (.int .i64 n.2.1) := cell_call hb3 (by first | assumption | go_cell | simp [go_sem])
  have d3_5 : w3.cell? ⟨w.heap.size + 1, 2, none⟩ = some (.int .i64 n.2.2) := cell_call hb3 (by first | assumption | go_cell | simp [go_sem])
  have d3_6 : w3.cell? ⟨w1.heap.size, 0, none⟩ = some (.int .i64 d.1) := cell_call hb3 (by first | assumption | go_cell | simp [go_sem])
  have d3_7 : w3.cell? ⟨w1.heap.size, 1, none⟩ = some (.int .i64 d.2.1) := cell_call hb3 (by first | assumption | go_cell | simp [go_sem])
  have d3_8 : w3.cell? ⟨w1.heap.size, 2, none⟩ = some (.int .i64 d.2.2) := cell_call hb3 (by first | assumption | go_cell | simp [go_sem])
  have l3_0 := World.block_lt_of_cell? w3 _ d3_0
  have l3_3 := World.block_lt_of_cell? w3 _ d3_3
  have l3_6 := World.block_lt_of_cell? w3 _ d3_6
  have hS3 := hB3.size
  clear hb3
  go_wp2_with fail
  refine (K4.out _).mono ?_; rintro e w4 ⟨rfl, hb4⟩
  have hB4 : Below w.heap.size w w4 := Below.next (by go_grown) hb4
  have d4_0 : w4.cell? ⟨w.heap.size, 0, none⟩ = some (.int .i64 0) := cell_call hb4 (by first | assumption | go_cell | simp [go_sem])
  have d4_1 : w4.cell? ⟨w.heap.size, 1, none⟩ = some (.int .i64 0) := cell_call hb4 (by first | assumption | go_cell | simp [go_sem])
  have d4_2 : w4.cell? ⟨w.heap.size, 2, none⟩ = some (.int .i64 z) := cell_call hb4 (by first | assumption | go_cell | simp [go_sem])
  have d4_3 : w4.cell? ⟨w.heap.size + 1, 0, none⟩ = some (.int .i64 n.1) := cell_call hb4 (by first | assumption | go_cell | simp [go_sem])
  have d4_4 : w4.cell? ⟨w.heap.size + 1, 1, none⟩ = some (.int .i64 n.2.1) := cell_call hb4 (by first | assumption | go_cell | simp [go_sem])
  have d4_5 : w4.cell? ⟨w.heap.size + 1, 2, none⟩ = some (.int .i64 n.2.2) := cell_call hb4 (by first | assumption | go_cell | simp [go_sem])
  have d4_6 : w4.cell? ⟨w1.heap.size, 0, none⟩ = some (.int .i64 d.1) := cell_call hb4 (by first | assumption | go_cell | simp [go_sem])
  have d4_7 : w4.cell? ⟨w1.heap.size, 1, none⟩ = some (.int .i64 d.2.1) := cell_call hb4 (by first | assumption | go_cell | simp [go_sem])
  have d4_8 : w4.cell? ⟨w1.heap.size, 2, none⟩ = some (.int .i64 d.2.2) := cell_call hb4 (by first | assumption | go_cell | simp [go_sem])
  have l4_0 := World.block_lt_of_cell? w4 _ d4_0
  have l4_3 := World.block_lt_of_cell? w4 _ d4_3
  have l4_6 := World.block_lt_of_cell? w4 _ d4_6
  have hS4 := hB4.size
  clear hb4
  go_wp2_with fail
  refine (K5.out _).mono ?_; rintro e w5 ⟨rfl, hb5⟩
  have hB5 : Below w.heap.size w w5 := Below.next (by go_grown) hb5
  have d5_0 : w5.cell? ⟨w.heap.size, 0, none⟩ = some (.int .i64 0) := cell_call hb5 (by first | assumption | go_cell | simp [go_sem])
  have d5_1 : w5.cell? ⟨w.heap.size, 1, none⟩ = some (.int .i64 0) := cell_call hb5 (by first | assumption | go_cell | simp [go_sem])
  have d5_2 : w5.cell? ⟨w.heap.size, 2, none⟩ = some (.int .i64 z) := cell_call hb5 (by first | assumption | go_cell | simp [go_sem])
  have d5_3 : w5.cell? ⟨w.heap.size + 1, 0, none⟩ = some (.int .i64 n.1) := cell_call hb5 (by first | assumption | go_cell | simp [go_sem])
  have d5_4 : w5.cell? ⟨w.heap.size + 1, 1, none⟩ = some (.int .i64 n.2.1) := cell_call hb5 (by first | assumption | go_cell | simp [go_sem])
  have d5_5 : w5.cell? ⟨w.heap.size + 1, 2, none⟩ = some (.int .i64 n.2.2) := cell_call hb5 (by first | assumption | go_cell | simp [go_sem])
  have d5_6 : w5.cell? ⟨w1.heap.size, 0, none⟩ = some (.int .i64 d.1) := cell_call hb5 (by first | assumption | go_cell | simp [go_sem])
  have d5_7 : w5.cell? ⟨w1.heap.size, 1, none⟩ = some (.int .i64 d.2.1) := cell_call hb5 (by first | assumption | go_cell | simp [go_sem])
  have d5_8 : w5.cell? ⟨w1.heap.size, 2, none⟩ = some (.int .i64 d.2.2) := cell_call hb5 (by first | assumption | go_cell | simp [go_sem])
  have d5_9 : w5.cell? ⟨w4.heap.size, 0, none⟩ = some (.int .i64 d.1) := cell_call hb5 (by first | assumption | go_cell | simp [go_sem])
  have d5_10 : w5.cell? ⟨w4.heap.size, 1, none⟩ = some (.int .i64 d.2.1) := cell_call hb5 (by first | assumption | go_cell | simp [go_sem])
  have d5_11 : w5.cell? ⟨w4.heap.size, 2, none⟩ = some (.int .i64 d.2.2) := cell_call hb5 (by first | assumption | go_cell | simp [go_sem])
  have l5_0 := World.block_lt_of_cell? w5 _ d5_0
  have l5_3 := World.block_lt_of_cell? w5 _ d5_3
  have l5_6 := World.block_lt_of_cell? w5 _ d5_6
  have l5_9 := World.block_lt_of_cell? w5 _ d5_9
  have hS5 := hB5.size
  clear hb5
  go_wp2_with fail
  refine (works5 _).mono ?_; rintro e w6 ⟨rfl, hb6⟩
  have hB6 : Below w.heap.size w w6 := Below.next (by go_grown) hb6
  have d6_0 : w6.cell? ⟨w.heap.size, 0, none⟩ = some (.int .i64 0) := cell_call hb6 (by first | assumption | go_cell | simp [go_sem])
  have d6_1 : w6.cell? ⟨w.heap.size, 1, none⟩ = some (.int .i64 0) := cell_call hb6 (by first | assumption | go_cell | simp [go_sem])
  have d6_2 : w6.cell? ⟨w.heap.size, 2, none⟩ = some (.int .i64 z) := cell_call hb6 (by first | assumption | go_cell | simp [go_sem])
  have d6_3 : w6.cell? ⟨w.heap.size + 1, 0, none⟩ = some (.int .i64 n.1) := cell_call hb6 (by first | assumption | go_cell | simp [go_sem])
  have d6_4 : w6.cell? ⟨w.heap.size + 1, 1, none⟩ = some (.int .i64 n.2.1) := cell_call hb6 (by first | assumption | go_cell | simp [go_sem])
  have d6_5 : w6.cell? ⟨w.heap.size + 1, 2, none⟩ = some (.int .i64 n.2.2) := cell_call hb6 (by first | assumption | go_cell | simp [go_sem])
  have d6_6 : w6.cell? ⟨w1.heap.size, 0, none⟩ = some (.int .i64 d.1) := cell_call hb6 (by first | assumption | go_cell | simp [go_sem])
  have d6_7 : w6.cell? ⟨w1.heap.size, 1, none⟩ = some (.int .i64 d.2.1) := cell_call hb6 (by first | assumption | go_cell | simp [go_sem])
  have d6_8 : w6.cell? ⟨w1.heap.size, 2, none⟩ = some (.int .i64 d.2.2) := cell_call hb6 (by first | assumption | go_cell | simp [go_sem])
  have d6_9 : w6.cell? ⟨w4.heap.size, 0, none⟩ = some (.int .i64 d.1) := cell_call hb6 (by first | assumption | go_cell | simp [go_sem])
  have d6_10 : w6.cell? ⟨w4.heap.size, 1, none⟩ = some (.int .i64 d.2.1) := cell_call hb6 (by first | assumption | go_cell | simp [go_sem])
  have d6_11 : w6.cell? ⟨w4.heap.size, 2, none⟩ = some (.int .i64 d.2.2) := cell_call hb6 (by first | assumption | go_cell | simp [go_sem])
  have l6_0 := World.block_lt_of_cell? w6 _ d6_0
  have l6_3 := World.block_lt_of_cell? w6 _ d6_3
  have l6_6 := World.block_lt_of_cell? w6 _ d6_6
  have l6_9 := World.block_lt_of_cell? w6 _ d6_9
  have hS6 := hB6.size
  clear hb6
  go_wp2_with fail
  go_ret
  exact ret_of rfl hB6

set_option maxRecDepth 100000 in
set_option maxHeartbeats 1600000 in
theorem walkOctaLong_zn (x y z k : Int) (d n : T3) (h : z ≠ 0) (hk : 0 ≤ k) (K1 : Hid (∀ w, Calls Try.prog 26 #[V3 0 0 z] w (Ret (.tuple #[V3 d.1 d.2.1 d.2.2, .int .i64 0]) w))) (K2 : Hid (∀ w, Calls Try.prog 18 #[V3 d.1 d.2.1 d.2.2] w (Ret (.bool true) w))) (K3 : Hid (∀ w, Calls Try.prog 18 #[V3 n.1 n.2.1 n.2.2] w (Ret (.bool true) w))) (K4 : Hid (∀ w, Calls Try.prog 30 #[V3 d.1 d.2.1 d.2.2, V3 n.1 n.2.1 n.2.2] w (Ret (V3 (-d.1) (-d.2.1) (-d.2.2)) w))) (K5 : Hid (∀ w, Calls Try.prog 28 #[V3 (-d.1) (-d.2.1) (-d.2.2), V3 n.1 n.2.1 n.2.2] w (Ret (.int .i64 k) w)))
    (b0 : -16384 ≤ d.1 ∧ d.1 ≤ 16384) (b1 : -16384 ≤ d.2.1 ∧ d.2.1 ≤ 16384) (b2 : -16384 ≤ d.2.2 ∧ d.2.2 ≤ 16384) (HM : Hid (max (oabs d.1) (max (oabs d.2.1) (oabs d.2.2)) = 16384)) (w : World) : Calls Try.prog 8 #[V3 0 0 z, V3 n.1 n.2.1 n.2.2] w (Ret (.bool true) w) := by
  have e0 : (z == 0) = false := beq_eq_false_iff_ne.2 h
  clear h
  go_enter Try.func8, Try.ntmps8
  go_wp2_with fail
  refine (K1.out _).mono ?_; rintro e w1 ⟨rfl, hb1⟩
  have hB1 : Below w.heap.size w w1 := Below.next (by go_grown) hb1
  have d1_0 : w1.cell? ⟨w.heap.size, 0, none⟩ = some (.int .i64 0) := cell_call hb1 (by first | assumption | go_cell | simp [go_sem])
  have d1_1 : w1.cell? ⟨w.heap.size, 1, none⟩ = some (.int .i64 0) := cell_call hb1 (by first | assumption | go_cell | simp [go_sem])
  have d1_2 : w1.cell? ⟨w.heap.size, 2, none⟩ = some (.int .i64 z) := cell_call hb1 (by first | assumption | go_cell | simp [go_sem])
  have d1_3 : w1.cell? ⟨w.heap.size + 1, 0, none⟩ = some (.int .i64 n.1) := cell_call hb1 (by first | assumption | go_cell | simp [go_sem])
  have d1_4 : w1.cell? ⟨w.heap.size + 1, 1, none⟩ = some (.int .i64 n.2.1) := cell_call hb1 (by first | assumption | go_cell | simp [go_sem])
  have d1_5 : w1.cell? ⟨w.heap.size + 1, 2, none⟩ = some (.int .i64 n.2.2) := cell_call hb1 (by first | assumption | go_cell | simp [go_sem])
  have l1_0 := World.block_lt_of_cell? w1 _ d1_0
  have l1_3 := World.block_lt_of_cell? w1 _ d1_3
  have hS1 := hB1.size
  clear hb1
  go_wp2_with fail
  refine wp_region_fresh_gen 20 (by kernel_rfl) (by kernel_rfl) (fun W2 HW2 => ?_)
  intro F2_0 U2_0
  have hA2 : Below w.heap.size w W2 := by rw [HW2]; go_grown
  have c2_0 : W2.cell? ⟨w.heap.size, 0, none⟩ = some (.int .i64 0) := by rw [HW2]; first | assumption | go_cell | simp [go_sem, *]
  have c2_1 : W2.cell? ⟨w.heap.size, 1, none⟩ = some (.int .i64 0) := by rw [HW2]; first | assumption | go_cell | simp [go_sem, *]
  have c2_2 : W2.cell? ⟨w.heap.size, 2, none⟩ = some (.int .i64 z) := by rw [HW2]; first | assumption | go_cell | simp [go_sem, *]
  have c2_3 : W2.cell? ⟨w.heap.size + 1, 0, none⟩ = some (.int .i64 n.1) := by rw [HW2]; first | assumption | go_cell | simp [go_sem, *]
  have c2_4 : W2.cell? ⟨w.heap.size + 1, 1, none⟩ = some (.int .i64 n.2.1) := by rw [HW2]; first | assumption | go_cell | simp [go_sem, *]
  have c2_5 : W2.cell? ⟨w.heap.size + 1, 2, none⟩ = some (.int .i64 n.2.2) := by rw [HW2]; first | assumption | go_cell | simp [go_sem, *]
  have c2_6 : W2.cell? ⟨w1.heap.size, 0, none⟩ = some (.int .i64 d.1) := by rw [HW2]; first | assumption | go_cell | simp [go_sem, *]
  have c2_7 : W2.cell? ⟨w1.heap.size, 1, none⟩ = some (.int .i64 d.2.1) := by rw [HW2]; first | assumption | go_cell | simp [go_sem, *]
  have c2_8 : W2.cell? ⟨w1.heap.size, 2, none⟩ = some (.int .i64 d.2.2) := by rw [HW2]; first | assumption | go_cell | simp [go_sem, *]
  clear HW2
  have r2_0 := reg_cell c2_0
  have r2_1 := reg_cell c2_1
  have r2_2 := reg_cell c2_2
  have r2_3 := reg_cell c2_3
  have r2_4 := reg_cell c2_4
  have r2_5 := reg_cell c2_5
  have r2_6 := reg_cell c2_6
  have r2_7 := reg_cell c2_7
  have r2_8 := reg_cell c2_8
  simp only [List.take_succ_cons, List.take_zero, List.drop_succ_cons, List.drop_zero]
  have x2_0 : ∀ x y : Int, (if x < y then y else x) = max x y := imax
  have x2_1 : max (oabs d.1) (max (oabs d.2.1) (oabs d.2.2)) = 16384 := HM.out
  iterate 4 (refine WL_plain (fun K hK => ?_); go_simp; refine hK _ ?_; clear hK K)
  refine WL_call (by kernel_rfl) (fun K hK => ?_)
  go_simp
  apply Exists.intro
  refine ⟨fun w1 hb1 hf1 => ?_, hK _ ?_⟩
  · exact K2.out _
  clear hK K
  iterate 5 (refine WL_plain (fun K hK => ?_); go_simp; refine hK _ ?_; clear hK K)
  refine WL_call (by kernel_rfl) (fun K hK => ?_)
  go_simp
  apply Exists.intro
  refine ⟨fun w1 hb1 hf1 => ?_, hK _ ?_⟩
  · exact (lAbs5 _ (by omega) _).mono fun _ _ h => h.ret
  clear hK K
  iterate 2 (refine WL_plain (fun K hK => ?_); go_simp; refine hK _ ?_; clear hK K)
  refine WL_call (by kernel_rfl) (fun K hK => ?_)
  go_simp
  apply Exists.intro
  refine ⟨fun w1 hb1 hf1 => ?_, hK _ ?_⟩
  · exact (lAbs5 _ (by omega) _).mono fun _ _ h => h.ret
  clear hK K
  iterate 2 (refine WL_plain (fun K hK => ?_); go_simp; refine hK _ ?_; clear hK K)
  refine WL_call (by kernel_rfl) (fun K hK => ?_)
  go_simp
  apply Exists.intro
  refine ⟨fun w1 hb1 hf1 => ?_, hK _ ?_⟩
  · exact (lAbs5 _ (by omega) _).mono fun _ _ h => h.ret
  clear hK K
  iterate 3 (refine WL_plain (fun K hK => ?_); go_simp; refine hK _ ?_; clear hK K)
  clear x2_0 x2_1
  refine WL_nil (fun w2 hb2 hf2 => ?_)
  have hB2 : Below w.heap.size w w2 := Below.next hA2 hb2
  have d2_0 := cell_call hb2 c2_0
  have d2_1 := cell_call hb2 c2_1
  have d2_2 := cell_call hb2 c2_2
  have d2_3 := cell_call hb2 c2_3
  have d2_4 := cell_call hb2 c2_4
  have d2_5 := cell_call hb2 c2_5
  have d2_6 := cell_call hb2 c2_6
  have d2_7 := cell_call hb2 c2_7
  have d2_8 := cell_call hb2 c2_8
  clear r2_0 c2_0 r2_1 c2_1 r2_2 c2_2 r2_3 c2_3 r2_4 c2_4 r2_5 c2_5 r2_6 c2_6 r2_7 c2_7 r2_8 c2_8
  have l2_0 := World.block_lt_of_cell? w2 _ d2_0
  have l2_3 := World.block_lt_of_cell? w2 _ d2_3
  have l2_6 := World.block_lt_of_cell? w2 _ d2_6
  have hS2 := hB2.size
  go_wp2_with fail
  refine (K3.out _).mono ?_; rintro e w3 ⟨rfl, hb3⟩
  have hB3 : Below w.heap.size w w3 := Below.next (by go_grown) hb3
  have d3_0 : w3.cell? ⟨w.heap.size, 0, none⟩ = some (.int .i64 0) := cell_call hb3 (by first | assumption | go_cell | simp [go_sem])
  have d3_1 : w3.cell? ⟨w.heap.size, 1, none⟩ = some (.int .i64 0) := cell_call hb3 (by first | assumption | go_cell | simp [go_sem])
  have d3_2 : w3.cell? ⟨w.heap.size, 2, none⟩ = some (.int .i64 z) := cell_call hb3 (by first | assumption | go_cell | simp [go_sem])
  have d3_3 : w3.cell? ⟨w.heap.size + 1, 0, none⟩ = some (.int .i64 n.1) := cell_call hb3 (by first | assumption | go_cell | simp [go_sem])
  have d3_4 : w3.cell? ⟨w.heap.size + 1, 1, none⟩ = some (.int .i64 n.2.1) := cell_call hb3 (by first | assumption | go_cell | simp [go_sem])
  have d3_5 : w3.cell? ⟨w.heap.size + 1, 2, none⟩ = some (.int .i64 n.2.2) := cell_call hb3 (by first | assumption | go_cell | simp [go_sem])
  have d3_6 : w3.cell? ⟨w1.heap.size, 0, none⟩ = some (.int .i64 d.1) := cell_call hb3 (by first | assumption | go_cell | simp [go_sem])
  have d3_7 : w3.cell? ⟨w1.heap.size, 1, none⟩ = some (.int .i64 d.2.1) := cell_call hb3 (by first | assumption | go_cell | simp [go_sem])
  have d3_8 : w3.cell? ⟨w1.heap.size, 2, none⟩ = some (.int .i64 d.2.2) := cell_call hb3 (by first | assumption | go_cell | simp [go_sem])
  have l3_0 := World.block_lt_of_cell? w3 _ d3_0
  have l3_3 := World.block_lt_of_cell? w3 _ d3_3
  have l3_6 := World.block_lt_of_cell? w3 _ d3_6
  have hS3 := hB3.size
  clear hb3
  go_wp2_with fail
  refine (K4.out _).mono ?_; rintro e w4 ⟨rfl, hb4⟩
  have hB4 : Below w.heap.size w w4 := Below.next (by go_grown) hb4
  have d4_0 : w4.cell? ⟨w.heap.size, 0, none⟩ = some (.int .i64 0) := cell_call hb4 (by first | assumption | go_cell | simp [go_sem])
  have d4_1 : w4.cell? ⟨w.heap.size, 1, none⟩ = some (.int .i64 0) := cell_call hb4 (by first | assumption | go_cell | simp [go_sem])
  have d4_2 : w4.cell? ⟨w.heap.size, 2, none⟩ = some (.int .i64 z) := cell_call hb4 (by first | assumption | go_cell | simp [go_sem])
  have d4_3 : w4.cell? ⟨w.heap.size + 1, 0, none⟩ = some (.int .i64 n.1) := cell_call hb4 (by first | assumption | go_cell | simp [go_sem])
  have d4_4 : w4.cell? ⟨w.heap.size + 1, 1, none⟩ = some (.int .i64 n.2.1) := cell_call hb4 (by first | assumption | go_cell | simp [go_sem])
  have d4_5 : w4.cell? ⟨w.heap.size + 1, 2, none⟩ = some (.int .i64 n.2.2) := cell_call hb4 (by first | assumption | go_cell | simp [go_sem])
  have d4_6 : w4.cell? ⟨w1.heap.size, 0, none⟩ = some (.int .i64 d.1) := cell_call hb4 (by first | assumption | go_cell | simp [go_sem])
  have d4_7 : w4.cell? ⟨w1.heap.size, 1, none⟩ = some (.int .i64 d.2.1) := cell_call hb4 (by first | assumption | go_cell | simp [go_sem])
  have d4_8 : w4.cell? ⟨w1.heap.size, 2, none⟩ = some (.int .i64 d.2.2) := cell_call hb4 (by first | assumption | go_cell | simp [go_sem])
  have l4_0 := World.block_lt_of_cell? w4 _ d4_0
  have l4_3 := World.block_lt_of_cell? w4 _ d4_3
  have l4_6 := World.block_lt_of_cell? w4 _ d4_6
  have hS4 := hB4.size
  clear hb4
  go_wp2_with fail
  refine (K5.out _).mono ?_; rintro e w5 ⟨rfl, hb5⟩
  have hB5 : Below w.heap.size w w5 := Below.next (by go_grown) hb5
  have d5_0 : w5.cell? ⟨w.heap.size, 0, none⟩ = some (.int .i64 0) := cell_call hb5 (by first | assumption | go_cell | simp [go_sem])
  have d5_1 : w5.cell? ⟨w.heap.size, 1, none⟩ = some (.int .i64 0) := cell_call hb5 (by first | assumption | go_cell | simp [go_sem])
  have d5_2 : w5.cell? ⟨w.heap.size, 2, none⟩ = some (.int .i64 z) := cell_call hb5 (by first | assumption | go_cell | simp [go_sem])
  have d5_3 : w5.cell? ⟨w.heap.size + 1, 0, none⟩ = some (.int .i64 n.1) := cell_call hb5 (by first | assumption | go_cell | simp [go_sem])
  have d5_4 : w5.cell? ⟨w.heap.size + 1, 1, none⟩ = some (.int .i64 n.2.1) := cell_call hb5 (by first | assumption | go_cell | simp [go_sem])
  have d5_5 : w5.cell? ⟨w.heap.size + 1, 2, none⟩ = some (.int .i64 n.2.2) := cell_call hb5 (by first | assumption | go_cell | simp [go_sem])
  have d5_6 : w5.cell? ⟨w1.heap.size, 0, none⟩ = some (.int .i64 d.1) := cell_call hb5 (by first | assumption | go_cell | simp [go_sem])
  have d5_7 : w5.cell? ⟨w1.heap.size, 1, none⟩ = some (.int .i64 d.2.1) := cell_call hb5 (by first | assumption | go_cell | simp [go_sem])
  have d5_8 : w5.cell? ⟨w1.heap.size, 2, none⟩ = some (.int .i64 d.2.2) := cell_call hb5 (by first | assumption | go_cell | simp [go_sem])
  have d5_9 : w5.cell? ⟨w4.heap.size, 0, none⟩ = some (.int .i64 (-d.1)) := cell_call hb5 (by first | assumption | go_cell | simp [go_sem])
  have d5_10 : w5.cell? ⟨w4.heap.size, 1, none⟩ = some (.int .i64 (-d.2.1)) := cell_call hb5 (by first | assumption | go_cell | simp [go_sem])
  have d5_11 : w5.cell? ⟨w4.heap.size, 2, none⟩ = some (.int .i64 (-d.2.2)) := cell_call hb5 (by first | assumption | go_cell | simp [go_sem])
  have l5_0 := World.block_lt_of_cell? w5 _ d5_0
  have l5_3 := World.block_lt_of_cell? w5 _ d5_3
  have l5_6 := World.block_lt_of_cell? w5 _ d5_6
  have l5_9 := World.block_lt_of_cell? w5 _ d5_9
  have hS5 := hB5.size
  clear hb5
  go_wp2_with fail
  all_goals
    refine (works5 _).mono ?_; rintro e w6 ⟨rfl, hb6⟩
    have hB6 : Below w.heap.size w w6 := Below.next (by go_grown) hb6
    clear hb6
    go_wp2_with fail
    go_ret
    exact ret_of rfl hB6

theorem lawOctaLong (ns0 : List Int) (h0 : Al2 Fits [.i64, .i64, .i64] ns0) (ns1 : List Int) (h1 : Al2 Fits [.i64, .i64, .i64] ns1) (w : World) :
    Calls Try.prog 8 #[.agg (vals [.i64, .i64, .i64] ns0).toArray, .agg (vals [.i64, .i64, .i64] ns1).toArray] w (Ret (.bool true) w) := by
  obtain ⟨v, hv, e0⟩ := three_in h0
  obtain ⟨n, hn, e1⟩ := three_in h1
  rw [e0, e1]
  have k1 := fun w => oQuant v hv w
  have k3 := fun w => oMay _ _ _ hn.1 hn.2.1 hn.2.2 w
  by_cases hz : vmost v = 0
  · obtain ⟨z0, z1, z2⟩ := vmost_zero hv hz
    unfold quant quantE at k1
    rw [if_pos hz, if_pos hz, z0, z1, z2] at k1
    rw [z0, z1, z2]
    exact walkOctaLong_0 n (Lib.hid k1) w
  · obtain ⟨hb, HM⟩ := quant_top hv hz
    have hm := quant_may hv hz
    have hdI : InV (quant v) := by unfold InV InI; omega
    have k2 := fun w => oMay _ _ _ hdI.1 hdI.2.1 hdI.2.2 w
    rw [show mayB ((quant v).1, (quant v).2.1, (quant v).2.2) = true from hm] at k2
    have e2 : quantE v = 0 := by unfold quantE; rw [if_neg hz]
    rw [e2] at k1
    have hnz : ¬ (v.1 = 0 ∧ v.2.1 = 0 ∧ v.2.2 = 0) := fun ⟨a, b, c⟩ => hz (by unfold vmost; rw [a, b, c]; decide)
    obtain ⟨x, y, z⟩ := v
    simp only at hnz k1 ⊢
    generalize quant (x, y, z) = d at *
    cases hm3 : mayB n
    · rw [show mayB (n.1, n.2.1, n.2.2) = false from hm3] at k3
      by_cases hx : x = 0
      · subst hx
        by_cases hy : y = 0
        · subst hy
          exact walkOctaLong_zo 0 0 z 0 d n (fun h => hnz ⟨rfl, rfl, h⟩) (by omega) (Lib.hid k1) (Lib.hid k2) (Lib.hid k3) hb.1 hb.2.1 hb.2.2 (Lib.hid HM) w
        · exact walkOctaLong_yo 0 y z 0 d n hy (by omega) (Lib.hid k1) (Lib.hid k2) (Lib.hid k3) hb.1 hb.2.1 hb.2.2 (Lib.hid HM) w
      · exact walkOctaLong_xo x y z 0 d n hx (by omega) (Lib.hid k1) (Lib.hid k2) (Lib.hid k3) hb.1 hb.2.1 hb.2.2 (Lib.hid HM) w
    · rw [show mayB (n.1, n.2.1, n.2.2) = true from hm3] at k3
      have hnb := mayB_bd (x := n.1) (y := n.2.1) (z := n.2.2) hm3
      obtain ⟨w1, w2⟩ := wdot_small hb hnb
      have k4 := fun w => oFacing d n w
      by_cases hs : 0 ≤ wdot d n
      · have ef : face d n = d := by unfold face; rw [if_pos hs]
        rw [ef] at k4
        have k5 := fun w => oDot d n w
        by_cases hx : x = 0
        · subst hx
          by_cases hy : y = 0
          · subst hy
            exact walkOctaLong_zp 0 0 z _ d n (fun h => hnz ⟨rfl, rfl, h⟩) hs (Lib.hid k1) (Lib.hid k2) (Lib.hid k3) (Lib.hid k4) (Lib.hid k5) hb.1 hb.2.1 hb.2.2 (Lib.hid HM) w
          · exact walkOctaLong_yp 0 y z _ d n hy hs (Lib.hid k1) (Lib.hid k2) (Lib.hid k3) (Lib.hid k4) (Lib.hid k5) hb.1 hb.2.1 hb.2.2 (Lib.hid HM) w
        · exact walkOctaLong_xp x y z _ d n hx hs (Lib.hid k1) (Lib.hid k2) (Lib.hid k3) (Lib.hid k4) (Lib.hid k5) hb.1 hb.2.1 hb.2.2 (Lib.hid HM) w
      · have ef : face d n = (-d.1, -d.2.1, -d.2.2) := by
          unfold face wneg
          rw [if_neg hs]
          have e1 : ∀ t : Int, -16384 ≤ t ∧ t ≤ 16384 → wrap64 (-t) = -t := by intro t ht; unfold wrap64; omega
          rw [e1 _ hb.1, e1 _ hb.2.1, e1 _ hb.2.2]
        rw [ef] at k4
        have k5 := fun w => oDot (-d.1, -d.2.1, -d.2.2) n w
        have hs2 : 0 ≤ wdot (-d.1, -d.2.1, -d.2.2) n := by rw [w2]; omega
        by_cases hx : x = 0
        · subst hx
          by_cases hy : y = 0
          · subst hy
            exact walkOctaLong_zn 0 0 z _ d n (fun h => hnz ⟨rfl, rfl, h⟩) hs2 (Lib.hid k1) (Lib.hid k2) (Lib.hid k3) (Lib.hid k4) (Lib.hid k5) hb.1 hb.2.1 hb.2.2 (Lib.hid HM) w
          · exact walkOctaLong_yn 0 y z _ d n hy hs2 (Lib.hid k1) (Lib.hid k2) (Lib.hid k3) (Lib.hid k4) (Lib.hid k5) hb.1 hb.2.1 hb.2.2 (Lib.hid HM) w
        · exact walkOctaLong_xn x y z _ d n hx hs2 (Lib.hid k1) (Lib.hid k2) (Lib.hid k3) (Lib.hid k4) (Lib.hid k5) hb.1 hb.2.1 hb.2.2 (Lib.hid HM) w

end Go.Proofs.Ytbfgmedjogjkeaa
