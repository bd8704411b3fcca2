/- Walk: the law OctaQuants. -/
import Derived.Test.YtbfgmedjogjkeaaOctaQ
import Derived.Test.YtbfgmedjogjkeaaLaw5
import Derived.Test.YtbfgmedjogjkeaaFrameV
namespace Go.Proofs.Ytbfgmedjogjkeaa
open Go.RowKit Go.Sort
set_option linter.unusedVariables false
set_option linter.unusedSimpArgs false

theorem r5Quant (v : T3) (hv : InV v) (w : World) : Calls Try.prog 27 #[V3 v.1 v.2.1 v.2.2] w (Ret (.tuple #[V3 (quant v).1 (quant v).2.1 (quant v).2.2, .int .i64 (quantE v)]) w) := by
  unfold quant quantE
  by_cases h : vmost v = 0
  · rw [if_pos h, if_pos h]; exact r5Quant_0 v hv (Lib.hid h) w
  · rw [if_neg h, if_neg h]
    have hb := vmost_bd hv
    exact r5Quant_1 v _ hv (Lib.hid rfl) (by omega) hb.2.1 w

set_option maxRecDepth 100000 in
set_option maxHeartbeats 1600000 in
theorem walkOctaQuants (v a b d q : T3) (e n : Int) (K1 : Hid (∀ w, Calls Try.prog 26 #[V3 v.1 v.2.1 v.2.2] w (Ret (.tuple #[V3 d.1 d.2.1 d.2.2, .int .i64 e]) w))) (K2 : Hid (∀ w, Calls Try.prog 27 #[V3 v.1 v.2.1 v.2.2] w (Ret (.tuple #[V3 d.1 d.2.1 d.2.2, .int .i64 e]) w))) (K3 : Hid (∀ w, Calls Try.prog 28 #[V3 a.1 a.2.1 a.2.2, V3 b.1 b.2.1 b.2.2] w (Ret (.int .i64 n) w))) (K4 : Hid (∀ w, Calls Try.prog 29 #[V3 a.1 a.2.1 a.2.2, V3 b.1 b.2.1 b.2.2] w (Ret (.int .i64 n) w))) (K5 : Hid (∀ w, Calls Try.prog 30 #[V3 a.1 a.2.1 a.2.2, V3 b.1 b.2.1 b.2.2] w (Ret (V3 q.1 q.2.1 q.2.2) w))) (K6 : Hid (∀ w, Calls Try.prog 31 #[V3 a.1 a.2.1 a.2.2, V3 b.1 b.2.1 b.2.2] w (Ret (V3 q.1 q.2.1 q.2.2) w))) (w : World) : Calls Try.prog 7 #[V3 v.1 v.2.1 v.2.2, V3 a.1 a.2.1 a.2.2, V3 b.1 b.2.1 b.2.2] w (Ret (.bool true) w) := by
  go_enter Try.func7, Try.ntmps7
  go_wp2_with fail
  refine (K1.out _).mono ?_; rintro e w1 ⟨rfl, hb1⟩
  have hB1 : Below w.heap.size w w1 := Below.next (by go_grown) hb1
  have d1_0 : w1.cell? ⟨w.heap.size, 0, none⟩ = some (.int .i64 v.1) := cell_call hb1 (by first | assumption | go_cell | simp [go_sem])
  have d1_1 : w1.cell? ⟨w.heap.size, 1, none⟩ = some (.int .i64 v.2.1) := cell_call hb1 (by first | assumption | go_cell | simp [go_sem])
  have d1_2 : w1.cell? ⟨w.heap.size, 2, none⟩ = some (.int .i64 v.2.2) := cell_call hb1 (by first | assumption | go_cell | simp [go_sem])
  have d1_3 : w1.cell? ⟨w.heap.size + 1, 0, none⟩ = some (.int .i64 a.1) := cell_call hb1 (by first | assumption | go_cell | simp [go_sem])
  have d1_4 : w1.cell? ⟨w.heap.size + 1, 1, none⟩ = some (.int .i64 a.2.1) := cell_call hb1 (by first | assumption | go_cell | simp [go_sem])
  have d1_5 : w1.cell? ⟨w.heap.size + 1, 2, none⟩ = some (.int .i64 a.2.2) := cell_call hb1 (by first | assumption | go_cell | simp [go_sem])
  have d1_6 : w1.cell? ⟨w.heap.size + 1 + 1, 0, none⟩ = some (.int .i64 b.1) := cell_call hb1 (by first | assumption | go_cell | simp [go_sem])
  have d1_7 : w1.cell? ⟨w.heap.size + 1 + 1, 1, none⟩ = some (.int .i64 b.2.1) := cell_call hb1 (by first | assumption | go_cell | simp [go_sem])
  have d1_8 : w1.cell? ⟨w.heap.size + 1 + 1, 2, none⟩ = some (.int .i64 b.2.2) := cell_call hb1 (by first | assumption | go_cell | simp [go_sem])
  have l1_0 := World.block_lt_of_cell? w1 _ d1_0
  have l1_3 := World.block_lt_of_cell? w1 _ d1_3
  have l1_6 := World.block_lt_of_cell? w1 _ d1_6
  have hS1 := hB1.size
  clear hb1
  go_wp2_with fail
  refine (K2.out _).mono ?_; rintro e w2 ⟨rfl, hb2⟩
  have hB2 : Below w.heap.size w w2 := Below.next (by go_grown) hb2
  have d2_0 : w2.cell? ⟨w.heap.size, 0, none⟩ = some (.int .i64 v.1) := cell_call hb2 (by first | assumption | go_cell | simp [go_sem])
  have d2_1 : w2.cell? ⟨w.heap.size, 1, none⟩ = some (.int .i64 v.2.1) := cell_call hb2 (by first | assumption | go_cell | simp [go_sem])
  have d2_2 : w2.cell? ⟨w.heap.size, 2, none⟩ = some (.int .i64 v.2.2) := cell_call hb2 (by first | assumption | go_cell | simp [go_sem])
  have d2_3 : w2.cell? ⟨w.heap.size + 1, 0, none⟩ = some (.int .i64 a.1) := cell_call hb2 (by first | assumption | go_cell | simp [go_sem])
  have d2_4 : w2.cell? ⟨w.heap.size + 1, 1, none⟩ = some (.int .i64 a.2.1) := cell_call hb2 (by first | assumption | go_cell | simp [go_sem])
  have d2_5 : w2.cell? ⟨w.heap.size + 1, 2, none⟩ = some (.int .i64 a.2.2) := cell_call hb2 (by first | assumption | go_cell | simp [go_sem])
  have d2_6 : w2.cell? ⟨w.heap.size + 1 + 1, 0, none⟩ = some (.int .i64 b.1) := cell_call hb2 (by first | assumption | go_cell | simp [go_sem])
  have d2_7 : w2.cell? ⟨w.heap.size + 1 + 1, 1, none⟩ = some (.int .i64 b.2.1) := cell_call hb2 (by first | assumption | go_cell | simp [go_sem])
  have d2_8 : w2.cell? ⟨w.heap.size + 1 + 1, 2, none⟩ = some (.int .i64 b.2.2) := cell_call hb2 (by first | assumption | go_cell | simp [go_sem])
  have d2_9 : w2.cell? ⟨w1.heap.size, 0, none⟩ = some (.int .i64 d.1) := cell_call hb2 (by first | assumption | go_cell | simp [go_sem])
  have d2_10 : w2.cell? ⟨w1.heap.size, 1, none⟩ = some (.int .i64 d.2.1) := cell_call hb2 (by first | assumption | go_cell | simp [go_sem])
  have d2_11 : w2.cell? ⟨w1.heap.size, 2, none⟩ = some (.int .i64 d.2.2) := cell_call hb2 (by first | assumption | go_cell | simp [go_sem])
  have l2_0 := World.block_lt_of_cell? w2 _ d2_0
  have l2_3 := World.block_lt_of_cell? w2 _ d2_3
  have l2_6 := World.block_lt_of_cell? w2 _ d2_6
  have l2_9 := World.block_lt_of_cell? w2 _ d2_9
  have hS2 := hB2.size
  clear hb2
  go_wp2_with fail
  refine wp_region_fresh_gen 30 (by kernel_rfl) (by kernel_rfl) (fun W3 HW3 => ?_)
  intro F3_0 U3_0
  have hA3 : Below w.heap.size w W3 := by rw [HW3]; go_grown
  have c3_0 : W3.cell? ⟨w.heap.size, 0, none⟩ = some (.int .i64 v.1) := by rw [HW3]; first | assumption | go_cell | simp [go_sem, *]
  have c3_1 : W3.cell? ⟨w.heap.size, 1, none⟩ = some (.int .i64 v.2.1) := by rw [HW3]; first | assumption | go_cell | simp [go_sem, *]
  have c3_2 : W3.cell? ⟨w.heap.size, 2, none⟩ = some (.int .i64 v.2.2) := by rw [HW3]; first | assumption | go_cell | simp [go_sem, *]
  have c3_3 : W3.cell? ⟨w.heap.size + 1, 0, none⟩ = some (.int .i64 a.1) := by rw [HW3]; first | assumption | go_cell | simp [go_sem, *]
  have c3_4 : W3.cell? ⟨w.heap.size + 1, 1, none⟩ = some (.int .i64 a.2.1) := by rw [HW3]; first | assumption | go_cell | simp [go_sem, *]
  have c3_5 : W3.cell? ⟨w.heap.size + 1, 2, none⟩ = some (.int .i64 a.2.2) := by rw [HW3]; first | assumption | go_cell | simp [go_sem, *]
  have c3_6 : W3.cell? ⟨w.heap.size + 1 + 1, 0, none⟩ = some (.int .i64 b.1) := by rw [HW3]; first | assumption | go_cell | simp [go_sem, *]
  have c3_7 : W3.cell? ⟨w.heap.size + 1 + 1, 1, none⟩ = some (.int .i64 b.2.1) := by rw [HW3]; first | assumption | go_cell | simp [go_sem, *]
  have c3_8 : W3.cell? ⟨w.heap.size + 1 + 1, 2, none⟩ = some (.int .i64 b.2.2) := by rw [HW3]; first | assumption | go_cell | simp [go_sem, *]
  have c3_9 : W3.cell? ⟨w1.heap.size, 0, none⟩ = some (.int .i64 d.1) := by rw [HW3]; first | assumption | go_cell | simp [go_sem, *]
  have c3_10 : W3.cell? ⟨w1.heap.size, 1, none⟩ = some (.int .i64 d.2.1) := by rw [HW3]; first | assumption | go_cell | simp [go_sem, *]
  have c3_11 : W3.cell? ⟨w1.heap.size, 2, none⟩ = some (.int .i64 d.2.2) := by rw [HW3]; first | assumption | go_cell | simp [go_sem, *]
  have c3_12 : W3.cell? ⟨w2.heap.size, 0, none⟩ = some (.int .i64 d.1) := by rw [HW3]; first | assumption | go_cell | simp [go_sem, *]
  have c3_13 : W3.cell? ⟨w2.heap.size, 1, none⟩ = some (.int .i64 d.2.1) := by rw [HW3]; first | assumption | go_cell | simp [go_sem, *]
  have c3_14 : W3.cell? ⟨w2.heap.size, 2, none⟩ = some (.int .i64 d.2.2) := by rw [HW3]; first | assumption | go_cell | simp [go_sem, *]
  clear HW3
  have r3_0 := reg_cell c3_0
  have r3_1 := reg_cell c3_1
  have r3_2 := reg_cell c3_2
  have r3_3 := reg_cell c3_3
  have r3_4 := reg_cell c3_4
  have r3_5 := reg_cell c3_5
  have r3_6 := reg_cell c3_6
  have r3_7 := reg_cell c3_7
  have r3_8 := reg_cell c3_8
  have r3_9 := reg_cell c3_9
  have r3_10 := reg_cell c3_10
  have r3_11 := reg_cell c3_11
  have r3_12 := reg_cell c3_12
  have r3_13 := reg_cell c3_13
  have r3_14 := reg_cell c3_14
  simp only [List.take_succ_cons, List.take_zero, List.drop_succ_cons, List.drop_zero]
  iterate 11 (refine WL_plain (fun K hK => ?_); go_simp; refine hK _ ?_; clear hK K)
  refine WL_call (by kernel_rfl) (fun K hK => ?_)
  go_simp
  apply Exists.intro
  refine ⟨fun w1 hb1 hf1 => ?_, hK _ ?_⟩
  · exact K3.out _
  clear hK K
  iterate 2 (refine WL_plain (fun K hK => ?_); go_simp; refine hK _ ?_; clear hK K)
  refine WL_call (by kernel_rfl) (fun K hK => ?_)
  go_simp
  apply Exists.intro
  refine ⟨fun w1 hb1 hf1 => ?_, hK _ ?_⟩
  · exact K4.out _
  clear hK K
  iterate 5 (refine WL_plain (fun K hK => ?_); go_simp; refine hK _ ?_; clear hK K)
  refine WL_call (by kernel_rfl) (fun K hK => ?_)
  go_simp
  apply Exists.intro
  refine ⟨fun w1 hb1 hf1 => ?_, hK _ ?_⟩
  · exact K5.out _
  clear hK K
  iterate 2 (refine WL_plain (fun K hK => ?_); go_simp; refine hK _ ?_; clear hK K)
  refine WL_call (by kernel_rfl) (fun K hK => ?_)
  go_simp
  apply Exists.intro
  refine ⟨fun w1 hb1 hf1 => ?_, hK _ ?_⟩
  · exact K6.out _
  clear hK K
  iterate 3 (refine WL_plain (fun K hK => ?_); go_simp; refine hK _ ?_; clear hK K)
  refine WL_call (by kernel_rfl) (fun K hK => ?_)
  go_simp
  apply Exists.intro
  refine ⟨fun w1 hb1 hf1 => ?_, hK _ ?_⟩
  · exact works5 _
  clear hK K
  iterate 2 (refine WL_plain (fun K hK => ?_); go_simp; refine hK _ ?_; clear hK K)
  refine WL_nil (fun w3 hb3 hf3 => ?_)
  have hB3 : Below w.heap.size w w3 := Below.next hA3 hb3
  have d3_0 := cell_call hb3 c3_0
  have d3_1 := cell_call hb3 c3_1
  have d3_2 := cell_call hb3 c3_2
  have d3_3 := cell_call hb3 c3_3
  have d3_4 := cell_call hb3 c3_4
  have d3_5 := cell_call hb3 c3_5
  have d3_6 := cell_call hb3 c3_6
  have d3_7 := cell_call hb3 c3_7
  have d3_8 := cell_call hb3 c3_8
  have d3_9 := cell_call hb3 c3_9
  have d3_10 := cell_call hb3 c3_10
  have d3_11 := cell_call hb3 c3_11
  have d3_12 := cell_call hb3 c3_12
  have d3_13 := cell_call hb3 c3_13
  have d3_14 := cell_call hb3 c3_14
  clear r3_0 c3_0 r3_1 c3_1 r3_2 c3_2 r3_3 c3_3 r3_4 c3_4 r3_5 c3_5 r3_6 c3_6 r3_7 c3_7 r3_8 c3_8 r3_9 c3_9 r3_10 c3_10 r3_11 c3_11 r3_12 c3_12 r3_13 c3_13 r3_14 c3_14
  have l3_0 := World.block_lt_of_cell? w3 _ d3_0
  have l3_3 := World.block_lt_of_cell? w3 _ d3_3
  have l3_6 := World.block_lt_of_cell? w3 _ d3_6
  have l3_9 := World.block_lt_of_cell? w3 _ d3_9
  have l3_12 := World.block_lt_of_cell? w3 _ d3_12
  have hS3 := hB3.size
  go_wp2_with fail
  go_ret
  exact ret_of rfl hB3

theorem lawOctaQuants (ns0 : List Int) (h0 : Al2 Fits [.i64, .i64, .i64] ns0) (ns1 : List Int) (h1 : Al2 Fits [.i64, .i64, .i64] ns1) (ns2 : List Int) (h2 : Al2 Fits [.i64, .i64, .i64] ns2) (w : World) :
    Calls Try.prog 7 #[.agg (vals [.i64, .i64, .i64] ns0).toArray, .agg (vals [.i64, .i64, .i64] ns1).toArray, .agg (vals [.i64, .i64, .i64] ns2).toArray] w (Ret (.bool true) w) := by
  obtain ⟨v, hv, e0⟩ := three_in h0
  obtain ⟨a, ha, e1⟩ := three_in h1
  obtain ⟨b, hb, e2⟩ := three_in h2
  rw [e0, e1, e2]
  exact walkOctaQuants v a b (quant v) (face a b) (quantE v) (wdot a b) (Lib.hid (oQuant v hv)) (Lib.hid (r5Quant v hv)) (Lib.hid (oDot a b)) (Lib.hid (r5Dot a b)) (Lib.hid (oFacing a b)) (Lib.hid (r5Facing a b)) w

end Go.Proofs.Ytbfgmedjogjkeaa
