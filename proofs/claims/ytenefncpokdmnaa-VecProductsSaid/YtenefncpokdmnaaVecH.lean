/- Walk: vec.Cross. -/
import Derived.Test.YtenefncpokdmnaaVecD
import Derived.Test.YtenefncpokdmnaaFresh
import Derived.Test.YtenefncpokdmnaaRef3C
namespace Go.Proofs.Ytenefncpokdmnaa
open Go.RowKit Go.Sort
set_option linter.unusedVariables false
set_option linter.unusedSimpArgs false

theorem Has.six {g : Nat} {x y z x' y' z' : Int} {T : TypeId} {w : World} (h : Has g (.cells #[.int .i64 x, .int .i64 y, .int .i64 z, .int .i64 x', .int .i64 y', .int .i64 z'] T) w) : CellsV w g 0 [(x, y, z), (x', y', z')] :=
  cellsV2 ((h.cell 0).trans rfl) ((h.cell 1).trans rfl) ((h.cell 2).trans rfl) ((h.cell 3).trans rfl) ((h.cell 4).trans rfl) ((h.cell 5).trans rfl)

set_option maxRecDepth 100000 in
set_option maxHeartbeats 1600000 in
theorem vCross (a b : T3) (ha : InV a) (hb : InV b) (w : World) : Calls Try.prog 66 #[V3 a.1 a.2.1 a.2.2, V3 b.1 b.2.1 b.2.2] w (Ret (V3 (vcross a b).1 (vcross a b).2.1 (vcross a b).2.2) w) := by
  obtain ⟨h0, h1, h2⟩ := ha
  obtain ⟨g0, g1, g2⟩ := hb
  go_enter Try.func66, Try.ntmps66
  go_wp2_with fail
  refine wp_region_fresh_gen 33 (by kernel_rfl) (by kernel_rfl) (fun W1 HW1 => ?_)
  intro F1_0 U1_0
  have hA1 : Below w.heap.size w W1 := by rw [HW1]; go_grown
  have c1_0 : W1.cell? ⟨w.heap.size, 0, none⟩ = some (.int .i64 a.1) := by rw [HW1]; first | assumption | go_cell | simp [go_sem, *]
  have c1_1 : W1.cell? ⟨w.heap.size, 1, none⟩ = some (.int .i64 a.2.1) := by rw [HW1]; first | assumption | go_cell | simp [go_sem, *]
  have c1_2 : W1.cell? ⟨w.heap.size, 2, none⟩ = some (.int .i64 a.2.2) := by rw [HW1]; first | assumption | go_cell | simp [go_sem, *]
  have c1_3 : W1.cell? ⟨w.heap.size + 1, 0, none⟩ = some (.int .i64 b.1) := by rw [HW1]; first | assumption | go_cell | simp [go_sem, *]
  have c1_4 : W1.cell? ⟨w.heap.size + 1, 1, none⟩ = some (.int .i64 b.2.1) := by rw [HW1]; first | assumption | go_cell | simp [go_sem, *]
  have c1_5 : W1.cell? ⟨w.heap.size + 1, 2, none⟩ = some (.int .i64 b.2.2) := by rw [HW1]; first | assumption | go_cell | simp [go_sem, *]
  have c1_6 : W1.cell? ⟨w.heap.size + 1 + 1, 0, none⟩ = some (.int .i64 0) := by rw [HW1]; first | assumption | go_cell | simp [go_sem, *]
  have u1_6 : W1.frozen? ⟨w.heap.size + 1 + 1, 0, none⟩ = false := by rw [HW1]; first | assumption | simp [go_sem, *]
  have c1_7 : W1.cell? ⟨w.heap.size + 1 + 1, 1, none⟩ = some (.int .i64 0) := by rw [HW1]; first | assumption | go_cell | simp [go_sem, *]
  have u1_7 : W1.frozen? ⟨w.heap.size + 1 + 1, 1, none⟩ = false := by rw [HW1]; first | assumption | simp [go_sem, *]
  have c1_8 : W1.cell? ⟨w.heap.size + 1 + 1, 2, none⟩ = some (.int .i64 0) := by rw [HW1]; first | assumption | go_cell | simp [go_sem, *]
  have u1_8 : W1.frozen? ⟨w.heap.size + 1 + 1, 2, none⟩ = false := by rw [HW1]; first | assumption | simp [go_sem, *]
  clear HW1
  have r1_0 := reg_cell c1_0
  have r1_1 := reg_cell c1_1
  have r1_2 := reg_cell c1_2
  have r1_3 := reg_cell c1_3
  have r1_4 := reg_cell c1_4
  have r1_5 := reg_cell c1_5
  have r1_6 := reg_cell c1_6
  have r1_7 := reg_cell c1_7
  have r1_8 := reg_cell c1_8
  simp only [List.take_succ_cons, List.take_zero, List.drop_succ_cons, List.drop_zero]
  iterate 14 (refine WL_plain (fun K hK => ?_); go_simp; refine hK _ ?_; clear hK K)
  refine WL_slice 2 (.cells #[.int .i64 a.2.1, .int .i64 a.2.2, .int .i64 a.1, .int .i64 b.2.2, .int .i64 b.1, .int .i64 b.2.1] 26) rfl (by first | rfl | go_simp) (fun w1 => by go_simp; first | rfl | done) ?_
  intro g1_1 F1_1 U1_1 hg1_1 hn1_1 hF1_1 hU1_1
  have HF1_1 := Lib.hid hF1_1; have HU1_1 := Lib.hid hU1_1; clear hF1_1 hU1_1
  refine WL_call (by kernel_rfl) (fun K hK => ?_)
  go_simp
  apply Exists.intro
  refine ⟨fun w1 hb1 hf1 => ?_, hK _ ?_⟩
  · exact vTimes2 (a.2.1, a.2.2, a.1) (b.2.2, b.1, b.2.1) ⟨h1, h2, h0⟩ ⟨g2, g0, g1⟩ _ _ _ (HF1_1.out _ hf1).2.six
  clear hK K
  iterate 14 (refine WL_plain (fun K hK => ?_); go_simp; refine hK _ ?_; clear hK K)
  refine WL_slice 2 (.cells #[.int .i64 a.2.2, .int .i64 a.1, .int .i64 a.2.1, .int .i64 b.2.1, .int .i64 b.2.2, .int .i64 b.1] 26) rfl (by first | rfl | go_simp) (fun w1 => by go_simp; first | rfl | done) ?_
  intro g1_2 F1_2 U1_2 hg1_2 hn1_2 hF1_2 hU1_2
  have HF1_2 := Lib.hid hF1_2; have HU1_2 := Lib.hid hU1_2; clear hF1_2 hU1_2
  refine WL_call (by kernel_rfl) (fun K hK => ?_)
  go_simp
  apply Exists.intro
  refine ⟨fun w1 hb1 hf1 => ?_, hK _ ?_⟩
  · exact vTimes2 (a.2.2, a.1, a.2.1) (b.2.1, b.2.2, b.1) ⟨h2, h0, h1⟩ ⟨g1, g2, g0⟩ _ _ _ (HF1_2.out _ hf1).2.six
  clear hK K
  refine WL_call (by kernel_rfl) (fun K hK => ?_)
  go_simp
  apply Exists.intro
  refine ⟨fun w1 hb1 hf1 => ?_, hK _ ?_⟩
  · exact vSub _ _ (vmul_I _ _) (vmul_I _ _) _
  clear hK K
  refine WL_nil (fun w1 hb1 hf1 => ?_)
  have hB1 : Below w.heap.size w w1 := Below.next hA1 hb1
  obtain ⟨hf1, q1_2⟩ := HF1_2.out _ hf1
  obtain ⟨hf1, q1_1⟩ := HF1_1.out _ hf1
  have d1_0 := cell_call hb1 c1_0
  have d1_1 := cell_call hb1 c1_1
  have d1_2 := cell_call hb1 c1_2
  have d1_3 := cell_call hb1 c1_3
  have d1_4 := cell_call hb1 c1_4
  have d1_5 := cell_call hb1 c1_5
  have d1_6 := cell_call hb1 c1_6
  have t1_6 := (hb1.frozen (p := ⟨w.heap.size + 1 + 1, 0, none⟩) (World.block_lt_of_cell? _ _ c1_6)).trans u1_6
  have d1_7 := cell_call hb1 c1_7
  have t1_7 := (hb1.frozen (p := ⟨w.heap.size + 1 + 1, 1, none⟩) (World.block_lt_of_cell? _ _ c1_7)).trans u1_7
  have d1_8 := cell_call hb1 c1_8
  have t1_8 := (hb1.frozen (p := ⟨w.heap.size + 1 + 1, 2, none⟩) (World.block_lt_of_cell? _ _ c1_8)).trans u1_8
  clear r1_0 c1_0 r1_1 c1_1 r1_2 c1_2 r1_3 c1_3 r1_4 c1_4 r1_5 c1_5 r1_6 c1_6 u1_6 r1_7 c1_7 u1_7 r1_8 c1_8 u1_8
  go_wp2
  exact bodyPost_ret (v := V3 (vcross a b).1 (vcross a b).2.1 (vcross a b).2.2) (by simp (maxDischargeDepth := 9) [results, Try.results66, go_sem, d1_6, d1_7, d1_8]; exact ⟨rfl, rfl, rfl⟩) rfl ⟨rfl, by go_grown⟩

end Go.Proofs.Ytenefncpokdmnaa
