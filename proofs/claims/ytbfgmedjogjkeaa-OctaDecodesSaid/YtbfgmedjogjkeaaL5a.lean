/- Walks: the laws OctaDecodes, OctaEncodes. -/
import Derived.Test.YtbfgmedjogjkeaaLaw5
import Derived.Test.YtbfgmedjogjkeaaFrameV
namespace Go.Proofs.Ytbfgmedjogjkeaa
open Go.RowKit Go.Sort
set_option linter.unusedVariables false
set_option linter.unusedSimpArgs false

theorem u32in {x : Int} (h : (Lit.int .u32 x).wf = true) : 0 ≤ x ∧ x ≤ 4294967295 := by
  have := bounds_u32 h
  omega
set_option maxRecDepth 100000 in
set_option maxHeartbeats 1600000 in
theorem lawOctaDecodes (x : Int) (wx : (Lit.int .u32 x).wf = true) (w : World) : Calls Try.prog 5 #[.int .u32 x] w (Ret (.bool true) w) := by
  have hx := u32in wx
  clear wx
  go_enter Try.func5, Try.ntmps5
  go_wp2_with fail
  refine (oDec x hx _).mono ?_; rintro e w1 ⟨rfl, hb1⟩
  have hB1 : Below w.heap.size w w1 := Below.next (by go_grown) hb1
  have hS1 := hB1.size
  clear hb1
  go_wp2_with fail
  refine (r5Dec x hx _).mono ?_; rintro e w2 ⟨rfl, hb2⟩
  have hB2 : Below w.heap.size w w2 := Below.next (by go_grown) hb2
  have hS2 := hB2.size
  clear hb2
  go_wp2_with fail
  refine (oPick x hx _).mono ?_; rintro e w3 ⟨rfl, hb3⟩
  have hB3 : Below w.heap.size w w3 := Below.next (by go_grown) hb3
  have hS3 := hB3.size
  clear hb3
  go_wp2_with fail
  refine (r5Pick x hx _).mono ?_; rintro e w4 ⟨rfl, hb4⟩
  have hB4 : Below w.heap.size w w4 := Below.next (by go_grown) hb4
  have hS4 := hB4.size
  clear hb4
  go_wp2_with fail
  refine (works5 _).mono ?_; rintro e w5 ⟨rfl, hb5⟩
  have hB5 : Below w.heap.size w w5 := Below.next (by go_grown) hb5
  have hS5 := hB5.size
  clear hb5
  go_wp2_with fail
  go_ret
  exact ret_of rfl hB5

set_option maxRecDepth 100000 in
set_option maxHeartbeats 1600000 in
theorem walkOctaEncodes (p : T3) (hp : InV p) (w : World) : Calls Try.prog 3 #[V3 p.1 p.2.1 p.2.2] w (Ret (.bool true) w) := by
  have HP := Lib.hid hp
  clear hp
  go_enter Try.func3, Try.ntmps3
  go_wp2_with fail
  refine (oEnc p HP.out _).mono ?_; rintro e w1 ⟨rfl, hb1⟩
  have hB1 : Below w.heap.size w w1 := Below.next (by go_grown) hb1
  have d1_0 : w1.cell? ⟨w.heap.size, 0, none⟩ = some (.int .i64 p.1) := cell_call hb1 (by first | assumption | go_cell | simp [go_sem])
  have d1_1 : w1.cell? ⟨w.heap.size, 1, none⟩ = some (.int .i64 p.2.1) := cell_call hb1 (by first | assumption | go_cell | simp [go_sem])
  have d1_2 : w1.cell? ⟨w.heap.size, 2, none⟩ = some (.int .i64 p.2.2) := cell_call hb1 (by first | assumption | go_cell | simp [go_sem])
  have l1_0 := World.block_lt_of_cell? w1 _ d1_0
  have hS1 := hB1.size
  clear hb1
  go_wp2_with fail
  refine (r5Enc p HP.out _).mono ?_; rintro e w2 ⟨rfl, hb2⟩
  have hB2 : Below w.heap.size w w2 := Below.next (by go_grown) hb2
  have d2_0 : w2.cell? ⟨w.heap.size, 0, none⟩ = some (.int .i64 p.1) := cell_call hb2 (by first | assumption | go_cell | simp [go_sem])
  have d2_1 : w2.cell? ⟨w.heap.size, 1, none⟩ = some (.int .i64 p.2.1) := cell_call hb2 (by first | assumption | go_cell | simp [go_sem])
  have d2_2 : w2.cell? ⟨w.heap.size, 2, none⟩ = some (.int .i64 p.2.2) := cell_call hb2 (by first | assumption | go_cell | simp [go_sem])
  have l2_0 := World.block_lt_of_cell? w2 _ d2_0
  have hS2 := hB2.size
  clear hb2
  go_wp2_with fail
  refine wp_region_fresh_gen 19 (by kernel_rfl) (by kernel_rfl) (fun W3 HW3 => ?_)
  intro F3_0 U3_0
  have hA3 : Below w.heap.size w W3 := by rw [HW3]; go_grown
  have c3_0 : W3.cell? ⟨w.heap.size, 0, none⟩ = some (.int .i64 p.1) := by rw [HW3]; first | assumption | go_cell | simp [go_sem, *]
  have c3_1 : W3.cell? ⟨w.heap.size, 1, none⟩ = some (.int .i64 p.2.1) := by rw [HW3]; first | assumption | go_cell | simp [go_sem, *]
  have c3_2 : W3.cell? ⟨w.heap.size, 2, none⟩ = some (.int .i64 p.2.2) := by rw [HW3]; first | assumption | go_cell | simp [go_sem, *]
  clear HW3
  have r3_0 := reg_cell c3_0
  have r3_1 := reg_cell c3_1
  have r3_2 := reg_cell c3_2
  simp only [List.take_succ_cons, List.take_zero, List.drop_succ_cons, List.drop_zero]
  refine WL_plain (fun K hK => ?_); go_simp; refine hK _ ?_; clear hK K
  refine WL_call (by kernel_rfl) (fun K hK => ?_)
  go_simp
  apply Exists.intro
  refine ⟨fun w1 hb1 hf1 => ?_, hK _ ?_⟩
  · exact oMay _ _ _ HP.out.1 HP.out.2.1 HP.out.2.2 _
  clear hK K
  refine WL_plain (fun K hK => ?_); go_simp; refine hK _ ?_; clear hK K
  refine WL_call (by kernel_rfl) (fun K hK => ?_)
  go_simp
  apply Exists.intro
  refine ⟨fun w1 hb1 hf1 => ?_, hK _ ?_⟩
  · exact r5May _ _ _ HP.out.1 HP.out.2.1 HP.out.2.2 _
  clear hK K
  iterate 12 (refine WL_plain (fun K hK => ?_); go_simp; refine hK _ ?_; clear hK K)
  refine WL_call (by kernel_rfl) (fun K hK => ?_)
  go_simp
  apply Exists.intro
  refine ⟨fun w1 hb1 hf1 => ?_, hK _ ?_⟩
  · exact works5 _
  clear hK K
  iterate 2 (refine WL_plain (fun K hK => ?_); go_simp; refine hK _ ?_; clear hK K)
  refine WL_nil (fun w3 hb3 hf3 => ?_)
  have hB3 : Below w.heap.size w w3 := Below.next hA3 hb3
  have d3_0 := cell_call hb3 c3_0
  have d3_1 := cell_call hb3 c3_1
  have d3_2 := cell_call hb3 c3_2
  clear r3_0 c3_0 r3_1 c3_1 r3_2 c3_2
  have l3_0 := World.block_lt_of_cell? w3 _ d3_0
  have hS3 := hB3.size
  go_wp2_with fail
  go_ret
  exact ret_of rfl hB3

theorem lawOctaEncodes (ns : List Int) (h : Al2 Fits [.i64, .i64, .i64] ns) (w : World) : Calls Try.prog 3 #[.agg (vals [.i64, .i64, .i64] ns).toArray] w (Ret (.bool true) w) := by
  obtain ⟨p, hp, e⟩ := three_in h
  rw [e]
  exact walkOctaEncodes p hp w

end Go.Proofs.Ytbfgmedjogjkeaa
