/- Walk: the law OctaNear. -/
import Derived.Test.YtbfgmedjogjkeaaL5b
namespace Go.Proofs.Ytbfgmedjogjkeaa
open Go.RowKit Go.Sort
set_option linter.unusedVariables false
set_option linter.unusedSimpArgs false

set_option maxRecDepth 100000 in
set_option maxHeartbeats 1600000 in
theorem walkOctaNear_no (p : T3) (K1 : Hid (∀ w, Calls Try.prog 16 #[V3 p.1 p.2.1 p.2.2] w (Ret (.tuple #[.int .u32 0, .int .i64 2]) w))) (K2 : Hid (∀ w, Calls Try.prog 18 #[V3 p.1 p.2.1 p.2.2] w (Ret (.bool false) w))) (w : World) : Calls Try.prog 4 #[V3 p.1 p.2.1 p.2.2] w (Ret (.bool true) w) := by
  go_enter Try.func4, Try.ntmps4
  go_wp2_with fail
  refine (K1.out _).mono ?_; rintro e w1 ⟨rfl, hb1⟩
  have hB1 : Below w.heap.size w w1 := Below.next (by go_grown) hb1
  have d1_0 : w1.cell? ⟨w.heap.size, 0, none⟩ = some (.int .i64 p.1) := cell_call hb1 (by first | assumption | go_cell | simp [go_sem])
  have d1_1 : w1.cell? ⟨w.heap.size, 1, none⟩ = some (.int .i64 p.2.1) := cell_call hb1 (by first | assumption | go_cell | simp [go_sem])
  have d1_2 : w1.cell? ⟨w.heap.size, 2, none⟩ = some (.int .i64 p.2.2) := cell_call hb1 (by first | assumption | go_cell | simp [go_sem])
  have l1_0 := World.block_lt_of_cell? w1 _ d1_0
  have hS1 := hB1.size
  clear hb1
  go_wp2_with fail
  refine (K2.out _).mono ?_; rintro e w2 ⟨rfl, hb2⟩
  have hB2 : Below w.heap.size w w2 := Below.next (by go_grown) hb2
  have d2_0 : w2.cell? ⟨w.heap.size, 0, none⟩ = some (.int .i64 p.1) := cell_call hb2 (by first | assumption | go_cell | simp [go_sem])
  have d2_1 : w2.cell? ⟨w.heap.size, 1, none⟩ = some (.int .i64 p.2.1) := cell_call hb2 (by first | assumption | go_cell | simp [go_sem])
  have d2_2 : w2.cell? ⟨w.heap.size, 2, none⟩ = some (.int .i64 p.2.2) := cell_call hb2 (by first | assumption | go_cell | simp [go_sem])
  have l2_0 := World.block_lt_of_cell? w2 _ d2_0
  have hS2 := hB2.size
  clear hb2
  go_wp2_with fail
  refine (works5 _).mono ?_; rintro e w3 ⟨rfl, hb3⟩
  have hB3 : Below w.heap.size w w3 := Below.next (by go_grown) hb3
  have d3_0 : w3.cell? ⟨w.heap.size, 0, none⟩ = some (.int .i64 p.1) := cell_call hb3 (by first | assumption | go_cell | simp [go_sem])
  have d3_1 : w3.cell? ⟨w.heap.size, 1, none⟩ = some (.int .i64 p.2.1) := cell_call hb3 (by first | assumption | go_cell | simp [go_sem])
  have d3_2 : w3.cell? ⟨w.heap.size, 2, none⟩ = some (.int .i64 p.2.2) := cell_call hb3 (by first | assumption | go_cell | simp [go_sem])
  have l3_0 := World.block_lt_of_cell? w3 _ d3_0
  have hS3 := hB3.size
  clear hb3
  go_wp2_with fail
  go_ret
  exact ret_of rfl hB3

set_option maxRecDepth 100000 in
set_option maxHeartbeats 1600000 in
theorem walkOctaNear_yes (p x : T3) (c l X Y Z : Int) (K1 : Hid (∀ w, Calls Try.prog 16 #[V3 p.1 p.2.1 p.2.2] w (Ret (.tuple #[.int .u32 c, .int .i64 0]) w))) (K2 : Hid (∀ w, Calls Try.prog 21 #[.int .u32 c] w (Ret (V3 x.1 x.2.1 x.2.2) w)))
    (b0 : -16384 ≤ p.1 ∧ p.1 ≤ 16384) (b1 : -16384 ≤ p.2.1 ∧ p.2.1 ≤ 16384) (b2 : -16384 ≤ p.2.2 ∧ p.2.2 ≤ 16384) (HL : Hid (oabs p.1 + oabs p.2.1 + oabs p.2.2 = l)) (l1 : 1 ≤ l) (l2 : l ≤ 49152)
    (HX : Hid (x.1 * l = X)) (HY : Hid (x.2.1 * l = Y)) (HZ : Hid (x.2.2 * l = Z)) (n1 : -(2 * l) ≤ X - p.1 * 16384 ∧ X - p.1 * 16384 ≤ 2 * l) (n2 : -(2 * l) ≤ Y - p.2.1 * 16384 ∧ Y - p.2.1 * 16384 ≤ 2 * l) (n3 : -(2 * l) ≤ Z - p.2.2 * 16384 ∧ Z - p.2.2 * 16384 ≤ 2 * l)
    (w : World) : Calls Try.prog 4 #[V3 p.1 p.2.1 p.2.2] w (Ret (.bool true) w) := by
  have o0 := oabs_bd b0
  have o1 := oabs_bd b1
  have o2 := oabs_bd b2
  have g1 := oabs_bd (n := X - p.1 * 16384) (b := 2 * l) (by omega)
  have g2 := oabs_bd (n := Y - p.2.1 * 16384) (b := 2 * l) (by omega)
  have g3 := oabs_bd (n := Z - p.2.2 * 16384) (b := 2 * l) (by omega)
  go_enter Try.func4, Try.ntmps4
  go_wp2_with fail
  refine (K1.out _).mono ?_; rintro e w1 ⟨rfl, hb1⟩
  have hB1 : Below w.heap.size w w1 := Below.next (by go_grown) hb1
  have d1_0 : w1.cell? ⟨w.heap.size, 0, none⟩ = some (.int .i64 p.1) := cell_call hb1 (by first | assumption | go_cell | simp [go_sem])
  have d1_1 : w1.cell? ⟨w.heap.size, 1, none⟩ = some (.int .i64 p.2.1) := cell_call hb1 (by first | assumption | go_cell | simp [go_sem])
  have d1_2 : w1.cell? ⟨w.heap.size, 2, none⟩ = some (.int .i64 p.2.2) := cell_call hb1 (by first | assumption | go_cell | simp [go_sem])
  have l1_0 := World.block_lt_of_cell? w1 _ d1_0
  have hS1 := hB1.size
  clear hb1
  go_wp2_with fail
  refine (K2.out _).mono ?_; rintro e w2 ⟨rfl, hb2⟩
  have hB2 : Below w.heap.size w w2 := Below.next (by go_grown) hb2
  have d2_0 : w2.cell? ⟨w.heap.size, 0, none⟩ = some (.int .i64 p.1) := cell_call hb2 (by first | assumption | go_cell | simp [go_sem])
  have d2_1 : w2.cell? ⟨w.heap.size, 1, none⟩ = some (.int .i64 p.2.1) := cell_call hb2 (by first | assumption | go_cell | simp [go_sem])
  have d2_2 : w2.cell? ⟨w.heap.size, 2, none⟩ = some (.int .i64 p.2.2) := cell_call hb2 (by first | assumption | go_cell | simp [go_sem])
  have l2_0 := World.block_lt_of_cell? w2 _ d2_0
  have hS2 := hB2.size
  clear hb2
  go_wp2_with fail
  refine wp_region_fresh_gen 12 (by kernel_rfl) (by kernel_rfl) (fun W3 HW3 => ?_)
  intro F3_0 U3_0
  have hA3 : Below w.heap.size w W3 := by rw [HW3]; go_grown
  have c3_0 : W3.cell? ⟨w.heap.size, 0, none⟩ = some (.int .i64 p.1) := by rw [HW3]; first | assumption | go_cell | simp [go_sem, *]
  have c3_1 : W3.cell? ⟨w.heap.size, 1, none⟩ = some (.int .i64 p.2.1) := by rw [HW3]; first | assumption | go_cell | simp [go_sem, *]
  have c3_2 : W3.cell? ⟨w.heap.size, 2, none⟩ = some (.int .i64 p.2.2) := by rw [HW3]; first | assumption | go_cell | simp [go_sem, *]
  have c3_3 : W3.cell? ⟨w2.heap.size, 0, none⟩ = some (.int .i64 x.1) := by rw [HW3]; first | assumption | go_cell | simp [go_sem, *]
  have c3_4 : W3.cell? ⟨w2.heap.size, 1, none⟩ = some (.int .i64 x.2.1) := by rw [HW3]; first | assumption | go_cell | simp [go_sem, *]
  have c3_5 : W3.cell? ⟨w2.heap.size, 2, none⟩ = some (.int .i64 x.2.2) := by rw [HW3]; first | assumption | go_cell | simp [go_sem, *]
  clear HW3
  have r3_0 := reg_cell c3_0
  have r3_1 := reg_cell c3_1
  have r3_2 := reg_cell c3_2
  have r3_3 := reg_cell c3_3
  have r3_4 := reg_cell c3_4
  have r3_5 := reg_cell c3_5
  simp only [List.take_succ_cons, List.take_zero, List.drop_succ_cons, List.drop_zero]
  have x3_0 : IntKind.i64.wrap (oabs p.1 + oabs p.2.1) = oabs p.1 + oabs p.2.1 := IntWalk.i64_in _ (by omega)
  have x3_1 : IntKind.i64.wrap (oabs p.1 + oabs p.2.1 + oabs p.2.2) = l := (IntWalk.i64_in _ (by omega)).trans HL.out
  iterate 2 (refine WL_plain (fun K hK => ?_); go_simp; refine hK _ ?_; clear hK K)
  refine WL_call (by kernel_rfl) (fun K hK => ?_)
  go_simp
  apply Exists.intro
  refine ⟨fun w1 hb1 hf1 => ?_, hK _ ?_⟩
  · exact (lAbs5 _ (by omega) _).mono fun _ _ h => h.ret
  clear hK K
  iterate 2 (refine WL_plain (fun K hK => ?_); go_simp; refine hK _ ?_; clear hK K)
  refine WL_call (by kernel_rfl) (fun K hK => ?_)
  go_simp
  apply Exists.intro
  refine ⟨fun w1 hb1 hf1 => ?_, hK _ ?_⟩
  · exact (lAbs5 _ (by omega) _).mono fun _ _ h => h.ret
  clear hK K
  iterate 3 (refine WL_plain (fun K hK => ?_); go_simp; refine hK _ ?_; clear hK K)
  refine WL_call (by kernel_rfl) (fun K hK => ?_)
  go_simp
  apply Exists.intro
  refine ⟨fun w1 hb1 hf1 => ?_, hK _ ?_⟩
  · exact (lAbs5 _ (by omega) _).mono fun _ _ h => h.ret
  clear hK K
  iterate 2 (refine WL_plain (fun K hK => ?_); go_simp; refine hK _ ?_; clear hK K)
  clear x3_0 x3_1
  refine WL_nil (fun w3 hb3 hf3 => ?_)
  have hB3 : Below w.heap.size w w3 := Below.next hA3 hb3
  have d3_0 := cell_call hb3 c3_0
  have d3_1 := cell_call hb3 c3_1
  have d3_2 := cell_call hb3 c3_2
  have d3_3 := cell_call hb3 c3_3
  have d3_4 := cell_call hb3 c3_4
  have d3_5 := cell_call hb3 c3_5
  clear r3_0 c3_0 r3_1 c3_1 r3_2 c3_2 r3_3 c3_3 r3_4 c3_4 r3_5 c3_5
  have l3_0 := World.block_lt_of_cell? w3 _ d3_0
  have l3_3 := World.block_lt_of_cell? w3 _ d3_3
  have hS3 := hB3.size
  go_wp2_with fail
  have eX := HX.out
  have eY := HY.out
  have eZ := HZ.out
  refine wp_loop_rounds 4 ?_
  rw [rounds_succ]
  go_wp2_with fail
  refine (lAbs5 _ (by omega) _).mono ?_; rintro e w9 ⟨rfl, rfl⟩
  go_wp2_with fail
  rw [rounds_succ]
  go_wp2_with fail
  refine (lAbs5 _ (by omega) _).mono ?_; rintro e w9 ⟨rfl, rfl⟩
  go_wp2_with fail
  rw [rounds_succ]
  go_wp2_with fail
  refine (lAbs5 _ (by omega) _).mono ?_; rintro e w9 ⟨rfl, rfl⟩
  go_wp2_with fail
  rw [rounds_succ]
  go_wp2_with fail
  refine (works5 _).mono ?_; rintro e w4 ⟨rfl, hb4⟩
  have hB4 : Below w.heap.size w w4 := Below.next (by go_grown) hb4
  have hS4 := hB4.size
  clear hb4
  go_wp2_with fail
  go_ret
  exact ret_of rfl hB4

theorem lawOctaNear (ns : List Int) (h : Al2 Fits [.i64, .i64, .i64] ns) (w : World) : Calls Try.prog 4 #[.agg (vals [.i64, .i64, .i64] ns).toArray] w (Ret (.bool true) w) := by
  obtain ⟨p, hp, e⟩ := three_in h
  rw [e]
  have k1 := fun w => oEnc p hp w
  have k2 := fun w => oMay _ _ _ hp.1 hp.2.1 hp.2.2 w
  cases hm : mayB p
  · refine walkOctaNear_no p (Lib.hid fun w => ?_) (Lib.hid fun w => ?_) w
    · have := k1 w
      unfold encV encE at this
      rw [hm] at this
      exact this
    · have := k2 w
      rw [show mayB (p.1, p.2.1, p.2.2) = false from hm] at this
      exact this
  · obtain ⟨l1, l2, -⟩ := encL_bd hm
    obtain ⟨n1, n2, n3⟩ := near5 hm
    have hb : ((-16384 ≤ p.1 ∧ p.1 ≤ 16384) ∧ (-16384 ≤ p.2.1 ∧ p.2.1 ≤ 16384) ∧ (-16384 ≤ p.2.2 ∧ p.2.2 ≤ 16384)) := by
      have := hm
      unfold mayB at this
      simp only [Bool.and_eq_true, decide_eq_true_eq] at this
      exact this.2
    refine walkOctaNear_yes p (dec (enc p)) (enc p) (encL p) _ _ _ (Lib.hid fun w => ?_) (Lib.hid (oDec (enc p) (enc_range hm))) hb.1 hb.2.1 hb.2.2 (Lib.hid rfl) l1 l2 (Lib.hid rfl) (Lib.hid rfl) (Lib.hid rfl) n1 n2 n3 w
    have := k1 w
    unfold encV encE at this
    rw [if_pos hm, if_pos hm] at this
    exact this

end Go.Proofs.Ytbfgmedjogjkeaa
