/- Walk: the law OctaBack. -/
import Derived.Test.YtbfgmedjogjkeaaLaw5
import Derived.Test.YtbfgmedjogjkeaaOctaN
import Derived.Test.YtbfgmedjogjkeaaFrameV
namespace Go.Proofs.Ytbfgmedjogjkeaa
open Go.RowKit Go.Sort
set_option linter.unusedVariables false
set_option linter.unusedSimpArgs false

set_option maxRecDepth 100000 in
set_option maxHeartbeats 1600000 in
theorem lAbs5 (n : Int) (h : -9223372036854775807 ≤ n ∧ n ≤ 9223372036854775807) (w : World) : Calls Try.prog 22 #[.int .i64 n] w (Same (.int .i64 (oabs n)) w) := by
  have e2 := imax
  have HK : Hid (max n (-n) = oabs n) := Lib.hid (by unfold oabs; split <;> omega)
  go_enter Try.func22, Try.ntmps22
  go_wp2
  go_ret
  exact same_of (vint HK.out)

set_option maxRecDepth 100000 in
set_option maxHeartbeats 1600000 in
theorem walkOctaBack (x e : Int) (d q : T3) (K1 : Hid (∀ w, Calls Try.prog 21 #[.int .u32 x] w (Ret (V3 d.1 d.2.1 d.2.2) w))) (K2 : Hid (∀ w, Calls Try.prog 18 #[V3 d.1 d.2.1 d.2.2] w (Ret (.bool true) w))) (K3 : Hid (∀ w, Calls Try.prog 16 #[V3 d.1 d.2.1 d.2.2] w (Ret (.tuple #[.int .u32 e, .int .i64 0]) w))) (K4 : Hid (∀ w, Calls Try.prog 21 #[.int .u32 e] w (Ret (V3 d.1 d.2.1 d.2.2) w))) (K5 : Hid (∀ w, Calls Try.prog 24 #[.int .u32 x] w (Ret (V3 q.1 q.2.1 q.2.2) w))) (K6 : Hid (∀ w, Calls Try.prog 18 #[V3 q.1 q.2.1 q.2.2] w (Ret (.bool true) w)))
    (b0 : -16384 ≤ d.1 ∧ d.1 ≤ 16384) (b1 : -16384 ≤ d.2.1 ∧ d.2.1 ≤ 16384) (b2 : -16384 ≤ d.2.2 ∧ d.2.2 ≤ 16384) (HS : Hid (osum d = 16384)) (w : World) : Calls Try.prog 6 #[.int .u32 x] w (Ret (.bool true) w) := by
  have o0 := oabs_bd b0
  have o1 := oabs_bd b1
  have o2 := oabs_bd b2
  go_enter Try.func6, Try.ntmps6
  go_wp2_with fail
  refine (K1.out _).mono ?_; rintro e w1 ⟨rfl, hb1⟩
  have hB1 : Below w.heap.size w w1 := Below.next (by go_grown) hb1
  have hS1 := hB1.size
  clear hb1
  go_wp2_with fail
  refine wp_region_fresh_gen 17 (by kernel_rfl) (by kernel_rfl) (fun W2 HW2 => ?_)
  intro F2_0 U2_0
  have hA2 : Below w.heap.size w W2 := by rw [HW2]; go_grown
  have c2_0 : W2.cell? ⟨w1.heap.size, 0, none⟩ = some (.int .i64 d.1) := by rw [HW2]; first | assumption | go_cell | simp [go_sem, *]
  have c2_1 : W2.cell? ⟨w1.heap.size, 1, none⟩ = some (.int .i64 d.2.1) := by rw [HW2]; first | assumption | go_cell | simp [go_sem, *]
  have c2_2 : W2.cell? ⟨w1.heap.size, 2, none⟩ = some (.int .i64 d.2.2) := by rw [HW2]; first | assumption | go_cell | simp [go_sem, *]
  clear HW2
  have r2_0 := reg_cell c2_0
  have r2_1 := reg_cell c2_1
  have r2_2 := reg_cell c2_2
  simp only [List.take_succ_cons, List.take_zero, List.drop_succ_cons, List.drop_zero]
  have x2_0 : IntKind.i64.wrap (oabs d.1 + oabs d.2.1) = oabs d.1 + oabs d.2.1 := IntWalk.i64_in _ (by omega)
  have x2_1 : IntKind.i64.wrap (oabs d.1 + oabs d.2.1 + oabs d.2.2) = 16384 := (IntWalk.i64_in _ (by omega)).trans HS.out
  refine WL_plain (fun K hK => ?_); go_simp; refine hK _ ?_; clear hK K
  refine WL_call (by kernel_rfl) (fun K hK => ?_)
  go_simp
  apply Exists.intro
  refine ⟨fun w1 hb1 hf1 => ?_, hK _ ?_⟩
  · exact K2.out _
  clear hK K
  iterate 4 (refine WL_plain (fun K hK => ?_); go_simp; refine hK _ ?_; clear hK K)
  refine WL_call (by kernel_rfl) (fun K hK => ?_)
  go_simp
  apply Exists.intro
  refine ⟨fun w1 hb1 hf1 => ?_, hK _ ?_⟩
  · exact (lAbs5 _ (by omega) _).mono fun _ _ h => h.ret
  clear hK K
  iterate 2 (refine WL_plain (fun K hK => ?_); go_simp; refine hK _ ?_; clear hK K)
  refine WL_call (by kernel_rfl) (fun K hK => ?_)
  go_simp
  apply Exists.intro
  refine ⟨fun w1 hb1 hf1 => ?_, hK _ ?_⟩
  · exact (lAbs5 _ (by omega) _).mono fun _ _ h => h.ret
  clear hK K
  iterate 3 (refine WL_plain (fun K hK => ?_); go_simp; refine hK _ ?_; clear hK K)
  refine WL_call (by kernel_rfl) (fun K hK => ?_)
  go_simp
  apply Exists.intro
  refine ⟨fun w1 hb1 hf1 => ?_, hK _ ?_⟩
  · exact (lAbs5 _ (by omega) _).mono fun _ _ h => h.ret
  clear hK K
  iterate 3 (refine WL_plain (fun K hK => ?_); go_simp; refine hK _ ?_; clear hK K)
  clear x2_0 x2_1
  refine WL_nil (fun w2 hb2 hf2 => ?_)
  have hB2 : Below w.heap.size w w2 := Below.next hA2 hb2
  have d2_0 := cell_call hb2 c2_0
  have d2_1 := cell_call hb2 c2_1
  have d2_2 := cell_call hb2 c2_2
  clear r2_0 c2_0 r2_1 c2_1 r2_2 c2_2
  have l2_0 := World.block_lt_of_cell? w2 _ d2_0
  have hS2 := hB2.size
  go_wp2_with fail
  refine (K3.out _).mono ?_; rintro e w3 ⟨rfl, hb3⟩
  have hB3 : Below w.heap.size w w3 := Below.next (by go_grown) hb3
  have d3_0 : w3.cell? ⟨w1.heap.size, 0, none⟩ = some (.int .i64 d.1) := cell_call hb3 (by first | assumption | go_cell | simp [go_sem])
  have d3_1 : w3.cell? ⟨w1.heap.size, 1, none⟩ = some (.int .i64 d.2.1) := cell_call hb3 (by first | assumption | go_cell | simp [go_sem])
  have d3_2 : w3.cell? ⟨w1.heap.size, 2, none⟩ = some (.int .i64 d.2.2) := cell_call hb3 (by first | assumption | go_cell | simp [go_sem])
  have l3_0 := World.block_lt_of_cell? w3 _ d3_0
  have hS3 := hB3.size
  clear hb3
  go_wp2_with fail
  refine wp_region_fresh_gen 17 (by kernel_rfl) (by kernel_rfl) (fun W4 HW4 => ?_)
  intro F4_0 U4_0
  have hA4 : Below w.heap.size w W4 := by rw [HW4]; go_grown
  have c4_0 : W4.cell? ⟨w1.heap.size, 0, none⟩ = some (.int .i64 d.1) := by rw [HW4]; first | assumption | go_cell | simp [go_sem, *]
  have c4_1 : W4.cell? ⟨w1.heap.size, 1, none⟩ = some (.int .i64 d.2.1) := by rw [HW4]; first | assumption | go_cell | simp [go_sem, *]
  have c4_2 : W4.cell? ⟨w1.heap.size, 2, none⟩ = some (.int .i64 d.2.2) := by rw [HW4]; first | assumption | go_cell | simp [go_sem, *]
  clear HW4
  have r4_0 := reg_cell c4_0
  have r4_1 := reg_cell c4_1
  have r4_2 := reg_cell c4_2
  simp only [List.take_succ_cons, List.take_zero, List.drop_succ_cons, List.drop_zero]
  iterate 4 (refine WL_plain (fun K hK => ?_); go_simp; refine hK _ ?_; clear hK K)
  refine WL_call (by kernel_rfl) (fun K hK => ?_)
  go_simp
  apply Exists.intro
  refine ⟨fun w1 hb1 hf1 => ?_, hK _ ?_⟩
  · exact K4.out _
  clear hK K
  iterate 5 (refine WL_plain (fun K hK => ?_); go_simp; refine hK _ ?_; clear hK K)
  refine WL_call (by kernel_rfl) (fun K hK => ?_)
  go_simp
  apply Exists.intro
  refine ⟨fun w1 hb1 hf1 => ?_, hK _ ?_⟩
  · exact K5.out _
  clear hK K
  refine WL_call (by kernel_rfl) (fun K hK => ?_)
  go_simp
  apply Exists.intro
  refine ⟨fun w1 hb1 hf1 => ?_, hK _ ?_⟩
  · exact K6.out _
  clear hK K
  iterate 2 (refine WL_plain (fun K hK => ?_); go_simp; refine hK _ ?_; clear hK K)
  refine WL_call (by kernel_rfl) (fun K hK => ?_)
  go_simp
  apply Exists.intro
  refine ⟨fun w1 hb1 hf1 => ?_, hK _ ?_⟩
  · exact works5 _
  clear hK K
  iterate 2 (refine WL_plain (fun K hK => ?_); go_simp; refine hK _ ?_; clear hK K)
  refine WL_nil (fun w4 hb4 hf4 => ?_)
  have hB4 : Below w.heap.size w w4 := Below.next hA4 hb4
  have d4_0 := cell_call hb4 c4_0
  have d4_1 := cell_call hb4 c4_1
  have d4_2 := cell_call hb4 c4_2
  clear r4_0 c4_0 r4_1 c4_1 r4_2 c4_2
  have l4_0 := World.block_lt_of_cell? w4 _ d4_0
  have hS4 := hB4.size
  go_wp2_with fail
  go_ret
  exact ret_of rfl hB4

theorem lawOctaBack (x : Int) (wx : (Lit.int .u32 x).wf = true) (w : World) : Calls Try.prog 6 #[.int .u32 x] w (Ret (.bool true) w) := by
  have hx : 0 ≤ x ∧ x ≤ 4294967295 := by have := bounds_u32 wx; omega
  obtain ⟨hs, hm⟩ := dec_may hx
  have he := enc_range hm
  have hp := dec_may (pick_bd hx)
  have hb : ((-16384 ≤ (dec x).1 ∧ (dec x).1 ≤ 16384) ∧ (-16384 ≤ (dec x).2.1 ∧ (dec x).2.1 ≤ 16384) ∧ (-16384 ≤ (dec x).2.2 ∧ (dec x).2.2 ≤ 16384)) := by
    have := hm
    unfold mayB at this
    simp only [Bool.and_eq_true, decide_eq_true_eq] at this
    exact this.2
  have hI : InV (dec x) := by unfold InV InI; omega
  have hpb : InV (pdir x) := by
    have := hp.2
    unfold mayB at this
    simp only [Bool.and_eq_true, decide_eq_true_eq] at this
    have := this.2
    unfold pdir InV InI
    omega
  have e4 : dec (enc (dec x)) = dec x := by rw [dec_enc hm, back hm hs]
  refine walkOctaBack x (enc (dec x)) (dec x) (pdir x) (Lib.hid (oDec x hx)) (Lib.hid fun w => ?_) (Lib.hid fun w => ?_) (Lib.hid fun w => ?_) (Lib.hid (oPick x hx)) (Lib.hid fun w => ?_) hb.1 hb.2.1 hb.2.2 (Lib.hid hs) w
  · have := oMay _ _ _ hI.1 hI.2.1 hI.2.2 w
    rw [show mayB ((dec x).1, (dec x).2.1, (dec x).2.2) = true from hm] at this
    exact this
  · have := oEnc (dec x) hI w
    unfold encV encE at this
    rw [if_pos hm, if_pos hm] at this
    exact this
  · have := oDec (enc (dec x)) he w
    rw [e4] at this
    exact this
  · have := oMay _ _ _ hpb.1 hpb.2.1 hpb.2.2 w
    rw [show mayB ((pdir x).1, (pdir x).2.1, (pdir x).2.2) = true from hp.2] at this
    exact this

end Go.Proofs.Ytbfgmedjogjkeaa
