/- umbraref20.part, umbraref20.Place: what they give. -/
import Derived.Test.YtbfgmedjogjkeaaTriQ
import Derived.Test.YtbfgmedjogjkeaaRef2F
namespace Go.Proofs.Ytbfgmedjogjkeaa
open Go.RowKit Go.Sort
set_option linter.unusedVariables false
set_option linter.unusedSimpArgs false

theorem dq_zero (b : Bool) (D : Int) : dq b 0 D = 0 := by unfold dq; simp
theorem way_eq {d n D : Int} {b1 b2 : Bool} (hD : 0 < D) (h1 : decide (d < 0) = b1) (h2 : decide (n < 0) = b2) : mdN d n D = clampI (sgn (b1 != b2) (dq (b1 != b2) (absU d * absU n) D)) := by
  unfold mdN
  rw [if_neg (by omega), (fq_dq (show D ≠ 0 by omega)).1, decide_eq_false (show ¬ D < 0 by omega), show absU D = D from absU_pos (by omega)]
  congr 1
  by_cases h0 : absU d * absU n = 0
  · have e : d * n = 0 := by
      by_cases hs : (d < 0 ↔ n < 0)
      · have := absU_mul_pos hs; omega
      · have := absU_mul_neg hs; omega
    rw [h0, e, show absU 0 = 0 from rfl, dq_zero, dq_zero]
    cases (b1 != b2) <;> rfl
  · have hp : 0 ≤ absU d * absU n := Int.mul_nonneg (by unfold absU; split <;> omega) (by unfold absU; split <;> omega)
    have e : absU (d * n) = absU d * absU n ∧ decide (d * n < 0) = (b1 != b2) := by
      rw [← h1, ← h2]
      by_cases hs : (d < 0 ↔ n < 0)
      · have e := absU_mul_pos hs
        refine ⟨by rw [← e]; exact absU_pos hp, ?_⟩
        rw [decide_eq_false (show ¬ d * n < 0 by omega)]
        by_cases g : d < 0
        · rw [decide_eq_true g, decide_eq_true (hs.1 g)]; rfl
        · rw [decide_eq_false g, decide_eq_false (fun k => g (hs.2 k))]; rfl
      · have e := absU_mul_neg hs
        refine ⟨by rw [absU_neg (by omega)]; omega, ?_⟩
        rw [decide_eq_true (show d * n < 0 by omega)]
        by_cases g : d < 0
        · have : ¬ n < 0 := fun k => hs ⟨fun _ => k, fun _ => g⟩
          rw [decide_eq_true g, decide_eq_false this]; rfl
        · have : n < 0 := by
            rcases Int.lt_or_le n 0 with k | k
            · exact k
            · exact absurd ⟨fun h => absurd h g, fun h => by omega⟩ hs
          rw [decide_eq_false g, decide_eq_true this]; rfl
    rw [e.1, e.2]
    cases (b1 != b2) <;> rfl

theorem clampG_sat {o y : Int} : clampG (satAdd o y) = clampG (o + y) := by
  unfold clampG satAdd clampI
  (repeat' split) <;> omega
theorem r20part (o d : Int) (m : M4) (ho : InI o) (hd : InI d) (hm : InM m) (w : World) : Calls Try.prog 77 #[.int .i64 o, .int .i64 d, VM m] w (Ret (.int .i64 (partV o d m)) w) := by
  have kS := Lib.hid (fun w => (rSize d hd w).mono fun _ _ h => h.ret)
  have kN := Lib.hid (fun w => (rSize m.1 hm.1 w).mono fun _ _ h => h.ret)
  have kM := Lib.hid (fun w => (mul64 (absU d) (absU m.1) (absU_InU hd) (absU_InU hm.1) w).mono fun _ _ h => h.ret)
  have kT := fun (y : Int) (hy : InI y) => Lib.hid (fun w => (rTwo o y ho hy w).mono fun _ _ h => h.ret)
  have i0 : InI 0 := by unfold InI; omega
  unfold partV
  by_cases h1 : 0 < m.2.1
  · rw [if_neg (by omega)]
    have hD : m.2.1 ≤ 9223372036854775807 := by have := hm.2.1; unfold InI at this; omega
    have hP := absU_mul_bound hd hm.1
    have hs := w_split (absU d * absU m.1)
    have hl := wLo_U (absU d * absU m.1)
    unfold InU at hl
    have hh : 0 ≤ wHi (absU d * absU m.1) := by unfold wHi; omega
    have iW : InI (mdN d m.1 m.2.1) := by unfold mdN; split; exact i0; exact clampI_I _
    by_cases hg : m.2.1 ≤ wHi (absU d * absU m.1)
    · have hq : 18446744073709551616 ≤ absU d * absU m.1 / m.2.1 := by rw [Int.le_ediv_iff_mul_le h1]; omega
      have kR := fun b => (fun w => (rNear 0 b true (by omega) (by omega) w).mono fun _ _ h => h.ret)
      cases sb1 : decide (d < 0) <;> cases sb2 : decide (m.1 < 0)
      · have e : nearV 0 false true = mdN d m.1 m.2.1 := (rdiv_b false hq).trans (way_eq h1 sb1 sb2).symm
        have k := kR false
        rw [e] at k
        exact r20part_00g o d m _ _ _ _ 0 0 0 _ _ _ clampG_sat h1 hD sb1 sb2 hg kS kN kM k (kT _ iW) w
      · have e : nearV 0 true true = mdN d m.1 m.2.1 := (rdiv_b true hq).trans (way_eq h1 sb1 sb2).symm
        have k := kR true
        rw [e] at k
        exact r20part_01g o d m _ _ _ _ 0 0 0 _ _ _ clampG_sat h1 hD sb1 sb2 hg kS kN kM k (kT _ iW) w
      · have e : nearV 0 true true = mdN d m.1 m.2.1 := (rdiv_b true hq).trans (way_eq h1 sb1 sb2).symm
        have k := kR true
        rw [e] at k
        exact r20part_10g o d m _ _ _ _ 0 0 0 _ _ _ clampG_sat h1 hD sb1 sb2 hg kS kN kM k (kT _ iW) w
      · have e : nearV 0 false true = mdN d m.1 m.2.1 := (rdiv_b false hq).trans (way_eq h1 sb1 sb2).symm
        have k := kR false
        rw [e] at k
        exact r20part_11g o d m _ _ _ _ 0 0 0 _ _ _ clampG_sat h1 hD sb1 sb2 hg kS kN kM k (kT _ iW) w
    · have hq0 : 0 ≤ absU d * absU m.1 / m.2.1 := Int.ediv_nonneg hP.1 (by omega)
      have hq1 : absU d * absU m.1 / m.2.1 < 18446744073709551616 := by rw [Int.ediv_lt_iff_lt_mul h1]; omega
      have hr0 := Int.emod_nonneg (absU d * absU m.1) (show m.2.1 ≠ 0 by omega)
      have kD := Lib.hid (div64 _ _ m.2.1 hh (by omega) (by omega) hl.1 (by omega))
      rw [← hs] at kD
      have kR := fun s b g h0 h1 => (fun w => (rNear s b g h0 h1 w).mono fun _ _ h => h.ret)
      cases sb1 : decide (d < 0) <;> cases sb2 : decide (m.1 < 0)
      · have e := (rdiv_p hq0).trans (way_eq h1 sb1 sb2).symm
        have k := kR _ false false hq0 (by omega)
        rw [e] at k
        exact r20part_00q o d m _ _ _ _ _ _ 0 _ _ _ clampG_sat h1 hD sb1 sb2 hg kS kN kM kD k (kT _ iW) w
      · by_cases hm : 0 < absU d * absU m.1 % m.2.1
        · have e := (rdiv_n hq0 hq1 hm rfl).trans (way_eq h1 sb1 sb2).symm
          have k := kR (IntKind.u64.wrap (absU d * absU m.1 / m.2.1 + 1)) true (IntKind.u64.wrap (absU d * absU m.1 / m.2.1 + 1) == 0) (by rw [IntKind.wrap_u64]; omega) (by rw [IntKind.wrap_u64]; omega)
          rw [e] at k
          exact r20part_01r o d m _ _ _ _ _ _ _ _ _ _ clampG_sat h1 hD sb1 sb2 hg hm rfl kS kN kM kD k (kT _ iW) w
        · have e := (rdiv_z hq0 (by omega)).trans (way_eq h1 sb1 sb2).symm
          have k := kR _ true false hq0 (by omega)
          rw [e] at k
          exact r20part_01n o d m _ _ _ _ _ _ 0 _ _ _ clampG_sat h1 hD sb1 sb2 hg hm kS kN kM kD k (kT _ iW) w
      · by_cases hm : 0 < absU d * absU m.1 % m.2.1
        · have e := (rdiv_n hq0 hq1 hm rfl).trans (way_eq h1 sb1 sb2).symm
          have k := kR (IntKind.u64.wrap (absU d * absU m.1 / m.2.1 + 1)) true (IntKind.u64.wrap (absU d * absU m.1 / m.2.1 + 1) == 0) (by rw [IntKind.wrap_u64]; omega) (by rw [IntKind.wrap_u64]; omega)
          rw [e] at k
          exact r20part_10r o d m _ _ _ _ _ _ _ _ _ _ clampG_sat h1 hD sb1 sb2 hg hm rfl kS kN kM kD k (kT _ iW) w
        · have e := (rdiv_z hq0 (by omega)).trans (way_eq h1 sb1 sb2).symm
          have k := kR _ true false hq0 (by omega)
          rw [e] at k
          exact r20part_10n o d m _ _ _ _ _ _ 0 _ _ _ clampG_sat h1 hD sb1 sb2 hg hm kS kN kM kD k (kT _ iW) w
      · have e := (rdiv_p hq0).trans (way_eq h1 sb1 sb2).symm
        have k := kR _ false false hq0 (by omega)
        rw [e] at k
        exact r20part_11q o d m _ _ _ _ _ _ 0 _ _ _ clampG_sat h1 hD sb1 sb2 hg kS kN kM kD k (kT _ iW) w
  · rw [if_pos (by omega)]
    exact r20part_z o d m 0 0 0 0 0 0 0 0 _ _ clampG_sat h1 (kT 0 i0) w

set_option maxRecDepth 100000 in
set_option maxHeartbeats 1600000 in
theorem r20Place_w (o d : T3) (m : M4) (x y z : Int) (K1 : Hid (∀ w, Calls Try.prog 77 #[.int .i64 o.1, .int .i64 d.1, .agg #[.int .i64 m.1, .int .i64 m.2.1, .int .i64 m.2.2.1, .int .i64 m.2.2.2]] w (Ret (.int .i64 x) w))) (K2 : Hid (∀ w, Calls Try.prog 77 #[.int .i64 o.2.1, .int .i64 d.2.1, .agg #[.int .i64 m.1, .int .i64 m.2.1, .int .i64 m.2.2.1, .int .i64 m.2.2.2]] w (Ret (.int .i64 y) w))) (K3 : Hid (∀ w, Calls Try.prog 77 #[.int .i64 o.2.2, .int .i64 d.2.2, .agg #[.int .i64 m.1, .int .i64 m.2.1, .int .i64 m.2.2.1, .int .i64 m.2.2.2]] w (Ret (.int .i64 z) w))) (w : World) : Calls Try.prog 47 #[V3 o.1 o.2.1 o.2.2, V3 d.1 d.2.1 d.2.2, .agg #[.int .i64 m.1, .int .i64 m.2.1, .int .i64 m.2.2.1, .int .i64 m.2.2.2]] w (Ret (V3 x y z) w) := by
  go_enter Try.func47, Try.ntmps47
  go_wp2_with fail
  refine wp_region_fresh_gen 19 (by kernel_rfl) (by kernel_rfl) (fun W1 HW1 => ?_)
  intro F1_0 U1_0
  have hA1 : Below w.heap.size w W1 := by rw [HW1]; go_grown
  have c1_0 : W1.cell? ⟨w.heap.size, 0, none⟩ = some (.int .i64 o.1) := by rw [HW1]; first | assumption | go_cell | simp [go_sem, *]
  have c1_1 : W1.cell? ⟨w.heap.size, 1, none⟩ = some (.int .i64 o.2.1) := by rw [HW1]; first | assumption | go_cell | simp [go_sem, *]
  have c1_2 : W1.cell? ⟨w.heap.size, 2, none⟩ = some (.int .i64 o.2.2) := by rw [HW1]; first | assumption | go_cell | simp [go_sem, *]
  have c1_3 : W1.cell? ⟨w.heap.size + 1, 0, none⟩ = some (.int .i64 d.1) := by rw [HW1]; first | assumption | go_cell | simp [go_sem, *]
  have c1_4 : W1.cell? ⟨w.heap.size + 1, 1, none⟩ = some (.int .i64 d.2.1) := by rw [HW1]; first | assumption | go_cell | simp [go_sem, *]
  have c1_5 : W1.cell? ⟨w.heap.size + 1, 2, none⟩ = some (.int .i64 d.2.2) := by rw [HW1]; first | assumption | go_cell | simp [go_sem, *]
  have c1_6 : W1.cell? ⟨w.heap.size + 1 + 1, 0, none⟩ = some (.int .i64 m.1) := by rw [HW1]; first | assumption | go_cell | simp [go_sem, *]
  have c1_7 : W1.cell? ⟨w.heap.size + 1 + 1, 1, none⟩ = some (.int .i64 m.2.1) := by rw [HW1]; first | assumption | go_cell | simp [go_sem, *]
  have c1_8 : W1.cell? ⟨w.heap.size + 1 + 1, 2, none⟩ = some (.int .i64 m.2.2.1) := by rw [HW1]; first | assumption | go_cell | simp [go_sem, *]
  have c1_9 : W1.cell? ⟨w.heap.size + 1 + 1, 3, none⟩ = some (.int .i64 m.2.2.2) := by rw [HW1]; first | assumption | go_cell | simp [go_sem, *]
  have c1_10 : W1.cell? ⟨w.heap.size + 1 + 1 + 1, 0, none⟩ = some (.int .i64 0) := by rw [HW1]; first | assumption | go_cell | simp [go_sem, *]
  have u1_10 : W1.frozen? ⟨w.heap.size + 1 + 1 + 1, 0, none⟩ = false := by rw [HW1]; first | assumption | simp [go_sem, *]
  have c1_11 : W1.cell? ⟨w.heap.size + 1 + 1 + 1, 1, none⟩ = some (.int .i64 0) := by rw [HW1]; first | assumption | go_cell | simp [go_sem, *]
  have u1_11 : W1.frozen? ⟨w.heap.size + 1 + 1 + 1, 1, none⟩ = false := by rw [HW1]; first | assumption | simp [go_sem, *]
  have c1_12 : W1.cell? ⟨w.heap.size + 1 + 1 + 1, 2, none⟩ = some (.int .i64 0) := by rw [HW1]; first | assumption | go_cell | simp [go_sem, *]
  have u1_12 : W1.frozen? ⟨w.heap.size + 1 + 1 + 1, 2, none⟩ = false := by rw [HW1]; first | assumption | simp [go_sem, *]
  clear HW1
  have r1_0 := reg_cell c1_0
  have r1_1 := reg_cell c1_1
  have r1_2 := reg_cell c1_2
  have r1_3 := reg_cell c1_3
  have r1_4 := reg_cell c1_4
  have r1_5 := reg_cell c1_5
  have r1_6 := reg_cell c1_6
  have r1_7 := reg_cell c1_7
  have r1_8 := reg_cell c1_8
  have r1_9 := reg_cell c1_9
  have r1_10 := reg_cell c1_10
  have r1_11 := reg_cell c1_11
  have r1_12 := reg_cell c1_12
  simp only [List.take_succ_cons, List.take_zero, List.drop_succ_cons, List.drop_zero]
  iterate 5 (refine WL_plain (fun K hK => ?_); go_simp; refine hK _ ?_; clear hK K)
  refine WL_call (by kernel_rfl) (fun K hK => ?_)
  go_simp
  apply Exists.intro
  refine ⟨fun w1 hb1 hf1 => ?_, hK _ ?_⟩
  · exact K1.out _
  clear hK K
  iterate 5 (refine WL_plain (fun K hK => ?_); go_simp; refine hK _ ?_; clear hK K)
  refine WL_call (by kernel_rfl) (fun K hK => ?_)
  go_simp
  apply Exists.intro
  refine ⟨fun w1 hb1 hf1 => ?_, hK _ ?_⟩
  · exact K2.out _
  clear hK K
  iterate 5 (refine WL_plain (fun K hK => ?_); go_simp; refine hK _ ?_; clear hK K)
  refine WL_call (by kernel_rfl) (fun K hK => ?_)
  go_simp
  apply Exists.intro
  refine ⟨fun w1 hb1 hf1 => ?_, hK _ ?_⟩
  · exact K3.out _
  clear hK K
  refine WL_plain (fun K hK => ?_); go_simp; refine hK _ ?_; clear hK K
  refine WL_nil (fun w1 hb1 hf1 => ?_)
  have hB1 : Below w.heap.size w w1 := Below.next hA1 hb1
  have d1_0 := cell_call hb1 c1_0
  have d1_1 := cell_call hb1 c1_1
  have d1_2 := cell_call hb1 c1_2
  have d1_3 := cell_call hb1 c1_3
  have d1_4 := cell_call hb1 c1_4
  have d1_5 := cell_call hb1 c1_5
  have d1_6 := cell_call hb1 c1_6
  have d1_7 := cell_call hb1 c1_7
  have d1_8 := cell_call hb1 c1_8
  have d1_9 := cell_call hb1 c1_9
  have d1_10 := cell_call hb1 c1_10
  have t1_10 := (hb1.frozen (p := ⟨w.heap.size + 1 + 1 + 1, 0, none⟩) (World.block_lt_of_cell? _ _ c1_10)).trans u1_10
  have d1_11 := cell_call hb1 c1_11
  have t1_11 := (hb1.frozen (p := ⟨w.heap.size + 1 + 1 + 1, 1, none⟩) (World.block_lt_of_cell? _ _ c1_11)).trans u1_11
  have d1_12 := cell_call hb1 c1_12
  have t1_12 := (hb1.frozen (p := ⟨w.heap.size + 1 + 1 + 1, 2, none⟩) (World.block_lt_of_cell? _ _ c1_12)).trans u1_12
  clear r1_0 c1_0 r1_1 c1_1 r1_2 c1_2 r1_3 c1_3 r1_4 c1_4 r1_5 c1_5 r1_6 c1_6 r1_7 c1_7 r1_8 c1_8 r1_9 c1_9 r1_10 c1_10 u1_10 r1_11 c1_11 u1_11 r1_12 c1_12 u1_12
  have l1_0 : w.heap.size < w1.heap.size := World.block_lt_of_cell? w1 _ d1_0
  have l1_3 : w.heap.size + 1 < w1.heap.size := World.block_lt_of_cell? w1 _ d1_3
  have l1_6 : w.heap.size + 1 + 1 < w1.heap.size := World.block_lt_of_cell? w1 _ d1_6
  have l1_10 : w.heap.size + 1 + 1 + 1 < w1.heap.size := World.block_lt_of_cell? w1 _ d1_10
  have hS1 := hB1.size
  go_wp2_with fail
  exact bodyPost_ret (v := V3 x y z) (by simp (maxDischargeDepth := 9) [results, Try.results47, go_sem, d1_0, l1_0, Nat.ne_of_lt l1_0, Nat.ne_of_gt l1_0, d1_1, d1_2, d1_3, l1_3, Nat.ne_of_lt l1_3, Nat.ne_of_gt l1_3, d1_4, d1_5, d1_6, l1_6, Nat.ne_of_lt l1_6, Nat.ne_of_gt l1_6, d1_7, d1_8, d1_9, d1_10, l1_10, Nat.ne_of_lt l1_10, Nat.ne_of_gt l1_10, d1_11, d1_12]) rfl ⟨rfl, by go_grown⟩

theorem r20Place (o d : T3) (m : M4) (ho : InV o) (hd : InV d) (hm : InM m) (w : World) : Calls Try.prog 47 #[V3 o.1 o.2.1 o.2.2, V3 d.1 d.2.1 d.2.2, VM m] w (Ret (V3 (placeV o d m).1 (placeV o d m).2.1 (placeV o d m).2.2) w) :=
  r20Place_w o d m _ _ _ (Lib.hid (r20part _ _ m ho.1 hd.1 hm)) (Lib.hid (r20part _ _ m ho.2.1 hd.2.1 hm)) (Lib.hid (r20part _ _ m ho.2.2 hd.2.2 hm)) w

end Go.Proofs.Ytbfgmedjogjkeaa
