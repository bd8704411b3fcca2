/- Walks: umbraref05: sign, Decode, Pick, May. -/
import Derived.Test.YtbfgmedjogjkeaaOctaA
namespace Go.Proofs.Ytbfgmedjogjkeaa
open Go.RowKit Go.Sort
set_option linter.unusedVariables false
set_option linter.unusedSimpArgs false

theorem r5sign (n : Int) (w : World) : Calls Try.prog 55 #[.int .i64 n] w (Same (.int .i64 (osg n 1)) w) := by
  by_cases h : n < 0
  · have HK : Hid (-1 = osg n 1) := Lib.hid (by unfold osg; rw [if_pos h])
    go_enter Try.func55, Try.ntmps55
    go_wp2
    go_ret
    exact same_of (vint HK.out)
  · have HK : Hid (1 = osg n 1) := Lib.hid (by unfold osg; rw [if_neg h])
    go_enter Try.func55, Try.ntmps55
    go_wp2
    go_ret
    exact same_of (vint HK.out)
theorem osg_mul (b n : Int) : osg b 1 * n = osg b n := by unfold osg; split <;> omega
theorem osg_bd {b n m : Int} (h : -m ≤ n ∧ n ≤ m) : -m ≤ osg b n ∧ osg b n ≤ m := by unfold osg; split <;> omega

set_option maxRecDepth 100000 in
set_option maxHeartbeats 1600000 in
theorem r5Dec_LLP (c : Int) (hc : 0 ≤ c ∧ c ≤ 4294967295) (u : c / 65536 ≤ 32768) (v : c % 65536 ≤ 32768) (z : 0 ≤ 16384 - oabs (c / 65536 - 16384) - oabs (c % 65536 - 16384)) (w : World) : Calls Try.prog 23 #[.int .u32 c] w (Ret (V3 (c / 65536 - 16384) (c % 65536 - 16384) (16384 - oabs (c / 65536 - 16384) - oabs (c % 65536 - 16384))) w) := by
  have ha : -16384 ≤ (c / 65536 - 16384 : Int) ∧ (c / 65536 - 16384 : Int) ≤ 16384 := by omega
  have hb : -16384 ≤ (c % 65536 - 16384 : Int) ∧ (c % 65536 - 16384 : Int) ≤ 16384 := by omega
  have h1 := oabs_bd (n := c / 65536 - 16384) (b := 16384) ha
  have h2 := oabs_bd (n := c % 65536 - 16384) (b := 16384) hb
  go_enter Try.func23, Try.ntmps23
  go_wp2_with (first
    | (go_at_call 54; refine (r5Abs _ (by omega) _).mono ?_; rintro e w9 ⟨rfl, rfl⟩)
    | (go_at_call 55; refine (r5sign _ _).mono ?_; rintro e w9 ⟨rfl, rfl⟩))
  exact bodyPost_ret (v := V3 (c / 65536 - 16384) (c % 65536 - 16384) (16384 - oabs (c / 65536 - 16384) - oabs (c % 65536 - 16384))) (by simp (maxDischargeDepth := 9) [results, Try.results23, go_sem]) rfl ⟨rfl, by go_grown⟩

set_option maxRecDepth 100000 in
set_option maxHeartbeats 1600000 in
theorem r5Dec_LLN (c : Int) (hc : 0 ≤ c ∧ c ≤ 4294967295) (u : c / 65536 ≤ 32768) (v : c % 65536 ≤ 32768) (z : 16384 - oabs (c / 65536 - 16384) - oabs (c % 65536 - 16384) < 0) (w : World) : Calls Try.prog 23 #[.int .u32 c] w (Ret (V3 (osg (c / 65536 - 16384) (16384 - oabs (c % 65536 - 16384))) (osg (c % 65536 - 16384) (16384 - oabs (c / 65536 - 16384))) (16384 - oabs (c / 65536 - 16384) - oabs (c % 65536 - 16384))) w) := by
  have ha : -16384 ≤ (c / 65536 - 16384 : Int) ∧ (c / 65536 - 16384 : Int) ≤ 16384 := by omega
  have hb : -16384 ≤ (c % 65536 - 16384 : Int) ∧ (c % 65536 - 16384 : Int) ≤ 16384 := by omega
  have h1 := oabs_bd (n := c / 65536 - 16384) (b := 16384) ha
  have h2 := oabs_bd (n := c % 65536 - 16384) (b := 16384) hb
  have h3 := osg_bd (b := c / 65536 - 16384) (n := 16384 - oabs (c % 65536 - 16384)) (m := 16384) (by omega)
  have h4 := osg_bd (b := c % 65536 - 16384) (n := 16384 - oabs (c / 65536 - 16384)) (m := 16384) (by omega)
  have e3 := osg_mul (c / 65536 - 16384) (16384 - oabs (c % 65536 - 16384))
  have e4 := osg_mul (c % 65536 - 16384) (16384 - oabs (c / 65536 - 16384))
  go_enter Try.func23, Try.ntmps23
  go_wp2_with (first
    | (go_at_call 54; refine (r5Abs _ (by omega) _).mono ?_; rintro e w9 ⟨rfl, rfl⟩)
    | (go_at_call 55; refine (r5sign _ _).mono ?_; rintro e w9 ⟨rfl, rfl⟩))
  exact bodyPost_ret (v := V3 (osg (c / 65536 - 16384) (16384 - oabs (c % 65536 - 16384))) (osg (c % 65536 - 16384) (16384 - oabs (c / 65536 - 16384))) (16384 - oabs (c / 65536 - 16384) - oabs (c % 65536 - 16384))) (by simp (maxDischargeDepth := 9) [results, Try.results23, go_sem]) rfl ⟨rfl, by go_grown⟩

set_option maxRecDepth 100000 in
set_option maxHeartbeats 1600000 in
theorem r5Dec_LGP (c : Int) (hc : 0 ≤ c ∧ c ≤ 4294967295) (u : c / 65536 ≤ 32768) (v : 32768 < c % 65536) (z : 0 ≤ 16384 - oabs (c / 65536 - 16384) - oabs (16384)) (w : World) : Calls Try.prog 23 #[.int .u32 c] w (Ret (V3 (c / 65536 - 16384) (16384) (16384 - oabs (c / 65536 - 16384) - oabs (16384))) w) := by
  have ha : -16384 ≤ (c / 65536 - 16384 : Int) ∧ (c / 65536 - 16384 : Int) ≤ 16384 := by omega
  have hb : -16384 ≤ (16384 : Int) ∧ (16384 : Int) ≤ 16384 := by omega
  have h1 := oabs_bd (n := c / 65536 - 16384) (b := 16384) ha
  have h2 := oabs_bd (n := 16384) (b := 16384) hb
  go_enter Try.func23, Try.ntmps23
  go_wp2_with (first
    | (go_at_call 54; refine (r5Abs _ (by omega) _).mono ?_; rintro e w9 ⟨rfl, rfl⟩)
    | (go_at_call 55; refine (r5sign _ _).mono ?_; rintro e w9 ⟨rfl, rfl⟩))
  exact bodyPost_ret (v := V3 (c / 65536 - 16384) (16384) (16384 - oabs (c / 65536 - 16384) - oabs (16384))) (by simp (maxDischargeDepth := 9) [results, Try.results23, go_sem]) rfl ⟨rfl, by go_grown⟩

set_option maxRecDepth 100000 in
set_option maxHeartbeats 1600000 in
theorem r5Dec_LGN (c : Int) (hc : 0 ≤ c ∧ c ≤ 4294967295) (u : c / 65536 ≤ 32768) (v : 32768 < c % 65536) (z : 16384 - oabs (c / 65536 - 16384) - oabs (16384) < 0) (w : World) : Calls Try.prog 23 #[.int .u32 c] w (Ret (V3 (osg (c / 65536 - 16384) (16384 - oabs (16384))) (osg (16384) (16384 - oabs (c / 65536 - 16384))) (16384 - oabs (c / 65536 - 16384) - oabs (16384))) w) := by
  have ha : -16384 ≤ (c / 65536 - 16384 : Int) ∧ (c / 65536 - 16384 : Int) ≤ 16384 := by omega
  have hb : -16384 ≤ (16384 : Int) ∧ (16384 : Int) ≤ 16384 := by omega
  have h1 := oabs_bd (n := c / 65536 - 16384) (b := 16384) ha
  have h2 := oabs_bd (n := 16384) (b := 16384) hb
  have h3 := osg_bd (b := c / 65536 - 16384) (n := 16384 - oabs (16384)) (m := 16384) (by omega)
  have h4 := osg_bd (b := 16384) (n := 16384 - oabs (c / 65536 - 16384)) (m := 16384) (by omega)
  have e3 := osg_mul (c / 65536 - 16384) (16384 - oabs (16384))
  have e4 := osg_mul (16384) (16384 - oabs (c / 65536 - 16384))
  go_enter Try.func23, Try.ntmps23
  go_wp2_with (first
    | (go_at_call 54; refine (r5Abs _ (by omega) _).mono ?_; rintro e w9 ⟨rfl, rfl⟩)
    | (go_at_call 55; refine (r5sign _ _).mono ?_; rintro e w9 ⟨rfl, rfl⟩))
  exact bodyPost_ret (v := V3 (osg (c / 65536 - 16384) (16384 - oabs (16384))) (osg (16384) (16384 - oabs (c / 65536 - 16384))) (16384 - oabs (c / 65536 - 16384) - oabs (16384))) (by simp (maxDischargeDepth := 9) [results, Try.results23, go_sem]) rfl ⟨rfl, by go_grown⟩

set_option maxRecDepth 100000 in
set_option maxHeartbeats 1600000 in
theorem r5Dec_GLP (c : Int) (hc : 0 ≤ c ∧ c ≤ 4294967295) (u : 32768 < c / 65536) (v : c % 65536 ≤ 32768) (z : 0 ≤ 16384 - oabs (16384) - oabs (c % 65536 - 16384)) (w : World) : Calls Try.prog 23 #[.int .u32 c] w (Ret (V3 (16384) (c % 65536 - 16384) (16384 - oabs (16384) - oabs (c % 65536 - 16384))) w) := by
  have ha : -16384 ≤ (16384 : Int) ∧ (16384 : Int) ≤ 16384 := by omega
  have hb : -16384 ≤ (c % 65536 - 16384 : Int) ∧ (c % 65536 - 16384 : Int) ≤ 16384 := by omega
  have h1 := oabs_bd (n := 16384) (b := 16384) ha
  have h2 := oabs_bd (n := c % 65536 - 16384) (b := 16384) hb
  go_enter Try.func23, Try.ntmps23
  go_wp2_with (first
    | (go_at_call 54; refine (r5Abs _ (by omega) _).mono ?_; rintro e w9 ⟨rfl, rfl⟩)
    | (go_at_call 55; refine (r5sign _ _).mono ?_; rintro e w9 ⟨rfl, rfl⟩))
  exact bodyPost_ret (v := V3 (16384) (c % 65536 - 16384) (16384 - oabs (16384) - oabs (c % 65536 - 16384))) (by simp (maxDischargeDepth := 9) [results, Try.results23, go_sem]) rfl ⟨rfl, by go_grown⟩

set_option maxRecDepth 100000 in
set_option maxHeartbeats 1600000 in
theorem r5Dec_GLN (c : Int) (hc : 0 ≤ c ∧ c ≤ 4294967295) (u : 32768 < c / 65536) (v : c % 65536 ≤ 32768) (z : 16384 - oabs (16384) - oabs (c % 65536 - 16384) < 0) (w : World) : Calls Try.prog 23 #[.int .u32 c] w (Ret (V3 (osg (16384) (16384 - oabs (c % 65536 - 16384))) (osg (c % 65536 - 16384) (16384 - oabs (16384))) (16384 - oabs (16384) - oabs (c % 65536 - 16384))) w) := by
  have ha : -16384 ≤ (16384 : Int) ∧ (16384 : Int) ≤ 16384 := by omega
  have hb : -16384 ≤ (c % 65536 - 16384 : Int) ∧ (c % 65536 - 16384 : Int) ≤ 16384 := by omega
  have h1 := oabs_bd (n := 16384) (b := 16384) ha
  have h2 := oabs_bd (n := c % 65536 - 16384) (b := 16384) hb
  have h3 := osg_bd (b := 16384) (n := 16384 - oabs (c % 65536 - 16384)) (m := 16384) (by omega)
  have h4 := osg_bd (b := c % 65536 - 16384) (n := 16384 - oabs (16384)) (m := 16384) (by omega)
  have e3 := osg_mul (16384) (16384 - oabs (c % 65536 - 16384))
  have e4 := osg_mul (c % 65536 - 16384) (16384 - oabs (16384))
  go_enter Try.func23, Try.ntmps23
  go_wp2_with (first
    | (go_at_call 54; refine (r5Abs _ (by omega) _).mono ?_; rintro e w9 ⟨rfl, rfl⟩)
    | (go_at_call 55; refine (r5sign _ _).mono ?_; rintro e w9 ⟨rfl, rfl⟩))
  exact bodyPost_ret (v := V3 (osg (16384) (16384 - oabs (c % 65536 - 16384))) (osg (c % 65536 - 16384) (16384 - oabs (16384))) (16384 - oabs (16384) - oabs (c % 65536 - 16384))) (by simp (maxDischargeDepth := 9) [results, Try.results23, go_sem]) rfl ⟨rfl, by go_grown⟩

set_option maxRecDepth 100000 in
set_option maxHeartbeats 1600000 in
theorem r5Dec_GGP (c : Int) (hc : 0 ≤ c ∧ c ≤ 4294967295) (u : 32768 < c / 65536) (v : 32768 < c % 65536) (z : 0 ≤ 16384 - oabs (16384) - oabs (16384)) (w : World) : Calls Try.prog 23 #[.int .u32 c] w (Ret (V3 (16384) (16384) (16384 - oabs (16384) - oabs (16384))) w) := by
  exfalso
  unfold oabs at z
  simp at z

set_option maxRecDepth 100000 in
set_option maxHeartbeats 1600000 in
theorem r5Dec_GGN (c : Int) (hc : 0 ≤ c ∧ c ≤ 4294967295) (u : 32768 < c / 65536) (v : 32768 < c % 65536) (z : 16384 - oabs (16384) - oabs (16384) < 0) (w : World) : Calls Try.prog 23 #[.int .u32 c] w (Ret (V3 (osg (16384) (16384 - oabs (16384))) (osg (16384) (16384 - oabs (16384))) (16384 - oabs (16384) - oabs (16384))) w) := by
  have ha : -16384 ≤ (16384 : Int) ∧ (16384 : Int) ≤ 16384 := by omega
  have hb : -16384 ≤ (16384 : Int) ∧ (16384 : Int) ≤ 16384 := by omega
  have h1 := oabs_bd (n := 16384) (b := 16384) ha
  have h2 := oabs_bd (n := 16384) (b := 16384) hb
  have h3 := osg_bd (b := 16384) (n := 16384 - oabs (16384)) (m := 16384) (by omega)
  have h4 := osg_bd (b := 16384) (n := 16384 - oabs (16384)) (m := 16384) (by omega)
  have e3 := osg_mul (16384) (16384 - oabs (16384))
  have e4 := osg_mul (16384) (16384 - oabs (16384))
  go_enter Try.func23, Try.ntmps23
  go_wp2_with (first
    | (go_at_call 54; refine (r5Abs _ (by omega) _).mono ?_; rintro e w9 ⟨rfl, rfl⟩)
    | (go_at_call 55; refine (r5sign _ _).mono ?_; rintro e w9 ⟨rfl, rfl⟩))
  exact bodyPost_ret (v := V3 (osg (16384) (16384 - oabs (16384))) (osg (16384) (16384 - oabs (16384))) (16384 - oabs (16384) - oabs (16384))) (by simp (maxDischargeDepth := 9) [results, Try.results23, go_sem]) rfl ⟨rfl, by go_grown⟩

theorem r5Dec (c : Int) (hc : 0 ≤ c ∧ c ≤ 4294967295) (w : World) : Calls Try.prog 23 #[.int .u32 c] w (Ret (V3 (dec c).1 (dec c).2.1 (dec c).2.2) w) := by
  unfold dec decA decB
  by_cases u : c / 65536 ≤ 32768 <;> by_cases v : c % 65536 ≤ 32768
  · rw [show min (c / 65536) 32768 = c / 65536 by omega, show min (c % 65536) 32768 = c % 65536 by omega]
    (try rw [show (32768 : Int) - 16384 = 16384 from rfl])
    unfold decP
    split
    · exact r5Dec_LLN c hc (by omega) (by omega) (by assumption) w
    · exact r5Dec_LLP c hc (by omega) (by omega) (by first | assumption | omega) w
  · rw [show min (c / 65536) 32768 = c / 65536 by omega, show min (c % 65536) 32768 = 32768 by omega]
    (try rw [show (32768 : Int) - 16384 = 16384 from rfl])
    unfold decP
    split
    · exact r5Dec_LGN c hc (by omega) (by omega) (by assumption) w
    · exact r5Dec_LGP c hc (by omega) (by omega) (by first | assumption | omega) w
  · rw [show min (c / 65536) 32768 = 32768 by omega, show min (c % 65536) 32768 = c % 65536 by omega]
    (try rw [show (32768 : Int) - 16384 = 16384 from rfl])
    unfold decP
    split
    · exact r5Dec_GLN c hc (by omega) (by omega) (by assumption) w
    · exact r5Dec_GLP c hc (by omega) (by omega) (by first | assumption | omega) w
  · rw [show min (c / 65536) 32768 = 32768 by omega, show min (c % 65536) 32768 = 32768 by omega]
    (try rw [show (32768 : Int) - 16384 = 16384 from rfl])
    unfold decP
    split
    · exact r5Dec_GGN c hc (by omega) (by omega) (by assumption) w
    · exact r5Dec_GGP c hc (by omega) (by omega) (by first | assumption | omega) w

set_option maxRecDepth 100000 in
set_option maxHeartbeats 1600000 in
theorem r5Pick (x : Int) (hx : 0 ≤ x ∧ x ≤ 4294967295) (w : World) : Calls Try.prog 25 #[.int .u32 x] w (Ret (V3 (pdir x).1 (pdir x).2.1 (pdir x).2.2) w) := by
  have f1 : 0 ≤ x / 65536 ∧ x / 65536 ≤ 65535 := by omega
  have f2 : 0 ≤ x % 65536 ∧ x % 65536 ≤ 65535 := by omega
  have f3 : 0 ≤ x / 65536 * 32769 / 65536 ∧ x / 65536 * 32769 / 65536 ≤ 32768 := by omega
  have f4 : 0 ≤ x % 65536 * 32769 / 65536 ∧ x % 65536 * 32769 / 65536 ≤ 32768 := by omega
  have HP : Hid (x / 65536 * 32769 / 65536 * 65536 + x % 65536 * 32769 / 65536 = pick x) := Lib.hid rfl
  have hp : 0 ≤ pick x ∧ pick x ≤ 4294967295 := by unfold pick; omega
  have HD : Hid (pdir x = dec (pick x)) := Lib.hid rfl
  rw [HD.out]
  go_enter Try.func25, Try.ntmps25
  go_wp2_with fail
  rw [HP.out]
  refine (r5Dec _ hp _).mono ?_; rintro e w1 ⟨rfl, hb1⟩
  have hB1 : Below w.heap.size w w1 := Below.next (by go_grown) hb1
  have d1_0 : w1.cell? ⟨w.heap.size, 0, none⟩ = some (.int .i64 0) := cell_call hb1 (by first | assumption | go_cell | simp [go_sem])
  have t1_0 : w1.frozen? ⟨w.heap.size, 0, none⟩ = false := (hb1.frozen (p := ⟨w.heap.size, 0, none⟩) (World.block_lt_of_cell? _ _ (show World.cell? _ ⟨w.heap.size, 0, none⟩ = some (.int .i64 0) from by first | assumption | go_cell | simp [go_sem]))).trans (by first | assumption | simp [go_sem])
  have d1_1 : w1.cell? ⟨w.heap.size, 1, none⟩ = some (.int .i64 0) := cell_call hb1 (by first | assumption | go_cell | simp [go_sem])
  have t1_1 : w1.frozen? ⟨w.heap.size, 1, none⟩ = false := (hb1.frozen (p := ⟨w.heap.size, 1, none⟩) (World.block_lt_of_cell? _ _ (show World.cell? _ ⟨w.heap.size, 1, none⟩ = some (.int .i64 0) from by first | assumption | go_cell | simp [go_sem]))).trans (by first | assumption | simp [go_sem])
  have d1_2 : w1.cell? ⟨w.heap.size, 2, none⟩ = some (.int .i64 0) := cell_call hb1 (by first | assumption | go_cell | simp [go_sem])
  have t1_2 : w1.frozen? ⟨w.heap.size, 2, none⟩ = false := (hb1.frozen (p := ⟨w.heap.size, 2, none⟩) (World.block_lt_of_cell? _ _ (show World.cell? _ ⟨w.heap.size, 2, none⟩ = some (.int .i64 0) from by first | assumption | go_cell | simp [go_sem]))).trans (by first | assumption | simp [go_sem])
  have l1_0 := World.block_lt_of_cell? w1 _ d1_0
  have hS1 := hB1.size
  clear hb1
  go_wp2_with fail
  exact bodyPost_ret (v := V3 (dec (pick x)).1 (dec (pick x)).2.1 (dec (pick x)).2.2) (by simp (maxDischargeDepth := 9) [results, Try.results25, go_sem, d1_0, l1_0, Nat.ne_of_lt l1_0, Nat.ne_of_gt l1_0, d1_1, d1_2]) rfl ⟨rfl, by go_grown⟩

set_option maxRecDepth 100000 in
set_option maxHeartbeats 1600000 in
theorem r5May (x y z : Int) (hx : InI x) (hy : InI y) (hz : InI z) (w : World) : Calls Try.prog 19 #[V3 x y z] w (Ret (.bool (mayB (x, y, z))) w) := by
  go_enter Try.func19, Try.ntmps19
  go_wp2_with fail
  refine wp_loop_rounds 4 ?_
  iterate 4 (all_goals (try rw [rounds_succ]); all_goals (try go_wp2_with fail))
  all_goals
    go_ret
    exact ret_of (vbool (by
      unfold mayB
      rw [Bool.eq_iff_iff]
      simp only [Bool.and_eq_true, decide_eq_true_eq, Bool.false_eq_true, false_iff, bne_iff_ne, ne_eq, eq_self, true_iff]
      omega)) (by go_grown)

set_option maxRecDepth 100000 in
set_option maxHeartbeats 1600000 in
theorem r5Enc_P (x y z l A B : Int) (hm : mayB (x, y, z) = true) (hx : -16384 ≤ x ∧ x ≤ 16384) (hy : -16384 ≤ y ∧ y ≤ 16384) (hz : -16384 ≤ z ∧ z ≤ 16384) (s2 : 0 ≤ z)
    (HL : Hid (oabs x + oabs y + oabs z = l)) (l1 : 1 ≤ l) (HA : Hid (osg x (16384 * oabs x / l) = A)) (HB : Hid (osg y (16384 * oabs y / l) = B)) (a1 : -16384 ≤ A ∧ A ≤ 16384) (b1 : -16384 ≤ B ∧ B ≤ 16384)
    (qa : 0 ≤ 16384 * oabs x / l ∧ 16384 * oabs x / l ≤ 16384) (qb : 0 ≤ 16384 * oabs y / l ∧ 16384 * oabs y / l ≤ 16384) (w : World) :
    Calls Try.prog 17 #[V3 x y z] w (Ret (.tuple #[.int .u32 ((A + 16384) * 65536 + B + 16384), .int .i64 0]) w) := by
  have HM := Lib.hid hm; clear hm
  have x1 := oabs_bd hx
  have y1 := oabs_bd hy
  have z1 := oabs_bd hz
  go_enter Try.func17, Try.ntmps17
  go_wp2_with fail
  have hM := (fun w => r5May x y z (by unfold InI; omega) (by unfold InI; omega) (by unfold InI; omega) w)
  rw [HM.out] at hM
  refine (hM _).mono ?_; rintro e w1 ⟨rfl, hb1⟩
  have hB1 : Below w.heap.size w w1 := Below.next (by go_grown) hb1
  have d1_0 : w1.cell? ⟨w.heap.size, 0, none⟩ = some (.int .i64 x) := cell_call hb1 (by first | assumption | go_cell | simp [go_sem])
  have d1_1 : w1.cell? ⟨w.heap.size, 1, none⟩ = some (.int .i64 y) := cell_call hb1 (by first | assumption | go_cell | simp [go_sem])
  have d1_2 : w1.cell? ⟨w.heap.size, 2, none⟩ = some (.int .i64 z) := cell_call hb1 (by first | assumption | go_cell | simp [go_sem])
  have l1_0 := World.block_lt_of_cell? w1 _ d1_0
  have hS1 := hB1.size
  clear hb1
  go_wp2_with fail
  clear hM
  refine wp_region_fresh_gen 12 (by kernel_rfl) (by kernel_rfl) (fun W2 HW2 => ?_)
  intro F2_0 U2_0
  have hA2 : Below w.heap.size w W2 := by rw [HW2]; go_grown
  have c2_0 : W2.cell? ⟨w.heap.size, 0, none⟩ = some (.int .i64 x) := by rw [HW2]; first | assumption | go_cell | simp [go_sem, *]
  have c2_1 : W2.cell? ⟨w.heap.size, 1, none⟩ = some (.int .i64 y) := by rw [HW2]; first | assumption | go_cell | simp [go_sem, *]
  have c2_2 : W2.cell? ⟨w.heap.size, 2, none⟩ = some (.int .i64 z) := by rw [HW2]; first | assumption | go_cell | simp [go_sem, *]
  clear HW2
  have r2_0 := reg_cell c2_0
  have r2_1 := reg_cell c2_1
  have r2_2 := reg_cell c2_2
  simp only [List.take_succ_cons, List.take_zero, List.drop_succ_cons, List.drop_zero]
  have x2_0 : IntKind.i64.wrap (oabs x + oabs y) = oabs x + oabs y := IntWalk.i64_in _ (by omega)
  have x2_1 : IntKind.i64.wrap (oabs x + oabs y + oabs z) = l := (IntWalk.i64_in _ (by omega)).trans HL.out
  iterate 2 (refine WL_plain (fun K hK => ?_); go_simp; refine hK _ ?_; clear hK K)
  refine WL_call (by kernel_rfl) (fun K hK => ?_)
  go_simp
  apply Exists.intro
  refine ⟨fun w1 hb1 hf1 => ?_, hK _ ?_⟩
  · exact (r5Abs _ (by omega) _).mono fun _ _ h => h.ret
  clear hK K
  iterate 2 (refine WL_plain (fun K hK => ?_); go_simp; refine hK _ ?_; clear hK K)
  refine WL_call (by kernel_rfl) (fun K hK => ?_)
  go_simp
  apply Exists.intro
  refine ⟨fun w1 hb1 hf1 => ?_, hK _ ?_⟩
  · exact (r5Abs _ (by omega) _).mono fun _ _ h => h.ret
  clear hK K
  iterate 3 (refine WL_plain (fun K hK => ?_); go_simp; refine hK _ ?_; clear hK K)
  refine WL_call (by kernel_rfl) (fun K hK => ?_)
  go_simp
  apply Exists.intro
  refine ⟨fun w1 hb1 hf1 => ?_, hK _ ?_⟩
  · exact (r5Abs _ (by omega) _).mono fun _ _ h => h.ret
  clear hK K
  iterate 2 (refine WL_plain (fun K hK => ?_); go_simp; refine hK _ ?_; clear hK K)
  clear x2_0 x2_1
  refine WL_nil (fun w2 hb2 hf2 => ?_)
  have hB2 : Below w.heap.size w w2 := Below.next hA2 hb2
  have d2_0 := cell_call hb2 c2_0
  have d2_1 := cell_call hb2 c2_1
  have d2_2 := cell_call hb2 c2_2
  clear r2_0 c2_0 r2_1 c2_1 r2_2 c2_2
  have l2_0 := World.block_lt_of_cell? w2 _ d2_0
  have hS2 := hB2.size
  go_wp2_with fail
  refine wp_region_fresh_gen 11 (by kernel_rfl) (by kernel_rfl) (fun W3 HW3 => ?_)
  intro F3_0 U3_0
  have hA3 : Below w.heap.size w W3 := by rw [HW3]; go_grown
  have c3_0 : W3.cell? ⟨w.heap.size, 0, none⟩ = some (.int .i64 x) := by rw [HW3]; first | assumption | go_cell | simp [go_sem, *]
  have c3_1 : W3.cell? ⟨w.heap.size, 1, none⟩ = some (.int .i64 y) := by rw [HW3]; first | assumption | go_cell | simp [go_sem, *]
  have c3_2 : W3.cell? ⟨w.heap.size, 2, none⟩ = some (.int .i64 z) := by rw [HW3]; first | assumption | go_cell | simp [go_sem, *]
  clear HW3
  have r3_0 := reg_cell c3_0
  have r3_1 := reg_cell c3_1
  have r3_2 := reg_cell c3_2
  simp only [List.take_succ_cons, List.take_zero, List.drop_succ_cons, List.drop_zero]
  have x3_0 : IntKind.i64.wrap (16384 * oabs x) = 16384 * oabs x := IntWalk.i64_in _ (by omega)
  have x3_1 : (16384 * oabs x).tdiv l = 16384 * oabs x / l := Int.tdiv_eq_ediv_of_nonneg (by omega)
  have x3_2 : IntKind.i64.wrap (16384 * oabs x / l) = 16384 * oabs x / l := IntWalk.i64_in _ (by omega)
  have x3_3 : osg x 1 * (16384 * oabs x / l) = A := (osg_mul _ _).trans HA.out
  have x3_4 : IntKind.i64.wrap A = A := IntWalk.i64_in _ (by omega)
  have x3_5 : (l == 0) = false := beq_eq_false_iff_ne.2 (by omega)
  have x3_6 : l ≠ 0 := by omega
  iterate 2 (refine WL_plain (fun K hK => ?_); go_simp; refine hK _ ?_; clear hK K)
  refine WL_call (by kernel_rfl) (fun K hK => ?_)
  go_simp
  apply Exists.intro
  refine ⟨fun w1 hb1 hf1 => ?_, hK _ ?_⟩
  · exact (r5sign _ _).mono fun _ _ h => h.ret
  clear hK K
  iterate 2 (refine WL_plain (fun K hK => ?_); go_simp; refine hK _ ?_; clear hK K)
  refine WL_call (by kernel_rfl) (fun K hK => ?_)
  go_simp
  apply Exists.intro
  refine ⟨fun w1 hb1 hf1 => ?_, hK _ ?_⟩
  · exact (r5Abs _ (by omega) _).mono fun _ _ h => h.ret
  clear hK K
  iterate 5 (refine WL_plain (fun K hK => ?_); go_simp; refine hK _ ?_; clear hK K)
  clear x3_0 x3_1 x3_2 x3_3 x3_4 x3_5 x3_6
  refine WL_nil (fun w3 hb3 hf3 => ?_)
  have hB3 : Below w.heap.size w w3 := Below.next hA3 hb3
  have d3_0 := cell_call hb3 c3_0
  have d3_1 := cell_call hb3 c3_1
  have d3_2 := cell_call hb3 c3_2
  clear r3_0 c3_0 r3_1 c3_1 r3_2 c3_2
  have l3_0 := World.block_lt_of_cell? w3 _ d3_0
  have hS3 := hB3.size
  go_wp2_with fail
  refine wp_region_fresh_gen 11 (by kernel_rfl) (by kernel_rfl) (fun W4 HW4 => ?_)
  intro F4_0 U4_0
  have hA4 : Below w.heap.size w W4 := by rw [HW4]; go_grown
  have c4_0 : W4.cell? ⟨w.heap.size, 0, none⟩ = some (.int .i64 x) := by rw [HW4]; first | assumption | go_cell | simp [go_sem, *]
  have c4_1 : W4.cell? ⟨w.heap.size, 1, none⟩ = some (.int .i64 y) := by rw [HW4]; first | assumption | go_cell | simp [go_sem, *]
  have c4_2 : W4.cell? ⟨w.heap.size, 2, none⟩ = some (.int .i64 z) := by rw [HW4]; first | assumption | go_cell | simp [go_sem, *]
  clear HW4
  have r4_0 := reg_cell c4_0
  have r4_1 := reg_cell c4_1
  have r4_2 := reg_cell c4_2
  simp only [List.take_succ_cons, List.take_zero, List.drop_succ_cons, List.drop_zero]
  have x4_0 : IntKind.i64.wrap (16384 * oabs y) = 16384 * oabs y := IntWalk.i64_in _ (by omega)
  have x4_1 : (16384 * oabs y).tdiv l = 16384 * oabs y / l := Int.tdiv_eq_ediv_of_nonneg (by omega)
  have x4_2 : IntKind.i64.wrap (16384 * oabs y / l) = 16384 * oabs y / l := IntWalk.i64_in _ (by omega)
  have x4_3 : osg y 1 * (16384 * oabs y / l) = B := (osg_mul _ _).trans HB.out
  have x4_4 : IntKind.i64.wrap B = B := IntWalk.i64_in _ (by omega)
  have x4_5 : (l == 0) = false := beq_eq_false_iff_ne.2 (by omega)
  have x4_6 : l ≠ 0 := by omega
  iterate 2 (refine WL_plain (fun K hK => ?_); go_simp; refine hK _ ?_; clear hK K)
  refine WL_call (by kernel_rfl) (fun K hK => ?_)
  go_simp
  apply Exists.intro
  refine ⟨fun w1 hb1 hf1 => ?_, hK _ ?_⟩
  · exact (r5sign _ _).mono fun _ _ h => h.ret
  clear hK K
  iterate 2 (refine WL_plain (fun K hK => ?_); go_simp; refine hK _ ?_; clear hK K)
  refine WL_call (by kernel_rfl) (fun K hK => ?_)
  go_simp
  apply Exists.intro
  refine ⟨fun w1 hb1 hf1 => ?_, hK _ ?_⟩
  · exact (r5Abs _ (by omega) _).mono fun _ _ h => h.ret
  clear hK K
  iterate 5 (refine WL_plain (fun K hK => ?_); go_simp; refine hK _ ?_; clear hK K)
  clear x4_0 x4_1 x4_2 x4_3 x4_4 x4_5 x4_6
  refine WL_nil (fun w4 hb4 hf4 => ?_)
  have hB4 : Below w.heap.size w w4 := Below.next hA4 hb4
  have d4_0 := cell_call hb4 c4_0
  have d4_1 := cell_call hb4 c4_1
  have d4_2 := cell_call hb4 c4_2
  clear r4_0 c4_0 r4_1 c4_1 r4_2 c4_2
  have l4_0 := World.block_lt_of_cell? w4 _ d4_0
  have hS4 := hB4.size
  go_wp2_with fail
  have k1 := oabs_bd a1
  have k2 := oabs_bd b1
  go_wp2_with (first | (go_at_call 54; refine (r5Abs _ (by omega) _).mono ?_; rintro e w9 ⟨rfl, rfl⟩) | (go_at_call 55; refine (r5sign _ _).mono ?_; rintro e w9 ⟨rfl, rfl⟩))
  go_ret2
  exact ret_of rfl hB4

set_option maxRecDepth 100000 in
set_option maxHeartbeats 1600000 in
theorem r5Enc_N (x y z l A B : Int) (hm : mayB (x, y, z) = true) (hx : -16384 ≤ x ∧ x ≤ 16384) (hy : -16384 ≤ y ∧ y ≤ 16384) (hz : -16384 ≤ z ∧ z ≤ 16384) (s2 : z < 0)
    (HL : Hid (oabs x + oabs y + oabs z = l)) (l1 : 1 ≤ l) (HA : Hid (osg x (16384 * oabs x / l) = A)) (HB : Hid (osg y (16384 * oabs y / l) = B)) (a1 : -16384 ≤ A ∧ A ≤ 16384) (b1 : -16384 ≤ B ∧ B ≤ 16384)
    (qa : 0 ≤ 16384 * oabs x / l ∧ 16384 * oabs x / l ≤ 16384) (qb : 0 ≤ 16384 * oabs y / l ∧ 16384 * oabs y / l ≤ 16384) (w : World) :
    Calls Try.prog 17 #[V3 x y z] w (Ret (.tuple #[.int .u32 ((osg x (16384 - oabs B) + 16384) * 65536 + osg y (16384 - oabs A) + 16384), .int .i64 0]) w) := by
  have HM := Lib.hid hm; clear hm
  have x1 := oabs_bd hx
  have y1 := oabs_bd hy
  have z1 := oabs_bd hz
  go_enter Try.func17, Try.ntmps17
  go_wp2_with fail
  have hM := (fun w => r5May x y z (by unfold InI; omega) (by unfold InI; omega) (by unfold InI; omega) w)
  rw [HM.out] at hM
  refine (hM _).mono ?_; rintro e w1 ⟨rfl, hb1⟩
  have hB1 : Below w.heap.size w w1 := Below.next (by go_grown) hb1
  have d1_0 : w1.cell? ⟨w.heap.size, 0, none⟩ = some (.int .i64 x) := cell_call hb1 (by first | assumption | go_cell | simp [go_sem])
  have d1_1 : w1.cell? ⟨w.heap.size, 1, none⟩ = some (.int .i64 y) := cell_call hb1 (by first | assumption | go_cell | simp [go_sem])
  have d1_2 : w1.cell? ⟨w.heap.size, 2, none⟩ = some (.int .i64 z) := cell_call hb1 (by first | assumption | go_cell | simp [go_sem])
  have l1_0 := World.block_lt_of_cell? w1 _ d1_0
  have hS1 := hB1.size
  clear hb1
  go_wp2_with fail
  clear hM
  refine wp_region_fresh_gen 12 (by kernel_rfl) (by kernel_rfl) (fun W2 HW2 => ?_)
  intro F2_0 U2_0
  have hA2 : Below w.heap.size w W2 := by rw [HW2]; go_grown
  have c2_0 : W2.cell? ⟨w.heap.size, 0, none⟩ = some (.int .i64 x) := by rw [HW2]; first | assumption | go_cell | simp [go_sem, *]
  have c2_1 : W2.cell? ⟨w.heap.size, 1, none⟩ = some (.int .i64 y) := by rw [HW2]; first | assumption | go_cell | simp [go_sem, *]
  have c2_2 : W2.cell? ⟨w.heap.size, 2, none⟩ = some (.int .i64 z) := by rw [HW2]; first | assumption | go_cell | simp [go_sem, *]
  clear HW2
  have r2_0 := reg_cell c2_0
  have r2_1 := reg_cell c2_1
  have r2_2 := reg_cell c2_2
  simp only [List.take_succ_cons, List.take_zero, List.drop_succ_cons, List.drop_zero]
  have x2_0 : IntKind.i64.wrap (oabs x + oabs y) = oabs x + oabs y := IntWalk.i64_in _ (by omega)
  have x2_1 : IntKind.i64.wrap (oabs x + oabs y + oabs z) = l := (IntWalk.i64_in _ (by omega)).trans HL.out
  iterate 2 (refine WL_plain (fun K hK => ?_); go_simp; refine hK _ ?_; clear hK K)
  refine WL_call (by kernel_rfl) (fun K hK => ?_)
  go_simp
  apply Exists.intro
  refine ⟨fun w1 hb1 hf1 => ?_, hK _ ?_⟩
  · exact (r5Abs _ (by omega) _).mono fun _ _ h => h.ret
  clear hK K
  iterate 2 (refine WL_plain (fun K hK => ?_); go_simp; refine hK _ ?_; clear hK K)
  refine WL_call (by kernel_rfl) (fun K hK => ?_)
  go_simp
  apply Exists.intro
  refine ⟨fun w1 hb1 hf1 => ?_, hK _ ?_⟩
  · exact (r5Abs _ (by omega) _).mono fun _ _ h => h.ret
  clear hK K
  iterate 3 (refine WL_plain (fun K hK => ?_); go_simp; refine hK _ ?_; clear hK K)
  refine WL_call (by kernel_rfl) (fun K hK => ?_)
  go_simp
  apply Exists.intro
  refine ⟨fun w1 hb1 hf1 => ?_, hK _ ?_⟩
  · exact (r5Abs _ (by omega) _).mono fun _ _ h => h.ret
  clear hK K
  iterate 2 (refine WL_plain (fun K hK => ?_); go_simp; refine hK _ ?_; clear hK K)
  clear x2_0 x2_1
  refine WL_nil (fun w2 hb2 hf2 => ?_)
  have hB2 : Below w.heap.size w w2 := Below.next hA2 hb2
  have d2_0 := cell_call hb2 c2_0
  have d2_1 := cell_call hb2 c2_1
  have d2_2 := cell_call hb2 c2_2
  clear r2_0 c2_0 r2_1 c2_1 r2_2 c2_2
  have l2_0 := World.block_lt_of_cell? w2 _ d2_0
  have hS2 := hB2.size
  go_wp2_with fail
  refine wp_region_fresh_gen 11 (by kernel_rfl) (by kernel_rfl) (fun W3 HW3 => ?_)
  intro F3_0 U3_0
  have hA3 : Below w.heap.size w W3 := by rw [HW3]; go_grown
  have c3_0 : W3.cell? ⟨w.heap.size, 0, none⟩ = some (.int .i64 x) := by rw [HW3]; first | assumption | go_cell | simp [go_sem, *]
  have c3_1 : W3.cell? ⟨w.heap.size, 1, none⟩ = some (.int .i64 y) := by rw [HW3]; first | assumption | go_cell | simp [go_sem, *]
  have c3_2 : W3.cell? ⟨w.heap.size, 2, none⟩ = some (.int .i64 z) := by rw [HW3]; first | assumption | go_cell | simp [go_sem, *]
  clear HW3
  have r3_0 := reg_cell c3_0
  have r3_1 := reg_cell c3_1
  have r3_2 := reg_cell c3_2
  simp only [List.take_succ_cons, List.take_zero, List.drop_succ_cons, List.drop_zero]
  have x3_0 : IntKind.i64.wrap (16384 * oabs x) = 16384 * oabs x := IntWalk.i64_in _ (by omega)
  have x3_1 : (16384 * oabs x).tdiv l = 16384 * oabs x / l := Int.tdiv_eq_ediv_of_nonneg (by omega)
  have x3_2 : IntKind.i64.wrap (16384 * oabs x / l) = 16384 * oabs x / l := IntWalk.i64_in _ (by omega)
  have x3_3 : osg x 1 * (16384 * oabs x / l) = A := (osg_mul _ _).trans HA.out
  have x3_4 : IntKind.i64.wrap A = A := IntWalk.i64_in _ (by omega)
  have x3_5 : (l == 0) = false := beq_eq_false_iff_ne.2 (by omega)
  have x3_6 : l ≠ 0 := by omega
  iterate 2 (refine WL_plain (fun K hK => ?_); go_simp; refine hK _ ?_; clear hK K)
  refine WL_call (by kernel_rfl) (fun K hK => ?_)
  go_simp
  apply Exists.intro
  refine ⟨fun w1 hb1 hf1 => ?_, hK _ ?_⟩
  · exact (r5sign _ _).mono fun _ _ h => h.ret
  clear hK K
  iterate 2 (refine WL_plain (fun K hK => ?_); go_simp; refine hK _ ?_; clear hK K)
  refine WL_call (by kernel_rfl) (fun K hK => ?_)
  go_simp
  apply Exists.intro
  refine ⟨fun w1 hb1 hf1 => ?_, hK _ ?_⟩
  · exact (r5Abs _ (by omega) _).mono fun _ _ h => h.ret
  clear hK K
  iterate 5 (refine WL_plain (fun K hK => ?_); go_simp; refine hK _ ?_; clear hK K)
  clear x3_0 x3_1 x3_2 x3_3 x3_4 x3_5 x3_6
  refine WL_nil (fun w3 hb3 hf3 => ?_)
  have hB3 : Below w.heap.size w w3 := Below.next hA3 hb3
  have d3_0 := cell_call hb3 c3_0
  have d3_1 := cell_call hb3 c3_1
  have d3_2 := cell_call hb3 c3_2
  clear r3_0 c3_0 r3_1 c3_1 r3_2 c3_2
  have l3_0 := World.block_lt_of_cell? w3 _ d3_0
  have hS3 := hB3.size
  go_wp2_with fail
  refine wp_region_fresh_gen 11 (by kernel_rfl) (by kernel_rfl) (fun W4 HW4 => ?_)
  intro F4_0 U4_0
  have hA4 : Below w.heap.size w W4 := by rw [HW4]; go_grown
  have c4_0 : W4.cell? ⟨w.heap.size, 0, none⟩ = some (.int .i64 x) := by rw [HW4]; first | assumption | go_cell | simp [go_sem, *]
  have c4_1 : W4.cell? ⟨w.heap.size, 1, none⟩ = some (.int .i64 y) := by rw [HW4]; first | assumption | go_cell | simp [go_sem, *]
  have c4_2 : W4.cell? ⟨w.heap.size, 2, none⟩ = some (.int .i64 z) := by rw [HW4]; first | assumption | go_cell | simp [go_sem, *]
  clear HW4
  have r4_0 := reg_cell c4_0
  have r4_1 := reg_cell c4_1
  have r4_2 := reg_cell c4_2
  simp only [List.take_succ_cons, List.take_zero, List.drop_succ_cons, List.drop_zero]
  have x4_0 : IntKind.i64.wrap (16384 * oabs y) = 16384 * oabs y := IntWalk.i64_in _ (by omega)
  have x4_1 : (16384 * oabs y).tdiv l = 16384 * oabs y / l := Int.tdiv_eq_ediv_of_nonneg (by omega)
  have x4_2 : IntKind.i64.wrap (16384 * oabs y / l) = 16384 * oabs y / l := IntWalk.i64_in _ (by omega)
  have x4_3 : osg y 1 * (16384 * oabs y / l) = B := (osg_mul _ _).trans HB.out
  have x4_4 : IntKind.i64.wrap B = B := IntWalk.i64_in _ (by omega)
  have x4_5 : (l == 0) = false := beq_eq_false_iff_ne.2 (by omega)
  have x4_6 : l ≠ 0 := by omega
  iterate 2 (refine WL_plain (fun K hK => ?_); go_simp; refine hK _ ?_; clear hK K)
  refine WL_call (by kernel_rfl) (fun K hK => ?_)
  go_simp
  apply Exists.intro
  refine ⟨fun w1 hb1 hf1 => ?_, hK _ ?_⟩
  · exact (r5sign _ _).mono fun _ _ h => h.ret
  clear hK K
  iterate 2 (refine WL_plain (fun K hK => ?_); go_simp; refine hK _ ?_; clear hK K)
  refine WL_call (by kernel_rfl) (fun K hK => ?_)
  go_simp
  apply Exists.intro
  refine ⟨fun w1 hb1 hf1 => ?_, hK _ ?_⟩
  · exact (r5Abs _ (by omega) _).mono fun _ _ h => h.ret
  clear hK K
  iterate 5 (refine WL_plain (fun K hK => ?_); go_simp; refine hK _ ?_; clear hK K)
  clear x4_0 x4_1 x4_2 x4_3 x4_4 x4_5 x4_6
  refine WL_nil (fun w4 hb4 hf4 => ?_)
  have hB4 : Below w.heap.size w w4 := Below.next hA4 hb4
  have d4_0 := cell_call hb4 c4_0
  have d4_1 := cell_call hb4 c4_1
  have d4_2 := cell_call hb4 c4_2
  clear r4_0 c4_0 r4_1 c4_1 r4_2 c4_2
  have l4_0 := World.block_lt_of_cell? w4 _ d4_0
  have hS4 := hB4.size
  go_wp2_with fail
  have k1 := oabs_bd a1
  have k2 := oabs_bd b1
  have h3 := osg_bd (b := x) (n := 16384 - oabs B) (m := 16384) (by omega)
  have h4 := osg_bd (b := y) (n := 16384 - oabs A) (m := 16384) (by omega)
  have e3 := osg_mul x (16384 - oabs B)
  have e4 := osg_mul y (16384 - oabs A)
  go_wp2_with (first | (go_at_call 54; refine (r5Abs _ (by omega) _).mono ?_; rintro e w9 ⟨rfl, rfl⟩) | (go_at_call 55; refine (r5sign _ _).mono ?_; rintro e w9 ⟨rfl, rfl⟩))
  go_ret2
  exact ret_of rfl hB4

end Go.Proofs.Ytbfgmedjogjkeaa
