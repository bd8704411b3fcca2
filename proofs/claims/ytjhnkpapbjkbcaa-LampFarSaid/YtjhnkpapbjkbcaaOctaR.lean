/- Walks: umbraref05: sign, Decode, Pick, May. -/
import Derived.Test.YtjhnkpapbjkbcaaOctaA
namespace Go.Proofs.Ytjhnkpapbjkbcaa
open Go.RowKit Go.Sort
set_option linter.unusedVariables false
set_option linter.unusedSimpArgs false

theorem r5sign (n : Int) (w : World) : Calls Try.prog 122 #[.int .i64 n] w (Same (.int .i64 (osg n 1)) w) := by
  by_cases h : n < 0
  · have HK : Hid (-1 = osg n 1) := Lib.hid (by unfold osg; rw [if_pos h])
    go_enter Try.func122, Try.ntmps122
    go_wp2
    go_ret
    exact same_of (vint HK.out)
  · have HK : Hid (1 = osg n 1) := Lib.hid (by unfold osg; rw [if_neg h])
    go_enter Try.func122, Try.ntmps122
    go_wp2
    go_ret
    exact same_of (vint HK.out)
theorem osg_mul (b n : Int) : osg b 1 * n = osg b n := by unfold osg; split <;> omega
theorem osg_bd {b n m : Int} (h : -m ≤ n ∧ n ≤ m) : -m ≤ osg b n ∧ osg b n ≤ m := by unfold osg; split <;> omega

set_option maxRecDepth 100000 in
set_option maxHeartbeats 1600000 in
theorem r5Dec_LLP (c : Int) (hc : 0 ≤ c ∧ c ≤ 4294967295) (u : c / 65536 ≤ 32768) (v : c % 65536 ≤ 32768) (z : 0 ≤ 16384 - oabs (c / 65536 - 16384) - oabs (c % 65536 - 16384)) (w : World) : Calls Try.prog 108 #[.int .u32 c] w (Ret (V3 (c / 65536 - 16384) (c % 65536 - 16384) (16384 - oabs (c / 65536 - 16384) - oabs (c % 65536 - 16384))) w) := by
  have ha : -16384 ≤ (c / 65536 - 16384 : Int) ∧ (c / 65536 - 16384 : Int) ≤ 16384 := by omega
  have hb : -16384 ≤ (c % 65536 - 16384 : Int) ∧ (c % 65536 - 16384 : Int) ≤ 16384 := by omega
  have h1 := oabs_bd (n := c / 65536 - 16384) (b := 16384) ha
  have h2 := oabs_bd (n := c % 65536 - 16384) (b := 16384) hb
  go_enter Try.func108, Try.ntmps108
  go_wp2_with (first
    | (go_at_call 121; refine (r5Abs _ (by omega) _).mono ?_; rintro e w9 ⟨rfl, rfl⟩)
    | (go_at_call 122; refine (r5sign _ _).mono ?_; rintro e w9 ⟨rfl, rfl⟩))
  exact bodyPost_ret (v := V3 (c / 65536 - 16384) (c % 65536 - 16384) (16384 - oabs (c / 65536 - 16384) - oabs (c % 65536 - 16384))) (by simp (maxDischargeDepth := 9) [results, Try.results108, go_sem]) rfl ⟨rfl, by go_grown⟩

set_option maxRecDepth 100000 in
set_option maxHeartbeats 1600000 in
theorem r5Dec_LLN (c : Int) (hc : 0 ≤ c ∧ c ≤ 4294967295) (u : c / 65536 ≤ 32768) (v : c % 65536 ≤ 32768) (z : 16384 - oabs (c / 65536 - 16384) - oabs (c % 65536 - 16384) < 0) (w : World) : Calls Try.prog 108 #[.int .u32 c] w (Ret (V3 (osg (c / 65536 - 16384) (16384 - oabs (c % 65536 - 16384))) (osg (c % 65536 - 16384) (16384 - oabs (c / 65536 - 16384))) (16384 - oabs (c / 65536 - 16384) - oabs (c % 65536 - 16384))) w) := by
  have ha : -16384 ≤ (c / 65536 - 16384 : Int) ∧ (c / 65536 - 16384 : Int) ≤ 16384 := by omega
  have hb : -16384 ≤ (c % 65536 - 16384 : Int) ∧ (c % 65536 - 16384 : Int) ≤ 16384 := by omega
  have h1 := oabs_bd (n := c / 65536 - 16384) (b := 16384) ha
  have h2 := oabs_bd (n := c % 65536 - 16384) (b := 16384) hb
  have h3 := osg_bd (b := c / 65536 - 16384) (n := 16384 - oabs (c % 65536 - 16384)) (m := 16384) (by omega)
  have h4 := osg_bd (b := c % 65536 - 16384) (n := 16384 - oabs (c / 65536 - 16384)) (m := 16384) (by omega)
  have e3 := osg_mul (c / 65536 - 16384) (16384 - oabs (c % 65536 - 16384))
  have e4 := osg_mul (c % 65536 - 16384) (16384 - oabs (c / 65536 - 16384))
  go_enter Try.func108, Try.ntmps108
  go_wp2_with (first
    | (go_at_call 121; refine (r5Abs _ (by omega) _).mono ?_; rintro e w9 ⟨rfl, rfl⟩)
    | (go_at_call 122; refine (r5sign _ _).mono ?_; rintro e w9 ⟨rfl, rfl⟩))
  exact bodyPost_ret (v := V3 (osg (c / 65536 - 16384) (16384 - oabs (c % 65536 - 16384))) (osg (c % 65536 - 16384) (16384 - oabs (c / 65536 - 16384))) (16384 - oabs (c / 65536 - 16384) - oabs (c % 65536 - 16384))) (by simp (maxDischargeDepth := 9) [results, Try.results108, go_sem]) rfl ⟨rfl, by go_grown⟩

set_option maxRecDepth 100000 in
set_option maxHeartbeats 1600000 in
theorem r5Dec_LGP (c : Int) (hc : 0 ≤ c ∧ c ≤ 4294967295) (u : c / 65536 ≤ 32768) (v : 32768 < c % 65536) (z : 0 ≤ 16384 - oabs (c / 65536 - 16384) - oabs (16384)) (w : World) : Calls Try.prog 108 #[.int .u32 c] w (Ret (V3 (c / 65536 - 16384) (16384) (16384 - oabs (c / 65536 - 16384) - oabs (16384))) w) := by
  have ha : -16384 ≤ (c / 65536 - 16384 : Int) ∧ (c / 65536 - 16384 : Int) ≤ 16384 := by omega
  have hb : -16384 ≤ (16384 : Int) ∧ (16384 : Int) ≤ 16384 := by omega
  have h1 := oabs_bd (n := c / 65536 - 16384) (b := 16384) ha
  have h2 := oabs_bd (n := 16384) (b := 16384) hb
  go_enter Try.func108, Try.ntmps108
  go_wp2_with (first
    | (go_at_call 121; refine (r5Abs _ (by omega) _).mono ?_; rintro e w9 ⟨rfl, rfl⟩)
    | (go_at_call 122; refine (r5sign _ _).mono ?_; rintro e w9 ⟨rfl, rfl⟩))
  exact bodyPost_ret (v := V3 (c / 65536 - 16384) (16384) (16384 - oabs (c / 65536 - 16384) - oabs (16384))) (by simp (maxDischargeDepth := 9) [results, Try.results108, go_sem]) rfl ⟨rfl, by go_grown⟩

set_option maxRecDepth 100000 in
set_option maxHeartbeats 1600000 in
theorem r5Dec_LGN (c : Int) (hc : 0 ≤ c ∧ c ≤ 4294967295) (u : c / 65536 ≤ 32768) (v : 32768 < c % 65536) (z : 16384 - oabs (c / 65536 - 16384) - oabs (16384) < 0) (w : World) : Calls Try.prog 108 #[.int .u32 c] w (Ret (V3 (osg (c / 65536 - 16384) (16384 - oabs (16384))) (osg (16384) (16384 - oabs (c / 65536 - 16384))) (16384 - oabs (c / 65536 - 16384) - oabs (16384))) w) := by
  have ha : -16384 ≤ (c / 65536 - 16384 : Int) ∧ (c / 65536 - 16384 : Int) ≤ 16384 := by omega
  have hb : -16384 ≤ (16384 : Int) ∧ (16384 : Int) ≤ 16384 := by omega
  have h1 := oabs_bd (n := c / 65536 - 16384) (b := 16384) ha
  have h2 := oabs_bd (n := 16384) (b := 16384) hb
  have h3 := osg_bd (b := c / 65536 - 16384) (n := 16384 - oabs (16384)) (m := 16384) (by omega)
  have h4 := osg_bd (b := 16384) (n := 16384 - oabs (c / 65536 - 16384)) (m := 16384) (by omega)
  have e3 := osg_mul (c / 65536 - 16384) (16384 - oabs (16384))
  have e4 := osg_mul (16384) (16384 - oabs (c / 65536 - 16384))
  go_enter Try.func108, Try.ntmps108
  go_wp2_with (first
    | (go_at_call 121; refine (r5Abs _ (by omega) _).mono ?_; rintro e w9 ⟨rfl, rfl⟩)
    | (go_at_call 122; refine (r5sign _ _).mono ?_; rintro e w9 ⟨rfl, rfl⟩))
  exact bodyPost_ret (v := V3 (osg (c / 65536 - 16384) (16384 - oabs (16384))) (osg (16384) (16384 - oabs (c / 65536 - 16384))) (16384 - oabs (c / 65536 - 16384) - oabs (16384))) (by simp (maxDischargeDepth := 9) [results, Try.results108, go_sem]) rfl ⟨rfl, by go_grown⟩

set_option maxRecDepth 100000 in
set_option maxHeartbeats 1600000 in
theorem r5Dec_GLP (c : Int) (hc : 0 ≤ c ∧ c ≤ 4294967295) (u : 32768 < c / 65536) (v : c % 65536 ≤ 32768) (z : 0 ≤ 16384 - oabs (16384) - oabs (c % 65536 - 16384)) (w : World) : Calls Try.prog 108 #[.int .u32 c] w (Ret (V3 (16384) (c % 65536 - 16384) (16384 - oabs (16384) - oabs (c % 65536 - 16384))) w) := by
  have ha : -16384 ≤ (16384 : Int) ∧ (16384 : Int) ≤ 16384 := by omega
  have hb : -16384 ≤ (c % 65536 - 16384 : Int) ∧ (c % 65536 - 16384 : Int) ≤ 16384 := by omega
  have h1 := oabs_bd (n := 16384) (b := 16384) ha
  have h2 := oabs_bd (n := c % 65536 - 16384) (b := 16384) hb
  go_enter Try.func108, Try.ntmps108
  go_wp2_with (first
    | (go_at_call 121; refine (r5Abs _ (by omega) _).mono ?_; rintro e w9 ⟨rfl, rfl⟩)
    | (go_at_call 122; refine (r5sign _ _).mono ?_; rintro e w9 ⟨rfl, rfl⟩))
  exact bodyPost_ret (v := V3 (16384) (c % 65536 - 16384) (16384 - oabs (16384) - oabs (c % 65536 - 16384))) (by simp (maxDischargeDepth := 9) [results, Try.results108, go_sem]) rfl ⟨rfl, by go_grown⟩

set_option maxRecDepth 100000 in
set_option maxHeartbeats 1600000 in
theorem r5Dec_GLN (c : Int) (hc : 0 ≤ c ∧ c ≤ 4294967295) (u : 32768 < c / 65536) (v : c % 65536 ≤ 32768) (z : 16384 - oabs (16384) - oabs (c % 65536 - 16384) < 0) (w : World) : Calls Try.prog 108 #[.int .u32 c] w (Ret (V3 (osg (16384) (16384 - oabs (c % 65536 - 16384))) (osg (c % 65536 - 16384) (16384 - oabs (16384))) (16384 - oabs (16384) - oabs (c % 65536 - 16384))) w) := by
  have ha : -16384 ≤ (16384 : Int) ∧ (16384 : Int) ≤ 16384 := by omega
  have hb : -16384 ≤ (c % 65536 - 16384 : Int) ∧ (c % 65536 - 16384 : Int) ≤ 16384 := by omega
  have h1 := oabs_bd (n := 16384) (b := 16384) ha
  have h2 := oabs_bd (n := c % 65536 - 16384) (b := 16384) hb
  have h3 := osg_bd (b := 16384) (n := 16384 - oabs (c % 65536 - 16384)) (m := 16384) (by omega)
  have h4 := osg_bd (b := c % 65536 - 16384) (n := 16384 - oabs (16384)) (m := 16384) (by omega)
  have e3 := osg_mul (16384) (16384 - oabs (c % 65536 - 16384))
  have e4 := osg_mul (c % 65536 - 16384) (16384 - oabs (16384))
  go_enter Try.func108, Try.ntmps108
  go_wp2_with (first
    | (go_at_call 121; refine (r5Abs _ (by omega) _).mono ?_; rintro e w9 ⟨rfl, rfl⟩)
    | (go_at_call 122; refine (r5sign _ _).mono ?_; rintro e w9 ⟨rfl, rfl⟩))
  exact bodyPost_ret (v := V3 (osg (16384) (16384 - oabs (c % 65536 - 16384))) (osg (c % 65536 - 16384) (16384 - oabs (16384))) (16384 - oabs (16384) - oabs (c % 65536 - 16384))) (by simp (maxDischargeDepth := 9) [results, Try.results108, go_sem]) rfl ⟨rfl, by go_grown⟩

set_option maxRecDepth 100000 in
set_option maxHeartbeats 1600000 in
theorem r5Dec_GGP (c : Int) (hc : 0 ≤ c ∧ c ≤ 4294967295) (u : 32768 < c / 65536) (v : 32768 < c % 65536) (z : 0 ≤ 16384 - oabs (16384) - oabs (16384)) (w : World) : Calls Try.prog 108 #[.int .u32 c] w (Ret (V3 (16384) (16384) (16384 - oabs (16384) - oabs (16384))) w) := by
  exfalso
  unfold oabs at z
  simp at z

set_option maxRecDepth 100000 in
set_option maxHeartbeats 1600000 in
theorem r5Dec_GGN (c : Int) (hc : 0 ≤ c ∧ c ≤ 4294967295) (u : 32768 < c / 65536) (v : 32768 < c % 65536) (z : 16384 - oabs (16384) - oabs (16384) < 0) (w : World) : Calls Try.prog 108 #[.int .u32 c] w (Ret (V3 (osg (16384) (16384 - oabs (16384))) (osg (16384) (16384 - oabs (16384))) (16384 - oabs (16384) - oabs (16384))) w) := by
  have ha : -16384 ≤ (16384 : Int) ∧ (16384 : Int) ≤ 16384 := by omega
  have hb : -16384 ≤ (16384 : Int) ∧ (16384 : Int) ≤ 16384 := by omega
  have h1 := oabs_bd (n := 16384) (b := 16384) ha
  have h2 := oabs_bd (n := 16384) (b := 16384) hb
  have h3 := osg_bd (b := 16384) (n := 16384 - oabs (16384)) (m := 16384) (by omega)
  have h4 := osg_bd (b := 16384) (n := 16384 - oabs (16384)) (m := 16384) (by omega)
  have e3 := osg_mul (16384) (16384 - oabs (16384))
  have e4 := osg_mul (16384) (16384 - oabs (16384))
  go_enter Try.func108, Try.ntmps108
  go_wp2_with (first
    | (go_at_call 121; refine (r5Abs _ (by omega) _).mono ?_; rintro e w9 ⟨rfl, rfl⟩)
    | (go_at_call 122; refine (r5sign _ _).mono ?_; rintro e w9 ⟨rfl, rfl⟩))
  exact bodyPost_ret (v := V3 (osg (16384) (16384 - oabs (16384))) (osg (16384) (16384 - oabs (16384))) (16384 - oabs (16384) - oabs (16384))) (by simp (maxDischargeDepth := 9) [results, Try.results108, go_sem]) rfl ⟨rfl, by go_grown⟩

theorem r5Dec (c : Int) (hc : 0 ≤ c ∧ c ≤ 4294967295) (w : World) : Calls Try.prog 108 #[.int .u32 c] w (Ret (V3 (dec c).1 (dec c).2.1 (dec c).2.2) w) := by
  unfold dec decA decB
  by_cases u : c / 65536 ≤ 32768 <;> by_cases v : c % 65536 ≤ 32768
  · rw [show min (c / 65536) 32768 = c / 65536 by omega, show min (c % 65536) 32768 = c % 65536 by omega]
    (try rw [show (32768 : Int) - 16384 = 16384 from rfl])
    unfold decP
    split
    · exact r5Dec_LLN c hc (by omega) (by omega) (by assumption) w
    · exact r5Dec_LLP c hc (by omega) (by omega) (by first | assumption | omega) w
  · rw [show min (c / 65536) 32768 = c / 65536 by omega, show min (c % 65536) 32768 = 32768 by omega]
    (try rw [show (32768 : Int) - 16384 = 16384 from rfl])
    unfold decP
    split
    · exact r5Dec_LGN c hc (by omega) (by omega) (by assumption) w
    · exact r5Dec_LGP c hc (by omega) (by omega) (by first | assumption | omega) w
  · rw [show min (c / 65536) 32768 = 32768 by omega, show min (c % 65536) 32768 = c % 65536 by omega]
    (try rw [show (32768 : Int) - 16384 = 16384 from rfl])
    unfold decP
    split
    · exact r5Dec_GLN c hc (by omega) (by omega) (by assumption) w
    · exact r5Dec_GLP c hc (by omega) (by omega) (by first | assumption | omega) w
  · rw [show min (c / 65536) 32768 = 32768 by omega, show min (c % 65536) 32768 = 32768 by omega]
    (try rw [show (32768 : Int) - 16384 = 16384 from rfl])
    unfold decP
    split
    · exact r5Dec_GGN c hc (by omega) (by omega) (by assumption) w
    · exact r5Dec_GGP c hc (by omega) (by omega) (by first | assumption | omega) w

set_option maxRecDepth 100000 in
set_option maxHeartbeats 1600000 in
theorem r5Pick (x : Int) (hx : 0 ≤ x ∧ x ≤ 4294967295) (w : World) : Calls Try.prog 72 #[.int .u32 x] w (Ret (V3 (pdir x).1 (pdir x).2.1 (pdir x).2.2) w) := by
  have f1 : 0 ≤ x / 65536 ∧ x / 65536 ≤ 65535 := by omega
  have f2 : 0 ≤ x % 65536 ∧ x % 65536 ≤ 65535 := by omega
  have f3 : 0 ≤ x / 65536 * 32769 / 65536 ∧ x / 65536 * 32769 / 65536 ≤ 32768 := by omega
  have f4 : 0 ≤ x % 65536 * 32769 / 65536 ∧ x % 65536 * 32769 / 65536 ≤ 32768 := by omega
  have HP : Hid (x / 65536 * 32769 / 65536 * 65536 + x % 65536 * 32769 / 65536 = pick x) := Lib.hid rfl
  have hp : 0 ≤ pick x ∧ pick x ≤ 4294967295 := by unfold pick; omega
  have HD : Hid (pdir x = dec (pick x)) := Lib.hid rfl
  rw [HD.out]
  go_enter Try.func72, Try.ntmps72
  go_wp2_with fail
  rw [HP.out]
  refine (r5Dec _ hp _).mono ?_; rintro e w1 ⟨rfl, hb1⟩
  have hB1 : Below w.heap.size w w1 := Below.next (by go_grown) hb1
  have d1_0 : w1.cell? ⟨w.heap.size, 0, none⟩ = some (.int .i64 0) := cell_call hb1 (by first | assumption | go_cell | simp [go_sem])
  have t1_0 : w1.frozen? ⟨w.heap.size, 0, none⟩ = false := (hb1.frozen (p := ⟨w.heap.size, 0, none⟩) (World.block_lt_of_cell? _ _ (show World.cell? _ ⟨w.heap.size, 0, none⟩ = some (.int .i64 0) from by first | assumption | go_cell | simp [go_sem]))).trans (by first | assumption | simp [go_sem])
  have d1_1 : w1.cell? ⟨w.heap.size, 1, none⟩ = some (.int .i64 0) := cell_call hb1 (by first | assumption | go_cell | simp [go_sem])
  have t1_1 : w1.frozen? ⟨w.heap.size, 1, none⟩ = false := (hb1.frozen (p := ⟨w.heap.size, 1, none⟩) (World.block_lt_of_cell? _ _ (show World.cell? _ ⟨w.heap.size, 1, none⟩ = some (.int .i64 0) from by first | assumption | go_cell | simp [go_sem]))).trans (by first | assumption | simp [go_sem])
  have d1_2 : w1.cell? ⟨w.heap.size, 2, none⟩ = some (.int .i64 0) := cell_call hb1 (by first | assumption | go_cell | simp [go_sem])
  have t1_2 : w1.frozen? ⟨w.heap.size, 2, none⟩ = false := (hb1.frozen (p := ⟨w.heap.size, 2, none⟩) (World.block_lt_of_cell? _ _ (show World.cell? _ ⟨w.heap.size, 2, none⟩ = some (.int .i64 0) from by first | assumption | go_cell | simp [go_sem]))).trans (by first | assumption | simp [go_sem])
  have l1_0 := World.block_lt_of_cell? w1 _ d1_0
  have hS1 := hB1.size
  clear hb1
  go_wp2_with fail
  exact bodyPost_ret (v := V3 (dec (pick x)).1 (dec (pick x)).2.1 (dec (pick x)).2.2) (by simp (maxDischargeDepth := 9) [results, Try.results72, go_sem, d1_0, l1_0, Nat.ne_of_lt l1_0, Nat.ne_of_gt l1_0, d1_1, d1_2]) rfl ⟨rfl, by go_grown⟩

end Go.Proofs.Ytjhnkpapbjkbcaa
