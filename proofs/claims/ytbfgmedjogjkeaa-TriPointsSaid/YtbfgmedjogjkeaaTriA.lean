/- Walks: tri and umbraref20: Sub, Cross, Dot, within, far, May. -/
import Derived.Test.YtbfgmedjogjkeaaTriM
import Derived.Test.YtbfgmedjogjkeaaVecD
import Derived.Test.YtbfgmedjogjkeaaFresh
import Derived.Test.YtbfgmedjogjkeaaOctaC
namespace Go.Proofs.Ytbfgmedjogjkeaa
open Go.RowKit Go.Sort
set_option linter.unusedVariables false
set_option linter.unusedSimpArgs false

set_option maxRecDepth 100000 in
set_option maxHeartbeats 1600000 in
theorem tSub (a b : T3) (w : World) : Calls Try.prog 41 #[V3 a.1 a.2.1 a.2.2, V3 b.1 b.2.1 b.2.2] w (Ret (V3 (tsub a b).1 (tsub a b).2.1 (tsub a b).2.2) w) := by
  go_enter Try.func41, Try.ntmps41
  go_wp2
  exact bodyPost_ret (v := V3 (tsub a b).1 (tsub a b).2.1 (tsub a b).2.2) (by simp (maxDischargeDepth := 9) [results, Try.results41, go_sem]; exact ⟨rfl, rfl, rfl⟩) rfl ⟨rfl, by go_grown⟩

set_option maxRecDepth 100000 in
set_option maxHeartbeats 1600000 in
theorem tCross (a b : T3) (w : World) : Calls Try.prog 40 #[V3 a.1 a.2.1 a.2.2, V3 b.1 b.2.1 b.2.2] w (Ret (V3 (tcross a b).1 (tcross a b).2.1 (tcross a b).2.2) w) := by
  have H0 := Lib.hid (wsub_eq a.2.1 b.2.2 a.2.2 b.2.1)
  have H1 := Lib.hid (wsub_eq a.2.2 b.1 a.1 b.2.2)
  have H2 := Lib.hid (wsub_eq a.1 b.2.1 a.2.1 b.1)
  go_enter Try.func40, Try.ntmps40
  go_wp2
  exact bodyPost_ret (v := V3 (tcross a b).1 (tcross a b).2.1 (tcross a b).2.2) (by simp (maxDischargeDepth := 9) [results, Try.results40, go_sem]; exact ⟨H0.out, H1.out, H2.out⟩) rfl ⟨rfl, by go_grown⟩

set_option maxRecDepth 100000 in
set_option maxHeartbeats 1600000 in
theorem tDot (a b : T3) (w : World) : Calls Try.prog 42 #[V3 a.1 a.2.1 a.2.2, V3 b.1 b.2.1 b.2.2] w (Ret (.int .i64 (wdot a b)) w) := by
  have HK := Lib.hid (wdot_eq a.1 b.1 a.2.1 b.2.1 a.2.2 b.2.2)
  go_enter Try.func42, Try.ntmps42
  go_wp2
  go_ret
  exact ret_of (vint HK.out) (by go_grown)

set_option maxRecDepth 100000 in
set_option maxHeartbeats 1600000 in
theorem r20Sub (a b : T3) (w : World) : Calls Try.prog 50 #[V3 a.1 a.2.1 a.2.2, V3 b.1 b.2.1 b.2.2] w (Ret (V3 (tsub a b).1 (tsub a b).2.1 (tsub a b).2.2) w) := by
  go_enter Try.func50, Try.ntmps50
  go_wp2
  exact bodyPost_ret (v := V3 (tsub a b).1 (tsub a b).2.1 (tsub a b).2.2) (by simp (maxDischargeDepth := 9) [results, Try.results50, go_sem]; exact ⟨rfl, rfl, rfl⟩) rfl ⟨rfl, by go_grown⟩

set_option maxRecDepth 100000 in
set_option maxHeartbeats 1600000 in
theorem r20Cross (a b : T3) (w : World) : Calls Try.prog 51 #[V3 a.1 a.2.1 a.2.2, V3 b.1 b.2.1 b.2.2] w (Ret (V3 (tcross a b).1 (tcross a b).2.1 (tcross a b).2.2) w) := by
  have H0 := Lib.hid (wsub_eq a.2.1 b.2.2 a.2.2 b.2.1)
  have H1 := Lib.hid (wsub_eq a.2.2 b.1 a.1 b.2.2)
  have H2 := Lib.hid (wsub_eq a.1 b.2.1 a.2.1 b.1)
  go_enter Try.func51, Try.ntmps51
  go_wp2
  exact bodyPost_ret (v := V3 (tcross a b).1 (tcross a b).2.1 (tcross a b).2.2) (by simp (maxDischargeDepth := 9) [results, Try.results51, go_sem]; exact ⟨H0.out, H1.out, H2.out⟩) rfl ⟨rfl, by go_grown⟩

set_option maxRecDepth 100000 in
set_option maxHeartbeats 1600000 in
theorem r20Dot (a b : T3) (w : World) : Calls Try.prog 52 #[V3 a.1 a.2.1 a.2.2, V3 b.1 b.2.1 b.2.2] w (Ret (.int .i64 (wdot a b)) w) := by
  have HK := Lib.hid (wdot_eq a.1 b.1 a.2.1 b.2.1 a.2.2 b.2.2)
  go_enter Try.func52, Try.ntmps52
  go_wp2
  go_ret
  exact ret_of (vint HK.out) (by go_grown)

set_option maxRecDepth 100000 in
set_option maxHeartbeats 1600000 in
theorem tWithin (p : T3) (m : Int) (hm : 0 ≤ m ∧ m ≤ 1048576) (w : World) : Calls Try.prog 67 #[V3 p.1 p.2.1 p.2.2, .int .i64 m] w (Ret (.bool (inB p m)) w) := by
  have e2 := imax
  have e3 := imin
  go_enter Try.func67, Try.ntmps67
  go_wp2
  all_goals
    go_ret
    exact ret_of (vbool (by
      clear e2 e3
      unfold inB
      rw [Bool.eq_iff_iff]
      simp only [decide_eq_true_eq, Bool.false_eq_true, false_iff]
      omega)) (by go_grown)

set_option maxRecDepth 100000 in
set_option maxHeartbeats 1600000 in
theorem r20far (p : T3) (m : Int) (hm : 0 ≤ m ∧ m ≤ 1048576) (w : World) : Calls Try.prog 69 #[V3 p.1 p.2.1 p.2.2, .int .i64 m] w (Ret (.bool (!inB p m)) w) := by
  have e2 := imax
  have e3 := imin
  go_enter Try.func69, Try.ntmps69
  go_wp2
  all_goals
    go_ret
    exact ret_of (vbool (by
      clear e2 e3
      unfold inB
      rw [Bool.eq_iff_iff]
      simp only [Bool.not_eq_true', decide_eq_false_iff_not, decide_eq_true_eq, Bool.false_eq_true, false_iff, Bool.or_eq_true, eq_self, true_iff]
      omega)) (by go_grown)

set_option maxRecDepth 100000 in
set_option maxHeartbeats 1600000 in
theorem tMay_a (o d : T3) (K1 : Hid (∀ w, Calls Try.prog 67 #[V3 o.1 o.2.1 o.2.2, .int .i64 65536] w (Ret (.bool false) w))) (w : World) : Calls Try.prog 34 #[V3 o.1 o.2.1 o.2.2, V3 d.1 d.2.1 d.2.2] w (Ret (.bool (false)) w) := by
  go_enter Try.func34, Try.ntmps34
  go_wp2_with fail
  refine (K1.out _).mono ?_; rintro e w1 ⟨rfl, hb1⟩
  have hB1 : Below w.heap.size w w1 := Below.next (by go_grown) hb1
  have d1_0 : w1.cell? ⟨w.heap.size, 0, none⟩ = some (.int .i64 o.1) := cell_call hb1 (by first | assumption | go_cell | simp [go_sem] | simp [go_sem, *])
  have d1_1 : w1.cell? ⟨w.heap.size, 1, none⟩ = some (.int .i64 o.2.1) := cell_call hb1 (by first | assumption | go_cell | simp [go_sem] | simp [go_sem, *])
  have d1_2 : w1.cell? ⟨w.heap.size, 2, none⟩ = some (.int .i64 o.2.2) := cell_call hb1 (by first | assumption | go_cell | simp [go_sem] | simp [go_sem, *])
  have d1_3 : w1.cell? ⟨w.heap.size + 1, 0, none⟩ = some (.int .i64 d.1) := cell_call hb1 (by first | assumption | go_cell | simp [go_sem] | simp [go_sem, *])
  have d1_4 : w1.cell? ⟨w.heap.size + 1, 1, none⟩ = some (.int .i64 d.2.1) := cell_call hb1 (by first | assumption | go_cell | simp [go_sem] | simp [go_sem, *])
  have d1_5 : w1.cell? ⟨w.heap.size + 1, 2, none⟩ = some (.int .i64 d.2.2) := cell_call hb1 (by first | assumption | go_cell | simp [go_sem] | simp [go_sem, *])
  have l1_0 := World.block_lt_of_cell? w1 _ d1_0
  have l1_3 := World.block_lt_of_cell? w1 _ d1_3
  have hS1 := hB1.size
  clear hb1
  go_wp2_with fail
  go_ret
  exact ret_of rfl hB1

set_option maxRecDepth 100000 in
set_option maxHeartbeats 1600000 in
theorem tMay_b (o d : T3) (K1 : Hid (∀ w, Calls Try.prog 67 #[V3 o.1 o.2.1 o.2.2, .int .i64 65536] w (Ret (.bool true) w))) (K2 : Hid (∀ w, Calls Try.prog 67 #[V3 d.1 d.2.1 d.2.2, .int .i64 131072] w (Ret (.bool false) w))) (w : World) : Calls Try.prog 34 #[V3 o.1 o.2.1 o.2.2, V3 d.1 d.2.1 d.2.2] w (Ret (.bool (false)) w) := by
  go_enter Try.func34, Try.ntmps34
  go_wp2_with fail
  refine (K1.out _).mono ?_; rintro e w1 ⟨rfl, hb1⟩
  have hB1 : Below w.heap.size w w1 := Below.next (by go_grown) hb1
  have d1_0 : w1.cell? ⟨w.heap.size, 0, none⟩ = some (.int .i64 o.1) := cell_call hb1 (by first | assumption | go_cell | simp [go_sem] | simp [go_sem, *])
  have d1_1 : w1.cell? ⟨w.heap.size, 1, none⟩ = some (.int .i64 o.2.1) := cell_call hb1 (by first | assumption | go_cell | simp [go_sem] | simp [go_sem, *])
  have d1_2 : w1.cell? ⟨w.heap.size, 2, none⟩ = some (.int .i64 o.2.2) := cell_call hb1 (by first | assumption | go_cell | simp [go_sem] | simp [go_sem, *])
  have d1_3 : w1.cell? ⟨w.heap.size + 1, 0, none⟩ = some (.int .i64 d.1) := cell_call hb1 (by first | assumption | go_cell | simp [go_sem] | simp [go_sem, *])
  have d1_4 : w1.cell? ⟨w.heap.size + 1, 1, none⟩ = some (.int .i64 d.2.1) := cell_call hb1 (by first | assumption | go_cell | simp [go_sem] | simp [go_sem, *])
  have d1_5 : w1.cell? ⟨w.heap.size + 1, 2, none⟩ = some (.int .i64 d.2.2) := cell_call hb1 (by first | assumption | go_cell | simp [go_sem] | simp [go_sem, *])
  have l1_0 := World.block_lt_of_cell? w1 _ d1_0
  have l1_3 := World.block_lt_of_cell? w1 _ d1_3
  have hS1 := hB1.size
  clear hb1
  go_wp2_with fail
  refine (K2.out _).mono ?_; rintro e w2 ⟨rfl, hb2⟩
  have hB2 : Below w.heap.size w w2 := Below.next (by go_grown) hb2
  have d2_0 : w2.cell? ⟨w.heap.size, 0, none⟩ = some (.int .i64 o.1) := cell_call hb2 (by first | assumption | go_cell | simp [go_sem] | simp [go_sem, *])
  have d2_1 : w2.cell? ⟨w.heap.size, 1, none⟩ = some (.int .i64 o.2.1) := cell_call hb2 (by first | assumption | go_cell | simp [go_sem] | simp [go_sem, *])
  have d2_2 : w2.cell? ⟨w.heap.size, 2, none⟩ = some (.int .i64 o.2.2) := cell_call hb2 (by first | assumption | go_cell | simp [go_sem] | simp [go_sem, *])
  have d2_3 : w2.cell? ⟨w.heap.size + 1, 0, none⟩ = some (.int .i64 d.1) := cell_call hb2 (by first | assumption | go_cell | simp [go_sem] | simp [go_sem, *])
  have d2_4 : w2.cell? ⟨w.heap.size + 1, 1, none⟩ = some (.int .i64 d.2.1) := cell_call hb2 (by first | assumption | go_cell | simp [go_sem] | simp [go_sem, *])
  have d2_5 : w2.cell? ⟨w.heap.size + 1, 2, none⟩ = some (.int .i64 d.2.2) := cell_call hb2 (by first | assumption | go_cell | simp [go_sem] | simp [go_sem, *])
  have l2_0 := World.block_lt_of_cell? w2 _ d2_0
  have l2_3 := World.block_lt_of_cell? w2 _ d2_3
  have hS2 := hB2.size
  clear hb2
  go_wp2_with fail
  go_ret
  exact ret_of rfl hB2

set_option maxRecDepth 100000 in
set_option maxHeartbeats 1600000 in
theorem tMay_c (o d : T3) (K1 : Hid (∀ w, Calls Try.prog 67 #[V3 o.1 o.2.1 o.2.2, .int .i64 65536] w (Ret (.bool true) w))) (K2 : Hid (∀ w, Calls Try.prog 67 #[V3 d.1 d.2.1 d.2.2, .int .i64 131072] w (Ret (.bool true) w))) (w : World) : Calls Try.prog 34 #[V3 o.1 o.2.1 o.2.2, V3 d.1 d.2.1 d.2.2] w (Ret (.bool (decide (¬ (d.1 = 0 ∧ d.2.1 = 0 ∧ d.2.2 = 0)))) w) := by
  go_enter Try.func34, Try.ntmps34
  go_wp2_with fail
  refine (K1.out _).mono ?_; rintro e w1 ⟨rfl, hb1⟩
  have hB1 : Below w.heap.size w w1 := Below.next (by go_grown) hb1
  have d1_0 : w1.cell? ⟨w.heap.size, 0, none⟩ = some (.int .i64 o.1) := cell_call hb1 (by first | assumption | go_cell | simp [go_sem] | simp [go_sem, *])
  have d1_1 : w1.cell? ⟨w.heap.size, 1, none⟩ = some (.int .i64 o.2.1) := cell_call hb1 (by first | assumption | go_cell | simp [go_sem] | simp [go_sem, *])
  have d1_2 : w1.cell? ⟨w.heap.size, 2, none⟩ = some (.int .i64 o.2.2) := cell_call hb1 (by first | assumption | go_cell | simp [go_sem] | simp [go_sem, *])
  have d1_3 : w1.cell? ⟨w.heap.size + 1, 0, none⟩ = some (.int .i64 d.1) := cell_call hb1 (by first | assumption | go_cell | simp [go_sem] | simp [go_sem, *])
  have d1_4 : w1.cell? ⟨w.heap.size + 1, 1, none⟩ = some (.int .i64 d.2.1) := cell_call hb1 (by first | assumption | go_cell | simp [go_sem] | simp [go_sem, *])
  have d1_5 : w1.cell? ⟨w.heap.size + 1, 2, none⟩ = some (.int .i64 d.2.2) := cell_call hb1 (by first | assumption | go_cell | simp [go_sem] | simp [go_sem, *])
  have l1_0 := World.block_lt_of_cell? w1 _ d1_0
  have l1_3 := World.block_lt_of_cell? w1 _ d1_3
  have hS1 := hB1.size
  clear hb1
  go_wp2_with fail
  refine (K2.out _).mono ?_; rintro e w2 ⟨rfl, hb2⟩
  have hB2 : Below w.heap.size w w2 := Below.next (by go_grown) hb2
  have d2_0 : w2.cell? ⟨w.heap.size, 0, none⟩ = some (.int .i64 o.1) := cell_call hb2 (by first | assumption | go_cell | simp [go_sem] | simp [go_sem, *])
  have d2_1 : w2.cell? ⟨w.heap.size, 1, none⟩ = some (.int .i64 o.2.1) := cell_call hb2 (by first | assumption | go_cell | simp [go_sem] | simp [go_sem, *])
  have d2_2 : w2.cell? ⟨w.heap.size, 2, none⟩ = some (.int .i64 o.2.2) := cell_call hb2 (by first | assumption | go_cell | simp [go_sem] | simp [go_sem, *])
  have d2_3 : w2.cell? ⟨w.heap.size + 1, 0, none⟩ = some (.int .i64 d.1) := cell_call hb2 (by first | assumption | go_cell | simp [go_sem] | simp [go_sem, *])
  have d2_4 : w2.cell? ⟨w.heap.size + 1, 1, none⟩ = some (.int .i64 d.2.1) := cell_call hb2 (by first | assumption | go_cell | simp [go_sem] | simp [go_sem, *])
  have d2_5 : w2.cell? ⟨w.heap.size + 1, 2, none⟩ = some (.int .i64 d.2.2) := cell_call hb2 (by first | assumption | go_cell | simp [go_sem] | simp [go_sem, *])
  have l2_0 := World.block_lt_of_cell? w2 _ d2_0
  have l2_3 := World.block_lt_of_cell? w2 _ d2_3
  have hS2 := hB2.size
  clear hb2
  go_wp2_with fail
  all_goals
    go_ret
    exact ret_of (vbool (by rw [Bool.eq_iff_iff]; simp only [decide_eq_true_eq, Bool.false_eq_true, false_iff, bne_iff_ne, ne_eq, eq_self, true_iff, Bool.not_eq_true', Bool.and_eq_true, Bool.or_eq_true, Bool.not_eq_eq_eq_not, Bool.not_true, Bool.and_eq_false_imp, beq_iff_eq, beq_eq_false_iff_ne]; omega)) hB2

theorem tMay (o d : T3) (w : World) : Calls Try.prog 34 #[V3 o.1 o.2.1 o.2.2, V3 d.1 d.2.1 d.2.2] w (Ret (.bool (mayRay o d)) w) := by
  unfold mayRay
  cases h1 : inB o 65536
  · exact tMay_a o d (Lib.hid fun w => by have := tWithin o 65536 (by omega) w; rw [h1] at this; exact this) w
  · cases h2 : inB d 131072
    · exact tMay_b o d (Lib.hid fun w => by have := tWithin o 65536 (by omega) w; rw [h1] at this; exact this) (Lib.hid fun w => by have := tWithin d 131072 (by omega) w; rw [h2] at this; exact this) w
    · exact tMay_c o d (Lib.hid fun w => by have := tWithin o 65536 (by omega) w; rw [h1] at this; exact this) (Lib.hid fun w => by have := tWithin d 131072 (by omega) w; rw [h2] at this; exact this) w

set_option maxRecDepth 100000 in
set_option maxHeartbeats 1600000 in
theorem r20May_a (o d : T3) (K1 : Hid (∀ w, Calls Try.prog 69 #[V3 o.1 o.2.1 o.2.2, .int .i64 65536] w (Ret (.bool true) w))) (w : World) : Calls Try.prog 35 #[V3 o.1 o.2.1 o.2.2, V3 d.1 d.2.1 d.2.2] w (Ret (.bool (false)) w) := by
  go_enter Try.func35, Try.ntmps35
  go_wp2_with fail
  refine (K1.out _).mono ?_; rintro e w1 ⟨rfl, hb1⟩
  have hB1 : Below w.heap.size w w1 := Below.next (by go_grown) hb1
  have d1_0 : w1.cell? ⟨w.heap.size, 0, none⟩ = some (.int .i64 o.1) := cell_call hb1 (by first | assumption | go_cell | simp [go_sem] | simp [go_sem, *])
  have d1_1 : w1.cell? ⟨w.heap.size, 1, none⟩ = some (.int .i64 o.2.1) := cell_call hb1 (by first | assumption | go_cell | simp [go_sem] | simp [go_sem, *])
  have d1_2 : w1.cell? ⟨w.heap.size, 2, none⟩ = some (.int .i64 o.2.2) := cell_call hb1 (by first | assumption | go_cell | simp [go_sem] | simp [go_sem, *])
  have d1_3 : w1.cell? ⟨w.heap.size + 1, 0, none⟩ = some (.int .i64 d.1) := cell_call hb1 (by first | assumption | go_cell | simp [go_sem] | simp [go_sem, *])
  have d1_4 : w1.cell? ⟨w.heap.size + 1, 1, none⟩ = some (.int .i64 d.2.1) := cell_call hb1 (by first | assumption | go_cell | simp [go_sem] | simp [go_sem, *])
  have d1_5 : w1.cell? ⟨w.heap.size + 1, 2, none⟩ = some (.int .i64 d.2.2) := cell_call hb1 (by first | assumption | go_cell | simp [go_sem] | simp [go_sem, *])
  have l1_0 := World.block_lt_of_cell? w1 _ d1_0
  have l1_3 := World.block_lt_of_cell? w1 _ d1_3
  have hS1 := hB1.size
  clear hb1
  go_wp2_with fail
  go_ret
  exact ret_of rfl hB1

set_option maxRecDepth 100000 in
set_option maxHeartbeats 1600000 in
theorem r20May_b (o d : T3) (K1 : Hid (∀ w, Calls Try.prog 69 #[V3 o.1 o.2.1 o.2.2, .int .i64 65536] w (Ret (.bool false) w))) (K2 : Hid (∀ w, Calls Try.prog 69 #[V3 d.1 d.2.1 d.2.2, .int .i64 131072] w (Ret (.bool true) w))) (w : World) : Calls Try.prog 35 #[V3 o.1 o.2.1 o.2.2, V3 d.1 d.2.1 d.2.2] w (Ret (.bool (false)) w) := by
  go_enter Try.func35, Try.ntmps35
  go_wp2_with fail
  refine (K1.out _).mono ?_; rintro e w1 ⟨rfl, hb1⟩
  have hB1 : Below w.heap.size w w1 := Below.next (by go_grown) hb1
  have d1_0 : w1.cell? ⟨w.heap.size, 0, none⟩ = some (.int .i64 o.1) := cell_call hb1 (by first | assumption | go_cell | simp [go_sem] | simp [go_sem, *])
  have d1_1 : w1.cell? ⟨w.heap.size, 1, none⟩ = some (.int .i64 o.2.1) := cell_call hb1 (by first | assumption | go_cell | simp [go_sem] | simp [go_sem, *])
  have d1_2 : w1.cell? ⟨w.heap.size, 2, none⟩ = some (.int .i64 o.2.2) := cell_call hb1 (by first | assumption | go_cell | simp [go_sem] | simp [go_sem, *])
  have d1_3 : w1.cell? ⟨w.heap.size + 1, 0, none⟩ = some (.int .i64 d.1) := cell_call hb1 (by first | assumption | go_cell | simp [go_sem] | simp [go_sem, *])
  have d1_4 : w1.cell? ⟨w.heap.size + 1, 1, none⟩ = some (.int .i64 d.2.1) := cell_call hb1 (by first | assumption | go_cell | simp [go_sem] | simp [go_sem, *])
  have d1_5 : w1.cell? ⟨w.heap.size + 1, 2, none⟩ = some (.int .i64 d.2.2) := cell_call hb1 (by first | assumption | go_cell | simp [go_sem] | simp [go_sem, *])
  have l1_0 := World.block_lt_of_cell? w1 _ d1_0
  have l1_3 := World.block_lt_of_cell? w1 _ d1_3
  have hS1 := hB1.size
  clear hb1
  go_wp2_with fail
  refine (K2.out _).mono ?_; rintro e w2 ⟨rfl, hb2⟩
  have hB2 : Below w.heap.size w w2 := Below.next (by go_grown) hb2
  have d2_0 : w2.cell? ⟨w.heap.size, 0, none⟩ = some (.int .i64 o.1) := cell_call hb2 (by first | assumption | go_cell | simp [go_sem] | simp [go_sem, *])
  have d2_1 : w2.cell? ⟨w.heap.size, 1, none⟩ = some (.int .i64 o.2.1) := cell_call hb2 (by first | assumption | go_cell | simp [go_sem] | simp [go_sem, *])
  have d2_2 : w2.cell? ⟨w.heap.size, 2, none⟩ = some (.int .i64 o.2.2) := cell_call hb2 (by first | assumption | go_cell | simp [go_sem] | simp [go_sem, *])
  have d2_3 : w2.cell? ⟨w.heap.size + 1, 0, none⟩ = some (.int .i64 d.1) := cell_call hb2 (by first | assumption | go_cell | simp [go_sem] | simp [go_sem, *])
  have d2_4 : w2.cell? ⟨w.heap.size + 1, 1, none⟩ = some (.int .i64 d.2.1) := cell_call hb2 (by first | assumption | go_cell | simp [go_sem] | simp [go_sem, *])
  have d2_5 : w2.cell? ⟨w.heap.size + 1, 2, none⟩ = some (.int .i64 d.2.2) := cell_call hb2 (by first | assumption | go_cell | simp [go_sem] | simp [go_sem, *])
  have l2_0 := World.block_lt_of_cell? w2 _ d2_0
  have l2_3 := World.block_lt_of_cell? w2 _ d2_3
  have hS2 := hB2.size
  clear hb2
  go_wp2_with fail
  go_ret
  exact ret_of rfl hB2

set_option maxRecDepth 100000 in
set_option maxHeartbeats 1600000 in
theorem r20May_c (o d : T3) (K1 : Hid (∀ w, Calls Try.prog 69 #[V3 o.1 o.2.1 o.2.2, .int .i64 65536] w (Ret (.bool false) w))) (K2 : Hid (∀ w, Calls Try.prog 69 #[V3 d.1 d.2.1 d.2.2, .int .i64 131072] w (Ret (.bool false) w))) (w : World) : Calls Try.prog 35 #[V3 o.1 o.2.1 o.2.2, V3 d.1 d.2.1 d.2.2] w (Ret (.bool (decide (¬ (d.1 = 0 ∧ d.2.1 = 0 ∧ d.2.2 = 0)))) w) := by
  go_enter Try.func35, Try.ntmps35
  go_wp2_with fail
  refine (K1.out _).mono ?_; rintro e w1 ⟨rfl, hb1⟩
  have hB1 : Below w.heap.size w w1 := Below.next (by go_grown) hb1
  have d1_0 : w1.cell? ⟨w.heap.size, 0, none⟩ = some (.int .i64 o.1) := cell_call hb1 (by first | assumption | go_cell | simp [go_sem] | simp [go_sem, *])
  have d1_1 : w1.cell? ⟨w.heap.size, 1, none⟩ = some (.int .i64 o.2.1) := cell_call hb1 (by first | assumption | go_cell | simp [go_sem] | simp [go_sem, *])
  have d1_2 : w1.cell? ⟨w.heap.size, 2, none⟩ = some (.int .i64 o.2.2) := cell_call hb1 (by first | assumption | go_cell | simp [go_sem] | simp [go_sem, *])
  have d1_3 : w1.cell? ⟨w.heap.size + 1, 0, none⟩ = some (.int .i64 d.1) := cell_call hb1 (by first | assumption | go_cell | simp [go_sem] | simp [go_sem, *])
  have d1_4 : w1.cell? ⟨w.heap.size + 1, 1, none⟩ = some (.int .i64 d.2.1) := cell_call hb1 (by first | assumption | go_cell | simp [go_sem] | simp [go_sem, *])
  have d1_5 : w1.cell? ⟨w.heap.size + 1, 2, none⟩ = some (.int .i64 d.2.2) := cell_call hb1 (by first | assumption | go_cell | simp [go_sem] | simp [go_sem, *])
  have l1_0 := World.block_lt_of_cell? w1 _ d1_0
  have l1_3 := World.block_lt_of_cell? w1 _ d1_3
  have hS1 := hB1.size
  clear hb1
  go_wp2_with fail
  refine (K2.out _).mono ?_; rintro e w2 ⟨rfl, hb2⟩
  have hB2 : Below w.heap.size w w2 := Below.next (by go_grown) hb2
  have d2_0 : w2.cell? ⟨w.heap.size, 0, none⟩ = some (.int .i64 o.1) := cell_call hb2 (by first | assumption | go_cell | simp [go_sem] | simp [go_sem, *])
  have d2_1 : w2.cell? ⟨w.heap.size, 1, none⟩ = some (.int .i64 o.2.1) := cell_call hb2 (by first | assumption | go_cell | simp [go_sem] | simp [go_sem, *])
  have d2_2 : w2.cell? ⟨w.heap.size, 2, none⟩ = some (.int .i64 o.2.2) := cell_call hb2 (by first | assumption | go_cell | simp [go_sem] | simp [go_sem, *])
  have d2_3 : w2.cell? ⟨w.heap.size + 1, 0, none⟩ = some (.int .i64 d.1) := cell_call hb2 (by first | assumption | go_cell | simp [go_sem] | simp [go_sem, *])
  have d2_4 : w2.cell? ⟨w.heap.size + 1, 1, none⟩ = some (.int .i64 d.2.1) := cell_call hb2 (by first | assumption | go_cell | simp [go_sem] | simp [go_sem, *])
  have d2_5 : w2.cell? ⟨w.heap.size + 1, 2, none⟩ = some (.int .i64 d.2.2) := cell_call hb2 (by first | assumption | go_cell | simp [go_sem] | simp [go_sem, *])
  have l2_0 := World.block_lt_of_cell? w2 _ d2_0
  have l2_3 := World.block_lt_of_cell? w2 _ d2_3
  have hS2 := hB2.size
  clear hb2
  go_wp2_with fail
  all_goals
    go_ret
    exact ret_of (vbool (by rw [Bool.eq_iff_iff]; simp only [decide_eq_true_eq, Bool.false_eq_true, false_iff, bne_iff_ne, ne_eq, eq_self, true_iff, Bool.not_eq_true', Bool.and_eq_true, Bool.or_eq_true, Bool.not_eq_eq_eq_not, Bool.not_true, Bool.and_eq_false_imp, beq_iff_eq, beq_eq_false_iff_ne]; omega)) hB2

theorem r20May (o d : T3) (w : World) : Calls Try.prog 35 #[V3 o.1 o.2.1 o.2.2, V3 d.1 d.2.1 d.2.2] w (Ret (.bool (mayRay o d)) w) := by
  unfold mayRay
  cases h1 : inB o 65536
  · exact r20May_a o d (Lib.hid fun w => by have := r20far o 65536 (by omega) w; rw [h1] at this; exact this) w
  · cases h2 : inB d 131072
    · exact r20May_b o d (Lib.hid fun w => by have := r20far o 65536 (by omega) w; rw [h1] at this; exact this) (Lib.hid fun w => by have := r20far d 131072 (by omega) w; rw [h2] at this; exact this) w
    · exact r20May_c o d (Lib.hid fun w => by have := r20far o 65536 (by omega) w; rw [h1] at this; exact this) (Lib.hid fun w => by have := r20far d 131072 (by omega) w; rw [h2] at this; exact this) w

end Go.Proofs.Ytbfgmedjogjkeaa
