/- Walks: tri.Less, umbraref20.cmp, umbraref20.Less. -/
import Derived.Test.YtbfgmedjogjkeaaTriM
import Derived.Test.YtbfgmedjogjkeaaWalkK
import Derived.Test.YtbfgmedjogjkeaaFresh
import Derived.Test.YtbfgmedjogjkeaaSettle
import Derived.Test.YtbfgmedjogjkeaaRef2
namespace Go.Proofs.Ytbfgmedjogjkeaa
open Go.RowKit Go.Sort
set_option linter.unusedVariables false
set_option linter.unusedSimpArgs false

/-- Which of two meetings comes first. -/
def mless (a b : M4) : Bool := decide (0 < a.2.1) && (decide (0 < b.2.1) && decide (a.1 * b.2.1 < b.1 * a.2.1))
abbrev VM (m : M4) : Value := .agg #[.int .i64 m.1, .int .i64 m.2.1, .int .i64 m.2.2.1, .int .i64 m.2.2.2]
def InM (m : M4) : Prop := InI m.1 ∧ InI m.2.1 ∧ InI m.2.2.1 ∧ InI m.2.2.2

set_option maxRecDepth 100000 in
set_option maxHeartbeats 1600000 in
theorem tLess_a (a b : M4) (h1 : a.2.1 < 1) (w : World) : Calls Try.prog 45 #[.agg #[.int .i64 a.1, .int .i64 a.2.1, .int .i64 a.2.2.1, .int .i64 a.2.2.2], .agg #[.int .i64 b.1, .int .i64 b.2.1, .int .i64 b.2.2.1, .int .i64 b.2.2.2]] w (Ret (.bool false) w) := by
  go_enter Try.func45, Try.ntmps45
  go_wp2_with fail
  go_ret
  exact ret_of rfl (by go_grown)

set_option maxRecDepth 100000 in
set_option maxHeartbeats 1600000 in
theorem tLess_b (a b : M4) (h1 : ¬ a.2.1 < 1) (h2 : b.2.1 < 1) (w : World) : Calls Try.prog 45 #[.agg #[.int .i64 a.1, .int .i64 a.2.1, .int .i64 a.2.2.1, .int .i64 a.2.2.2], .agg #[.int .i64 b.1, .int .i64 b.2.1, .int .i64 b.2.2.1, .int .i64 b.2.2.2]] w (Ret (.bool false) w) := by
  go_enter Try.func45, Try.ntmps45
  go_wp2_with fail
  go_ret
  exact ret_of rfl (by go_grown)

set_option maxRecDepth 100000 in
set_option maxHeartbeats 1600000 in
theorem tLess_c (a b : M4) (x y k : Int) (h1 : ¬ a.2.1 < 1) (h2 : ¬ b.2.1 < 1) (K1 : Hid (∀ w, Calls Try.prog 38 #[.int .i64 a.1, .int .i64 b.2.1] w (Ret (W x) w))) (K2 : Hid (∀ w, Calls Try.prog 38 #[.int .i64 b.1, .int .i64 a.2.1] w (Ret (W y) w))) (K3 : Hid (∀ w, Calls Try.prog 75 #[W x, W y] w (Ret (.int .i64 k) w))) (w : World) : Calls Try.prog 45 #[.agg #[.int .i64 a.1, .int .i64 a.2.1, .int .i64 a.2.2.1, .int .i64 a.2.2.2], .agg #[.int .i64 b.1, .int .i64 b.2.1, .int .i64 b.2.2.1, .int .i64 b.2.2.2]] w (Ret (.bool (decide (k < 0))) w) := by
  go_enter Try.func45, Try.ntmps45
  go_wp2_with fail
  refine wp_region_fresh_gen 13 (by kernel_rfl) (by kernel_rfl) (fun W1 HW1 => ?_)
  intro F1_0 U1_0
  have hA1 : Below w.heap.size w W1 := by rw [HW1]; go_grown
  have c1_0 : W1.cell? ⟨w.heap.size, 0, none⟩ = some (.int .i64 a.1) := by rw [HW1]; first | assumption | go_cell | simp [go_sem, *]
  have c1_1 : W1.cell? ⟨w.heap.size, 1, none⟩ = some (.int .i64 a.2.1) := by rw [HW1]; first | assumption | go_cell | simp [go_sem, *]
  have c1_2 : W1.cell? ⟨w.heap.size, 2, none⟩ = some (.int .i64 a.2.2.1) := by rw [HW1]; first | assumption | go_cell | simp [go_sem, *]
  have c1_3 : W1.cell? ⟨w.heap.size, 3, none⟩ = some (.int .i64 a.2.2.2) := by rw [HW1]; first | assumption | go_cell | simp [go_sem, *]
  have c1_4 : W1.cell? ⟨w.heap.size + 1, 0, none⟩ = some (.int .i64 b.1) := by rw [HW1]; first | assumption | go_cell | simp [go_sem, *]
  have c1_5 : W1.cell? ⟨w.heap.size + 1, 1, none⟩ = some (.int .i64 b.2.1) := by rw [HW1]; first | assumption | go_cell | simp [go_sem, *]
  have c1_6 : W1.cell? ⟨w.heap.size + 1, 2, none⟩ = some (.int .i64 b.2.2.1) := by rw [HW1]; first | assumption | go_cell | simp [go_sem, *]
  have c1_7 : W1.cell? ⟨w.heap.size + 1, 3, none⟩ = some (.int .i64 b.2.2.2) := by rw [HW1]; first | assumption | go_cell | simp [go_sem, *]
  clear HW1
  have r1_0 := reg_cell c1_0
  have r1_1 := reg_cell c1_1
  have r1_2 := reg_cell c1_2
  have r1_3 := reg_cell c1_3
  have r1_4 := reg_cell c1_4
  have r1_5 := reg_cell c1_5
  have r1_6 := reg_cell c1_6
  have r1_7 := reg_cell c1_7
  simp only [List.take_succ_cons, List.take_zero, List.drop_succ_cons, List.drop_zero]
  iterate 4 (refine WL_plain (fun K hK => ?_); go_simp; refine hK _ ?_; clear hK K)
  refine WL_call (by kernel_rfl) (fun K hK => ?_)
  go_simp
  apply Exists.intro
  refine ⟨fun w1 hb1 hf1 => ?_, hK _ ?_⟩
  · exact K1.out _
  clear hK K
  iterate 4 (refine WL_plain (fun K hK => ?_); go_simp; refine hK _ ?_; clear hK K)
  refine WL_call (by kernel_rfl) (fun K hK => ?_)
  go_simp
  apply Exists.intro
  refine ⟨fun w1 hb1 hf1 => ?_, hK _ ?_⟩
  · exact K2.out _
  clear hK K
  refine WL_call (by kernel_rfl) (fun K hK => ?_)
  go_simp
  apply Exists.intro
  refine ⟨fun w1 hb1 hf1 => ?_, hK _ ?_⟩
  · exact K3.out _
  clear hK K
  iterate 2 (refine WL_plain (fun K hK => ?_); go_simp; refine hK _ ?_; clear hK K)
  refine WL_nil (fun w1 hb1 hf1 => ?_)
  have hB1 : Below w.heap.size w w1 := Below.next hA1 hb1
  have d1_0 := cell_call hb1 c1_0
  have d1_1 := cell_call hb1 c1_1
  have d1_2 := cell_call hb1 c1_2
  have d1_3 := cell_call hb1 c1_3
  have d1_4 := cell_call hb1 c1_4
  have d1_5 := cell_call hb1 c1_5
  have d1_6 := cell_call hb1 c1_6
  have d1_7 := cell_call hb1 c1_7
  clear r1_0 c1_0 r1_1 c1_1 r1_2 c1_2 r1_3 c1_3 r1_4 c1_4 r1_5 c1_5 r1_6 c1_6 r1_7 c1_7
  have l1_0 : w.heap.size < w1.heap.size := World.block_lt_of_cell? w1 _ d1_0
  have l1_4 : w.heap.size + 1 < w1.heap.size := World.block_lt_of_cell? w1 _ d1_4
  have hS1 := hB1.size
  go_wp2_with fail
  go_ret
  exact ret_of rfl hB1

theorem tLess (a b : M4) (ha : InM a) (hb : InM b) (w : World) : Calls Try.prog 45 #[VM a, VM b] w (Ret (.bool (mless a b)) w) := by
  unfold mless
  by_cases h1 : a.2.1 < 1
  · rw [decide_eq_false (show ¬ 0 < a.2.1 by omega)]
    exact tLess_a a b h1 w
  · by_cases h2 : b.2.1 < 1
    · rw [decide_eq_false (show ¬ 0 < b.2.1 by omega), Bool.false_and, Bool.and_false]
      exact tLess_b a b h1 h2 w
    · rw [decide_eq_true (show 0 < a.2.1 by omega), decide_eq_true (show 0 < b.2.1 by omega), Bool.true_and, Bool.true_and]
      have := tLess_c a b (a.1 * b.2.1) (b.1 * a.2.1) (cmpW (a.1 * b.2.1) (b.1 * a.2.1)) h1 h2 (Lib.hid (wMul _ _ ha.1 hb.2.1)) (Lib.hid (wMul _ _ hb.1 ha.2.1)) (Lib.hid (wCmp _ _ (mul_InW ha.1 hb.2.1) (mul_InW hb.1 ha.2.1))) w
      rwa [show decide (cmpW (a.1 * b.2.1) (b.1 * a.2.1) < 0) = decide (a.1 * b.2.1 < b.1 * a.2.1) from ?_] at this
      rcases Int.lt_trichotomy (a.1 * b.2.1) (b.1 * a.2.1) with g | g | g
      · rw [cmpW_lt g, decide_eq_true g]; rfl
      · rw [cmpW_eq g, decide_eq_false (p := a.1 * b.2.1 < b.1 * a.2.1) (by omega)]; rfl
      · rw [cmpW_gt g, decide_eq_false (p := a.1 * b.2.1 < b.1 * a.2.1) (by omega)]; rfl

set_option maxRecDepth 100000 in
set_option maxHeartbeats 1600000 in
theorem r20cmp_lt (a b c d : Int) (h1 : a < 0) (h2 : 0 ≤ c) (w : World) : Calls Try.prog 76 #[.int .i64 a, .int .i64 b, .int .i64 c, .int .i64 d] w (Ret (.int .i64 (-1)) w) := by
  go_enter Try.func76, Try.ntmps76
  go_wp2_with fail
  go_ret
  exact ret_of rfl (by go_grown)

set_option maxRecDepth 100000 in
set_option maxHeartbeats 1600000 in
theorem r20cmp_gt (a b c d : Int) (h1 : ¬ a < 0) (h2 : c < 0) (w : World) : Calls Try.prog 76 #[.int .i64 a, .int .i64 b, .int .i64 c, .int .i64 d] w (Ret (.int .i64 (1)) w) := by
  go_enter Try.func76, Try.ntmps76
  go_wp2_with fail
  go_ret
  exact ret_of rfl (by go_grown)

set_option maxRecDepth 100000 in
set_option maxHeartbeats 1600000 in
theorem r20cmp_na (a b c d X Y h l i m : Int) (hb : 0 ≤ b ∧ b ≤ 9223372036854775807) (hd : 0 ≤ d ∧ d ≤ 9223372036854775807) (h1 : a < 0) (h2 : ¬ 0 ≤ c) (hl : h < i) (K1 : Hid (∀ w, Calls Try.prog 64 #[.int .i64 a] w (Ret (.int .u64 X) w))) (K2 : Hid (∀ w, Calls Try.prog 64 #[.int .i64 c] w (Ret (.int .u64 Y) w))) (K3 : Hid (∀ w, Calls Try.prog 63 #[.int .u64 X, .int .u64 b] w (Ret (.tuple #[.int .u64 h, .int .u64 l]) w))) (K4 : Hid (∀ w, Calls Try.prog 63 #[.int .u64 Y, .int .u64 d] w (Ret (.tuple #[.int .u64 i, .int .u64 m]) w))) (w : World) : Calls Try.prog 76 #[.int .i64 a, .int .i64 b, .int .i64 c, .int .i64 d] w (Ret (.int .i64 (1)) w) := by
  have g1 : ¬ i < h := by omega
  have g2 : ¬ h = i := by omega
  go_enter Try.func76, Try.ntmps76
  go_wp2_with fail
  refine (K1.out _).mono ?_; rintro e w1 ⟨rfl, hb1⟩
  have hB1 : Below w.heap.size w w1 := Below.next (by go_grown) hb1
  have hS1 := hB1.size
  clear hb1
  go_wp2_with fail
  refine (K3.out _).mono ?_; rintro e w2 ⟨rfl, hb2⟩
  have hB2 : Below w.heap.size w w2 := Below.next (by go_grown) hb2
  have hS2 := hB2.size
  clear hb2
  go_wp2_with fail
  refine (K2.out _).mono ?_; rintro e w3 ⟨rfl, hb3⟩
  have hB3 : Below w.heap.size w w3 := Below.next (by go_grown) hb3
  have hS3 := hB3.size
  clear hb3
  go_wp2_with fail
  refine (K4.out _).mono ?_; rintro e w4 ⟨rfl, hb4⟩
  have hB4 : Below w.heap.size w w4 := Below.next (by go_grown) hb4
  have hS4 := hB4.size
  clear hb4
  go_wp2_with fail
  go_ret
  exact ret_of rfl hB4

set_option maxRecDepth 100000 in
set_option maxHeartbeats 1600000 in
theorem r20cmp_nb (a b c d X Y h l i m : Int) (hb : 0 ≤ b ∧ b ≤ 9223372036854775807) (hd : 0 ≤ d ∧ d ≤ 9223372036854775807) (h1 : a < 0) (h2 : ¬ 0 ≤ c) (hl : h = i) (hm : l < m) (K1 : Hid (∀ w, Calls Try.prog 64 #[.int .i64 a] w (Ret (.int .u64 X) w))) (K2 : Hid (∀ w, Calls Try.prog 64 #[.int .i64 c] w (Ret (.int .u64 Y) w))) (K3 : Hid (∀ w, Calls Try.prog 63 #[.int .u64 X, .int .u64 b] w (Ret (.tuple #[.int .u64 h, .int .u64 l]) w))) (K4 : Hid (∀ w, Calls Try.prog 63 #[.int .u64 Y, .int .u64 d] w (Ret (.tuple #[.int .u64 i, .int .u64 m]) w))) (w : World) : Calls Try.prog 76 #[.int .i64 a, .int .i64 b, .int .i64 c, .int .i64 d] w (Ret (.int .i64 (1)) w) := by
  subst hl
  have g1 : ¬ m < l := by omega
  go_enter Try.func76, Try.ntmps76
  go_wp2_with fail
  refine (K1.out _).mono ?_; rintro e w1 ⟨rfl, hb1⟩
  have hB1 : Below w.heap.size w w1 := Below.next (by go_grown) hb1
  have hS1 := hB1.size
  clear hb1
  go_wp2_with fail
  refine (K3.out _).mono ?_; rintro e w2 ⟨rfl, hb2⟩
  have hB2 : Below w.heap.size w w2 := Below.next (by go_grown) hb2
  have hS2 := hB2.size
  clear hb2
  go_wp2_with fail
  refine (K2.out _).mono ?_; rintro e w3 ⟨rfl, hb3⟩
  have hB3 : Below w.heap.size w w3 := Below.next (by go_grown) hb3
  have hS3 := hB3.size
  clear hb3
  go_wp2_with fail
  refine (K4.out _).mono ?_; rintro e w4 ⟨rfl, hb4⟩
  have hB4 : Below w.heap.size w w4 := Below.next (by go_grown) hb4
  have hS4 := hB4.size
  clear hb4
  go_wp2_with fail
  go_ret
  exact ret_of rfl hB4

set_option maxRecDepth 100000 in
set_option maxHeartbeats 1600000 in
theorem r20cmp_nc (a b c d X Y h l i m : Int) (hb : 0 ≤ b ∧ b ≤ 9223372036854775807) (hd : 0 ≤ d ∧ d ≤ 9223372036854775807) (h1 : a < 0) (h2 : ¬ 0 ≤ c) (hl : h = i) (hm : l = m) (K1 : Hid (∀ w, Calls Try.prog 64 #[.int .i64 a] w (Ret (.int .u64 X) w))) (K2 : Hid (∀ w, Calls Try.prog 64 #[.int .i64 c] w (Ret (.int .u64 Y) w))) (K3 : Hid (∀ w, Calls Try.prog 63 #[.int .u64 X, .int .u64 b] w (Ret (.tuple #[.int .u64 h, .int .u64 l]) w))) (K4 : Hid (∀ w, Calls Try.prog 63 #[.int .u64 Y, .int .u64 d] w (Ret (.tuple #[.int .u64 i, .int .u64 m]) w))) (w : World) : Calls Try.prog 76 #[.int .i64 a, .int .i64 b, .int .i64 c, .int .i64 d] w (Ret (.int .i64 (0)) w) := by
  subst hl hm
  go_enter Try.func76, Try.ntmps76
  go_wp2_with fail
  refine (K1.out _).mono ?_; rintro e w1 ⟨rfl, hb1⟩
  have hB1 : Below w.heap.size w w1 := Below.next (by go_grown) hb1
  have hS1 := hB1.size
  clear hb1
  go_wp2_with fail
  refine (K3.out _).mono ?_; rintro e w2 ⟨rfl, hb2⟩
  have hB2 : Below w.heap.size w w2 := Below.next (by go_grown) hb2
  have hS2 := hB2.size
  clear hb2
  go_wp2_with fail
  refine (K2.out _).mono ?_; rintro e w3 ⟨rfl, hb3⟩
  have hB3 : Below w.heap.size w w3 := Below.next (by go_grown) hb3
  have hS3 := hB3.size
  clear hb3
  go_wp2_with fail
  refine (K4.out _).mono ?_; rintro e w4 ⟨rfl, hb4⟩
  have hB4 : Below w.heap.size w w4 := Below.next (by go_grown) hb4
  have hS4 := hB4.size
  clear hb4
  go_wp2_with fail
  go_ret
  exact ret_of rfl hB4

set_option maxRecDepth 100000 in
set_option maxHeartbeats 1600000 in
theorem r20cmp_nd (a b c d X Y h l i m : Int) (hb : 0 ≤ b ∧ b ≤ 9223372036854775807) (hd : 0 ≤ d ∧ d ≤ 9223372036854775807) (h1 : a < 0) (h2 : ¬ 0 ≤ c) (hl : h = i) (hm : m < l) (K1 : Hid (∀ w, Calls Try.prog 64 #[.int .i64 a] w (Ret (.int .u64 X) w))) (K2 : Hid (∀ w, Calls Try.prog 64 #[.int .i64 c] w (Ret (.int .u64 Y) w))) (K3 : Hid (∀ w, Calls Try.prog 63 #[.int .u64 X, .int .u64 b] w (Ret (.tuple #[.int .u64 h, .int .u64 l]) w))) (K4 : Hid (∀ w, Calls Try.prog 63 #[.int .u64 Y, .int .u64 d] w (Ret (.tuple #[.int .u64 i, .int .u64 m]) w))) (w : World) : Calls Try.prog 76 #[.int .i64 a, .int .i64 b, .int .i64 c, .int .i64 d] w (Ret (.int .i64 (-1)) w) := by
  subst hl
  have g1 : ¬ l < m := by omega
  go_enter Try.func76, Try.ntmps76
  go_wp2_with fail
  refine (K1.out _).mono ?_; rintro e w1 ⟨rfl, hb1⟩
  have hB1 : Below w.heap.size w w1 := Below.next (by go_grown) hb1
  have hS1 := hB1.size
  clear hb1
  go_wp2_with fail
  refine (K3.out _).mono ?_; rintro e w2 ⟨rfl, hb2⟩
  have hB2 : Below w.heap.size w w2 := Below.next (by go_grown) hb2
  have hS2 := hB2.size
  clear hb2
  go_wp2_with fail
  refine (K2.out _).mono ?_; rintro e w3 ⟨rfl, hb3⟩
  have hB3 : Below w.heap.size w w3 := Below.next (by go_grown) hb3
  have hS3 := hB3.size
  clear hb3
  go_wp2_with fail
  refine (K4.out _).mono ?_; rintro e w4 ⟨rfl, hb4⟩
  have hB4 : Below w.heap.size w w4 := Below.next (by go_grown) hb4
  have hS4 := hB4.size
  clear hb4
  go_wp2_with fail
  go_ret
  exact ret_of rfl hB4

set_option maxRecDepth 100000 in
set_option maxHeartbeats 1600000 in
theorem r20cmp_ne (a b c d X Y h l i m : Int) (hb : 0 ≤ b ∧ b ≤ 9223372036854775807) (hd : 0 ≤ d ∧ d ≤ 9223372036854775807) (h1 : a < 0) (h2 : ¬ 0 ≤ c) (hl : i < h) (K1 : Hid (∀ w, Calls Try.prog 64 #[.int .i64 a] w (Ret (.int .u64 X) w))) (K2 : Hid (∀ w, Calls Try.prog 64 #[.int .i64 c] w (Ret (.int .u64 Y) w))) (K3 : Hid (∀ w, Calls Try.prog 63 #[.int .u64 X, .int .u64 b] w (Ret (.tuple #[.int .u64 h, .int .u64 l]) w))) (K4 : Hid (∀ w, Calls Try.prog 63 #[.int .u64 Y, .int .u64 d] w (Ret (.tuple #[.int .u64 i, .int .u64 m]) w))) (w : World) : Calls Try.prog 76 #[.int .i64 a, .int .i64 b, .int .i64 c, .int .i64 d] w (Ret (.int .i64 (-1)) w) := by
  have g1 : ¬ h < i := by omega
  have g2 : ¬ h = i := by omega
  go_enter Try.func76, Try.ntmps76
  go_wp2_with fail
  refine (K1.out _).mono ?_; rintro e w1 ⟨rfl, hb1⟩
  have hB1 : Below w.heap.size w w1 := Below.next (by go_grown) hb1
  have hS1 := hB1.size
  clear hb1
  go_wp2_with fail
  refine (K3.out _).mono ?_; rintro e w2 ⟨rfl, hb2⟩
  have hB2 : Below w.heap.size w w2 := Below.next (by go_grown) hb2
  have hS2 := hB2.size
  clear hb2
  go_wp2_with fail
  refine (K2.out _).mono ?_; rintro e w3 ⟨rfl, hb3⟩
  have hB3 : Below w.heap.size w w3 := Below.next (by go_grown) hb3
  have hS3 := hB3.size
  clear hb3
  go_wp2_with fail
  refine (K4.out _).mono ?_; rintro e w4 ⟨rfl, hb4⟩
  have hB4 : Below w.heap.size w w4 := Below.next (by go_grown) hb4
  have hS4 := hB4.size
  clear hb4
  go_wp2_with fail
  go_ret
  exact ret_of rfl hB4

set_option maxRecDepth 100000 in
set_option maxHeartbeats 1600000 in
theorem r20cmp_pa (a b c d X Y h l i m : Int) (hb : 0 ≤ b ∧ b ≤ 9223372036854775807) (hd : 0 ≤ d ∧ d ≤ 9223372036854775807) (h1 : ¬ a < 0) (h2 : ¬ c < 0) (hl : h < i) (K1 : Hid (∀ w, Calls Try.prog 64 #[.int .i64 a] w (Ret (.int .u64 X) w))) (K2 : Hid (∀ w, Calls Try.prog 64 #[.int .i64 c] w (Ret (.int .u64 Y) w))) (K3 : Hid (∀ w, Calls Try.prog 63 #[.int .u64 X, .int .u64 b] w (Ret (.tuple #[.int .u64 h, .int .u64 l]) w))) (K4 : Hid (∀ w, Calls Try.prog 63 #[.int .u64 Y, .int .u64 d] w (Ret (.tuple #[.int .u64 i, .int .u64 m]) w))) (w : World) : Calls Try.prog 76 #[.int .i64 a, .int .i64 b, .int .i64 c, .int .i64 d] w (Ret (.int .i64 (-1)) w) := by
  have g1 : ¬ i < h := by omega
  have g2 : ¬ h = i := by omega
  go_enter Try.func76, Try.ntmps76
  go_wp2_with fail
  refine (K1.out _).mono ?_; rintro e w1 ⟨rfl, hb1⟩
  have hB1 : Below w.heap.size w w1 := Below.next (by go_grown) hb1
  have hS1 := hB1.size
  clear hb1
  go_wp2_with fail
  refine (K3.out _).mono ?_; rintro e w2 ⟨rfl, hb2⟩
  have hB2 : Below w.heap.size w w2 := Below.next (by go_grown) hb2
  have hS2 := hB2.size
  clear hb2
  go_wp2_with fail
  refine (K2.out _).mono ?_; rintro e w3 ⟨rfl, hb3⟩
  have hB3 : Below w.heap.size w w3 := Below.next (by go_grown) hb3
  have hS3 := hB3.size
  clear hb3
  go_wp2_with fail
  refine (K4.out _).mono ?_; rintro e w4 ⟨rfl, hb4⟩
  have hB4 : Below w.heap.size w w4 := Below.next (by go_grown) hb4
  have hS4 := hB4.size
  clear hb4
  go_wp2_with fail
  go_ret
  exact ret_of rfl hB4

set_option maxRecDepth 100000 in
set_option maxHeartbeats 1600000 in
theorem r20cmp_pb (a b c d X Y h l i m : Int) (hb : 0 ≤ b ∧ b ≤ 9223372036854775807) (hd : 0 ≤ d ∧ d ≤ 9223372036854775807) (h1 : ¬ a < 0) (h2 : ¬ c < 0) (hl : h = i) (hm : l < m) (K1 : Hid (∀ w, Calls Try.prog 64 #[.int .i64 a] w (Ret (.int .u64 X) w))) (K2 : Hid (∀ w, Calls Try.prog 64 #[.int .i64 c] w (Ret (.int .u64 Y) w))) (K3 : Hid (∀ w, Calls Try.prog 63 #[.int .u64 X, .int .u64 b] w (Ret (.tuple #[.int .u64 h, .int .u64 l]) w))) (K4 : Hid (∀ w, Calls Try.prog 63 #[.int .u64 Y, .int .u64 d] w (Ret (.tuple #[.int .u64 i, .int .u64 m]) w))) (w : World) : Calls Try.prog 76 #[.int .i64 a, .int .i64 b, .int .i64 c, .int .i64 d] w (Ret (.int .i64 (-1)) w) := by
  subst hl
  have g1 : ¬ m < l := by omega
  go_enter Try.func76, Try.ntmps76
  go_wp2_with fail
  refine (K1.out _).mono ?_; rintro e w1 ⟨rfl, hb1⟩
  have hB1 : Below w.heap.size w w1 := Below.next (by go_grown) hb1
  have hS1 := hB1.size
  clear hb1
  go_wp2_with fail
  refine (K3.out _).mono ?_; rintro e w2 ⟨rfl, hb2⟩
  have hB2 : Below w.heap.size w w2 := Below.next (by go_grown) hb2
  have hS2 := hB2.size
  clear hb2
  go_wp2_with fail
  refine (K2.out _).mono ?_; rintro e w3 ⟨rfl, hb3⟩
  have hB3 : Below w.heap.size w w3 := Below.next (by go_grown) hb3
  have hS3 := hB3.size
  clear hb3
  go_wp2_with fail
  refine (K4.out _).mono ?_; rintro e w4 ⟨rfl, hb4⟩
  have hB4 : Below w.heap.size w w4 := Below.next (by go_grown) hb4
  have hS4 := hB4.size
  clear hb4
  go_wp2_with fail
  go_ret
  exact ret_of rfl hB4

set_option maxRecDepth 100000 in
set_option maxHeartbeats 1600000 in
theorem r20cmp_pc (a b c d X Y h l i m : Int) (hb : 0 ≤ b ∧ b ≤ 9223372036854775807) (hd : 0 ≤ d ∧ d ≤ 9223372036854775807) (h1 : ¬ a < 0) (h2 : ¬ c < 0) (hl : h = i) (hm : l = m) (K1 : Hid (∀ w, Calls Try.prog 64 #[.int .i64 a] w (Ret (.int .u64 X) w))) (K2 : Hid (∀ w, Calls Try.prog 64 #[.int .i64 c] w (Ret (.int .u64 Y) w))) (K3 : Hid (∀ w, Calls Try.prog 63 #[.int .u64 X, .int .u64 b] w (Ret (.tuple #[.int .u64 h, .int .u64 l]) w))) (K4 : Hid (∀ w, Calls Try.prog 63 #[.int .u64 Y, .int .u64 d] w (Ret (.tuple #[.int .u64 i, .int .u64 m]) w))) (w : World) : Calls Try.prog 76 #[.int .i64 a, .int .i64 b, .int .i64 c, .int .i64 d] w (Ret (.int .i64 (0)) w) := by
  subst hl hm
  go_enter Try.func76, Try.ntmps76
  go_wp2_with fail
  refine (K1.out _).mono ?_; rintro e w1 ⟨rfl, hb1⟩
  have hB1 : Below w.heap.size w w1 := Below.next (by go_grown) hb1
  have hS1 := hB1.size
  clear hb1
  go_wp2_with fail
  refine (K3.out _).mono ?_; rintro e w2 ⟨rfl, hb2⟩
  have hB2 : Below w.heap.size w w2 := Below.next (by go_grown) hb2
  have hS2 := hB2.size
  clear hb2
  go_wp2_with fail
  refine (K2.out _).mono ?_; rintro e w3 ⟨rfl, hb3⟩
  have hB3 : Below w.heap.size w w3 := Below.next (by go_grown) hb3
  have hS3 := hB3.size
  clear hb3
  go_wp2_with fail
  refine (K4.out _).mono ?_; rintro e w4 ⟨rfl, hb4⟩
  have hB4 : Below w.heap.size w w4 := Below.next (by go_grown) hb4
  have hS4 := hB4.size
  clear hb4
  go_wp2_with fail
  go_ret
  exact ret_of rfl hB4

set_option maxRecDepth 100000 in
set_option maxHeartbeats 1600000 in
theorem r20cmp_pd (a b c d X Y h l i m : Int) (hb : 0 ≤ b ∧ b ≤ 9223372036854775807) (hd : 0 ≤ d ∧ d ≤ 9223372036854775807) (h1 : ¬ a < 0) (h2 : ¬ c < 0) (hl : h = i) (hm : m < l) (K1 : Hid (∀ w, Calls Try.prog 64 #[.int .i64 a] w (Ret (.int .u64 X) w))) (K2 : Hid (∀ w, Calls Try.prog 64 #[.int .i64 c] w (Ret (.int .u64 Y) w))) (K3 : Hid (∀ w, Calls Try.prog 63 #[.int .u64 X, .int .u64 b] w (Ret (.tuple #[.int .u64 h, .int .u64 l]) w))) (K4 : Hid (∀ w, Calls Try.prog 63 #[.int .u64 Y, .int .u64 d] w (Ret (.tuple #[.int .u64 i, .int .u64 m]) w))) (w : World) : Calls Try.prog 76 #[.int .i64 a, .int .i64 b, .int .i64 c, .int .i64 d] w (Ret (.int .i64 (1)) w) := by
  subst hl
  have g1 : ¬ l < m := by omega
  go_enter Try.func76, Try.ntmps76
  go_wp2_with fail
  refine (K1.out _).mono ?_; rintro e w1 ⟨rfl, hb1⟩
  have hB1 : Below w.heap.size w w1 := Below.next (by go_grown) hb1
  have hS1 := hB1.size
  clear hb1
  go_wp2_with fail
  refine (K3.out _).mono ?_; rintro e w2 ⟨rfl, hb2⟩
  have hB2 : Below w.heap.size w w2 := Below.next (by go_grown) hb2
  have hS2 := hB2.size
  clear hb2
  go_wp2_with fail
  refine (K2.out _).mono ?_; rintro e w3 ⟨rfl, hb3⟩
  have hB3 : Below w.heap.size w w3 := Below.next (by go_grown) hb3
  have hS3 := hB3.size
  clear hb3
  go_wp2_with fail
  refine (K4.out _).mono ?_; rintro e w4 ⟨rfl, hb4⟩
  have hB4 : Below w.heap.size w w4 := Below.next (by go_grown) hb4
  have hS4 := hB4.size
  clear hb4
  go_wp2_with fail
  go_ret
  exact ret_of rfl hB4

set_option maxRecDepth 100000 in
set_option maxHeartbeats 1600000 in
theorem r20cmp_pe (a b c d X Y h l i m : Int) (hb : 0 ≤ b ∧ b ≤ 9223372036854775807) (hd : 0 ≤ d ∧ d ≤ 9223372036854775807) (h1 : ¬ a < 0) (h2 : ¬ c < 0) (hl : i < h) (K1 : Hid (∀ w, Calls Try.prog 64 #[.int .i64 a] w (Ret (.int .u64 X) w))) (K2 : Hid (∀ w, Calls Try.prog 64 #[.int .i64 c] w (Ret (.int .u64 Y) w))) (K3 : Hid (∀ w, Calls Try.prog 63 #[.int .u64 X, .int .u64 b] w (Ret (.tuple #[.int .u64 h, .int .u64 l]) w))) (K4 : Hid (∀ w, Calls Try.prog 63 #[.int .u64 Y, .int .u64 d] w (Ret (.tuple #[.int .u64 i, .int .u64 m]) w))) (w : World) : Calls Try.prog 76 #[.int .i64 a, .int .i64 b, .int .i64 c, .int .i64 d] w (Ret (.int .i64 (1)) w) := by
  have g1 : ¬ h < i := by omega
  have g2 : ¬ h = i := by omega
  go_enter Try.func76, Try.ntmps76
  go_wp2_with fail
  refine (K1.out _).mono ?_; rintro e w1 ⟨rfl, hb1⟩
  have hB1 : Below w.heap.size w w1 := Below.next (by go_grown) hb1
  have hS1 := hB1.size
  clear hb1
  go_wp2_with fail
  refine (K3.out _).mono ?_; rintro e w2 ⟨rfl, hb2⟩
  have hB2 : Below w.heap.size w w2 := Below.next (by go_grown) hb2
  have hS2 := hB2.size
  clear hb2
  go_wp2_with fail
  refine (K2.out _).mono ?_; rintro e w3 ⟨rfl, hb3⟩
  have hB3 : Below w.heap.size w w3 := Below.next (by go_grown) hb3
  have hS3 := hB3.size
  clear hb3
  go_wp2_with fail
  refine (K4.out _).mono ?_; rintro e w4 ⟨rfl, hb4⟩
  have hB4 : Below w.heap.size w w4 := Below.next (by go_grown) hb4
  have hS4 := hB4.size
  clear hb4
  go_wp2_with fail
  go_ret
  exact ret_of rfl hB4

theorem cmp_hl (x y : Int) : (x < y ↔ (wHi x < wHi y ∨ (wHi x = wHi y ∧ wLo x < wLo y))) ∧ (x = y ↔ (wHi x = wHi y ∧ wLo x = wLo y)) := by unfold wHi wLo; omega
theorem r20cmp (a b c d : Int) (ha : InI a) (hb : InI b) (hc : InI c) (hd : InI d) (b0 : 0 < b) (d0 : 0 < d) (w : World) : Calls Try.prog 76 #[.int .i64 a, .int .i64 b, .int .i64 c, .int .i64 d] w (Ret (.int .i64 (cmpW (a * b) (c * d))) w) := by
  have hb' : 0 ≤ b ∧ b ≤ 9223372036854775807 := by unfold InI at hb; omega
  have hd' : 0 ≤ d ∧ d ≤ 9223372036854775807 := by unfold InI at hd; omega
  have ub : InU b := by unfold InU; omega
  have ud : InU d := by unfold InU; omega
  have k1 := Lib.hid (fun w => (rSize a ha w).mono fun _ _ h => h.ret)
  have k2 := Lib.hid (fun w => (rSize c hc w).mono fun _ _ h => h.ret)
  have k3 := Lib.hid (fun w => (mul64 (absU a) b (absU_InU ha) ub w).mono fun _ _ h => h.ret)
  have k4 := Lib.hid (fun w => (mul64 (absU c) d (absU_InU hc) ud w).mono fun _ _ h => h.ret)
  have hx := cmp_hl (absU a * b) (absU c * d)
  have hy := cmp_hl (absU c * d) (absU a * b)
  by_cases s1 : a < 0
  · have n1 := Int.mul_neg_of_neg_of_pos s1 b0
    by_cases s2 : 0 ≤ c
    · have n2 := Int.mul_nonneg s2 (Int.le_of_lt d0)
      rw [cmpW_lt (by omega)]
      exact r20cmp_lt a b c d s1 s2 w
    · have e1 : absU a * b = -(a * b) := by rw [absU_neg s1, Int.neg_mul]
      have e2 : absU c * d = -(c * d) := by rw [absU_neg (by omega), Int.neg_mul]
      rcases Int.lt_trichotomy (wHi (absU a * b)) (wHi (absU c * d)) with g | g | g
      · rw [cmpW_gt (by omega)]
        exact r20cmp_na a b c d _ _ _ _ _ _ hb' hd' s1 s2 g k1 k2 k3 k4 w
      · rcases Int.lt_trichotomy (wLo (absU a * b)) (wLo (absU c * d)) with q | q | q
        · rw [cmpW_gt (by omega)]
          exact r20cmp_nb a b c d _ _ _ _ _ _ hb' hd' s1 s2 g q k1 k2 k3 k4 w
        · rw [cmpW_eq (by omega)]
          exact r20cmp_nc a b c d _ _ _ _ _ _ hb' hd' s1 s2 g q k1 k2 k3 k4 w
        · rw [cmpW_lt (by omega)]
          exact r20cmp_nd a b c d _ _ _ _ _ _ hb' hd' s1 s2 g q k1 k2 k3 k4 w
      · rw [cmpW_lt (by omega)]
        exact r20cmp_ne a b c d _ _ _ _ _ _ hb' hd' s1 s2 g k1 k2 k3 k4 w
  · have n1 := Int.mul_nonneg (show 0 ≤ a by omega) (Int.le_of_lt b0)
    by_cases s2 : c < 0
    · have n2 := Int.mul_neg_of_neg_of_pos s2 d0
      rw [cmpW_gt (by omega)]
      exact r20cmp_gt a b c d s1 s2 w
    · have e1 : absU a * b = a * b := by rw [absU_pos (by omega)]
      have e2 : absU c * d = c * d := by rw [absU_pos (by omega)]
      rcases Int.lt_trichotomy (wHi (absU a * b)) (wHi (absU c * d)) with g | g | g
      · rw [cmpW_lt (by omega)]
        exact r20cmp_pa a b c d _ _ _ _ _ _ hb' hd' s1 s2 g k1 k2 k3 k4 w
      · rcases Int.lt_trichotomy (wLo (absU a * b)) (wLo (absU c * d)) with q | q | q
        · rw [cmpW_lt (by omega)]
          exact r20cmp_pb a b c d _ _ _ _ _ _ hb' hd' s1 s2 g q k1 k2 k3 k4 w
        · rw [cmpW_eq (by omega)]
          exact r20cmp_pc a b c d _ _ _ _ _ _ hb' hd' s1 s2 g q k1 k2 k3 k4 w
        · rw [cmpW_gt (by omega)]
          exact r20cmp_pd a b c d _ _ _ _ _ _ hb' hd' s1 s2 g q k1 k2 k3 k4 w
      · rw [cmpW_gt (by omega)]
        exact r20cmp_pe a b c d _ _ _ _ _ _ hb' hd' s1 s2 g k1 k2 k3 k4 w

set_option maxRecDepth 100000 in
set_option maxHeartbeats 1600000 in
theorem r20Less_a (a b : M4) (k : Int) (h1 : ¬ 0 < a.2.1)  (w : World) : Calls Try.prog 46 #[.agg #[.int .i64 a.1, .int .i64 a.2.1, .int .i64 a.2.2.1, .int .i64 a.2.2.2], .agg #[.int .i64 b.1, .int .i64 b.2.1, .int .i64 b.2.2.1, .int .i64 b.2.2.2]] w (Ret (.bool false) w) := by
  go_enter Try.func46, Try.ntmps46
  go_wp2_with fail
  go_ret
  exact ret_of rfl (by go_grown)

set_option maxRecDepth 100000 in
set_option maxHeartbeats 1600000 in
theorem r20Less_b (a b : M4) (k : Int) (h1 : 0 < a.2.1) (h2 : ¬ 0 < b.2.1)  (w : World) : Calls Try.prog 46 #[.agg #[.int .i64 a.1, .int .i64 a.2.1, .int .i64 a.2.2.1, .int .i64 a.2.2.2], .agg #[.int .i64 b.1, .int .i64 b.2.1, .int .i64 b.2.2.1, .int .i64 b.2.2.2]] w (Ret (.bool false) w) := by
  go_enter Try.func46, Try.ntmps46
  go_wp2_with fail
  go_ret
  exact ret_of rfl (by go_grown)

set_option maxRecDepth 100000 in
set_option maxHeartbeats 1600000 in
theorem r20Less_c (a b : M4) (k : Int) (h1 : 0 < a.2.1) (h2 : 0 < b.2.1) (K1 : Hid (∀ w, Calls Try.prog 76 #[.int .i64 a.1, .int .i64 b.2.1, .int .i64 b.1, .int .i64 a.2.1] w (Ret (.int .i64 k) w))) (w : World) : Calls Try.prog 46 #[.agg #[.int .i64 a.1, .int .i64 a.2.1, .int .i64 a.2.2.1, .int .i64 a.2.2.2], .agg #[.int .i64 b.1, .int .i64 b.2.1, .int .i64 b.2.2.1, .int .i64 b.2.2.2]] w (Ret (.bool (decide (k < 0))) w) := by
  go_enter Try.func46, Try.ntmps46
  go_wp2_with fail
  refine (K1.out _).mono ?_; rintro e w1 ⟨rfl, hb1⟩
  have hB1 : Below w.heap.size w w1 := Below.next (by go_grown) hb1
  have hS1 := hB1.size
  clear hb1
  go_wp2_with fail
  go_ret
  exact ret_of rfl hB1

theorem r20Less (a b : M4) (ha : InM a) (hb : InM b) (w : World) : Calls Try.prog 46 #[VM a, VM b] w (Ret (.bool (mless a b)) w) := by
  unfold mless
  by_cases h1 : 0 < a.2.1
  · by_cases h2 : 0 < b.2.1
    · rw [decide_eq_true h1, decide_eq_true h2, Bool.true_and, Bool.true_and]
      have := r20Less_c a b (cmpW (a.1 * b.2.1) (b.1 * a.2.1)) h1 h2 (Lib.hid (r20cmp _ _ _ _ ha.1 hb.2.1 hb.1 ha.2.1 h2 h1)) w
      rwa [show decide (cmpW (a.1 * b.2.1) (b.1 * a.2.1) < 0) = decide (a.1 * b.2.1 < b.1 * a.2.1) from ?_] at this
      rcases Int.lt_trichotomy (a.1 * b.2.1) (b.1 * a.2.1) with g | g | g
      · rw [cmpW_lt g, decide_eq_true g]; rfl
      · rw [cmpW_eq g, decide_eq_false (p := a.1 * b.2.1 < b.1 * a.2.1) (by omega)]; rfl
      · rw [cmpW_gt g, decide_eq_false (p := a.1 * b.2.1 < b.1 * a.2.1) (by omega)]; rfl
    · rw [decide_eq_false h2, Bool.false_and, Bool.and_false]
      exact r20Less_b a b 0 h1 h2 w
  · rw [decide_eq_false h1, Bool.false_and]
    exact r20Less_a a b 0 h1 w

end Go.Proofs.Ytbfgmedjogjkeaa
