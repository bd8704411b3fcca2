/- Walk: the law FixExact. -/
import Derived.Test.YtenefncpokdmnaaLaw2
import Derived.Test.YtenefncpokdmnaaFrame
namespace Go.Proofs.Ytenefncpokdmnaa
open Go.RowKit Go.Sort
set_option linter.unusedVariables false
set_option linter.unusedSimpArgs false

theorem fof_small {a : Int} (h0 : -2147483648 ≤ a) (h1 : a ≤ 2147483647) : fof a = a * 4294967296 := by
  unfold fof; exact clampI_in (by unfold InI; omega)
theorem fmul_whole (a b : Int) : fmul (a * 4294967296) (b * 4294967296) = fof (a * b) := by
  unfold fmul fof
  have : a * 4294967296 * (b * 4294967296) = a * b * 4294967296 * 4294967296 := by grind
  rw [this, Int.mul_ediv_cancel _ (by omega)]

set_option maxHeartbeats 1600000 in
theorem walkFixExact_ii (a b X Y P : Int) (ha0 : -2147483648 ≤ a) (ha1 : a ≤ 2147483647) (hb0 : -32768 ≤ b) (hb1 : b ≤ 32767) (HX : Hid (fof a = X)) (HY : Hid (fof b = Y)) (hX : InI X) (hY : InI Y)
    (HF : Hid (X / 4294967296 = a)) (HR : Hid (fround X = a)) (HA : Hid (satAdd X Y = X + Y)) (hXY0 : -9223372036854775808 ≤ X + Y) (hXY1 : X + Y ≤ 9223372036854775807) (hP2 : P < 2147483648) (hP3 : -2147483648 ≤ P) (HM : Hid (fmul X Y = fof P)) (eP : a * b = P) (hP0 : -70368744177664 ≤ P) (hP1 : P ≤ 70368744177664) (w : World) :
    Calls Try.prog 7 #[.int .i32 a, .int .i16 b] w (Ret (.bool true) w) := by
  go_enter Try.func7, Try.ntmps7
  go_wp2_with fail
  refine (fOf a (by unfold InI; omega) _).mono ?_; rintro e w1 ⟨rfl, hb1'⟩
  obtain ⟨hB1, hS1⟩ : Below w.heap.size w w1 ∧ w.heap.size ≤ w1.heap.size := Below.step (by go_grown) hb1'
  rw [HX.out]
  go_wp2_with fail
  refine (fOf b (by unfold InI; omega) _).mono ?_; rintro e w2 ⟨rfl, hb2⟩
  obtain ⟨hB2, hS2⟩ : Below w.heap.size w w2 ∧ w.heap.size ≤ w2.heap.size := Below.step (by go_grown) hb2
  rw [HY.out]
  go_wp2_with fail
  refine (fFloor X hX _).mono ?_; rintro e w3 ⟨rfl, rfl⟩
  rw [HF.out]
  go_wp2_with fail
  refine (fRound X hX _).mono ?_; rintro e w3 ⟨rfl, rfl⟩
  rw [HR.out]
  go_wp2_with fail
  refine (fAdd2 X Y hX hY _ _ _ (by first | go_cell | simp [go_sem]) (by first | go_cell | simp [go_sem])).mono ?_; rintro e w3 ⟨rfl, rfl⟩
  rw [HA.out]
  go_wp2_with fail
  refine (fMul2 X Y hX hY _ _ _ (by first | go_cell | simp [go_sem]) (by first | go_cell | simp [go_sem])).mono ?_; rintro e w4 ⟨rfl, hb4⟩
  obtain ⟨hB4, hS4⟩ : Below w.heap.size w w4 ∧ w.heap.size ≤ w4.heap.size := Below.step (by go_grown) hb4
  rw [HM.out]
  go_wp2_with fail
  refine (fOf P (by unfold InI; omega) _).mono ?_; rintro e w5 ⟨rfl, hb5⟩
  obtain ⟨hB5, hS5⟩ : Below w.heap.size w w5 ∧ w.heap.size ≤ w5.heap.size := Below.step (by go_grown) hb5
  go_wp2_with fail
  refine (works2 _).mono ?_; rintro e w9 ⟨rfl, hb9⟩
  obtain ⟨hB9, hS9⟩ : Below w.heap.size w w9 ∧ w.heap.size ≤ w9.heap.size := Below.step (by go_grown) hb9
  go_wp2_with fail
  go_ret
  exact ret_of rfl hB9

set_option maxHeartbeats 1600000 in
theorem walkFixExact_io (a b X Y P : Int) (ha0 : -2147483648 ≤ a) (ha1 : a ≤ 2147483647) (hb0 : -32768 ≤ b) (hb1 : b ≤ 32767) (HX : Hid (fof a = X)) (HY : Hid (fof b = Y)) (hX : InI X) (hY : InI Y)
    (HF : Hid (X / 4294967296 = a)) (HR : Hid (fround X = a)) (HA : Hid (satAdd X Y = X + Y)) (hXY0 : -9223372036854775808 ≤ X + Y) (hXY1 : X + Y ≤ 9223372036854775807) (hP2 : ¬ P < 2147483648 ∨ (P < 2147483648 ∧ ¬ -2147483648 ≤ P)) (eP : a * b = P) (hP0 : -70368744177664 ≤ P) (hP1 : P ≤ 70368744177664) (w : World) :
    Calls Try.prog 7 #[.int .i32 a, .int .i16 b] w (Ret (.bool true) w) := by
  rcases hP2 with hP2 | ⟨hP2, hP3⟩
  all_goals
    try (have g1 : decide (a + b < 2147483648) = false := by simp; omega)
    try (have g1 : decide (a + b < 2147483648) = true := by simp; omega)
    try (have g2 : decide (-2147483648 ≤ a + b) = false := by simp; omega)
    try (have g3 : decide (P < 2147483648) = false := by simp; omega)
    try (have g3 : decide (P < 2147483648) = true := by simp; omega)
    try (have g4 : decide (-2147483648 ≤ P) = false := by simp; omega)
    go_enter Try.func7, Try.ntmps7
    go_wp2_with fail
    refine (fOf a (by unfold InI; omega) _).mono ?_; rintro e w1 ⟨rfl, hb1'⟩
    obtain ⟨hB1, hS1⟩ : Below w.heap.size w w1 ∧ w.heap.size ≤ w1.heap.size := Below.step (by go_grown) hb1'
    rw [HX.out]
    go_wp2_with fail
    refine (fOf b (by unfold InI; omega) _).mono ?_; rintro e w2 ⟨rfl, hb2⟩
    obtain ⟨hB2, hS2⟩ : Below w.heap.size w w2 ∧ w.heap.size ≤ w2.heap.size := Below.step (by go_grown) hb2
    rw [HY.out]
    go_wp2_with fail
    refine (fFloor X hX _).mono ?_; rintro e w3 ⟨rfl, rfl⟩
    rw [HF.out]
    go_wp2_with fail
    refine (fRound X hX _).mono ?_; rintro e w3 ⟨rfl, rfl⟩
    rw [HR.out]
    go_wp2_with fail
    refine (fAdd2 X Y hX hY _ _ _ (by first | go_cell | simp [go_sem]) (by first | go_cell | simp [go_sem])).mono ?_; rintro e w3 ⟨rfl, rfl⟩
    rw [HA.out]
    go_wp2_with fail
    refine (works2 _).mono ?_; rintro e w9 ⟨rfl, hb9⟩
    obtain ⟨hB9, hS9⟩ : Below w.heap.size w w9 ∧ w.heap.size ≤ w9.heap.size := Below.step (by go_grown) hb9
    go_wp2_with fail
    go_ret
    exact ret_of rfl hB9

set_option maxHeartbeats 1600000 in
theorem walkFixExact_oi (a b X Y P : Int) (ha0 : -2147483648 ≤ a) (ha1 : a ≤ 2147483647) (hb0 : -32768 ≤ b) (hb1 : b ≤ 32767) (HX : Hid (fof a = X)) (HY : Hid (fof b = Y)) (hX : InI X) (hY : InI Y)
    (HF : Hid (X / 4294967296 = a)) (HR : Hid (fround X = a)) (D : Int) (hD : IntKind.i64.wrap (X + Y) = D) (hne : (satAdd X Y != D) = true) (hout : ¬ (a + b < 2147483648) ∨ (a + b < 2147483648 ∧ ¬ (-2147483648 ≤ a + b))) (hP2 : P < 2147483648) (hP3 : -2147483648 ≤ P) (HM : Hid (fmul X Y = fof P)) (eP : a * b = P) (hP0 : -70368744177664 ≤ P) (hP1 : P ≤ 70368744177664) (w : World) :
    Calls Try.prog 7 #[.int .i32 a, .int .i16 b] w (Ret (.bool true) w) := by
  rcases hout with ho | ⟨ho, ho2⟩
  all_goals
    try (have g1 : decide (a + b < 2147483648) = false := by simp; omega)
    try (have g1 : decide (a + b < 2147483648) = true := by simp; omega)
    try (have g2 : decide (-2147483648 ≤ a + b) = false := by simp; omega)
    try (have g3 : decide (P < 2147483648) = false := by simp; omega)
    try (have g3 : decide (P < 2147483648) = true := by simp; omega)
    try (have g4 : decide (-2147483648 ≤ P) = false := by simp; omega)
    go_enter Try.func7, Try.ntmps7
    go_wp2_with fail
    refine (fOf a (by unfold InI; omega) _).mono ?_; rintro e w1 ⟨rfl, hb1'⟩
    obtain ⟨hB1, hS1⟩ : Below w.heap.size w w1 ∧ w.heap.size ≤ w1.heap.size := Below.step (by go_grown) hb1'
    rw [HX.out]
    go_wp2_with fail
    refine (fOf b (by unfold InI; omega) _).mono ?_; rintro e w2 ⟨rfl, hb2⟩
    obtain ⟨hB2, hS2⟩ : Below w.heap.size w w2 ∧ w.heap.size ≤ w2.heap.size := Below.step (by go_grown) hb2
    rw [HY.out]
    go_wp2_with fail
    refine (fFloor X hX _).mono ?_; rintro e w3 ⟨rfl, rfl⟩
    rw [HF.out]
    go_wp2_with fail
    refine (fRound X hX _).mono ?_; rintro e w3 ⟨rfl, rfl⟩
    rw [HR.out]
    go_wp2_with fail
    refine (fAdd2 X Y hX hY _ _ _ (by first | go_cell | simp [go_sem]) (by first | go_cell | simp [go_sem])).mono ?_; rintro e w3 ⟨rfl, rfl⟩
    go_wp2_with fail
    refine (fMul2 X Y hX hY _ _ _ (by first | go_cell | simp [go_sem]) (by first | go_cell | simp [go_sem])).mono ?_; rintro e w4 ⟨rfl, hb4⟩
    obtain ⟨hB4, hS4⟩ : Below w.heap.size w w4 ∧ w.heap.size ≤ w4.heap.size := Below.step (by go_grown) hb4
    rw [HM.out]
    go_wp2_with fail
    refine (fOf P (by unfold InI; omega) _).mono ?_; rintro e w5 ⟨rfl, hb5⟩
    obtain ⟨hB5, hS5⟩ : Below w.heap.size w w5 ∧ w.heap.size ≤ w5.heap.size := Below.step (by go_grown) hb5
    go_wp2_with fail
    refine (works2 _).mono ?_; rintro e w9 ⟨rfl, hb9⟩
    obtain ⟨hB9, hS9⟩ : Below w.heap.size w w9 ∧ w.heap.size ≤ w9.heap.size := Below.step (by go_grown) hb9
    go_wp2_with fail
    go_ret
    exact ret_of rfl hB9

set_option maxHeartbeats 1600000 in
theorem walkFixExact_oo (a b X Y P : Int) (ha0 : -2147483648 ≤ a) (ha1 : a ≤ 2147483647) (hb0 : -32768 ≤ b) (hb1 : b ≤ 32767) (HX : Hid (fof a = X)) (HY : Hid (fof b = Y)) (hX : InI X) (hY : InI Y)
    (HF : Hid (X / 4294967296 = a)) (HR : Hid (fround X = a)) (D : Int) (hD : IntKind.i64.wrap (X + Y) = D) (hne : (satAdd X Y != D) = true) (hout : ¬ (a + b < 2147483648) ∨ (a + b < 2147483648 ∧ ¬ (-2147483648 ≤ a + b))) (hP2 : ¬ P < 2147483648 ∨ (P < 2147483648 ∧ ¬ -2147483648 ≤ P)) (eP : a * b = P) (hP0 : -70368744177664 ≤ P) (hP1 : P ≤ 70368744177664) (w : World) :
    Calls Try.prog 7 #[.int .i32 a, .int .i16 b] w (Ret (.bool true) w) := by
  rcases hout with ho | ⟨ho, ho2⟩ <;> rcases hP2 with hP2 | ⟨hP2, hP3⟩
  all_goals
    try (have g1 : decide (a + b < 2147483648) = false := by simp; omega)
    try (have g1 : decide (a + b < 2147483648) = true := by simp; omega)
    try (have g2 : decide (-2147483648 ≤ a + b) = false := by simp; omega)
    try (have g3 : decide (P < 2147483648) = false := by simp; omega)
    try (have g3 : decide (P < 2147483648) = true := by simp; omega)
    try (have g4 : decide (-2147483648 ≤ P) = false := by simp; omega)
    go_enter Try.func7, Try.ntmps7
    go_wp2_with fail
    refine (fOf a (by unfold InI; omega) _).mono ?_; rintro e w1 ⟨rfl, hb1'⟩
    obtain ⟨hB1, hS1⟩ : Below w.heap.size w w1 ∧ w.heap.size ≤ w1.heap.size := Below.step (by go_grown) hb1'
    rw [HX.out]
    go_wp2_with fail
    refine (fOf b (by unfold InI; omega) _).mono ?_; rintro e w2 ⟨rfl, hb2⟩
    obtain ⟨hB2, hS2⟩ : Below w.heap.size w w2 ∧ w.heap.size ≤ w2.heap.size := Below.step (by go_grown) hb2
    rw [HY.out]
    go_wp2_with fail
    refine (fFloor X hX _).mono ?_; rintro e w3 ⟨rfl, rfl⟩
    rw [HF.out]
    go_wp2_with fail
    refine (fRound X hX _).mono ?_; rintro e w3 ⟨rfl, rfl⟩
    rw [HR.out]
    go_wp2_with fail
    refine (fAdd2 X Y hX hY _ _ _ (by first | go_cell | simp [go_sem]) (by first | go_cell | simp [go_sem])).mono ?_; rintro e w3 ⟨rfl, rfl⟩
    go_wp2_with fail
    refine (works2 _).mono ?_; rintro e w9 ⟨rfl, hb9⟩
    obtain ⟨hB9, hS9⟩ : Below w.heap.size w w9 ∧ w.heap.size ≤ w9.heap.size := Below.step (by go_grown) hb9
    go_wp2_with fail
    go_ret
    exact ret_of rfl hB9

theorem mul_small {a b : Int} (ha0 : -2147483648 ≤ a) (ha1 : a ≤ 2147483647) (hb0 : -32768 ≤ b) (hb1 : b ≤ 32767) : -70368744177664 ≤ a * b ∧ a * b ≤ 70368744177664 := by
  have key : ∀ x y : Int, 0 ≤ x → x ≤ 2147483648 → 0 ≤ y → y ≤ 32768 → 0 ≤ x * y ∧ x * y ≤ 70368744177664 := by
    intro x y h1 h2 h3 h4
    have h5 := Int.mul_nonneg h1 h3
    have h6 := Int.mul_le_mul h2 h4 h3 (show (0 : Int) ≤ 2147483648 by omega)
    omega
  by_cases h1 : 0 ≤ a <;> by_cases h2 : 0 ≤ b
  · have := key a b h1 (by omega) h2 (by omega); omega
  · have := key a (-b) h1 (by omega) (by omega) (by omega); rw [Int.mul_neg] at this; omega
  · have := key (-a) b (by omega) (by omega) h2 (by omega); rw [Int.neg_mul] at this; omega
  · have := key (-a) (-b) (by omega) (by omega) (by omega) (by omega); rw [Int.neg_mul_neg] at this; omega

theorem lawFixExact (a : Int) (wa : (Lit.int .i32 a).wf = true) (b : Int) (wb : (Lit.int .i16 b).wf = true) (w : World) :
    Calls Try.prog 7 #[.int .i32 a, .int .i16 b] w (Ret (.bool true) w) := by
  obtain ⟨ha0, ha1⟩ := bounds_i32 wa
  obtain ⟨hb0, hb1⟩ := bounds_i16 wb
  have HX := fof_small ha0 ha1
  have HY := fof_small (a := b) (by omega) (by omega)
  obtain ⟨hP0, hP1⟩ := mul_small ha0 ha1 hb0 hb1
  have hX : InI (a * 4294967296) := by unfold InI; omega
  have hY : InI (b * 4294967296) := by unfold InI; omega
  have HF : a * 4294967296 / 4294967296 = a := by omega
  have HR : fround (a * 4294967296) = a := by unfold fround; omega
  have HM := fmul_whole a b
  by_cases h1 : a + b < 2147483648 ∧ -2147483648 ≤ a + b
  · have HA : satAdd (a * 4294967296) (b * 4294967296) = a * 4294967296 + b * 4294967296 := clampI_in (by unfold InI; omega)
    by_cases h2 : a * b < 2147483648 ∧ -2147483648 ≤ a * b
    · exact walkFixExact_ii a b _ _ _ ha0 ha1 hb0 hb1 HX HY hX hY HF HR HA (by omega) (by omega) h2.1 h2.2 HM rfl hP0 hP1 w
    · exact walkFixExact_io a b _ _ _ ha0 ha1 hb0 hb1 HX HY hX hY HF HR HA (by omega) (by omega) (by omega) rfl hP0 hP1 w
  · have hne : (satAdd (a * 4294967296) (b * 4294967296) != IntKind.i64.wrap (a * 4294967296 + b * 4294967296)) = true := by
      rw [bne_iff_ne, wrap_i64]
      unfold satAdd clampI wrap64
      split <;> (try split) <;> omega
    by_cases h2 : a * b < 2147483648 ∧ -2147483648 ≤ a * b
    · exact walkFixExact_oi a b _ _ _ ha0 ha1 hb0 hb1 HX HY hX hY HF HR _ rfl hne (by omega) h2.1 h2.2 HM rfl hP0 hP1 w
    · exact walkFixExact_oo a b _ _ _ ha0 ha1 hb0 hb1 HX HY hX hY HF HR _ rfl hne (by omega) (by omega) rfl hP0 hP1 w

end Go.Proofs.Ytenefncpokdmnaa
