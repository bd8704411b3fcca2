/- Walks: the document's answer for layer 3: Dot, Cross, Most, Length. -/
import Derived.Test.YtjhnkpapbjkbcaaVecD
import Derived.Test.YtjhnkpapbjkbcaaRef3A
import Derived.Test.YtjhnkpapbjkbcaaRef2G
namespace Go.Proofs.Ytjhnkpapbjkbcaa
open Go.RowKit Go.Sort
set_option linter.unusedVariables false
set_option linter.unusedSimpArgs false

set_option maxRecDepth 100000 in
set_option maxHeartbeats 1600000 in
theorem r3Dot (a b : T3) (ha : InV a) (hb : InV b) (w : World) : Calls Try.prog 61 #[V3 a.1 a.2.1 a.2.2, V3 b.1 b.2.1 b.2.2] w (Ret (.int .i64 (vdot a b)) w) := by
  obtain ⟨h0, h1, h2⟩ := ha
  obtain ⟨g0, g1, g2⟩ := hb
  have HK : Hid (satAdd 0 (fmul a.1 b.1) = fmul a.1 b.1) := Lib.hid (satAdd_zero (fmul_I _ _))
  go_enter Try.func61, Try.ntmps61
  go_wp2_with fail
  refine (rTimes _ _ h0 g0 _).mono ?_; rintro e u1 ⟨rfl, rfl⟩
  go_wp2_with fail
  refine (rTwo 0 _ (by unfold InI; omega) (fmul_I _ _) _).mono ?_; rintro e u1 ⟨rfl, rfl⟩
  rw [HK.out]
  go_wp2_with fail
  refine (rTimes _ _ h1 g1 _).mono ?_; rintro e u1 ⟨rfl, rfl⟩
  go_wp2_with fail
  refine (rTwo _ _ (fmul_I _ _) (fmul_I _ _) _).mono ?_; rintro e u1 ⟨rfl, rfl⟩
  go_wp2_with fail
  refine (rTimes _ _ h2 g2 _).mono ?_; rintro e u1 ⟨rfl, rfl⟩
  go_wp2_with fail
  refine (rTwo _ _ (satAdd_I _ _) (fmul_I _ _) _).mono ?_; rintro e u1 ⟨rfl, rfl⟩
  go_wp2_with fail
  go_ret
  exact ret_of rfl (by go_grown)

def vcross (a b : T3) : T3 := (satSub (fmul a.2.1 b.2.2) (fmul a.2.2 b.2.1), satSub (fmul a.2.2 b.1) (fmul a.1 b.2.2), satSub (fmul a.1 b.2.1) (fmul a.2.1 b.1))
theorem vcross_I (a b : T3) : InV (vcross a b) := ⟨satSub_I _ _, satSub_I _ _, satSub_I _ _⟩

theorem r3size (x : Int) (hx : InI x) (w : World) : Calls Try.prog 99 #[.int .i64 x] w (Same (.int .i64 (fabs x)) w) := by
  by_cases h : x < 0
  · have HK : Hid (satSub 0 x = fabs x) := Lib.hid (by rw [fabs_val hx, if_pos h]; unfold InI at hx; unfold satSub clampI; split <;> (try split) <;> (try split) <;> omega)
    go_enter Try.func99, Try.ntmps99
    go_wp2_with fail
    refine (rSub 0 x (by unfold InI; omega) hx _).mono ?_; rintro e u1 ⟨rfl, rfl⟩
    rw [HK.out]
    go_wp2_with fail
    go_ret
    exact same_of rfl
  · have HK : Hid (fabs x = x) := Lib.hid (by rw [fabs_val hx, if_neg h])
    go_enter Try.func99, Try.ntmps99
    go_wp2_with fail
    go_ret
    exact same_of (vint HK.out.symm)

set_option maxRecDepth 100000 in
set_option maxHeartbeats 1600000 in
theorem r3Most_11 (a : T3) (ha : InV a) (x y z : Int) (hx : Hid (fabs a.1 = x)) (hy : Hid (fabs a.2.1 = y)) (hz : Hid (fabs a.2.2 = z)) (s1 : x < y) (s2 : y < z) (w : World) : Calls Try.prog 58 #[V3 a.1 a.2.1 a.2.2] w (Ret (.int .i64 z) w) := by
  obtain ⟨h0, h1, h2⟩ := ha
  go_enter Try.func58, Try.ntmps58
  go_wp2_with fail
  refine (r3size _ h0 _).mono ?_; rintro e u1 ⟨rfl, rfl⟩
  rw [hx.out]
  go_wp2_with fail
  refine (r3size _ h1 _).mono ?_; rintro e u1 ⟨rfl, rfl⟩
  rw [hy.out]
  go_wp2_with fail
  refine (r3size _ h1 _).mono ?_; rintro e u1 ⟨rfl, rfl⟩
  rw [hy.out]
  go_wp2_with fail
  refine (r3size _ h2 _).mono ?_; rintro e u1 ⟨rfl, rfl⟩
  rw [hz.out]
  go_wp2_with fail
  refine (r3size _ h2 _).mono ?_; rintro e u1 ⟨rfl, rfl⟩
  rw [hz.out]
  go_wp2_with fail
  go_ret
  exact ret_of rfl (by go_grown)

set_option maxRecDepth 100000 in
set_option maxHeartbeats 1600000 in
theorem r3Most_10 (a : T3) (ha : InV a) (x y z : Int) (hx : Hid (fabs a.1 = x)) (hy : Hid (fabs a.2.1 = y)) (hz : Hid (fabs a.2.2 = z)) (s1 : x < y) (s2 : ¬ y < z) (w : World) : Calls Try.prog 58 #[V3 a.1 a.2.1 a.2.2] w (Ret (.int .i64 y) w) := by
  obtain ⟨h0, h1, h2⟩ := ha
  go_enter Try.func58, Try.ntmps58
  go_wp2_with fail
  refine (r3size _ h0 _).mono ?_; rintro e u1 ⟨rfl, rfl⟩
  rw [hx.out]
  go_wp2_with fail
  refine (r3size _ h1 _).mono ?_; rintro e u1 ⟨rfl, rfl⟩
  rw [hy.out]
  go_wp2_with fail
  refine (r3size _ h1 _).mono ?_; rintro e u1 ⟨rfl, rfl⟩
  rw [hy.out]
  go_wp2_with fail
  refine (r3size _ h2 _).mono ?_; rintro e u1 ⟨rfl, rfl⟩
  rw [hz.out]
  go_wp2_with fail
  go_ret
  exact ret_of rfl (by go_grown)

set_option maxRecDepth 100000 in
set_option maxHeartbeats 1600000 in
theorem r3Most_01 (a : T3) (ha : InV a) (x y z : Int) (hx : Hid (fabs a.1 = x)) (hy : Hid (fabs a.2.1 = y)) (hz : Hid (fabs a.2.2 = z)) (s1 : ¬ x < y) (s2 : x < z) (w : World) : Calls Try.prog 58 #[V3 a.1 a.2.1 a.2.2] w (Ret (.int .i64 z) w) := by
  obtain ⟨h0, h1, h2⟩ := ha
  go_enter Try.func58, Try.ntmps58
  go_wp2_with fail
  refine (r3size _ h0 _).mono ?_; rintro e u1 ⟨rfl, rfl⟩
  rw [hx.out]
  go_wp2_with fail
  refine (r3size _ h1 _).mono ?_; rintro e u1 ⟨rfl, rfl⟩
  rw [hy.out]
  go_wp2_with fail
  refine (r3size _ h2 _).mono ?_; rintro e u1 ⟨rfl, rfl⟩
  rw [hz.out]
  go_wp2_with fail
  refine (r3size _ h2 _).mono ?_; rintro e u1 ⟨rfl, rfl⟩
  rw [hz.out]
  go_wp2_with fail
  go_ret
  exact ret_of rfl (by go_grown)

set_option maxRecDepth 100000 in
set_option maxHeartbeats 1600000 in
theorem r3Most_00 (a : T3) (ha : InV a) (x y z : Int) (hx : Hid (fabs a.1 = x)) (hy : Hid (fabs a.2.1 = y)) (hz : Hid (fabs a.2.2 = z)) (s1 : ¬ x < y) (s2 : ¬ x < z) (w : World) : Calls Try.prog 58 #[V3 a.1 a.2.1 a.2.2] w (Ret (.int .i64 x) w) := by
  obtain ⟨h0, h1, h2⟩ := ha
  go_enter Try.func58, Try.ntmps58
  go_wp2_with fail
  refine (r3size _ h0 _).mono ?_; rintro e u1 ⟨rfl, rfl⟩
  rw [hx.out]
  go_wp2_with fail
  refine (r3size _ h1 _).mono ?_; rintro e u1 ⟨rfl, rfl⟩
  rw [hy.out]
  go_wp2_with fail
  refine (r3size _ h2 _).mono ?_; rintro e u1 ⟨rfl, rfl⟩
  rw [hz.out]
  go_wp2_with fail
  go_ret
  exact ret_of rfl (by go_grown)

theorem r3Most (a : T3) (ha : InV a) (w : World) : Calls Try.prog 58 #[V3 a.1 a.2.1 a.2.2] w (Ret (.int .i64 (vmost a)) w) := by
  have e : vmost a = max (max (fabs a.1) (fabs a.2.1)) (fabs a.2.2) := rfl
  by_cases s1 : fabs a.1 < fabs a.2.1
  · have em : max (fabs a.1) (fabs a.2.1) = fabs a.2.1 := by omega
    rw [em] at e
    by_cases s2 : fabs a.2.1 < fabs a.2.2
    · rw [show vmost a = fabs a.2.2 by omega]; exact r3Most_11 a ha _ _ _ rfl rfl rfl s1 s2 w
    · rw [show vmost a = fabs a.2.1 by omega]; exact r3Most_10 a ha _ _ _ rfl rfl rfl s1 s2 w
  · have em : max (fabs a.1) (fabs a.2.1) = fabs a.1 := by omega
    rw [em] at e
    by_cases s2 : fabs a.1 < fabs a.2.2
    · rw [show vmost a = fabs a.2.2 by omega]; exact r3Most_01 a ha _ _ _ rfl rfl rfl s1 s2 w
    · rw [show vmost a = fabs a.1 by omega]; exact r3Most_00 a ha _ _ _ rfl rfl rfl s1 s2 w

theorem squares_num (A B C : Int) (hA : InU2 A) (hB : InU2 B) (hC : InU2 C) : ∃ L1 C1 H1 O1 L2 C2 H2 O2 : Int,
    (∀ w, (callFunc 95 #[.int .u64 (wLo A), .int .u64 (wLo B), .int .u64 0]).run Try.prog w = .ok (.value (.tuple #[.int .u64 L1, .int .u64 C1])) w) ∧
    (∀ w, (callFunc 95 #[.int .u64 (wHi A), .int .u64 (wHi B), .int .u64 C1]).run Try.prog w = .ok (.value (.tuple #[.int .u64 H1, .int .u64 O1])) w) ∧
    (∀ w, (callFunc 95 #[.int .u64 L1, .int .u64 (wLo C), .int .u64 0]).run Try.prog w = .ok (.value (.tuple #[.int .u64 L2, .int .u64 C2])) w) ∧
    (∀ w, (callFunc 95 #[.int .u64 H1, .int .u64 (wHi C), .int .u64 C2]).run Try.prog w = .ok (.value (.tuple #[.int .u64 H2, .int .u64 O2])) w) ∧
    0 ≤ O1 ∧ O1 ≤ 1 ∧ 0 ≤ O2 ∧ O2 ≤ 1 ∧ H2 = wHi ((A + B + C) % 340282366920938463463374607431768211456) ∧ L2 = wLo (A + B + C) ∧ (0 < O1 + O2 ↔ 340282366920938463463374607431768211456 ≤ A + B + C) := by
  have a1 := wLo_U A
  have b1 := wLo_U B
  have c1 := wLo_U C
  unfold InU at a1 b1 c1
  unfold InU2 at hA hB hC
  have a2 : 0 ≤ wHi A ∧ wHi A < 18446744073709551616 := by unfold wHi; omega
  have b2 : 0 ≤ wHi B ∧ wHi B < 18446744073709551616 := by unfold wHi; omega
  have c2 : 0 ≤ wHi C ∧ wHi C < 18446744073709551616 := by unfold wHi; omega
  obtain ⟨L1, eL1⟩ : ∃ L1, (wLo A + wLo B + 0) % 18446744073709551616 = L1 := ⟨_, rfl⟩
  obtain ⟨C1, eC1⟩ : ∃ C1, (wLo A + wLo B + 0) / 18446744073709551616 = C1 := ⟨_, rfl⟩
  obtain ⟨H1, eH1⟩ : ∃ H1, (wHi A + wHi B + C1) % 18446744073709551616 = H1 := ⟨_, rfl⟩
  obtain ⟨O1, eO1⟩ : ∃ O1, (wHi A + wHi B + C1) / 18446744073709551616 = O1 := ⟨_, rfl⟩
  obtain ⟨L2, eL2⟩ : ∃ L2, (L1 + wLo C + 0) % 18446744073709551616 = L2 := ⟨_, rfl⟩
  obtain ⟨C2, eC2⟩ : ∃ C2, (L1 + wLo C + 0) / 18446744073709551616 = C2 := ⟨_, rfl⟩
  obtain ⟨H2, eH2⟩ : ∃ H2, (H1 + wHi C + C2) % 18446744073709551616 = H2 := ⟨_, rfl⟩
  obtain ⟨O2, eO2⟩ : ∃ O2, (H1 + wHi C + C2) / 18446744073709551616 = O2 := ⟨_, rfl⟩
  refine ⟨L1, C1, H1, O1, L2, C2, H2, O2, ?_, ?_, ?_, ?_, ?_⟩
  · intro w; rw [add64 _ _ _ a1.1 b1.1 (by omega) (by omega), eL1, eC1]
  · intro w; rw [add64 _ _ _ a2.1 b2.1 (by omega) (by omega), eH1, eO1]
  · intro w; rw [add64 _ _ _ (by omega) c1.1 (by omega) (by omega), eL2, eC2]
  · intro w; rw [add64 _ _ _ (by omega) c2.1 (by omega) (by omega), eH2, eO2]
  · have sA := w_split A
    have sB := w_split B
    have sC := w_split C
    have d1 := Int.mul_ediv_add_emod (wLo A + wLo B + 0) 18446744073709551616
    have d2 := Int.mul_ediv_add_emod (wHi A + wHi B + C1) 18446744073709551616
    have d3 := Int.mul_ediv_add_emod (L1 + wLo C + 0) 18446744073709551616
    have d4 := Int.mul_ediv_add_emod (H1 + wHi C + C2) 18446744073709551616
    rw [eL1, eC1] at d1
    rw [eH1, eO1] at d2
    rw [eL2, eC2] at d3
    rw [eH2, eO2] at d4
    have hT : A + B + C = (O1 + O2) * 340282366920938463463374607431768211456 + H2 * 18446744073709551616 + L2 := by omega
    have l2 : 0 ≤ L2 ∧ L2 < 18446744073709551616 := by omega
    have m2 : 0 ≤ H2 ∧ H2 < 18446744073709551616 := by omega
    have n1 : 0 ≤ O1 ∧ O1 ≤ 1 := by omega
    have n2 : 0 ≤ O2 ∧ O2 ≤ 1 := by omega
    rw [hT]
    clear hT d1 d2 d3 d4 sA sB sC eL1 eC1 eH1 eO1 eL2 eC2 eH2 eO2 a1 b1 c1 a2 b2 c2 hA hB hC
    unfold wHi wLo
    omega

end Go.Proofs.Ytjhnkpapbjkbcaa
