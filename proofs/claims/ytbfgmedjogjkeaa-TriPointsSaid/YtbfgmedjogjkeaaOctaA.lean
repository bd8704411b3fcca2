/- Walks: octa.abs, May, fold, Decode, Pick, Dot, Facing. -/
import Derived.Test.YtbfgmedjogjkeaaOctaM
import Derived.Test.YtbfgmedjogjkeaaVecD
import Derived.Test.YtbfgmedjogjkeaaFresh
namespace Go.Proofs.Ytbfgmedjogjkeaa
open Go.RowKit Go.Sort
set_option linter.unusedVariables false
set_option linter.unusedSimpArgs false

theorem oAbsN (n : Int) (h : n < 0) (hb : -9223372036854775807 ≤ n) (w : World) : Calls Try.prog 53 #[.int .i64 n] w (Same (.int .i64 (-n)) w) := by
  go_enter Try.func53, Try.ntmps53
  go_wp2
  go_ret
  exact same_of rfl
theorem oAbsP (n : Int) (h : 0 ≤ n) (w : World) : Calls Try.prog 53 #[.int .i64 n] w (Same (.int .i64 n) w) := by
  go_enter Try.func53, Try.ntmps53
  go_wp2
  go_ret
  exact same_of rfl
theorem oAbs (n : Int) (hb : -9223372036854775807 ≤ n) (w : World) : Calls Try.prog 53 #[.int .i64 n] w (Same (.int .i64 (oabs n)) w) := by
  by_cases h : n < 0
  · rw [oabs_neg h]; exact oAbsN n h hb w
  · rw [oabs_pos h]; exact oAbsP n (by omega) w

theorem r5AbsN (n : Int) (h : n < 0) (hb : -9223372036854775807 ≤ n) (w : World) : Calls Try.prog 54 #[.int .i64 n] w (Same (.int .i64 (-n)) w) := by
  go_enter Try.func54, Try.ntmps54
  go_wp2
  go_ret
  exact same_of rfl
theorem r5AbsP (n : Int) (h : 0 ≤ n) (w : World) : Calls Try.prog 54 #[.int .i64 n] w (Same (.int .i64 n) w) := by
  go_enter Try.func54, Try.ntmps54
  go_wp2
  go_ret
  exact same_of rfl
theorem r5Abs (n : Int) (hb : -9223372036854775807 ≤ n) (w : World) : Calls Try.prog 54 #[.int .i64 n] w (Same (.int .i64 (oabs n)) w) := by
  by_cases h : n < 0
  · rw [oabs_neg h]; exact r5AbsN n h hb w
  · rw [oabs_pos h]; exact r5AbsP n (by omega) w

set_option maxRecDepth 100000 in
set_option maxHeartbeats 1600000 in
theorem oMay_x (x y z : Int) (hx : InI x) (hy : InI y) (hz : InI z) (h : x ≠ 0) (w : World) : Calls Try.prog 18 #[V3 x y z] w (Ret (.bool (mayB (x, y, z))) w) := by
  have e0 : (x == 0) = false := beq_eq_false_iff_ne.2 h
  have e2 := imax
  have e3 := imin
  go_enter Try.func18, Try.ntmps18
  go_wp2
  all_goals
    go_ret
    exact ret_of (vbool (by
      clear e0 e2 e3
      unfold mayB
      rw [Bool.eq_iff_iff]
      simp only [Bool.and_eq_true, decide_eq_true_eq, Bool.false_eq_true, false_iff]
      omega)) (by go_grown)

set_option maxRecDepth 100000 in
set_option maxHeartbeats 1600000 in
theorem oMay_y (y z : Int) (hy : InI y) (hz : InI z) (h : y ≠ 0) (w : World) : Calls Try.prog 18 #[V3 0 y z] w (Ret (.bool (mayB (0, y, z))) w) := by
  have e0 : (y == 0) = false := beq_eq_false_iff_ne.2 h
  have e2 := imax
  have e3 := imin
  go_enter Try.func18, Try.ntmps18
  go_wp2
  all_goals
    go_ret
    exact ret_of (vbool (by
      clear e0 e2 e3
      unfold mayB
      rw [Bool.eq_iff_iff]
      simp only [Bool.and_eq_true, decide_eq_true_eq, Bool.false_eq_true, false_iff]
      omega)) (by go_grown)

set_option maxRecDepth 100000 in
set_option maxHeartbeats 1600000 in
theorem oMay_z (z : Int) (hz : InI z) (h : z ≠ 0) (w : World) : Calls Try.prog 18 #[V3 0 0 z] w (Ret (.bool (mayB (0, 0, z))) w) := by
  have e0 : (z == 0) = false := beq_eq_false_iff_ne.2 h
  have e2 := imax
  have e3 := imin
  go_enter Try.func18, Try.ntmps18
  go_wp2
  all_goals
    go_ret
    exact ret_of (vbool (by
      clear e0 e2 e3
      unfold mayB
      rw [Bool.eq_iff_iff]
      simp only [Bool.and_eq_true, decide_eq_true_eq, Bool.false_eq_true, false_iff]
      omega)) (by go_grown)

theorem oMay (x y z : Int) (hx : InI x) (hy : InI y) (hz : InI z) (w : World) : Calls Try.prog 18 #[V3 x y z] w (Ret (.bool (mayB (x, y, z))) w) := by
  by_cases h0 : x = 0
  · subst h0
    by_cases h1 : y = 0
    · subst h1
      by_cases h2 : z = 0
      · subst h2
        go_enter Try.func18, Try.ntmps18
        go_wp2
        go_ret
        exact ret_of rfl (by go_grown)
      · exact oMay_z z hz h2 w
    · exact oMay_y y z hy hz h1 w
  · exact oMay_x x y z hx hy hz h0 w

theorem oWithN (n b : Int) (h : b < 0) (hn : -9223372036854775807 ≤ n ∧ n ≤ 9223372036854775807) (w : World) : Calls Try.prog 78 #[.int .i64 n, .int .i64 b] w (Same (.int .i64 (osg b n)) w) := by
  have HK : Hid (-n = osg b n) := Lib.hid (by unfold osg; rw [if_pos h])
  go_enter Try.func78, Try.ntmps78
  go_wp2
  go_ret
  exact same_of (vint HK.out)
theorem oWithP (n b : Int) (h : 0 ≤ b) (w : World) : Calls Try.prog 78 #[.int .i64 n, .int .i64 b] w (Same (.int .i64 (osg b n)) w) := by
  have HK : Hid (n = osg b n) := Lib.hid (by unfold osg; rw [if_neg (by omega)])
  go_enter Try.func78, Try.ntmps78
  go_wp2
  go_ret
  exact same_of (vint HK.out)
theorem oWith (n b : Int) (hn : -9223372036854775807 ≤ n ∧ n ≤ 9223372036854775807) (w : World) : Calls Try.prog 78 #[.int .i64 n, .int .i64 b] w (Same (.int .i64 (osg b n)) w) := by
  by_cases h : b < 0
  · exact oWithN n b h hn w
  · exact oWithP n b (by omega) w
theorem oFold (a b : Int) (ha : -16384 ≤ a ∧ a ≤ 16384) (hb : -16384 ≤ b ∧ b ≤ 16384) (w : World) : Calls Try.prog 57 #[.int .i64 a, .int .i64 b] w (Same (.tuple #[.int .i64 (osg a (16384 - oabs b)), .int .i64 (osg b (16384 - oabs a))]) w) := by
  have h1 := oabs_bd ha
  have h2 := oabs_bd hb
  go_enter Try.func57, Try.ntmps57
  go_wp2_with (first
    | (go_at_call 53; refine (oAbs _ (by omega) _).mono ?_; rintro e w9 ⟨rfl, rfl⟩)
    | (go_at_call 78; refine (oWith _ _ (by omega) _).mono ?_; rintro e w9 ⟨rfl, rfl⟩))
  go_ret2
  exact same_of rfl
theorem oDec1 (c : Int) (hc : 0 ≤ c ∧ c ≤ 65535) (w : World) : Calls Try.prog 56 #[.int .u32 c] w (Same (.int .i64 (min c 32768 - 16384)) w) := by
  go_enter Try.func56, Try.ntmps56
  go_wp2
  go_ret
  exact same_of rfl

set_option maxRecDepth 100000 in
set_option maxHeartbeats 1600000 in
theorem oDec (c : Int) (hc : 0 ≤ c ∧ c ≤ 4294967295) (w : World) : Calls Try.prog 21 #[.int .u32 c] w (Ret (V3 (dec c).1 (dec c).2.1 (dec c).2.2) w) := by
  have e1 := u32_low16 c
  have HA := Lib.hid (show min (c / 65536) 32768 - 16384 = decA c from rfl)
  have HB := Lib.hid (show min (c % 65536) 32768 - 16384 = decB c from rfl)
  have ha : -16384 ≤ decA c ∧ decA c ≤ 16384 := by unfold decA; omega
  have hb : -16384 ≤ decB c ∧ decB c ≤ 16384 := by unfold decB; omega
  have h1 := oabs_bd ha
  have h2 := oabs_bd hb
  have HD : Hid (dec c = decP (decA c) (decB c)) := Lib.hid rfl
  generalize decA c = a at *
  generalize decB c = b at *
  rw [HD.out]
  by_cases hz : 16384 - oabs a - oabs b < 0
  · have HK : Hid (decP a b = (osg a (16384 - oabs b), osg b (16384 - oabs a), 16384 - oabs a - oabs b)) := Lib.hid (by unfold decP; rw [if_pos hz])
    rw [HK.out]
    go_enter Try.func21, Try.ntmps21
    go_wp2_with fail
    refine (oDec1 _ (by omega) _).mono ?_; rintro e w9 ⟨rfl, rfl⟩
    rw [HA.out]
    go_wp2_with fail
    refine (oDec1 _ (by omega) _).mono ?_; rintro e w9 ⟨rfl, rfl⟩
    rw [HB.out]
    go_wp2_with (first
      | (go_at_call 53; refine (oAbs _ (by omega) _).mono ?_; rintro e w9 ⟨rfl, rfl⟩)
      | (go_at_call 57; refine (oFold _ _ ha hb _).mono ?_; rintro e w9 ⟨rfl, rfl⟩))
    exact bodyPost_ret (v := V3 (osg a (16384 - oabs b)) (osg b (16384 - oabs a)) (16384 - oabs a - oabs b)) (by simp (maxDischargeDepth := 9) [results, Try.results21, go_sem]) rfl ⟨rfl, by go_grown⟩
  · have HK : Hid (decP a b = (a, b, 16384 - oabs a - oabs b)) := Lib.hid (by unfold decP; rw [if_neg hz])
    rw [HK.out]
    go_enter Try.func21, Try.ntmps21
    go_wp2_with fail
    refine (oDec1 _ (by omega) _).mono ?_; rintro e w9 ⟨rfl, rfl⟩
    rw [HA.out]
    go_wp2_with fail
    refine (oDec1 _ (by omega) _).mono ?_; rintro e w9 ⟨rfl, rfl⟩
    rw [HB.out]
    go_wp2_with (go_at_call 53; refine (oAbs _ (by omega) _).mono ?_; rintro e w9 ⟨rfl, rfl⟩)
    exact bodyPost_ret (v := V3 a b (16384 - oabs a - oabs b)) (by simp (maxDischargeDepth := 9) [results, Try.results21, go_sem]) rfl ⟨rfl, by go_grown⟩

end Go.Proofs.Ytbfgmedjogjkeaa
