/- Walks: fix.Div, Sqrt, Clamp. -/
import Derived.Test.YtenefncpokdmnaaFixA
import Derived.Test.YtenefncpokdmnaaWalkG
import Derived.Test.YtenefncpokdmnaaWalkH
namespace Go.Proofs.Ytenefncpokdmnaa
open Go.RowKit
set_option linter.unusedVariables false
set_option linter.unusedSimpArgs false

theorem one_I : InI 4294967296 := by unfold InI; omega
set_option maxHeartbeats 800000 in
theorem fDiv (a b : Int) (ha : InI a) (hb : InI b) (w : World) : Calls Try.prog 22 #[.int .i64 a, .int .i64 b] w (Ret (.int .i64 (fdiv a b)) w) := by
  by_cases h0 : b = 0
  · subst h0
    by_cases h1 : 0 < a
    · have HK : Hid (fdiv a 0 = 9223372036854775807) := Lib.hid (by unfold fdiv; rw [if_pos rfl, if_pos h1])
      go_enter Try.func22, Try.ntmps22
      go_wp2_with fail
      go_ret
      exact ret_of (vint HK.out.symm) (Below.refl _ _)
    · by_cases h2 : a < 0
      · have HK : Hid (fdiv a 0 = -9223372036854775808) := Lib.hid (by unfold fdiv; rw [if_pos rfl, if_neg h1, if_pos h2])
        go_enter Try.func22, Try.ntmps22
        go_wp2_with fail
        go_ret
        exact ret_of (vint HK.out.symm) (Below.refl _ _)
      · have HK : Hid (fdiv a 0 = 0) := Lib.hid (by unfold fdiv; rw [if_pos rfl, if_neg h1, if_neg h2])
        go_enter Try.func22, Try.ntmps22
        go_wp2_with fail
        go_ret
        exact ret_of (vint HK.out.symm) (Below.refl _ _)
  · have e0 : (b == 0) = false := by rw [beq_eq_false_iff_ne]; exact h0
    have hok := divOk_mul ha one_I h0
    have HK : Hid (fdiv a b = clampI (divQ (a * 4294967296) b)) := Lib.hid (by unfold fdiv; rw [if_neg h0, divQ_ok hok])
    clear h0 hok
    go_enter Try.func22, Try.ntmps22
    go_wp2_with fail
    refine (wMul a 4294967296 ha one_I _).mono ?_; rintro e w1 ⟨rfl, hb1⟩
    obtain ⟨hB1, hS1⟩ : Below w.heap.size w w1 ∧ w.heap.size ≤ w1.heap.size := Below.step (by go_grown) hb1
    go_wp2_with fail
    refine (wDiv _ b (mul_InW ha one_I) hb _).mono ?_; rintro e w2 ⟨rfl, hb2⟩
    obtain ⟨hB2, hS2⟩ : Below w.heap.size w w2 ∧ w.heap.size ≤ w2.heap.size := Below.step (by go_grown) hb2
    go_wp2_with fail
    refine (fnear _ (divQ_in _ _) _).mono ?_; rintro e w3 ⟨rfl, hb3⟩
    obtain ⟨hB3, hS3⟩ : Below w.heap.size w w3 ∧ w.heap.size ≤ w3.heap.size := Below.step (by go_grown) hb3
    go_wp2_with fail
    go_ret
    exact ret_of (vint HK.out.symm) hB3

theorem sqrt_small {a : Int} (ha : InI a) (h0 : 0 ≤ a) : 0 ≤ sqN (a * 4294967296) ∧ sqN (a * 4294967296) ≤ 9223372036854775807 := by
  unfold InI at ha
  obtain ⟨⟨r0, r1, r2⟩, h1⟩ := sqN_root (x := a * 4294967296) (by omega) (by omega)
  refine ⟨r0, ?_⟩
  rcases ltge (sqN (a * 4294967296)) 9223372036854775808 with g | g
  · omega
  · have := sq_mono (a := 9223372036854775808) (by omega) g
    omega

set_option maxHeartbeats 800000 in
theorem fSqrt (a : Int) (ha : InI a) (w : World) : Calls Try.prog 24 #[.int .i64 a] w (Ret (.int .i64 (fsqrt a)) w) := by
  by_cases h : 0 < a
  · have HK : Hid (fsqrt a = sqN (a * 4294967296)) := Lib.hid (by unfold fsqrt; rw [if_pos h])
    obtain ⟨r0, r1⟩ := sqrt_small ha (by omega)
    have hm : max a 0 = a := by omega
    obtain ⟨r, hr⟩ : ∃ r, sqN (a * 4294967296) = r := ⟨_, rfl⟩
    rw [hr] at r0 r1 HK
    have HR := Lib.hid hr
    clear hr
    go_enter Try.func24, Try.ntmps24
    go_wp2_with fail
    refine (wMul a 4294967296 ha one_I _).mono ?_; rintro e w1 ⟨rfl, hb1⟩
    obtain ⟨hB1, hS1⟩ : Below w.heap.size w w1 ∧ w.heap.size ≤ w1.heap.size := Below.step (by go_grown) hb1
    go_wp2_with fail
    refine (wSqrt _ (mul_InW ha one_I) _).mono ?_; rintro e w2 ⟨rfl, hb2⟩
    rw [HR.out]
    obtain ⟨hB2, hS2⟩ : Below w.heap.size w w2 ∧ w.heap.size ≤ w2.heap.size := Below.step (by go_grown) hb2
    go_wp2_with fail
    go_ret
    exact ret_of (vint HK.out.symm) hB2
  · have HK : Hid (fsqrt a = sqN 0) := Lib.hid (by unfold fsqrt; rw [if_neg h, Int.zero_mul])
    obtain ⟨r0, r1⟩ := sqrt_small (a := 0) (by unfold InI; omega) (by omega)
    rw [Int.zero_mul] at r0 r1
    obtain ⟨r, hr⟩ : ∃ r, sqN 0 = r := ⟨_, rfl⟩
    rw [hr] at r0 r1 HK
    have HR := Lib.hid hr
    clear hr
    have hm : max a 0 = 0 := by omega
    go_enter Try.func24, Try.ntmps24
    go_wp2_with fail
    refine (wMul 0 4294967296 (by unfold InI; omega) one_I _).mono ?_; rintro e w1 ⟨rfl, hb1⟩
    rw [Int.zero_mul]
    obtain ⟨hB1, hS1⟩ : Below w.heap.size w w1 ∧ w.heap.size ≤ w1.heap.size := Below.step (by go_grown) hb1
    go_wp2_with fail
    refine (wSqrt 0 (by unfold InW; omega) _).mono ?_; rintro e w2 ⟨rfl, hb2⟩
    rw [HR.out]
    obtain ⟨hB2, hS2⟩ : Below w.heap.size w w2 ∧ w.heap.size ≤ w2.heap.size := Below.step (by go_grown) hb2
    go_wp2_with fail
    go_ret
    exact ret_of (vint HK.out.symm) hB2

theorem fClamp (x lo hi : Int) (w : World) : Calls Try.prog 48 #[.int .i64 x, .int .i64 lo, .int .i64 hi] w (Same (.int .i64 (fclamp x lo hi)) w) := by
  go_enter Try.func48, Try.ntmps48
  go_wp2_with fail
  go_ret
  exact same_of rfl

end Go.Proofs.Ytenefncpokdmnaa
