/- Walks: wide.Mul, Neg, Cmp, Sign. -/
import Derived.Test.YtlpnklcnheafoaaWalkB
import Derived.Handy
namespace Go.Proofs.Ytlpnklcnheafoaa
open Go.RowKit
set_option linter.unusedVariables false
set_option linter.unusedSimpArgs false

theorem sgn_mul {a b : Int} (ha : InI a) (hb : InI b) : wrap128 (sgn (!decide (a < 0) == decide (b < 0)) (absU a * absU b)) = a * b := by
  by_cases h : (a < 0 ↔ b < 0)
  · have e : (!decide (a < 0) == decide (b < 0)) = false := by
      by_cases h1 : a < 0
      · have h2 := h.1 h1
        simp [h1, h2]
      · have h2 : ¬ b < 0 := fun x => h1 (h.2 x)
        simp [h1, h2]
    rw [e]
    exact mul_sg_pos ha hb h
  · have e : (!decide (a < 0) == decide (b < 0)) = true := by
      by_cases h1 : a < 0 <;> by_cases h2 : b < 0 <;> simp_all
    rw [e]
    exact mul_sg_neg ha hb h

set_option maxHeartbeats 400000 in
theorem wMul (a b : Int) (ha : InI a) (hb : InI b) (w : World) :
    Calls Try.prog 31 #[.int .i64 a, .int .i64 b] w (Ret (W (a * b)) w) := by
  have H := Lib.hid (sgn_mul ha hb)
  go_enter Try.func31, Try.ntmps31
  go_wp2_with fail
  refine (wsize a ha _).mono ?_; rintro e w1 ⟨rfl, rfl⟩
  go_wp2_with fail
  refine (wsize b hb _).mono ?_; rintro e w1 ⟨rfl, rfl⟩
  go_wp2_with fail
  refine (mul64 (absU a) (absU b) (absU_InU ha) (absU_InU hb) _).mono ?_; rintro e w1 ⟨rfl, rfl⟩
  go_wp2_with fail
  refine (wsigned (absU a * absU b) _ (absU_mul_U2 ha hb) _).mono ?_; rintro e w1 ⟨rfl, hb1⟩
  obtain ⟨hc1, hf1, hs1⟩ := bcell hb1
  have hz1 : w.heap.size < w1.heap.size := by simp at hs1; omega
  rw [H.out]
  go_wp2_with fail
  refine bodyPost_ret (v := W (a * b)) (by simp [results, Try.results31, go_sem, hc1, hz1]) rfl (ret_of rfl ?_)
  exact (((Below.next ((Below.refl _ _).alloc (Nat.le_refl _) _) hb1).setCell (by simp) _).setCell (by simp) _).alloc (by simp; omega) _

theorem neg_hi {x : Int} (h : InW x) (hn : x ≠ -170141183460469231731687303715884105728) : wrap64 (wHi (u128 (-x))) = wHi (-x) := by
  unfold InW wHi u128 wrap64 at *; omega
theorem neg_lo (x : Int) : wLo (u128 (-x)) = wLo (-x) := by unfold wLo u128; omega

set_option maxHeartbeats 400000 in
theorem wNeg (x : Int) (h : InW x) (w : World) :
    Calls Try.prog 33 #[W x] w (Ret (.tuple #[W (negN x), .bool (negOk x)]) w) := by
  have E1 := Lib.hid (u128_hi h)
  have E2 := Lib.hid (u128_lo x)
  by_cases hn : x = -170141183460469231731687303715884105728
  · have H1 := Lib.hid (negOk_false hn)
    have H2 := Lib.hid (negN_not H1.out)
    have e3 : wHi x < 0 := by unfold wHi; omega
    have e4 : wrap64 (wHi (u128 (-x))) < 0 := by rw [hn]; unfold wrap64 wHi u128; omega
    clear hn
    go_enter Try.func33, Try.ntmps33
    go_wp2_with fail
    rw [E1.out, E2.out]
    refine (wturned (u128 x) (u128_U2 x) _).mono ?_; rintro e w1 ⟨rfl, rfl⟩
    rw [neg_u128]
    go_wp2_with fail
    refine bodyPost_ret (v := .tuple #[W 0, .bool false]) (by simp [results, Try.results33, go_sem, wHi_zero, wLo_zero]) rfl (ret_of (by rw [H1.out, H2.out]) ?_)
    go_grown
  · have H1 := Lib.hid (negOk_true hn)
    have H2 := Lib.hid (negN_ok H1.out)
    have H3 := Lib.hid (neg_hi h hn)
    have e3 : wHi x < 0 → ¬ wHi (-x) < 0 := by unfold wHi; unfold InW at h; omega
    go_enter Try.func33, Try.ntmps33
    go_wp2_with fail
    rw [E1.out, E2.out]
    refine (wturned (u128 x) (u128_U2 x) _).mono ?_; rintro e w1 ⟨rfl, rfl⟩
    rw [neg_u128]
    have H4 := H3.out
    go_wp2_with fail
    all_goals
      refine bodyPost_ret (v := .tuple #[W (-x), .bool true]) (by simp [results, Try.results33, go_sem, neg_lo]) rfl (ret_of (by rw [H1.out, H2.out]) ?_)
      go_grown

set_option maxHeartbeats 400000 in
theorem wCmp (x y : Int) (h : InW x) (h2 : InW y) (w : World) :
    Calls Try.prog 22 #[W x, W y] w (Ret (.int .i64 (cmpW x y)) w) := by
  rcases Int.lt_trichotomy x y with hl | rfl | hl
  · have H := Lib.hid (cmpW_lt hl)
    rcases w_lt.1 hl with a | ⟨a, b⟩
    · have e1 : (wHi x == wHi y) = false := by rw [beq_eq_false_iff_ne]; omega
      clear hl
      go_enter Try.func22, Try.ntmps22
      go_wp2
      go_ret
      exact ret_of (vint H.out.symm) (by go_grown)
    · have e1 : (wHi x == wHi y) = true := by rw [beq_iff_eq]; omega
      have e2 : (wLo x == wLo y) = false := by rw [beq_eq_false_iff_ne]; omega
      have e3 : ¬ wHi x < wHi y := by omega
      clear hl a
      go_enter Try.func22, Try.ntmps22
      go_wp2
      go_ret
      exact ret_of (vint H.out.symm) (by go_grown)
  · have H := Lib.hid (cmpW_eq (rfl : x = x))
    go_enter Try.func22, Try.ntmps22
    go_wp2
    go_ret
    exact ret_of (vint H.out.symm) (by go_grown)
  · have H := Lib.hid (cmpW_gt hl)
    rcases w_lt.1 hl with a | ⟨a, b⟩
    · have e1 : (wHi x == wHi y) = false := by rw [beq_eq_false_iff_ne]; omega
      have e3 : ¬ wHi x < wHi y := by omega
      clear hl
      go_enter Try.func22, Try.ntmps22
      go_wp2
      go_ret
      exact ret_of (vint H.out.symm) (by go_grown)
    · have e1 : (wHi x == wHi y) = true := by rw [beq_iff_eq]; omega
      have e2 : (wLo x == wLo y) = false := by rw [beq_eq_false_iff_ne]; omega
      have e3 : ¬ wHi x < wHi y := by omega
      have e4 : ¬ wLo x < wLo y := by omega
      clear hl a
      go_enter Try.func22, Try.ntmps22
      go_wp2
      go_ret
      exact ret_of (vint H.out.symm) (by go_grown)

theorem wSign (x : Int) (h : InW x) (w : World) :
    Calls Try.prog 24 #[W x] w (Ret (.int .i64 (cmpW x 0)) w) := by
  go_enter Try.func24, Try.ntmps24
  go_wp2_with fail
  refine (wCmp x 0 h (by unfold InW; omega) _).mono ?_; rintro e w1 ⟨rfl, hb1⟩
  have hb1 : Below w.heap.size w w1 := Below.next (by go_grown) hb1
  go_wp2_with fail
  go_ret
  exact ret_of rfl hb1

end Go.Proofs.Ytlpnklcnheafoaa
