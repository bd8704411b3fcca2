/- Walk: the law WideLeft. -/
import Derived.Test.YtlpnklcnheafoaaLaw1
import Derived.Test.YtlpnklcnheafoaaAddTwo
import Derived.Test.YtlpnklcnheafoaaFrameW
namespace Go.Proofs.Ytlpnklcnheafoaa
open Go.RowKit Go.Sort
set_option linter.unusedVariables false
set_option linter.unusedSimpArgs false

theorem fq_fr (x d : Int) (hd : d ≠ 0) : fq x d * d + fr x d = x := by
  unfold fq fr
  split
  · have := Int.mul_ediv_add_emod x d
    rw [Int.mul_comm]; exact this
  · have := Int.mul_ediv_add_emod (-x) (-d)
    have e : (-x) / (-d) * d = -(-d * ((-x) / (-d))) := by rw [Int.neg_mul, Int.neg_neg, Int.mul_comm]
    rw [e]; omega
theorem fr_range (x d : Int) (hd : d ≠ 0) : (0 < d → 0 ≤ fr x d ∧ fr x d < d) ∧ (d < 0 → fr x d ≤ 0 ∧ d < fr x d) := by
  unfold fr
  constructor
  · intro h
    rw [if_pos h]
    exact ⟨Int.emod_nonneg _ hd, Int.emod_lt_of_pos _ h⟩
  · intro h
    rw [if_neg (by omega)]
    have h1 := Int.emod_nonneg (-x) (show -d ≠ 0 by omega)
    have h2 := Int.emod_lt_of_pos (-x) (show 0 < -d by omega)
    omega

set_option maxHeartbeats 800000 in
theorem walkWideLeft_no (x d : Int) (hi lo : Int) (h0 : d = 0) (ehi : hi = wHi x) (elo : lo = wLo x) (h : InW x) (hh : -2147483648 ≤ hi ∧ hi ≤ 2147483647) (w : World) :
    Calls Try.prog 8 #[.int .i32 hi, .int .u64 lo, .int .i64 d] w (Ret (.bool true) w) := by
  obtain ⟨hh1, hh2⟩ := hh
  subst ehi elo h0
  go_enter Try.func8, Try.ntmps8
  go_wp2_with fail
  refine (wDiv x 0 h (by unfold InI; omega) _).mono ?_; rintro e w1 ⟨rfl, hb1⟩
  obtain ⟨hB1, hS1⟩ : Below w.heap.size w w1 ∧ w.heap.size ≤ w1.heap.size := Below.step (by go_grown) hb1
  obtain ⟨hc1, hf1, hs1⟩ := bcell hb1
  rw [divOk_zero]
  go_wp2_with fail
  refine (works1 _).mono ?_; rintro e w2 ⟨rfl, hb2⟩
  obtain ⟨hB2, hS2⟩ : Below w.heap.size w w2 ∧ w.heap.size ≤ w2.heap.size := Below.step (by go_grown) hb2
  go_wp2_with fail
  go_ret
  exact ret_of rfl hB2

set_option maxHeartbeats 1600000 in
theorem walkWideLeft_yes (x d q r : Int) (hi lo : Int) (h0 : d ≠ 0) (ehi : hi = wHi x) (elo : lo = wLo x) (h : InW x) (hd : InI d) (hh : -2147483648 ≤ hi ∧ hi ≤ 2147483647)
    (HQ : Hid (divQ x d = q)) (HR : Hid (divR x d = r)) (HO : Hid (divOk x d = true)) (hq : InW q) (hsg : (0 < d ∧ 0 ≤ r ∧ r < d) ∨ (d < 0 ∧ r ≤ 0 ∧ d < r)) (hx : Hid (q * d + r = x)) (w : World) :
    Calls Try.prog 8 #[.int .i32 hi, .int .u64 lo, .int .i64 d] w (Ret (.bool true) w) := by
  obtain ⟨hh1, hh2⟩ := hh
  subst ehi elo
  have e0 : (d == 0) = false := by rw [beq_eq_false_iff_ne]; exact h0
  have hr : InI r := by unfold InI at hd ⊢; omega
  have ways : (0 < d ∧ ¬ r < 0 ∧ ¬ d ≤ r ∧ ¬ d < 0) ∨ (¬ 0 < d ∧ d < 0 ∧ ¬ 0 < r ∧ ¬ r ≤ d) := by omega
  clear hsg h0
  cases hf : fits q
  · have HF := Lib.hid hf
    have HN := Lib.hid (intN_not hf)
    clear hf
    rcases ways with ⟨a1, a2, a3, a4⟩ | ⟨a1, a2, a3, a4⟩
    all_goals
      go_enter Try.func8, Try.ntmps8
      go_wp2_with fail
      refine (wDiv x d h hd _).mono ?_; rintro e w1 ⟨rfl, hb1⟩
      obtain ⟨hB1, hS1⟩ : Below w.heap.size w w1 ∧ w.heap.size ≤ w1.heap.size := Below.step (by go_grown) hb1
      obtain ⟨hc1, hf1, hs1⟩ := bcell hb1
      rw [HQ.out, HR.out, HO.out]
      go_wp2_with fail
      refine (wInt q hq _).mono ?_; rintro e w2 ⟨rfl, hb2⟩
      obtain ⟨hB2, hS2⟩ : Below w.heap.size w w2 ∧ w.heap.size ≤ w2.heap.size := Below.step (by go_grown) hb2
      rw [HF.out, HN.out]
      go_wp2_with fail
      refine (works1 _).mono ?_; rintro e w3 ⟨rfl, hb3⟩
      obtain ⟨hB3, hS3⟩ : Below w.heap.size w w3 ∧ w.heap.size ≤ w3.heap.size := Below.step (by go_grown) hb3
      go_wp2_with fail
      go_ret
      exact ret_of rfl hB3
  · have HF := Lib.hid hf
    have HN := Lib.hid (intN_fits hf)
    have hqI := fits_iff.1 hf
    clear hf
    have hm := mul_InW hqI hd
    have hS : addL 0 [q * d, r] = some x := by
      have e1 : (0 : Int) + q * d = q * d := Int.zero_add _
      have h1 := addL_one (s := 0) (x := q * d) (l := [r]) (by rw [e1]; exact hm)
      rw [e1] at h1
      have h2 := addL_one (s := q * d) (x := r) (l := []) (by rw [hx.out]; exact h)
      rw [h1, h2, hx.out]; rfl
    have HS := Lib.hid (sumV_some hS)
    clear hS
    rcases ways with ⟨a1, a2, a3, a4⟩ | ⟨a1, a2, a3, a4⟩
    all_goals
      go_enter Try.func8, Try.ntmps8
      go_wp2_with fail
      refine (wDiv x d h hd _).mono ?_; rintro e w1 ⟨rfl, hb1⟩
      obtain ⟨hB1, hS1⟩ : Below w.heap.size w w1 ∧ w.heap.size ≤ w1.heap.size := Below.step (by go_grown) hb1
      obtain ⟨hc1, hf1, hs1⟩ := bcell hb1
      have hz1 : w.heap.size < w1.heap.size := by simp at hs1; omega
      rw [HQ.out, HR.out, HO.out]
      go_wp2_with fail
      refine (wInt q hq _).mono ?_; rintro e w2 ⟨rfl, hb2⟩
      obtain ⟨hB2, hS2⟩ : Below w.heap.size w w2 ∧ w.heap.size ≤ w2.heap.size := Below.step (by go_grown) hb2
      obtain ⟨hD2, hT2⟩ := Below.step (w := w.alloc (.cells #[.int .i64 (wHi x), .int .u64 (wLo x)] 24)) (by go_grown) hb2
      obtain ⟨hc2, hf2, hs2⟩ := bcell hb2
      rw [HF.out, HN.out]
      go_wp2_with fail
      refine (wMul q d hqI hd _).mono ?_; rintro e w3 ⟨rfl, hb3⟩
      obtain ⟨hB3, hS3⟩ : Below w.heap.size w w3 ∧ w.heap.size ≤ w3.heap.size := Below.step (by go_grown) hb3
      obtain ⟨hD3, hT3⟩ := Below.step (w := w.alloc (.cells #[.int .i64 (wHi x), .int .u64 (wLo x)] 24)) (by go_grown) hb3
      obtain ⟨hc3, hf3, hs3⟩ := bcell hb3
      go_wp2_with fail
      refine (wOf r hr _).mono ?_; rintro e w4 ⟨rfl, hb4⟩
      obtain ⟨hB4, hS4⟩ : Below w.heap.size w w4 ∧ w.heap.size ≤ w4.heap.size := Below.step (by go_grown) hb4
      obtain ⟨hD4, hT4⟩ := Below.step (w := w.alloc (.cells #[.int .i64 (wHi x), .int .u64 (wLo x)] 24)) (by go_grown) hb4
      obtain ⟨hc4, hf4, hs4⟩ := bcell hb4
      go_wp2_with fail
      refine (wAdd2 (q * d) r hm (InW_of_I hr) _ _ _ _).mono ?_; rintro e w5 ⟨rfl, hb5⟩
      obtain ⟨hB5, hS5⟩ : Below w.heap.size w w5 ∧ w.heap.size ≤ w5.heap.size := Below.step (by go_grown) hb5
      obtain ⟨hD5, hT5⟩ := Below.step (w := w.alloc (.cells #[.int .i64 (wHi x), .int .u64 (wLo x)] 24)) (by go_grown) hb5
      rw [HS.out]
      have x0 : w5.cell? ⟨w.heap.size, 0, none⟩ = some (.int .i64 (wHi x)) := (hD5.cell (p := ⟨w.heap.size, 0, none⟩) (by simp)).trans (by simp)
      have x1 : w5.cell? ⟨w.heap.size, 1, none⟩ = some (.int .u64 (wLo x)) := (hD5.cell (p := ⟨w.heap.size, 1, none⟩) (by simp)).trans (by simp)
      have hz5 : w.heap.size < w5.heap.size := by simp at hT5; omega
      clear hc1 hc2 hc3 hc4
      go_wp2_with fail
      refine (works1 _).mono ?_; rintro e w6 ⟨rfl, hb6⟩
      obtain ⟨hB6, hS6⟩ : Below w.heap.size w w6 ∧ w.heap.size ≤ w6.heap.size := Below.step (by go_grown) hb6
      go_wp2_with fail
      go_ret
      exact ret_of rfl hB6

theorem lawWideLeft (hi : Int) (whi : (Lit.int .i32 hi).wf = true) (lo : Int) (wlo : (Lit.int .u64 lo).wf = true) (d : Int) (wd : (Lit.int .i64 d).wf = true) (w : World) :
    Calls Try.prog 8 #[.int .i32 hi, .int .u64 lo, .int .i64 d] w (Ret (.bool true) w) := by
  have b1 := bounds_i32 whi
  have b2 := bounds_u64 wlo
  have b3 := bounds_i64 wd
  obtain ⟨x, hx, e1, e2⟩ := w_of hi lo (by unfold InI; omega) (by unfold InU; omega)
  by_cases h0 : d = 0
  · exact walkWideLeft_no x d hi lo h0 e1 e2 hx b1 w
  · have hb : -85070591730234615865843651857942052864 ≤ x ∧ x ≤ 85070591730234615865843651857942052864 := by
      have := w_split x
      rw [← e1, ← e2] at this
      omega
    have hok := divOk_of h0 (InWb_true (fq_small h0 hb))
    refine walkWideLeft_yes x d (fq x d) (fr x d) hi lo h0 e1 e2 hx b3 b1 (divQ_ok hok) (divR_ok hok) hok (fq_small h0 hb) ?_ (fq_fr x d h0) w
    have := fr_range x d h0
    omega

end Go.Proofs.Ytlpnklcnheafoaa
