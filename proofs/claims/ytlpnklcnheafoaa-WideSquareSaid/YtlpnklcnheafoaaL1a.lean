/- Walk: the law WideSquare. -/
import Derived.Test.YtlpnklcnheafoaaLaw1
import Derived.Test.YtlpnklcnheafoaaFrame
namespace Go.Proofs.Ytlpnklcnheafoaa
open Go.RowKit Go.Sort

theorem w_lt' {x y : Int} (h : x < y) : wHi x < wHi y ∨ (wHi x = wHi y ∧ wLo x < wLo y) := w_lt.1 h

set_option maxHeartbeats 800000 in
theorem walkWideSquare (x : Int) (h : InW x) (w : World) : Calls Try.prog 4 #[W x] w (Ret (.bool true) w) := by
  by_cases hx : x < 0
  · have e1 : wHi x < 0 := by unfold wHi; omega
    have HS := Lib.hid (sqN_neg hx)
    clear hx
    go_enter Try.func4, Try.ntmps4
    go_wp2_with fail
    refine (wSqrt x h _).mono ?_; rintro e w1 ⟨rfl, hb1⟩
    rw [HS.out]
    obtain ⟨hB1, hS1⟩ : Below w.heap.size w w1 ∧ w.heap.size ≤ w1.heap.size := Below.step (by go_grown) hb1
    obtain ⟨hc1, hf1, hs1⟩ := bcell hb1
    go_wp2_with fail
    refine (works1 _).mono ?_; rintro e w2 ⟨rfl, hb2⟩
    obtain ⟨hB2, hS2⟩ : Below w.heap.size w w2 ∧ w.heap.size ≤ w2.heap.size := Below.step (by go_grown) hb2
    go_wp2_with fail
    go_ret
    exact ret_of rfl hB2
  · have e1 : ¬ wHi x < 0 := by unfold wHi; omega
    have e2 : wHi x ≤ 9223372036854775807 := (wHi_I h).2
    obtain ⟨hr, hs⟩ := sqN_root (x := x) (by omega) (by unfold InW at h; omega)
    obtain ⟨s, es⟩ : ∃ s, sqN x = s := ⟨_, rfl⟩
    rw [es] at hr hs
    obtain ⟨r0, r1, r2⟩ := hr
    have hs2 : s ≤ 18446744073709551614 := by
      rcases Int.lt_trichotomy s 18446744073709551615 with g | g | g
      · omega
      · subst g; unfold InW at h; omega
      · omega
    have g1 := w_le.1 r1
    have g2 := w_lt' r2
    have hu : InU s := ⟨r0, hs⟩
    have hu1 : InU (s + 1) := ⟨by omega, by omega⟩
    have HS := Lib.hid es
    clear es r1 r2 hx
    have ways : (wHi (s * s) < wHi x ∨ (¬ wHi (s * s) < wHi x ∧ (wHi (s * s) == wHi x) = true ∧ ¬ wHi x < wHi (s * s) ∧ ¬ wLo x < wLo (s * s))) := by
      rcases g1 with g1 | ⟨a, b⟩
      · exact .inl g1
      · exact .inr ⟨by omega, by rw [beq_iff_eq]; exact a, by omega, by omega⟩
    have ways2 : (wHi x < wHi ((s + 1) * (s + 1)) ∨ (¬ wHi x < wHi ((s + 1) * (s + 1)) ∧ (wHi ((s + 1) * (s + 1)) == wHi x) = true ∧ wLo x < wLo ((s + 1) * (s + 1)))) := by
      rcases g2 with g2 | ⟨a, b⟩
      · exact .inl g2
      · exact .inr ⟨by omega, by rw [beq_iff_eq]; exact a.symm, by omega⟩
    clear g1 g2
    rcases ways with a | ⟨a1, a2, a3, a4⟩ <;> rcases ways2 with b | ⟨b1, b2, b3⟩
    all_goals
      try (have a0 : ¬ wHi x < wHi (s * s) := by omega
           have a0' : (wHi (s * s) == wHi x) = false := by rw [beq_eq_false_iff_ne]; omega)
      go_enter Try.func4, Try.ntmps4
      go_wp2_with fail
      refine (wSqrt x h _).mono ?_; rintro e w1 ⟨rfl, hb1⟩
      rw [HS.out]
      obtain ⟨hB1, hS1⟩ : Below w.heap.size w w1 ∧ w.heap.size ≤ w1.heap.size := Below.step (by go_grown) hb1
      obtain ⟨hc1, hf1, hs1⟩ := bcell hb1
      go_wp2_with fail
      refine (mul64 s s hu hu _).mono ?_; rintro e w2 ⟨rfl, rfl⟩
      go_wp2_with fail
      refine (mul64 (s + 1) (s + 1) hu1 hu1 _).mono ?_; rintro e w2 ⟨rfl, rfl⟩
      go_wp2_with fail
      refine (works1 _).mono ?_; rintro e w2 ⟨rfl, hb2⟩
      obtain ⟨hB2, hS2⟩ : Below w.heap.size w w2 ∧ w.heap.size ≤ w2.heap.size := Below.step (by go_grown) hb2
      go_wp2_with fail
      go_ret
      exact ret_of rfl hB2

/-- A wide number that came in. -/
theorem wide_in {ns : List Int} (h : Al2 Fits [.i64, .u64] ns) : ∃ x, InW x ∧ (vals [.i64, .u64] ns).toArray = #[.int .i64 (wHi x), .int .u64 (wLo x)] := by
  rcases ns with _ | ⟨a, _ | ⟨b, _ | ⟨c, l⟩⟩⟩
  · exact h.elim
  · exact h.2.elim
  · obtain ⟨h1, h2, -⟩ := h
    have b1 := bounds_i64 h1
    have b2 := bounds_u64 h2
    obtain ⟨x, hx, e1, e2⟩ := w_of a b ⟨by omega, by omega⟩ ⟨by omega, by omega⟩
    exact ⟨x, hx, by simp [vals, e1, e2]⟩
  · exact h.2.2.elim

theorem lawWideSquare (ns : List Int) (h : Al2 Fits [.i64, .u64] ns) (w : World) : Calls Try.prog 4 #[.agg (vals [.i64, .u64] ns).toArray] w (Ret (.bool true) w) := by
  obtain ⟨x, hx, e⟩ := wide_in h
  rw [e]
  exact walkWideSquare x hx w

end Go.Proofs.Ytlpnklcnheafoaa
