/- Walk: wide.Div. -/
import Derived.Test.YtognbeejobfpfaaWide1
import Derived.Test.YtognbeejobfpfaaWalkE
import Derived.Test.YtognbeejobfpfaaMathA
namespace Go.Proofs.Ytognbeejobfpfaa
open Go.RowKit
set_option linter.unusedVariables false
set_option linter.unusedSimpArgs false

theorem div64a (A D : Int) (h : InU2 A) (hD : 0 < D) (hD2 : D ≤ 18446744073709551615) (w : World) :
    Calls Try.prog 78 #[.int .u64 0, .int .u64 (wHi A), .int .u64 D] w (Ret (.tuple #[.int .u64 (wHi (A / D)), .int .u64 (wHi A % D)]) w) := by
  have h1 := wHi_U h
  have := div64_zero (wHi A) D hD hD2 h1.1 (by have := h1.2; omega) w
  rw [(two_digits h.1 hD (by omega)).1] at this
  exact this
theorem div64b (A D : Int) (h : InU2 A) (hD : 0 < D) (hD2 : D ≤ 18446744073709551615) (w : World) :
    Calls Try.prog 78 #[.int .u64 (wHi A % D), .int .u64 (wLo A), .int .u64 D] w (Ret (.tuple #[.int .u64 (wLo (A / D)), .int .u64 (A % D)]) w) := by
  have h1 := wLo_U A
  have := div64 (wHi A % D) (wLo A) D (Int.emod_nonneg _ (by omega)) (Int.emod_lt_of_pos _ hD) hD2 h1.1 (by have := h1.2; omega) w
  obtain ⟨-, e2, e3⟩ := two_digits h.1 hD (by omega)
  rw [e2, e3] at this
  exact this

/-- The quotient's size one up, in two digits. -/
theorem up_one (Q : Int) (h : InU2 (Q + 1)) (w : World) : ∃ c : Int, 0 ≤ c ∧ c ≤ 1 ∧ (∀ w, (callFunc 79 #[.int .u64 (wLo Q), .int .u64 1, .int .u64 0]).run Try.prog w = .ok (.value (.tuple #[.int .u64 (wLo (Q + 1)), .int .u64 c])) w) ∧ wHi Q + c = wHi (Q + 1) := by
  have h1 := wLo_U Q
  obtain ⟨a1, a2⟩ := h1
  refine ⟨(wLo Q + 1 + 0) / 18446744073709551616, by omega, by omega, fun w => ?_, ?_⟩
  · rw [add64 (wLo Q) 1 0 a1 (by omega) (by omega) (by omega)]
    have : (wLo Q + 1 + 0) % 18446744073709551616 = wLo (Q + 1) := by unfold wLo; omega
    rw [this]
  · unfold wHi wLo; omega

end Go.Proofs.Ytognbeejobfpfaa
