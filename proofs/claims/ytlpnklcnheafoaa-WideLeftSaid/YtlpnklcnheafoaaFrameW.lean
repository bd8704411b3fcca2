/- A wide number that came in. -/
import Derived.Test.YtlpnklcnheafoaaFrame
import Derived.Test.YtlpnklcnheafoaaMath
namespace Go.Proofs.Ytlpnklcnheafoaa
open Go.RowKit
set_option linter.unusedVariables false
set_option linter.unusedSimpArgs false

/-- A wide number that came in. -/
theorem wide_in {ns : List Int} (h : Al2 Fits [.i64, .u64] ns) : ∃ x, InW x ∧ (vals [.i64, .u64] ns).toArray = #[.int .i64 (wHi x), .int .u64 (wLo x)] := by
  rcases ns with _ | ⟨a, _ | ⟨b, _ | ⟨c, l⟩⟩⟩
  · exact h.elim
  · exact h.2.elim
  · obtain ⟨h1, h2, -⟩ := h
    have b1 := bounds_i64 h1
    have b2 := bounds_u64 h2
    obtain ⟨x, hx, e1, e2⟩ := w_of a b ⟨by omega, by omega⟩ ⟨by omega, by omega⟩
    exact ⟨x, hx, by simp [vals, e1, e2]⟩
  · exact h.2.2.elim

end Go.Proofs.Ytlpnklcnheafoaa
