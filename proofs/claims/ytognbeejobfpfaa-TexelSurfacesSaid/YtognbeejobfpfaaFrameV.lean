/- A vector, a place that came in. -/
import Derived.Test.YtognbeejobfpfaaFrame
import Derived.Test.YtognbeejobfpfaaVecM
namespace Go.Proofs.Ytognbeejobfpfaa
open Go.RowKit
set_option linter.unusedVariables false
set_option linter.unusedSimpArgs false

theorem three_in {ns : List Int} (h : Al2 Fits [.i64, .i64, .i64] ns) : ∃ v : T3, InV v ∧ (vals [.i64, .i64, .i64] ns).toArray = #[.int .i64 v.1, .int .i64 v.2.1, .int .i64 v.2.2] := by
  rcases ns with _ | ⟨a, _ | ⟨b, _ | ⟨c, _ | ⟨d, l⟩⟩⟩⟩
  · exact h.elim
  · exact h.2.elim
  · exact h.2.2.elim
  · obtain ⟨h1, h2, h3, -⟩ := h
    exact ⟨(a, b, c), ⟨bounds_i64 h1, bounds_i64 h2, bounds_i64 h3⟩, by simp [vals]⟩
  · exact h.2.2.2.elim

end Go.Proofs.Ytognbeejobfpfaa
