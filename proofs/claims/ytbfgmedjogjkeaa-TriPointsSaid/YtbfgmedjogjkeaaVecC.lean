/- Walks: vec.Add, vec.Times. -/
import Derived.Test.YtbfgmedjogjkeaaVecA
import Derived.Test.YtbfgmedjogjkeaaVecM
import Derived.Test.YtbfgmedjogjkeaaFix1
import Derived.Deep.LoopGhost
namespace Go.Proofs.Ytbfgmedjogjkeaa
open Go.RowKit Go.Sort
set_option linter.unusedVariables false
set_option linter.unusedSimpArgs false

/-- Two vectors, three vectors in a block. -/
theorem cellsV2 {w : World} {B : Nat} {a b : T3} (h0 : w.cell? ⟨B, 0, none⟩ = some (.int .i64 a.1)) (h1 : w.cell? ⟨B, 1, none⟩ = some (.int .i64 a.2.1)) (h2 : w.cell? ⟨B, 2, none⟩ = some (.int .i64 a.2.2))
    (h3 : w.cell? ⟨B, 3, none⟩ = some (.int .i64 b.1)) (h4 : w.cell? ⟨B, 4, none⟩ = some (.int .i64 b.2.1)) (h5 : w.cell? ⟨B, 5, none⟩ = some (.int .i64 b.2.2)) : CellsV w B 0 [a, b] := by
  intro i h
  match i, h with
  | 0, _ => exact ⟨h0, h1, h2⟩
  | 1, _ => exact ⟨h3, h4, h5⟩

end Go.Proofs.Ytbfgmedjogjkeaa
