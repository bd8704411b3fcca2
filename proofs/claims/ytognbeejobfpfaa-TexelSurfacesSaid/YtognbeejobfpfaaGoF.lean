/- Opening what came in: numbers one by one. No program is named here. -/
import Derived.Test.YtognbeejobfpfaaFrame
import Derived.Test.YtognbeejobfpfaaMG
namespace Go.Proofs.Ytognbeejobfpfaa
open Go.RowKit
set_option linter.unusedVariables false
set_option linter.unusedSimpArgs false

theorem al2_cons {k : IntKind} {ks : List IntKind} {ns : List Int} (h : Al2 Fits (k :: ks) ns) : ∃ a l, ns = a :: l ∧ Fits k a ∧ Al2 Fits ks l := by
  cases ns with
  | nil => exact h.elim
  | cons a l => exact ⟨a, l, rfl, h.1, h.2⟩
theorem al2_nil {ns : List Int} (h : Al2 Fits [] ns) : ns = [] := by
  cases ns with
  | nil => rfl
  | cons a l => exact h.elim
theorem fit_i64 {a : Int} (h : Fits .i64 a) : InI a := bounds_i64 h
theorem fit_u64 {a : Int} (h : Fits .u64 a) : InU a := by have := bounds_u64 h; unfold InU; omega
theorem fit_u32 {a : Int} (h : Fits .u32 a) : InU32 a := by have := bounds_u32 h; unfold InU32; omega
theorem fit_u8 {a : Int} (h : Fits .u8 a) : InU8 a := by have := bounds_u8 h; unfold InU8; omega

end Go.Proofs.Ytognbeejobfpfaa
