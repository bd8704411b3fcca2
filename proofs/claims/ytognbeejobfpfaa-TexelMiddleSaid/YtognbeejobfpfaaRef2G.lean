/- Walks: the document's answer for layer 2: Root, Sqrt. -/
import Derived.Test.YtognbeejobfpfaaRef2
import Derived.Test.YtognbeejobfpfaaMathA
import Derived.Test.YtognbeejobfpfaaFix1
import Derived.Deep.LoopGhost
namespace Go.Proofs.Ytognbeejobfpfaa
open Go.RowKit
set_option linter.unusedVariables false
set_option linter.unusedSimpArgs false

theorem sqN_0 : sqN 0 = 0 := by
  obtain ⟨⟨a, b, c⟩, -⟩ := sqN_root (x := 0) (by omega) (by omega)
  rcases ltge (sqN 0) 1 with g | g
  · omega
  · have := sq_mono (a := 1) (by omega) g
    omega
theorem SqInv.sum {x r : Int} {m : Nat} (h : SqInv x r (63 - m)) (hk : m < 64) : 0 ≤ r ∧ 0 < (2 : Int) ^ m ∧ r + 2 ^ m < 18446744073709551616 := by
  have hb := h.bound (by omega)
  rw [show 63 - (63 - m) = m by omega] at hb
  exact ⟨h.1, pow_pos' m, hb.2⟩
theorem SqInv.yes' {x r : Int} {m : Nat} (h : SqInv x r (63 - m)) (hk : m < 64) (hc : (r + 2 ^ m) * (r + 2 ^ m) ≤ x) : SqInv x (r + 2 ^ m) (63 - ((m : Int) - 1)).toNat := by
  have e : 63 - (63 - m) = m := by omega
  have := h.yes (by omega) (by rw [e]; exact hc)
  rw [e] at this
  rw [show (63 - ((m : Int) - 1)).toNat = 63 - m + 1 by omega]
  exact this
theorem SqInv.no' {x r : Int} {m : Nat} (h : SqInv x r (63 - m)) (hk : m < 64) (hc : ¬ (r + 2 ^ m) * (r + 2 ^ m) ≤ x) : SqInv x r (63 - ((m : Int) - 1)).toNat := by
  have e : 63 - (63 - m) = m := by omega
  have := h.no (by omega) (by rw [e]; exact hc)
  rw [show (63 - ((m : Int) - 1)).toNat = 63 - m + 1 by omega]
  exact this


end Go.Proofs.Ytognbeejobfpfaa
