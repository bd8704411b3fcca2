/- A test that is known. -/
import Derived.Test.YtognbeejobfpfaaGoA
namespace Go.Proofs.Ytognbeejobfpfaa
open Go.RowKit Go.Sort

theorem kdT' {P : Program} {w : World} {e : Operand → Value} {o : Oper} {b : Bool} {p : Prop} [Decidable p] (h : p) (hc : (b, (execOp e o).run P w) = (true, .ok (.value (.bool (decide p))) w)) : (b, (execOp e o).run P w) = (true, .ok (.value (.bool true)) w) := by rw [decide_eq_true h] at hc; exact hc
theorem kdF' {P : Program} {w : World} {e : Operand → Value} {o : Oper} {b : Bool} {p : Prop} [Decidable p] (h : ¬ p) (hc : (b, (execOp e o).run P w) = (true, .ok (.value (.bool (decide p))) w)) : (b, (execOp e o).run P w) = (true, .ok (.value (.bool false)) w) := by rw [decide_eq_false h] at hc; exact hc
theorem knT' {P : Program} {w : World} {e : Operand → Value} {o : Oper} {b : Bool} {p : Prop} [Decidable p] (h : p) (hc : (b, (execOp e o).run P w) = (true, .ok (.value (.bool (!decide p))) w)) : (b, (execOp e o).run P w) = (true, .ok (.value (.bool false)) w) := by rw [decide_eq_true h] at hc; exact hc
theorem knF' {P : Program} {w : World} {e : Operand → Value} {o : Oper} {b : Bool} {p : Prop} [Decidable p] (h : ¬ p) (hc : (b, (execOp e o).run P w) = (true, .ok (.value (.bool (!decide p))) w)) : (b, (execOp e o).run P w) = (true, .ok (.value (.bool true)) w) := by rw [decide_eq_false h] at hc; exact hc
end Go.Proofs.Ytognbeejobfpfaa
