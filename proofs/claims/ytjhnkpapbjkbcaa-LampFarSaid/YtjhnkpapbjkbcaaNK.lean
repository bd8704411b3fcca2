/- A test that is known. Structs with a bool compared. -/
import Derived.Test.YtjhnkpapbjkbcaaGoA
import Derived.Test.YtjhnkpapbjkbcaaGoEq
namespace Go.Proofs.Ytjhnkpapbjkbcaa
open Go.RowKit Go.Sort

theorem kdT' {P : Program} {w : World} {e : Operand → Value} {o : Oper} {b : Bool} {p : Prop} [Decidable p] (h : p) (hc : (b, (execOp e o).run P w) = (true, .ok (.value (.bool (decide p))) w)) : (b, (execOp e o).run P w) = (true, .ok (.value (.bool true)) w) := by rw [decide_eq_true h] at hc; exact hc
theorem kdF' {P : Program} {w : World} {e : Operand → Value} {o : Oper} {b : Bool} {p : Prop} [Decidable p] (h : ¬ p) (hc : (b, (execOp e o).run P w) = (true, .ok (.value (.bool (decide p))) w)) : (b, (execOp e o).run P w) = (true, .ok (.value (.bool false)) w) := by rw [decide_eq_false h] at hc; exact hc
theorem knT' {P : Program} {w : World} {e : Operand → Value} {o : Oper} {b : Bool} {p : Prop} [Decidable p] (h : p) (hc : (b, (execOp e o).run P w) = (true, .ok (.value (.bool (!decide p))) w)) : (b, (execOp e o).run P w) = (true, .ok (.value (.bool false)) w) := by rw [decide_eq_true h] at hc; exact hc
theorem knF' {P : Program} {w : World} {e : Operand → Value} {o : Oper} {b : Bool} {p : Prop} [Decidable p] (h : ¬ p) (hc : (b, (execOp e o).run P w) = (true, .ok (.value (.bool (!decide p))) w)) : (b, (execOp e o).run P w) = (true, .ok (.value (.bool true)) w) := by rw [decide_eq_false h] at hc; exact hc
end Go.Proofs.Ytjhnkpapbjkbcaa

namespace Go.Proofs.Ytjhnkpapbjkbcaa
open Go.RowKit Go.Sort
set_option linter.unusedVariables false
set_option linter.unusedSimpArgs false

theorem eqv_umbra_api_Turn {ops : Array Oper} {a : Act} {w : World} {dst : Option Tmp} {xo yo : Operand} {T2 ty : TypeId} {pos : String} {after : Array Edge} {guard : Option (Nat × Bool)} {x y : (Int × Int × Int) × (Int × Int × Int) × Bool}
    (hw : Region.wanted ⟨dst, .binOp .eql 53 xo yo T2, ty, pos, after, guard⟩ (yielded ops a.tmps) = true) (hx : a.eval xo = .agg #[.int .i64 x.1.1, .int .i64 x.1.2.1, .int .i64 x.1.2.2, .int .i64 x.2.1.1, .int .i64 x.2.1.2.1, .int .i64 x.2.1.2.2, .bool x.2.2]) (hy : a.eval yo = .agg #[.int .i64 y.1.1, .int .i64 y.1.2.1, .int .i64 y.1.2.2, .int .i64 y.2.1.1, .int .i64 y.2.1.2.1, .int .i64 y.2.1.2.2, .bool y.2.2]) : (Region.wanted ⟨dst, .binOp .eql 53 xo yo T2, ty, pos, after, guard⟩ (yielded ops a.tmps), (execOp a.eval ⟨dst, .binOp .eql 53 xo yo T2, ty, pos, after, guard⟩).run Try.prog w) = (true, .ok (.value (.bool (decide (x = y)))) w) := by
  refine Prod.ext hw ?_
  have hg : Try.prog.eqGuardType Try.prog.depth 53 = false := by kernel_rfl
  have e : decide (x = y) = (x.1.1 == y.1.1 && (x.1.2.1 == y.1.2.1 && (x.1.2.2 == y.1.2.2 && (x.2.1.1 == y.2.1.1 && (x.2.1.2.1 == y.2.1.2.1 && (x.2.1.2.2 == y.2.1.2.2 && x.2.2 == y.2.2)))))) := by
    rw [Bool.eq_iff_iff]
    simp [Prod.ext_iff, and_assoc]
  show (execOp a.eval ⟨dst, .binOp .eql 53 xo yo T2, ty, pos, after, guard⟩).run Try.prog w = _
  rw [e]
  unfold execOp
  simp only [hx, hy]
  simp [eqGuard, hg, binOp, Op.equal, Op.maxDepth, go_sem, Bool.and_assoc]
  by_cases h0 : x.1.1 = y.1.1 <;> simp only [h0, beq_self_eq_true, Bool.true_and, Bool.false_and, Bool.and_true, beq_eq_false_iff_ne.2, ne_eq, not_false_eq_true] <;> try rfl
  by_cases h1 : x.1.2.1 = y.1.2.1 <;> simp only [h1, beq_self_eq_true, Bool.true_and, Bool.false_and, Bool.and_true, beq_eq_false_iff_ne.2, ne_eq, not_false_eq_true] <;> try rfl
  by_cases h2 : x.1.2.2 = y.1.2.2 <;> simp only [h2, beq_self_eq_true, Bool.true_and, Bool.false_and, Bool.and_true, beq_eq_false_iff_ne.2, ne_eq, not_false_eq_true] <;> try rfl
  by_cases h3 : x.2.1.1 = y.2.1.1 <;> simp only [h3, beq_self_eq_true, Bool.true_and, Bool.false_and, Bool.and_true, beq_eq_false_iff_ne.2, ne_eq, not_false_eq_true] <;> try rfl
  by_cases h4 : x.2.1.2.1 = y.2.1.2.1 <;> simp only [h4, beq_self_eq_true, Bool.true_and, Bool.false_and, Bool.and_true, beq_eq_false_iff_ne.2, ne_eq, not_false_eq_true] <;> try rfl
  by_cases h5 : x.2.1.2.2 = y.2.1.2.2 <;> simp only [h5, beq_self_eq_true, Bool.true_and, Bool.false_and, Bool.and_true, beq_eq_false_iff_ne.2, ne_eq, not_false_eq_true] <;> try rfl
  by_cases h6 : x.2.2 = y.2.2 <;> simp only [h6, beq_self_eq_true, Bool.true_and, Bool.false_and, Bool.and_true, beq_eq_false_iff_ne.2, ne_eq, not_false_eq_true] <;> try rfl
theorem eqv_umbra_api_Turnn {ops : Array Oper} {a : Act} {w : World} {dst : Option Tmp} {xo yo : Operand} {T2 ty : TypeId} {pos : String} {after : Array Edge} {guard : Option (Nat × Bool)} {x y : (Int × Int × Int) × (Int × Int × Int) × Bool}
    (hw : Region.wanted ⟨dst, .binOp .neq 53 xo yo T2, ty, pos, after, guard⟩ (yielded ops a.tmps) = true) (hx : a.eval xo = .agg #[.int .i64 x.1.1, .int .i64 x.1.2.1, .int .i64 x.1.2.2, .int .i64 x.2.1.1, .int .i64 x.2.1.2.1, .int .i64 x.2.1.2.2, .bool x.2.2]) (hy : a.eval yo = .agg #[.int .i64 y.1.1, .int .i64 y.1.2.1, .int .i64 y.1.2.2, .int .i64 y.2.1.1, .int .i64 y.2.1.2.1, .int .i64 y.2.1.2.2, .bool y.2.2]) : (Region.wanted ⟨dst, .binOp .neq 53 xo yo T2, ty, pos, after, guard⟩ (yielded ops a.tmps), (execOp a.eval ⟨dst, .binOp .neq 53 xo yo T2, ty, pos, after, guard⟩).run Try.prog w) = (true, .ok (.value (.bool (!decide (x = y)))) w) := by
  refine Prod.ext hw ?_
  have hg : Try.prog.eqGuardType Try.prog.depth 53 = false := by kernel_rfl
  have e : decide (x = y) = (x.1.1 == y.1.1 && (x.1.2.1 == y.1.2.1 && (x.1.2.2 == y.1.2.2 && (x.2.1.1 == y.2.1.1 && (x.2.1.2.1 == y.2.1.2.1 && (x.2.1.2.2 == y.2.1.2.2 && x.2.2 == y.2.2)))))) := by
    rw [Bool.eq_iff_iff]
    simp [Prod.ext_iff, and_assoc]
  show (execOp a.eval ⟨dst, .binOp .neq 53 xo yo T2, ty, pos, after, guard⟩).run Try.prog w = _
  rw [e]
  unfold execOp
  simp only [hx, hy]
  simp [eqGuard, hg, binOp, Op.equal, Op.maxDepth, go_sem, Bool.and_assoc]
  by_cases h0 : x.1.1 = y.1.1 <;> simp only [h0, beq_self_eq_true, Bool.true_and, Bool.false_and, Bool.and_true, beq_eq_false_iff_ne.2, ne_eq, not_false_eq_true] <;> try rfl
  by_cases h1 : x.1.2.1 = y.1.2.1 <;> simp only [h1, beq_self_eq_true, Bool.true_and, Bool.false_and, Bool.and_true, beq_eq_false_iff_ne.2, ne_eq, not_false_eq_true] <;> try rfl
  by_cases h2 : x.1.2.2 = y.1.2.2 <;> simp only [h2, beq_self_eq_true, Bool.true_and, Bool.false_and, Bool.and_true, beq_eq_false_iff_ne.2, ne_eq, not_false_eq_true] <;> try rfl
  by_cases h3 : x.2.1.1 = y.2.1.1 <;> simp only [h3, beq_self_eq_true, Bool.true_and, Bool.false_and, Bool.and_true, beq_eq_false_iff_ne.2, ne_eq, not_false_eq_true] <;> try rfl
  by_cases h4 : x.2.1.2.1 = y.2.1.2.1 <;> simp only [h4, beq_self_eq_true, Bool.true_and, Bool.false_and, Bool.and_true, beq_eq_false_iff_ne.2, ne_eq, not_false_eq_true] <;> try rfl
  by_cases h5 : x.2.1.2.2 = y.2.1.2.2 <;> simp only [h5, beq_self_eq_true, Bool.true_and, Bool.false_and, Bool.and_true, beq_eq_false_iff_ne.2, ne_eq, not_false_eq_true] <;> try rfl
  by_cases h6 : x.2.2 = y.2.2 <;> simp only [h6, beq_self_eq_true, Bool.true_and, Bool.false_and, Bool.and_true, beq_eq_false_iff_ne.2, ne_eq, not_false_eq_true] <;> try rfl

end Go.Proofs.Ytjhnkpapbjkbcaa
