/- Structs compared: what the operation yields. -/
import Derived.Test.YtognbeejobfpfaaGoR
import Derived.Test.YtognbeejobfpfaaProg
namespace Go.Proofs.Ytognbeejobfpfaa
open Go.RowKit Go.Sort
set_option linter.unusedVariables false
set_option linter.unusedSimpArgs false

theorem eqv_umbra_api_Point {ops : Array Oper} {a : Act} {w : World} {dst : Option Tmp} {xo yo : Operand} {T2 ty : TypeId} {pos : String} {after : Array Edge} {guard : Option (Nat × Bool)} {x y : Int × Int × Int}
    (hw : Region.wanted ⟨dst, .binOp .eql 69 xo yo T2, ty, pos, after, guard⟩ (yielded ops a.tmps) = true) (hx : a.eval xo = .agg #[.int .i64 x.1, .int .i64 x.2.1, .int .i64 x.2.2]) (hy : a.eval yo = .agg #[.int .i64 y.1, .int .i64 y.2.1, .int .i64 y.2.2]) : (Region.wanted ⟨dst, .binOp .eql 69 xo yo T2, ty, pos, after, guard⟩ (yielded ops a.tmps), (execOp a.eval ⟨dst, .binOp .eql 69 xo yo T2, ty, pos, after, guard⟩).run Try.prog w) = (true, .ok (.value (.bool (decide (x = y)))) w) := by
  refine Prod.ext hw ?_
  have hg : Try.prog.eqGuardType Try.prog.depth 69 = false := by kernel_rfl
  have e : decide (x = y) = (x.1 == y.1 && (x.2.1 == y.2.1 && x.2.2 == y.2.2)) := by
    rw [Bool.eq_iff_iff]
    simp [Prod.ext_iff]
  show (execOp a.eval ⟨dst, .binOp .eql 69 xo yo T2, ty, pos, after, guard⟩).run Try.prog w = _
  rw [e]
  unfold execOp
  simp only [hx, hy]
  simp [eqGuard, hg, binOp, Op.equal, Op.maxDepth, go_sem, Bool.and_assoc]
  by_cases h0 : x.1 = y.1 <;> by_cases h1 : x.2.1 = y.2.1 <;> by_cases h2 : x.2.2 = y.2.2 <;> simp [h0, h1, h2]
theorem eqv_umbra_api_Pointn {ops : Array Oper} {a : Act} {w : World} {dst : Option Tmp} {xo yo : Operand} {T2 ty : TypeId} {pos : String} {after : Array Edge} {guard : Option (Nat × Bool)} {x y : Int × Int × Int}
    (hw : Region.wanted ⟨dst, .binOp .neq 69 xo yo T2, ty, pos, after, guard⟩ (yielded ops a.tmps) = true) (hx : a.eval xo = .agg #[.int .i64 x.1, .int .i64 x.2.1, .int .i64 x.2.2]) (hy : a.eval yo = .agg #[.int .i64 y.1, .int .i64 y.2.1, .int .i64 y.2.2]) : (Region.wanted ⟨dst, .binOp .neq 69 xo yo T2, ty, pos, after, guard⟩ (yielded ops a.tmps), (execOp a.eval ⟨dst, .binOp .neq 69 xo yo T2, ty, pos, after, guard⟩).run Try.prog w) = (true, .ok (.value (.bool (!decide (x = y)))) w) := by
  refine Prod.ext hw ?_
  have hg : Try.prog.eqGuardType Try.prog.depth 69 = false := by kernel_rfl
  have e : decide (x = y) = (x.1 == y.1 && (x.2.1 == y.2.1 && x.2.2 == y.2.2)) := by
    rw [Bool.eq_iff_iff]
    simp [Prod.ext_iff]
  show (execOp a.eval ⟨dst, .binOp .neq 69 xo yo T2, ty, pos, after, guard⟩).run Try.prog w = _
  rw [e]
  unfold execOp
  simp only [hx, hy]
  simp [eqGuard, hg, binOp, Op.equal, Op.maxDepth, go_sem, Bool.and_assoc]
  by_cases h0 : x.1 = y.1 <;> by_cases h1 : x.2.1 = y.2.1 <;> by_cases h2 : x.2.2 = y.2.2 <;> simp [h0, h1, h2]

theorem eqv_umbra_api_Vec {ops : Array Oper} {a : Act} {w : World} {dst : Option Tmp} {xo yo : Operand} {T2 ty : TypeId} {pos : String} {after : Array Edge} {guard : Option (Nat × Bool)} {x y : Int × Int × Int}
    (hw : Region.wanted ⟨dst, .binOp .eql 29 xo yo T2, ty, pos, after, guard⟩ (yielded ops a.tmps) = true) (hx : a.eval xo = .agg #[.int .i64 x.1, .int .i64 x.2.1, .int .i64 x.2.2]) (hy : a.eval yo = .agg #[.int .i64 y.1, .int .i64 y.2.1, .int .i64 y.2.2]) : (Region.wanted ⟨dst, .binOp .eql 29 xo yo T2, ty, pos, after, guard⟩ (yielded ops a.tmps), (execOp a.eval ⟨dst, .binOp .eql 29 xo yo T2, ty, pos, after, guard⟩).run Try.prog w) = (true, .ok (.value (.bool (decide (x = y)))) w) := by
  refine Prod.ext hw ?_
  have hg : Try.prog.eqGuardType Try.prog.depth 29 = false := by kernel_rfl
  have e : decide (x = y) = (x.1 == y.1 && (x.2.1 == y.2.1 && x.2.2 == y.2.2)) := by
    rw [Bool.eq_iff_iff]
    simp [Prod.ext_iff]
  show (execOp a.eval ⟨dst, .binOp .eql 29 xo yo T2, ty, pos, after, guard⟩).run Try.prog w = _
  rw [e]
  unfold execOp
  simp only [hx, hy]
  simp [eqGuard, hg, binOp, Op.equal, Op.maxDepth, go_sem, Bool.and_assoc]
  by_cases h0 : x.1 = y.1 <;> by_cases h1 : x.2.1 = y.2.1 <;> by_cases h2 : x.2.2 = y.2.2 <;> simp [h0, h1, h2]
theorem eqv_umbra_api_Vecn {ops : Array Oper} {a : Act} {w : World} {dst : Option Tmp} {xo yo : Operand} {T2 ty : TypeId} {pos : String} {after : Array Edge} {guard : Option (Nat × Bool)} {x y : Int × Int × Int}
    (hw : Region.wanted ⟨dst, .binOp .neq 29 xo yo T2, ty, pos, after, guard⟩ (yielded ops a.tmps) = true) (hx : a.eval xo = .agg #[.int .i64 x.1, .int .i64 x.2.1, .int .i64 x.2.2]) (hy : a.eval yo = .agg #[.int .i64 y.1, .int .i64 y.2.1, .int .i64 y.2.2]) : (Region.wanted ⟨dst, .binOp .neq 29 xo yo T2, ty, pos, after, guard⟩ (yielded ops a.tmps), (execOp a.eval ⟨dst, .binOp .neq 29 xo yo T2, ty, pos, after, guard⟩).run Try.prog w) = (true, .ok (.value (.bool (!decide (x = y)))) w) := by
  refine Prod.ext hw ?_
  have hg : Try.prog.eqGuardType Try.prog.depth 29 = false := by kernel_rfl
  have e : decide (x = y) = (x.1 == y.1 && (x.2.1 == y.2.1 && x.2.2 == y.2.2)) := by
    rw [Bool.eq_iff_iff]
    simp [Prod.ext_iff]
  show (execOp a.eval ⟨dst, .binOp .neq 29 xo yo T2, ty, pos, after, guard⟩).run Try.prog w = _
  rw [e]
  unfold execOp
  simp only [hx, hy]
  simp [eqGuard, hg, binOp, Op.equal, Op.maxDepth, go_sem, Bool.and_assoc]
  by_cases h0 : x.1 = y.1 <;> by_cases h1 : x.2.1 = y.2.1 <;> by_cases h2 : x.2.2 = y.2.2 <;> simp [h0, h1, h2]

theorem eqv_umbra_api_Meet {ops : Array Oper} {a : Act} {w : World} {dst : Option Tmp} {xo yo : Operand} {T2 ty : TypeId} {pos : String} {after : Array Edge} {guard : Option (Nat × Bool)} {x y : Int × Int × Int × Int}
    (hw : Region.wanted ⟨dst, .binOp .eql 50 xo yo T2, ty, pos, after, guard⟩ (yielded ops a.tmps) = true) (hx : a.eval xo = .agg #[.int .i64 x.1, .int .i64 x.2.1, .int .i64 x.2.2.1, .int .i64 x.2.2.2]) (hy : a.eval yo = .agg #[.int .i64 y.1, .int .i64 y.2.1, .int .i64 y.2.2.1, .int .i64 y.2.2.2]) : (Region.wanted ⟨dst, .binOp .eql 50 xo yo T2, ty, pos, after, guard⟩ (yielded ops a.tmps), (execOp a.eval ⟨dst, .binOp .eql 50 xo yo T2, ty, pos, after, guard⟩).run Try.prog w) = (true, .ok (.value (.bool (decide (x = y)))) w) := by
  refine Prod.ext hw ?_
  have hg : Try.prog.eqGuardType Try.prog.depth 50 = false := by kernel_rfl
  have e : decide (x = y) = (x.1 == y.1 && (x.2.1 == y.2.1 && (x.2.2.1 == y.2.2.1 && x.2.2.2 == y.2.2.2))) := by
    rw [Bool.eq_iff_iff]
    simp [Prod.ext_iff]
  show (execOp a.eval ⟨dst, .binOp .eql 50 xo yo T2, ty, pos, after, guard⟩).run Try.prog w = _
  rw [e]
  unfold execOp
  simp only [hx, hy]
  simp [eqGuard, hg, binOp, Op.equal, Op.maxDepth, go_sem, Bool.and_assoc]
  by_cases h0 : x.1 = y.1 <;> by_cases h1 : x.2.1 = y.2.1 <;> by_cases h2 : x.2.2.1 = y.2.2.1 <;> by_cases h3 : x.2.2.2 = y.2.2.2 <;> simp [h0, h1, h2, h3]
theorem eqv_umbra_api_Meetn {ops : Array Oper} {a : Act} {w : World} {dst : Option Tmp} {xo yo : Operand} {T2 ty : TypeId} {pos : String} {after : Array Edge} {guard : Option (Nat × Bool)} {x y : Int × Int × Int × Int}
    (hw : Region.wanted ⟨dst, .binOp .neq 50 xo yo T2, ty, pos, after, guard⟩ (yielded ops a.tmps) = true) (hx : a.eval xo = .agg #[.int .i64 x.1, .int .i64 x.2.1, .int .i64 x.2.2.1, .int .i64 x.2.2.2]) (hy : a.eval yo = .agg #[.int .i64 y.1, .int .i64 y.2.1, .int .i64 y.2.2.1, .int .i64 y.2.2.2]) : (Region.wanted ⟨dst, .binOp .neq 50 xo yo T2, ty, pos, after, guard⟩ (yielded ops a.tmps), (execOp a.eval ⟨dst, .binOp .neq 50 xo yo T2, ty, pos, after, guard⟩).run Try.prog w) = (true, .ok (.value (.bool (!decide (x = y)))) w) := by
  refine Prod.ext hw ?_
  have hg : Try.prog.eqGuardType Try.prog.depth 50 = false := by kernel_rfl
  have e : decide (x = y) = (x.1 == y.1 && (x.2.1 == y.2.1 && (x.2.2.1 == y.2.2.1 && x.2.2.2 == y.2.2.2))) := by
    rw [Bool.eq_iff_iff]
    simp [Prod.ext_iff]
  show (execOp a.eval ⟨dst, .binOp .neq 50 xo yo T2, ty, pos, after, guard⟩).run Try.prog w = _
  rw [e]
  unfold execOp
  simp only [hx, hy]
  simp [eqGuard, hg, binOp, Op.equal, Op.maxDepth, go_sem, Bool.and_assoc]
  by_cases h0 : x.1 = y.1 <;> by_cases h1 : x.2.1 = y.2.1 <;> by_cases h2 : x.2.2.1 = y.2.2.1 <;> by_cases h3 : x.2.2.2 = y.2.2.2 <;> simp [h0, h1, h2, h3]

theorem eqv_umbra_api_Wide {ops : Array Oper} {a : Act} {w : World} {dst : Option Tmp} {xo yo : Operand} {T2 ty : TypeId} {pos : String} {after : Array Edge} {guard : Option (Nat × Bool)} {x y : Int × Int}
    (hw : Region.wanted ⟨dst, .binOp .eql 98 xo yo T2, ty, pos, after, guard⟩ (yielded ops a.tmps) = true) (hx : a.eval xo = .agg #[.int .i64 x.1, .int .u64 x.2]) (hy : a.eval yo = .agg #[.int .i64 y.1, .int .u64 y.2]) : (Region.wanted ⟨dst, .binOp .eql 98 xo yo T2, ty, pos, after, guard⟩ (yielded ops a.tmps), (execOp a.eval ⟨dst, .binOp .eql 98 xo yo T2, ty, pos, after, guard⟩).run Try.prog w) = (true, .ok (.value (.bool (decide (x = y)))) w) := by
  refine Prod.ext hw ?_
  have hg : Try.prog.eqGuardType Try.prog.depth 98 = false := by kernel_rfl
  have e : decide (x = y) = (x.1 == y.1 && x.2 == y.2) := by
    rw [Bool.eq_iff_iff]
    simp [Prod.ext_iff]
  show (execOp a.eval ⟨dst, .binOp .eql 98 xo yo T2, ty, pos, after, guard⟩).run Try.prog w = _
  rw [e]
  unfold execOp
  simp only [hx, hy]
  simp [eqGuard, hg, binOp, Op.equal, Op.maxDepth, go_sem, Bool.and_assoc]
  by_cases h0 : x.1 = y.1 <;> by_cases h1 : x.2 = y.2 <;> simp [h0, h1]
theorem eqv_umbra_api_Widen {ops : Array Oper} {a : Act} {w : World} {dst : Option Tmp} {xo yo : Operand} {T2 ty : TypeId} {pos : String} {after : Array Edge} {guard : Option (Nat × Bool)} {x y : Int × Int}
    (hw : Region.wanted ⟨dst, .binOp .neq 98 xo yo T2, ty, pos, after, guard⟩ (yielded ops a.tmps) = true) (hx : a.eval xo = .agg #[.int .i64 x.1, .int .u64 x.2]) (hy : a.eval yo = .agg #[.int .i64 y.1, .int .u64 y.2]) : (Region.wanted ⟨dst, .binOp .neq 98 xo yo T2, ty, pos, after, guard⟩ (yielded ops a.tmps), (execOp a.eval ⟨dst, .binOp .neq 98 xo yo T2, ty, pos, after, guard⟩).run Try.prog w) = (true, .ok (.value (.bool (!decide (x = y)))) w) := by
  refine Prod.ext hw ?_
  have hg : Try.prog.eqGuardType Try.prog.depth 98 = false := by kernel_rfl
  have e : decide (x = y) = (x.1 == y.1 && x.2 == y.2) := by
    rw [Bool.eq_iff_iff]
    simp [Prod.ext_iff]
  show (execOp a.eval ⟨dst, .binOp .neq 98 xo yo T2, ty, pos, after, guard⟩).run Try.prog w = _
  rw [e]
  unfold execOp
  simp only [hx, hy]
  simp [eqGuard, hg, binOp, Op.equal, Op.maxDepth, go_sem, Bool.and_assoc]
  by_cases h0 : x.1 = y.1 <;> by_cases h1 : x.2 = y.2 <;> simp [h0, h1]

/- wide ones -/
theorem eqv_W {ops : Array Oper} {a : Act} {w : World} {dst : Option Tmp} {xo yo : Operand} {T2 ty : TypeId} {pos : String} {after : Array Edge} {guard : Option (Nat × Bool)} {x y : Int}
    (hw : Region.wanted ⟨dst, .binOp .eql 98 xo yo T2, ty, pos, after, guard⟩ (yielded ops a.tmps) = true) (hx : a.eval xo = W x) (hy : a.eval yo = W y) : (Region.wanted ⟨dst, .binOp .eql 98 xo yo T2, ty, pos, after, guard⟩ (yielded ops a.tmps), (execOp a.eval ⟨dst, .binOp .eql 98 xo yo T2, ty, pos, after, guard⟩).run Try.prog w) = (true, .ok (.value (.bool (decide (x = y)))) w) := by
  have h := eqv_umbra_api_Wide (w := w) (x := (wHi x, wLo x)) (y := (wHi y, wLo y)) hw hx hy
  have e : decide ((wHi x, wLo x) = (wHi y, wLo y)) = decide (x = y) := by
    rw [Bool.eq_iff_iff, decide_eq_true_iff, decide_eq_true_iff, Prod.mk.injEq]
    unfold wHi wLo
    omega
  rw [e] at h
  exact h
theorem eqv_Wn {ops : Array Oper} {a : Act} {w : World} {dst : Option Tmp} {xo yo : Operand} {T2 ty : TypeId} {pos : String} {after : Array Edge} {guard : Option (Nat × Bool)} {x y : Int}
    (hw : Region.wanted ⟨dst, .binOp .neq 98 xo yo T2, ty, pos, after, guard⟩ (yielded ops a.tmps) = true) (hx : a.eval xo = W x) (hy : a.eval yo = W y) : (Region.wanted ⟨dst, .binOp .neq 98 xo yo T2, ty, pos, after, guard⟩ (yielded ops a.tmps), (execOp a.eval ⟨dst, .binOp .neq 98 xo yo T2, ty, pos, after, guard⟩).run Try.prog w) = (true, .ok (.value (.bool (!decide (x = y)))) w) := by
  have h := eqv_umbra_api_Widen (w := w) (x := (wHi x, wLo x)) (y := (wHi y, wLo y)) hw hx hy
  have e : decide ((wHi x, wLo x) = (wHi y, wLo y)) = decide (x = y) := by
    rw [Bool.eq_iff_iff, decide_eq_true_iff, decide_eq_true_iff, Prod.mk.injEq]
    unfold wHi wLo
    omega
  rw [e] at h
  exact h
end Go.Proofs.Ytognbeejobfpfaa
