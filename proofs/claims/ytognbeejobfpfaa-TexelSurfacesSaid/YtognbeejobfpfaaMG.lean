/- Ranges of the numbers that a walk meets. No program is named here. Structs compared: what the operation yields. -/
import Derived.Test.YtognbeejobfpfaaGo
import Derived.Test.YtognbeejobfpfaaMathA
import Derived.OpenShut
import Derived.Test.YtognbeejobfpfaaProg
namespace Go.Proofs.Ytognbeejobfpfaa
open Go.RowKit
set_option linter.unusedVariables false
set_option linter.unusedSimpArgs false

theorem wrU (n : Int) : IntKind.u64.wrap n = n % 18446744073709551616 := by simp [IntKind.wrap, IntKind.bits, IntKind.signed]
theorem wrU32 (n : Int) : IntKind.u32.wrap n = n % 4294967296 := by simp [IntKind.wrap, IntKind.bits, IntKind.signed]
theorem wrU16 (n : Int) : IntKind.u16.wrap n = n % 65536 := by simp [IntKind.wrap, IntKind.bits, IntKind.signed]
theorem wrU8 (n : Int) : IntKind.u8.wrap n = n % 256 := by simp [IntKind.wrap, IntKind.bits, IntKind.signed]
theorem wr_i64 {n m : Int} (h : IntKind.i64.wrap n = m) : InI m := by rw [wrI] at h; unfold InI wrap64 at *; omega
theorem wr_u64 {n m : Int} (h : IntKind.u64.wrap n = m) : InU m := by rw [wrU] at h; unfold InU; omega
theorem wr_u32 {n m : Int} (h : IntKind.u32.wrap n = m) : InU32 m := by rw [wrU32] at h; unfold InU32; omega
theorem wr_u16 {n m : Int} (h : IntKind.u16.wrap n = m) : InU16 m := by rw [wrU16] at h; unfold InU16; omega
theorem wr_u8 {n m : Int} (h : IntKind.u8.wrap n = m) : InU8 m := by rw [wrU8] at h; unfold InU8; omega
theorem gmax_InI {a b : Int} (ha : InI a) (hb : InI b) : InI (gmax a b) := by unfold gmax; split <;> assumption
theorem gmin_InI {a b : Int} (ha : InI a) (hb : InI b) : InI (gmin a b) := by unfold gmin; split <;> assumption
theorem wr_id {n : Int} (h : InI n) : IntKind.i64.wrap n = n := by rw [wrI]; unfold InI at h; unfold wrap64; omega
theorem wr_idU {n : Int} (h : InU n) : IntKind.u64.wrap n = n := by rw [wrU]; unfold InU at h; omega
theorem bits_i64 (op : BinOp) (x y : Int) : InI (bits op .i64 x y) := bounds_i64 (wf_bits op .i64 x y)
theorem bits_u64 (op : BinOp) (x y : Int) : InU (bits op .u64 x y) := by have := bounds_u64 (wf_bits op .u64 x y); unfold InU; omega
theorem bits_u32 (op : BinOp) (x y : Int) : InU32 (bits op .u32 x y) := by have := bounds_u32 (wf_bits op .u32 x y); unfold InU32; omega
theorem fdiv_i64 {x : Int} (n : Nat) (h : InI x) : InI (Int.fdiv x (2 ^ n)) := by
  have hp : (0 : Int) < 2 ^ n := Int.pow_pos (by omega)
  rw [Int.fdiv_eq_ediv_of_nonneg _ (by omega)]
  unfold InI at *
  rcases Int.le_total 0 x with g | g
  · have h1 := Int.ediv_le_self (2 ^ n) g
    have h2 := Int.ediv_nonneg g (Int.le_of_lt hp)
    omega
  · have h1 : x ≤ x / 2 ^ n := by
      rw [Int.le_ediv_iff_mul_le hp]
      have : x * 2 ^ n ≤ x * 1 := Int.mul_le_mul_of_nonpos_left g (by omega)
      omega
    have h2 : x / 2 ^ n ≤ 0 := by
      rw [← Int.not_lt]
      intro h3
      have h4 := Int.ediv_mul_le x (show (2 : Int) ^ n ≠ 0 by omega)
      have h5 : 0 < x / 2 ^ n * 2 ^ n := Int.mul_pos h3 hp
      omega
    omega
theorem fdiv_u64 {x : Int} (n : Nat) (h : InU x) : InU (Int.fdiv x (2 ^ n)) := by
  have hp : (0 : Int) < 2 ^ n := Int.pow_pos (by omega)
  rw [Int.fdiv_eq_ediv_of_nonneg _ (by omega)]
  unfold InU at *
  have h1 := Int.ediv_le_self (2 ^ n) h.1
  have h2 := Int.ediv_nonneg h.1 (Int.le_of_lt hp)
  omega
theorem fdiv_u32 {x : Int} (n : Nat) (h : InU32 x) : InU32 (Int.fdiv x (2 ^ n)) := by
  have hp : (0 : Int) < 2 ^ n := Int.pow_pos (by omega)
  rw [Int.fdiv_eq_ediv_of_nonneg _ (by omega)]
  unfold InU32 at *
  have h1 := Int.ediv_le_self (2 ^ n) h.1
  have h2 := Int.ediv_nonneg h.1 (Int.le_of_lt hp)
  omega
theorem tmod_i64 {x m : Int} (h : InI x) : InI (Int.tmod x m) := by
  have h1 : (Int.tmod x m).natAbs ≤ x.natAbs := by
    rw [Int.natAbs_tmod]
    exact Nat.mod_le _ _
  rcases Int.le_total 0 x with g | g
  · have := Int.tmod_nonneg m g
    unfold InI at *; omega
  · have h2 : Int.tmod x m ≤ 0 := by
      have := Int.tmod_nonneg m (show 0 ≤ -x by omega)
      rw [Int.neg_tmod] at this
      omega
    unfold InI at *; omega

end Go.Proofs.Ytognbeejobfpfaa

namespace Go.Proofs.Ytognbeejobfpfaa
open Go.RowKit Go.Sort
set_option linter.unusedVariables false
set_option linter.unusedSimpArgs false

theorem eqv_umbra_api_Point {ops : Array Oper} {a : Act} {w : World} {dst : Option Tmp} {xo yo : Operand} {T2 ty : TypeId} {pos : String} {after : Array Edge} {guard : Option (Nat × Bool)} {x y : Int × Int × Int}
    (hw : Region.wanted ⟨dst, .binOp .eql 69 xo yo T2, ty, pos, after, guard⟩ (yielded ops a.tmps) = true) (hx : a.eval xo = .agg #[.int .i64 x.1, .int .i64 x.2.1, .int .i64 x.2.2]) (hy : a.eval yo = .agg #[.int .i64 y.1, .int .i64 y.2.1, .int .i64 y.2.2]) : (Region.wanted ⟨dst, .binOp .eql 69 xo yo T2, ty, pos, after, guard⟩ (yielded ops a.tmps), (execOp a.eval ⟨dst, .binOp .eql 69 xo yo T2, ty, pos, after, guard⟩).run Try.prog w) = (true, .ok (.value (.bool (decide (x = y)))) w) := by
  refine Prod.ext hw ?_
  have hg : Try.prog.eqGuardType Try.prog.depth 69 = false := by kernel_rfl
  have e : decide (x = y) = (x.1 == y.1 && (x.2.1 == y.2.1 && x.2.2 == y.2.2)) := by
    rw [Bool.eq_iff_iff]
    simp [Prod.ext_iff]
  show (execOp a.eval ⟨dst, .binOp .eql 69 xo yo T2, ty, pos, after, guard⟩).run Try.prog w = _
  rw [e]
  unfold execOp
  simp only [hx, hy]
  simp [eqGuard, hg, binOp, Op.equal, Op.maxDepth, go_sem, Bool.and_assoc]
  by_cases h0 : x.1 = y.1 <;> by_cases h1 : x.2.1 = y.2.1 <;> by_cases h2 : x.2.2 = y.2.2 <;> simp [h0, h1, h2]
theorem eqv_umbra_api_Pointn {ops : Array Oper} {a : Act} {w : World} {dst : Option Tmp} {xo yo : Operand} {T2 ty : TypeId} {pos : String} {after : Array Edge} {guard : Option (Nat × Bool)} {x y : Int × Int × Int}
    (hw : Region.wanted ⟨dst, .binOp .neq 69 xo yo T2, ty, pos, after, guard⟩ (yielded ops a.tmps) = true) (hx : a.eval xo = .agg #[.int .i64 x.1, .int .i64 x.2.1, .int .i64 x.2.2]) (hy : a.eval yo = .agg #[.int .i64 y.1, .int .i64 y.2.1, .int .i64 y.2.2]) : (Region.wanted ⟨dst, .binOp .neq 69 xo yo T2, ty, pos, after, guard⟩ (yielded ops a.tmps), (execOp a.eval ⟨dst, .binOp .neq 69 xo yo T2, ty, pos, after, guard⟩).run Try.prog w) = (true, .ok (.value (.bool (!decide (x = y)))) w) := by
  refine Prod.ext hw ?_
  have hg : Try.prog.eqGuardType Try.prog.depth 69 = false := by kernel_rfl
  have e : decide (x = y) = (x.1 == y.1 && (x.2.1 == y.2.1 && x.2.2 == y.2.2)) := by
    rw [Bool.eq_iff_iff]
    simp [Prod.ext_iff]
  show (execOp a.eval ⟨dst, .binOp .neq 69 xo yo T2, ty, pos, after, guard⟩).run Try.prog w = _
  rw [e]
  unfold execOp
  simp only [hx, hy]
  simp [eqGuard, hg, binOp, Op.equal, Op.maxDepth, go_sem, Bool.and_assoc]
  by_cases h0 : x.1 = y.1 <;> by_cases h1 : x.2.1 = y.2.1 <;> by_cases h2 : x.2.2 = y.2.2 <;> simp [h0, h1, h2]

theorem eqv_umbra_api_Vec {ops : Array Oper} {a : Act} {w : World} {dst : Option Tmp} {xo yo : Operand} {T2 ty : TypeId} {pos : String} {after : Array Edge} {guard : Option (Nat × Bool)} {x y : Int × Int × Int}
    (hw : Region.wanted ⟨dst, .binOp .eql 29 xo yo T2, ty, pos, after, guard⟩ (yielded ops a.tmps) = true) (hx : a.eval xo = .agg #[.int .i64 x.1, .int .i64 x.2.1, .int .i64 x.2.2]) (hy : a.eval yo = .agg #[.int .i64 y.1, .int .i64 y.2.1, .int .i64 y.2.2]) : (Region.wanted ⟨dst, .binOp .eql 29 xo yo T2, ty, pos, after, guard⟩ (yielded ops a.tmps), (execOp a.eval ⟨dst, .binOp .eql 29 xo yo T2, ty, pos, after, guard⟩).run Try.prog w) = (true, .ok (.value (.bool (decide (x = y)))) w) := by
  refine Prod.ext hw ?_
  have hg : Try.prog.eqGuardType Try.prog.depth 29 = false := by kernel_rfl
  have e : decide (x = y) = (x.1 == y.1 && (x.2.1 == y.2.1 && x.2.2 == y.2.2)) := by
    rw [Bool.eq_iff_iff]
    simp [Prod.ext_iff]
  show (execOp a.eval ⟨dst, .binOp .eql 29 xo yo T2, ty, pos, after, guard⟩).run Try.prog w = _
  rw [e]
  unfold execOp
  simp only [hx, hy]
  simp [eqGuard, hg, binOp, Op.equal, Op.maxDepth, go_sem, Bool.and_assoc]
  by_cases h0 : x.1 = y.1 <;> by_cases h1 : x.2.1 = y.2.1 <;> by_cases h2 : x.2.2 = y.2.2 <;> simp [h0, h1, h2]
theorem eqv_umbra_api_Vecn {ops : Array Oper} {a : Act} {w : World} {dst : Option Tmp} {xo yo : Operand} {T2 ty : TypeId} {pos : String} {after : Array Edge} {guard : Option (Nat × Bool)} {x y : Int × Int × Int}
    (hw : Region.wanted ⟨dst, .binOp .neq 29 xo yo T2, ty, pos, after, guard⟩ (yielded ops a.tmps) = true) (hx : a.eval xo = .agg #[.int .i64 x.1, .int .i64 x.2.1, .int .i64 x.2.2]) (hy : a.eval yo = .agg #[.int .i64 y.1, .int .i64 y.2.1, .int .i64 y.2.2]) : (Region.wanted ⟨dst, .binOp .neq 29 xo yo T2, ty, pos, after, guard⟩ (yielded ops a.tmps), (execOp a.eval ⟨dst, .binOp .neq 29 xo yo T2, ty, pos, after, guard⟩).run Try.prog w) = (true, .ok (.value (.bool (!decide (x = y)))) w) := by
  refine Prod.ext hw ?_
  have hg : Try.prog.eqGuardType Try.prog.depth 29 = false := by kernel_rfl
  have e : decide (x = y) = (x.1 == y.1 && (x.2.1 == y.2.1 && x.2.2 == y.2.2)) := by
    rw [Bool.eq_iff_iff]
    simp [Prod.ext_iff]
  show (execOp a.eval ⟨dst, .binOp .neq 29 xo yo T2, ty, pos, after, guard⟩).run Try.prog w = _
  rw [e]
  unfold execOp
  simp only [hx, hy]
  simp [eqGuard, hg, binOp, Op.equal, Op.maxDepth, go_sem, Bool.and_assoc]
  by_cases h0 : x.1 = y.1 <;> by_cases h1 : x.2.1 = y.2.1 <;> by_cases h2 : x.2.2 = y.2.2 <;> simp [h0, h1, h2]

theorem eqv_umbra_api_Meet {ops : Array Oper} {a : Act} {w : World} {dst : Option Tmp} {xo yo : Operand} {T2 ty : TypeId} {pos : String} {after : Array Edge} {guard : Option (Nat × Bool)} {x y : Int × Int × Int × Int}
    (hw : Region.wanted ⟨dst, .binOp .eql 50 xo yo T2, ty, pos, after, guard⟩ (yielded ops a.tmps) = true) (hx : a.eval xo = .agg #[.int .i64 x.1, .int .i64 x.2.1, .int .i64 x.2.2.1, .int .i64 x.2.2.2]) (hy : a.eval yo = .agg #[.int .i64 y.1, .int .i64 y.2.1, .int .i64 y.2.2.1, .int .i64 y.2.2.2]) : (Region.wanted ⟨dst, .binOp .eql 50 xo yo T2, ty, pos, after, guard⟩ (yielded ops a.tmps), (execOp a.eval ⟨dst, .binOp .eql 50 xo yo T2, ty, pos, after, guard⟩).run Try.prog w) = (true, .ok (.value (.bool (decide (x = y)))) w) := by
  refine Prod.ext hw ?_
  have hg : Try.prog.eqGuardType Try.prog.depth 50 = false := by kernel_rfl
  have e : decide (x = y) = (x.1 == y.1 && (x.2.1 == y.2.1 && (x.2.2.1 == y.2.2.1 && x.2.2.2 == y.2.2.2))) := by
    rw [Bool.eq_iff_iff]
    simp [Prod.ext_iff]
  show (execOp a.eval ⟨dst, .binOp .eql 50 xo yo T2, ty, pos, after, guard⟩).run Try.prog w = _
  rw [e]
  unfold execOp
  simp only [hx, hy]
  simp [eqGuard, hg, binOp, Op.equal, Op.maxDepth, go_sem, Bool.and_assoc]
  by_cases h0 : x.1 = y.1 <;> by_cases h1 : x.2.1 = y.2.1 <;> by_cases h2 : x.2.2.1 = y.2.2.1 <;> by_cases h3 : x.2.2.2 = y.2.2.2 <;> simp [h0, h1, h2, h3]
theorem eqv_umbra_api_Meetn {ops : Array Oper} {a : Act} {w : World} {dst : Option Tmp} {xo yo : Operand} {T2 ty : TypeId} {pos : String} {after : Array Edge} {guard : Option (Nat × Bool)} {x y : Int × Int × Int × Int}
    (hw : Region.wanted ⟨dst, .binOp .neq 50 xo yo T2, ty, pos, after, guard⟩ (yielded ops a.tmps) = true) (hx : a.eval xo = .agg #[.int .i64 x.1, .int .i64 x.2.1, .int .i64 x.2.2.1, .int .i64 x.2.2.2]) (hy : a.eval yo = .agg #[.int .i64 y.1, .int .i64 y.2.1, .int .i64 y.2.2.1, .int .i64 y.2.2.2]) : (Region.wanted ⟨dst, .binOp .neq 50 xo yo T2, ty, pos, after, guard⟩ (yielded ops a.tmps), (execOp a.eval ⟨dst, .binOp .neq 50 xo yo T2, ty, pos, after, guard⟩).run Try.prog w) = (true, .ok (.value (.bool (!decide (x = y)))) w) := by
  refine Prod.ext hw ?_
  have hg : Try.prog.eqGuardType Try.prog.depth 50 = false := by kernel_rfl
  have e : decide (x = y) = (x.1 == y.1 && (x.2.1 == y.2.1 && (x.2.2.1 == y.2.2.1 && x.2.2.2 == y.2.2.2))) := by
    rw [Bool.eq_iff_iff]
    simp [Prod.ext_iff]
  show (execOp a.eval ⟨dst, .binOp .neq 50 xo yo T2, ty, pos, after, guard⟩).run Try.prog w = _
  rw [e]
  unfold execOp
  simp only [hx, hy]
  simp [eqGuard, hg, binOp, Op.equal, Op.maxDepth, go_sem, Bool.and_assoc]
  by_cases h0 : x.1 = y.1 <;> by_cases h1 : x.2.1 = y.2.1 <;> by_cases h2 : x.2.2.1 = y.2.2.1 <;> by_cases h3 : x.2.2.2 = y.2.2.2 <;> simp [h0, h1, h2, h3]

theorem eqv_umbra_api_Wide {ops : Array Oper} {a : Act} {w : World} {dst : Option Tmp} {xo yo : Operand} {T2 ty : TypeId} {pos : String} {after : Array Edge} {guard : Option (Nat × Bool)} {x y : Int × Int}
    (hw : Region.wanted ⟨dst, .binOp .eql 98 xo yo T2, ty, pos, after, guard⟩ (yielded ops a.tmps) = true) (hx : a.eval xo = .agg #[.int .i64 x.1, .int .u64 x.2]) (hy : a.eval yo = .agg #[.int .i64 y.1, .int .u64 y.2]) : (Region.wanted ⟨dst, .binOp .eql 98 xo yo T2, ty, pos, after, guard⟩ (yielded ops a.tmps), (execOp a.eval ⟨dst, .binOp .eql 98 xo yo T2, ty, pos, after, guard⟩).run Try.prog w) = (true, .ok (.value (.bool (decide (x = y)))) w) := by
  refine Prod.ext hw ?_
  have hg : Try.prog.eqGuardType Try.prog.depth 98 = false := by kernel_rfl
  have e : decide (x = y) = (x.1 == y.1 && x.2 == y.2) := by
    rw [Bool.eq_iff_iff]
    simp [Prod.ext_iff]
  show (execOp a.eval ⟨dst, .binOp .eql 98 xo yo T2, ty, pos, after, guard⟩).run Try.prog w = _
  rw [e]
  unfold execOp
  simp only [hx, hy]
  simp [eqGuard, hg, binOp, Op.equal, Op.maxDepth, go_sem, Bool.and_assoc]
  by_cases h0 : x.1 = y.1 <;> by_cases h1 : x.2 = y.2 <;> simp [h0, h1]
theorem eqv_umbra_api_Widen {ops : Array Oper} {a : Act} {w : World} {dst : Option Tmp} {xo yo : Operand} {T2 ty : TypeId} {pos : String} {after : Array Edge} {guard : Option (Nat × Bool)} {x y : Int × Int}
    (hw : Region.wanted ⟨dst, .binOp .neq 98 xo yo T2, ty, pos, after, guard⟩ (yielded ops a.tmps) = true) (hx : a.eval xo = .agg #[.int .i64 x.1, .int .u64 x.2]) (hy : a.eval yo = .agg #[.int .i64 y.1, .int .u64 y.2]) : (Region.wanted ⟨dst, .binOp .neq 98 xo yo T2, ty, pos, after, guard⟩ (yielded ops a.tmps), (execOp a.eval ⟨dst, .binOp .neq 98 xo yo T2, ty, pos, after, guard⟩).run Try.prog w) = (true, .ok (.value (.bool (!decide (x = y)))) w) := by
  refine Prod.ext hw ?_
  have hg : Try.prog.eqGuardType Try.prog.depth 98 = false := by kernel_rfl
  have e : decide (x = y) = (x.1 == y.1 && x.2 == y.2) := by
    rw [Bool.eq_iff_iff]
    simp [Prod.ext_iff]
  show (execOp a.eval ⟨dst, .binOp .neq 98 xo yo T2, ty, pos, after, guard⟩).run Try.prog w = _
  rw [e]
  unfold execOp
  simp only [hx, hy]
  simp [eqGuard, hg, binOp, Op.equal, Op.maxDepth, go_sem, Bool.and_assoc]
  by_cases h0 : x.1 = y.1 <;> by_cases h1 : x.2 = y.2 <;> simp [h0, h1]

/- wide ones -/
theorem eqv_W {ops : Array Oper} {a : Act} {w : World} {dst : Option Tmp} {xo yo : Operand} {T2 ty : TypeId} {pos : String} {after : Array Edge} {guard : Option (Nat × Bool)} {x y : Int}
    (hw : Region.wanted ⟨dst, .binOp .eql 98 xo yo T2, ty, pos, after, guard⟩ (yielded ops a.tmps) = true) (hx : a.eval xo = W x) (hy : a.eval yo = W y) : (Region.wanted ⟨dst, .binOp .eql 98 xo yo T2, ty, pos, after, guard⟩ (yielded ops a.tmps), (execOp a.eval ⟨dst, .binOp .eql 98 xo yo T2, ty, pos, after, guard⟩).run Try.prog w) = (true, .ok (.value (.bool (decide (x = y)))) w) := by
  have h := eqv_umbra_api_Wide (w := w) (x := (wHi x, wLo x)) (y := (wHi y, wLo y)) hw hx hy
  have e : decide ((wHi x, wLo x) = (wHi y, wLo y)) = decide (x = y) := by
    rw [Bool.eq_iff_iff, decide_eq_true_iff, decide_eq_true_iff, Prod.mk.injEq]
    unfold wHi wLo
    omega
  rw [e] at h
  exact h
theorem eqv_Wn {ops : Array Oper} {a : Act} {w : World} {dst : Option Tmp} {xo yo : Operand} {T2 ty : TypeId} {pos : String} {after : Array Edge} {guard : Option (Nat × Bool)} {x y : Int}
    (hw : Region.wanted ⟨dst, .binOp .neq 98 xo yo T2, ty, pos, after, guard⟩ (yielded ops a.tmps) = true) (hx : a.eval xo = W x) (hy : a.eval yo = W y) : (Region.wanted ⟨dst, .binOp .neq 98 xo yo T2, ty, pos, after, guard⟩ (yielded ops a.tmps), (execOp a.eval ⟨dst, .binOp .neq 98 xo yo T2, ty, pos, after, guard⟩).run Try.prog w) = (true, .ok (.value (.bool (!decide (x = y)))) w) := by
  have h := eqv_umbra_api_Widen (w := w) (x := (wHi x, wLo x)) (y := (wHi y, wLo y)) hw hx hy
  have e : decide ((wHi x, wLo x) = (wHi y, wLo y)) = decide (x = y) := by
    rw [Bool.eq_iff_iff, decide_eq_true_iff, decide_eq_true_iff, Prod.mk.injEq]
    unfold wHi wLo
    omega
  rw [e] at h
  exact h
end Go.Proofs.Ytognbeejobfpfaa
