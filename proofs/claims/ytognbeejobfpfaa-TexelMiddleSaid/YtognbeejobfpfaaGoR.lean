/- Ranges of the numbers that a walk meets. No program is named here. -/
import Derived.Test.YtognbeejobfpfaaGo
import Derived.Test.YtognbeejobfpfaaMathA
import Derived.OpenShut
namespace Go.Proofs.Ytognbeejobfpfaa
open Go.RowKit
set_option linter.unusedVariables false
set_option linter.unusedSimpArgs false

theorem wrU (n : Int) : IntKind.u64.wrap n = n % 18446744073709551616 := by simp [IntKind.wrap, IntKind.bits, IntKind.signed]
theorem wrU32 (n : Int) : IntKind.u32.wrap n = n % 4294967296 := by simp [IntKind.wrap, IntKind.bits, IntKind.signed]
theorem wrU16 (n : Int) : IntKind.u16.wrap n = n % 65536 := by simp [IntKind.wrap, IntKind.bits, IntKind.signed]
theorem wrU8 (n : Int) : IntKind.u8.wrap n = n % 256 := by simp [IntKind.wrap, IntKind.bits, IntKind.signed]
theorem wr_i64 {n m : Int} (h : IntKind.i64.wrap n = m) : InI m := by rw [wrI] at h; unfold InI wrap64 at *; omega
theorem wr_u64 {n m : Int} (h : IntKind.u64.wrap n = m) : InU m := by rw [wrU] at h; unfold InU; omega
theorem wr_u32 {n m : Int} (h : IntKind.u32.wrap n = m) : InU32 m := by rw [wrU32] at h; unfold InU32; omega
theorem wr_u16 {n m : Int} (h : IntKind.u16.wrap n = m) : InU16 m := by rw [wrU16] at h; unfold InU16; omega
theorem wr_u8 {n m : Int} (h : IntKind.u8.wrap n = m) : InU8 m := by rw [wrU8] at h; unfold InU8; omega
theorem gmax_InI {a b : Int} (ha : InI a) (hb : InI b) : InI (gmax a b) := by unfold gmax; split <;> assumption
theorem gmin_InI {a b : Int} (ha : InI a) (hb : InI b) : InI (gmin a b) := by unfold gmin; split <;> assumption
theorem wr_id {n : Int} (h : InI n) : IntKind.i64.wrap n = n := by rw [wrI]; unfold InI at h; unfold wrap64; omega
theorem wr_idU {n : Int} (h : InU n) : IntKind.u64.wrap n = n := by rw [wrU]; unfold InU at h; omega
theorem bits_i64 (op : BinOp) (x y : Int) : InI (bits op .i64 x y) := bounds_i64 (wf_bits op .i64 x y)
theorem bits_u64 (op : BinOp) (x y : Int) : InU (bits op .u64 x y) := by have := bounds_u64 (wf_bits op .u64 x y); unfold InU; omega
theorem bits_u32 (op : BinOp) (x y : Int) : InU32 (bits op .u32 x y) := by have := bounds_u32 (wf_bits op .u32 x y); unfold InU32; omega
theorem fdiv_i64 {x : Int} (n : Nat) (h : InI x) : InI (Int.fdiv x (2 ^ n)) := by
  have hp : (0 : Int) < 2 ^ n := Int.pow_pos (by omega)
  rw [Int.fdiv_eq_ediv_of_nonneg _ (by omega)]
  unfold InI at *
  rcases Int.le_total 0 x with g | g
  · have h1 := Int.ediv_le_self (2 ^ n) g
    have h2 := Int.ediv_nonneg g (Int.le_of_lt hp)
    omega
  · have h1 : x ≤ x / 2 ^ n := by
      rw [Int.le_ediv_iff_mul_le hp]
      have : x * 2 ^ n ≤ x * 1 := Int.mul_le_mul_of_nonpos_left g (by omega)
      omega
    have h2 : x / 2 ^ n ≤ 0 := by
      rw [← Int.not_lt]
      intro h3
      have h4 := Int.ediv_mul_le x (show (2 : Int) ^ n ≠ 0 by omega)
      have h5 : 0 < x / 2 ^ n * 2 ^ n := Int.mul_pos h3 hp
      omega
    omega
theorem fdiv_u64 {x : Int} (n : Nat) (h : InU x) : InU (Int.fdiv x (2 ^ n)) := by
  have hp : (0 : Int) < 2 ^ n := Int.pow_pos (by omega)
  rw [Int.fdiv_eq_ediv_of_nonneg _ (by omega)]
  unfold InU at *
  have h1 := Int.ediv_le_self (2 ^ n) h.1
  have h2 := Int.ediv_nonneg h.1 (Int.le_of_lt hp)
  omega
theorem fdiv_u32 {x : Int} (n : Nat) (h : InU32 x) : InU32 (Int.fdiv x (2 ^ n)) := by
  have hp : (0 : Int) < 2 ^ n := Int.pow_pos (by omega)
  rw [Int.fdiv_eq_ediv_of_nonneg _ (by omega)]
  unfold InU32 at *
  have h1 := Int.ediv_le_self (2 ^ n) h.1
  have h2 := Int.ediv_nonneg h.1 (Int.le_of_lt hp)
  omega
theorem tmod_i64 {x m : Int} (h : InI x) : InI (Int.tmod x m) := by
  have h1 : (Int.tmod x m).natAbs ≤ x.natAbs := by
    rw [Int.natAbs_tmod]
    exact Nat.mod_le _ _
  rcases Int.le_total 0 x with g | g
  · have := Int.tmod_nonneg m g
    unfold InI at *; omega
  · have h2 : Int.tmod x m ≤ 0 := by
      have := Int.tmod_nonneg m (show 0 ≤ -x by omega)
      rw [Int.neg_tmod] at this
      omega
    unfold InI at *; omega

end Go.Proofs.Ytognbeejobfpfaa
