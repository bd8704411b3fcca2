/- Ranges of the numbers that a walk meets. No program is named here. -/
import Derived.Test.YtbfgmedjogjkeaaGo
import Derived.Test.YtbfgmedjogjkeaaMathA
namespace Go.Proofs.Ytbfgmedjogjkeaa
open Go.RowKit
set_option linter.unusedVariables false
set_option linter.unusedSimpArgs false

theorem wrU (n : Int) : IntKind.u64.wrap n = n % 18446744073709551616 := by simp [IntKind.wrap, IntKind.bits, IntKind.signed]
theorem wrU32 (n : Int) : IntKind.u32.wrap n = n % 4294967296 := by simp [IntKind.wrap, IntKind.bits, IntKind.signed]
theorem wrU16 (n : Int) : IntKind.u16.wrap n = n % 65536 := by simp [IntKind.wrap, IntKind.bits, IntKind.signed]
theorem wrU8 (n : Int) : IntKind.u8.wrap n = n % 256 := by simp [IntKind.wrap, IntKind.bits, IntKind.signed]
theorem wr_i64 {n m : Int} (h : IntKind.i64.wrap n = m) : InI m := by rw [wrI] at h; unfold InI wrap64 at *; omega
theorem wr_u64 {n m : Int} (h : IntKind.u64.wrap n = m) : InU m := by rw [wrU] at h; unfold InU; omega
theorem wr_u32 {n m : Int} (h : IntKind.u32.wrap n = m) : InU32 m := by rw [wrU32] at h; unfold InU32; omega
theorem wr_u16 {n m : Int} (h : IntKind.u16.wrap n = m) : InU16 m := by rw [wrU16] at h; unfold InU16; omega
theorem wr_u8 {n m : Int} (h : IntKind.u8.wrap n = m) : InU8 m := by rw [wrU8] at h; unfold InU8; omega
theorem gmax_InI {a b : Int} (ha : InI a) (hb : InI b) : InI (gmax a b) := by unfold gmax; split <;> assumption
theorem gmin_InI {a b : Int} (ha : InI a) (hb : InI b) : InI (gmin a b) := by unfold gmin; split <;> assumption
theorem wr_id {n : Int} (h : InI n) : IntKind.i64.wrap n = n := by rw [wrI]; unfold InI at h; unfold wrap64; omega
theorem wr_idU {n : Int} (h : InU n) : IntKind.u64.wrap n = n := by rw [wrU]; unfold InU at h; omega

end Go.Proofs.Ytbfgmedjogjkeaa
