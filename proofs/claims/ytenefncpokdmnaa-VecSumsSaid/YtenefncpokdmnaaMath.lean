/- Plain numbers: wide numbers as integers; no program is named here. -/
import Derived.Test.YtenefncpokdmnaaBase
namespace Go.Proofs.Ytenefncpokdmnaa
open Go.RowKit
set_option linter.unusedVariables false
set_option linter.unusedSimpArgs false

def wHi (x : Int) : Int := x / 18446744073709551616
def wLo (x : Int) : Int := x % 18446744073709551616
def InW (x : Int) : Prop := -170141183460469231731687303715884105728 ≤ x ∧ x < 170141183460469231731687303715884105728
def InWb (x : Int) : Bool := decide (-170141183460469231731687303715884105728 ≤ x ∧ x < 170141183460469231731687303715884105728)
def InI (n : Int) : Prop := -9223372036854775808 ≤ n ∧ n ≤ 9223372036854775807
def InU (n : Int) : Prop := 0 ≤ n ∧ n < 18446744073709551616
def InU2 (n : Int) : Prop := 0 ≤ n ∧ n < 340282366920938463463374607431768211456
def fits (x : Int) : Bool := decide (-9223372036854775808 ≤ x ∧ x ≤ 9223372036854775807)
def intN (x : Int) : Int := if fits x then x else 0
def wrap128 (x : Int) : Int := (x + 170141183460469231731687303715884105728) % 340282366920938463463374607431768211456 - 170141183460469231731687303715884105728
def neg128 (x : Int) : Int := (-x) % 340282366920938463463374607431768211456
def absU (n : Int) : Int := if n < 0 then -n else n
/-- A wide number as a value. -/
abbrev W (x : Int) : Value := .agg #[.int .i64 (wHi x), .int .u64 (wLo x)]

theorem InWb_true {x : Int} (h : InW x) : InWb x = true := by unfold InWb; exact decide_eq_true h
theorem InWb_false {x : Int} (h : ¬ InW x) : InWb x = false := by unfold InWb; exact decide_eq_false h
theorem InWb_iff {x : Int} : InWb x = true ↔ InW x := by unfold InWb InW; simp
theorem fits_true {x : Int} (h : InI x) : fits x = true := by unfold fits; exact decide_eq_true h
theorem fits_iff {x : Int} : fits x = true ↔ InI x := by unfold fits InI; simp
theorem fits_false {x : Int} (h : ¬ InI x) : fits x = false := by unfold fits; exact decide_eq_false h
theorem intN_fits {x : Int} (h : fits x = true) : intN x = x := by unfold intN; rw [if_pos h]
theorem intN_not {x : Int} (h : fits x = false) : intN x = 0 := by unfold intN; rw [if_neg (by simp [h])]
theorem wrap128_in {x : Int} (h : InW x) : wrap128 x = x := by unfold wrap128 InW at *; omega
theorem InW_wrap128 (x : Int) : InW (wrap128 x) := by unfold wrap128 InW; omega
theorem InW_of_I {x : Int} (h : InI x) : InW x := by unfold InI InW at *; omega
theorem absU_InU {n : Int} (h : InI n) : InU (absU n) := by unfold InI InU absU at *; omega
theorem absU_le {n : Int} (h : InI n) : 0 ≤ absU n ∧ absU n ≤ 9223372036854775808 := by unfold InI absU at *; omega

theorem wHi_I {x : Int} (h : InW x) : InI (wHi x) := by unfold InW InI wHi at *; omega
theorem wLo_U (x : Int) : InU (wLo x) := by unfold InU wLo; omega
theorem wHi_U {x : Int} (h : InU2 x) : InU (wHi x) := by unfold InU2 InU wHi at *; omega
theorem w_split (x : Int) : x = wHi x * 18446744073709551616 + wLo x := by unfold wHi wLo; omega
theorem w_of (hi lo : Int) (h1 : InI hi) (h2 : InU lo) : ∃ x, InW x ∧ hi = wHi x ∧ lo = wLo x :=
  ⟨hi * 18446744073709551616 + lo, by unfold InI InU InW at *; omega, by unfold InU wHi at *; omega, by unfold InU wLo at *; omega⟩
theorem u_of (hi lo : Int) (h1 : InU hi) (h2 : InU lo) : ∃ x, InU2 x ∧ hi = wHi x ∧ lo = wLo x :=
  ⟨hi * 18446744073709551616 + lo, by unfold InU InU2 at *; omega, by unfold InU wHi at *; omega, by unfold InU wLo at *; omega⟩
theorem w_inj {x y : Int} (h1 : wHi x = wHi y) (h2 : wLo x = wLo y) : x = y := by unfold wHi wLo at *; omega
theorem wHi_zero : wHi 0 = 0 := rfl
theorem wLo_zero : wLo 0 = 0 := rfl
theorem wHi_neg {x : Int} : wHi x < 0 ↔ x < 0 := by unfold wHi; omega

theorem wHi_int {n : Int} (h : InI n) : wHi n = n / 9223372036854775808 := by unfold InI wHi at *; omega
theorem wLo_int (n : Int) : IntKind.u64.wrap n = wLo n := by rw [IntKind.wrap_u64]; rfl
theorem wInt_test {x : Int} (h : InW x) : (wHi x != wrap64 (wLo x) / 9223372036854775808) = !fits x := by
  rw [Bool.eq_iff_iff]; unfold fits InW wHi wLo wrap64 at *; simp; omega
theorem wInt_val {x : Int} (h : fits x = true) : wrap64 (wLo x) = x := by
  rw [fits_iff] at h; unfold InI wLo wrap64 at *; omega

theorem size_neg {n : Int} (h : InI n) (hn : n < 0) : IntKind.u64.wrap (-IntKind.u64.wrap n) = absU n := by
  simp only [IntKind.wrap_u64]; unfold InI absU at *; omega
theorem size_pos {n : Int} (h : InI n) (hn : ¬ n < 0) : IntKind.u64.wrap n = absU n := by
  simp only [IntKind.wrap_u64]; unfold InI absU at *; omega

theorem neg128_U2 (x : Int) : InU2 (neg128 x) := by unfold neg128 InU2; omega
theorem turned_lo (x : Int) : (0 + 18446744073709551616 - wLo x - 0) % 18446744073709551616 = wLo (neg128 x) := by unfold neg128 wLo; omega
theorem turned_hi {x : Int} (_h : InU2 x) : (0 + 18446744073709551616 - wHi x - (if 0 < wLo x then 1 else 0)) % 18446744073709551616 = wHi (neg128 x) := by
  unfold InU2 neg128 wLo wHi at *; split <;> omega

theorem signed_hi (x : Int) (h : InU2 x) : wrap64 (wHi x) = wHi (wrap128 x) := by unfold InU2 wHi wrap128 wrap64 at *; omega
theorem signed_lo (x : Int) : wLo x = wLo (wrap128 x) := by unfold wLo wrap128; omega
theorem wrap128_neg128 (x : Int) : wrap128 (neg128 x) = wrap128 (-x) := by unfold wrap128 neg128; omega

end Go.Proofs.Ytenefncpokdmnaa
