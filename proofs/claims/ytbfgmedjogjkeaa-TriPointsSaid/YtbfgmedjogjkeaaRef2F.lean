/- Walk: the document's answer for layer 2: Div. -/
import Derived.Test.YtbfgmedjogjkeaaRef2
import Derived.Test.YtbfgmedjogjkeaaMathA
namespace Go.Proofs.Ytbfgmedjogjkeaa
open Go.RowKit
set_option linter.unusedVariables false
set_option linter.unusedSimpArgs false

theorem divlo {X : Int} (h0 : 0 ≤ X) (h1 : X ≤ 9223372036854775808) : X / 4294967296 * 18446744073709551616 + IntKind.u64.wrap (X * 4294967296) = X * 4294967296 := by rw [IntKind.wrap_u64]; omega
theorem fdiv_sgn {a b X Y : Int} {sa sb : Bool} (hb : b ≠ 0) (hX : absU a = X) (hY : absU b = Y) (ha : decide (a < 0) = sa) (hs : decide (b < 0) = sb) : fdiv a b = clampI (sgn (!sa == sb) (dq (!sa == sb) (X * 4294967296) Y)) := by
  have e1 : decide (a * 4294967296 < 0) = sa := by rw [← ha]; congr 1; apply propext; omega
  have e2 : absU (a * 4294967296) = X * 4294967296 := by rw [← hX]; unfold absU; split <;> split <;> omega
  unfold fdiv
  rw [if_neg hb, (fq_dq hb).1, e1, e2, hY, hs]
theorem rdiv_p {P Y : Int} (h0 : 0 ≤ P / Y) : nearV (P / Y) false false = clampI (sgn false (dq false P Y)) := by
  have := nearV_clamp (S := P / Y) (s := P / Y) (below := false) (big := false) h0 (fun _ => rfl) (fun h => by cases h)
  rw [this]; rfl
theorem rdiv_z {P Y : Int} (h0 : 0 ≤ P / Y) (hr : P % Y = 0) : nearV (P / Y) true false = clampI (sgn true (dq true P Y)) := by
  have := nearV_clamp (S := P / Y) (s := P / Y) (below := true) (big := false) h0 (fun _ => rfl) (fun h => by cases h)
  rw [this]; unfold dq; rw [hr]; rfl
theorem rdiv_n {P Y s1 : Int} (h0 : 0 ≤ P / Y) (h1 : P / Y < 18446744073709551616) (hr : 0 < P % Y) (hs : IntKind.u64.wrap (P / Y + 1) = s1) : nearV s1 true (s1 == 0) = clampI (sgn true (dq true P Y)) := by
  rw [IntKind.wrap_u64] at hs
  have e : dq true P Y = P / Y + 1 := by unfold dq; rw [if_pos]; simp; omega
  rw [e]
  exact nearV_clamp (by omega) (by intro h; have h := beq_eq_false_iff_ne.1 h; omega) (by intro h; have h := beq_iff_eq.1 h; omega)
theorem rdiv_b {P Y : Int} (b : Bool) (h : 18446744073709551616 ≤ P / Y) : nearV 0 b true = clampI (sgn b (dq b P Y)) := by
  have e : P / Y ≤ dq b P Y := by unfold dq; split <;> omega
  exact nearV_clamp (by omega) (fun h => by cases h) (fun _ => by omega)

end Go.Proofs.Ytbfgmedjogjkeaa
