/- Walk: wide.Cmp. -/
import Derived.Test.YtlpnklcnheafoaaWide1
namespace Go.Proofs.Ytlpnklcnheafoaa
open Go.RowKit
set_option linter.unusedVariables false
set_option linter.unusedSimpArgs false

set_option maxHeartbeats 400000 in
theorem wCmp (x y : Int) (h : InW x) (h2 : InW y) (w : World) :
    Calls Try.prog 22 #[W x, W y] w (Ret (.int .i64 (cmpW x y)) w) := by
  rcases Int.lt_trichotomy x y with hl | rfl | hl
  · have H := Lib.hid (cmpW_lt hl)
    rcases w_lt.1 hl with a | ⟨a, b⟩
    · have e1 : (wHi x == wHi y) = false := by rw [beq_eq_false_iff_ne]; omega
      clear hl
      go_enter Try.func22, Try.ntmps22
      go_wp2
      go_ret
      exact ret_of (vint H.out.symm) (by go_grown)
    · have e1 : (wHi x == wHi y) = true := by rw [beq_iff_eq]; omega
      have e2 : (wLo x == wLo y) = false := by rw [beq_eq_false_iff_ne]; omega
      have e3 : ¬ wHi x < wHi y := by omega
      clear hl a
      go_enter Try.func22, Try.ntmps22
      go_wp2
      go_ret
      exact ret_of (vint H.out.symm) (by go_grown)
  · have H := Lib.hid (cmpW_eq (rfl : x = x))
    go_enter Try.func22, Try.ntmps22
    go_wp2
    go_ret
    exact ret_of (vint H.out.symm) (by go_grown)
  · have H := Lib.hid (cmpW_gt hl)
    rcases w_lt.1 hl with a | ⟨a, b⟩
    · have e1 : (wHi x == wHi y) = false := by rw [beq_eq_false_iff_ne]; omega
      have e3 : ¬ wHi x < wHi y := by omega
      clear hl
      go_enter Try.func22, Try.ntmps22
      go_wp2
      go_ret
      exact ret_of (vint H.out.symm) (by go_grown)
    · have e1 : (wHi x == wHi y) = true := by rw [beq_iff_eq]; omega
      have e2 : (wLo x == wLo y) = false := by rw [beq_eq_false_iff_ne]; omega
      have e3 : ¬ wHi x < wHi y := by omega
      have e4 : ¬ wLo x < wLo y := by omega
      clear hl a
      go_enter Try.func22, Try.ntmps22
      go_wp2
      go_ret
      exact ret_of (vint H.out.symm) (by go_grown)

end Go.Proofs.Ytlpnklcnheafoaa
