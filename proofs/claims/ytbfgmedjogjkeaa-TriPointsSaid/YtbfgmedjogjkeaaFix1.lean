/- Walks: fix.near, Of, Floor, Round, Sub, Neg, Abs. Walk: fix.Add. Walk: fix.Mul. Walks: fix.Div, Sqrt, Clamp. fix.Add, fix.Mul of two and three; Lerp; the chapter's example. -/
import Derived.Test.YtbfgmedjogjkeaaFixM
import Derived.Test.YtbfgmedjogjkeaaWide1
import Derived.Outline
import Derived.Deep.LoopGhost
import Derived.Test.YtbfgmedjogjkeaaWalkG
import Derived.Test.YtbfgmedjogjkeaaWalkH
import Derived.Test.YtbfgmedjogjkeaaQuiet
namespace Go.Proofs.Ytbfgmedjogjkeaa
open Go.RowKit
set_option linter.unusedVariables false
set_option linter.unusedSimpArgs false


theorem i64_mask (m : Nat) (hm : m ≤ 62) (n : Int) : bits .and .i64 n ((2 ^ m - 1 : Nat) : Int) = n % ((2 ^ m : Nat) : Int) := by
  have hp : 2 ^ m ≤ 2 ^ 62 := Nat.pow_le_pow_right (by decide) hm
  have h0 : 0 < 2 ^ m := Nat.two_pow_pos m
  have hmask : (BitVec.ofInt 64 ((2 ^ m - 1 : Nat) : Int)).toNat = 2 ^ m - 1 := by
    rw [BitVec.toNat_ofInt, ← Int.natCast_emod, Int.toNat_natCast, Nat.mod_eq_of_lt (by omega)]
  have key : (BitVec.ofInt 64 n &&& BitVec.ofInt 64 ((2 ^ m - 1 : Nat) : Int)).toNat = (n % ((2 ^ 64 : Nat) : Int)).toNat % 2 ^ m := by
    rw [BitVec.toNat_and, BitVec.toNat_ofInt, hmask, Nat.and_two_pow_sub_one_eq_mod]
  show IntKind.i64.wrap ((BitVec.ofInt 64 n &&& BitVec.ofInt 64 ((2 ^ m - 1 : Nat) : Int)).toNat : Nat) = n % ((2 ^ m : Nat) : Int)
  rw [key, IntKind.wrap_i64]
  have e1 : (((n % ((2 ^ 64 : Nat) : Int)).toNat % 2 ^ m : Nat) : Int) = n % ((2 ^ m : Nat) : Int) := by
    rw [Int.natCast_emod, Int.toNat_of_nonneg (Int.emod_nonneg _ (by decide))]
    apply Int.emod_emod_of_dvd
    exact Int.natCast_dvd_natCast.2 (Nat.pow_dvd_pow 2 (by omega))
  rw [e1]
  have e2 := Int.emod_nonneg n (show ((2 ^ m : Nat) : Int) ≠ 0 by omega)
  have e3 := Int.emod_lt_of_pos n (show (0 : Int) < ((2 ^ m : Nat) : Int) by omega)
  omega
theorem i64_bit (n : Int) : bits BinOp.and IntKind.i64 n 1 = n % 2 := i64_mask 1 (by decide) n
theorem i64_low16 (n : Int) : bits BinOp.and IntKind.i64 n 65535 = n % 65536 := i64_mask 16 (by decide) n

theorem wrap_i64 (n : Int) : IntKind.i64.wrap n = wrap64 n := IntWalk.i64_left n
set_option maxHeartbeats 800000 in
theorem fSub (a b : Int) (ha : InI a) (hb : InI b) (w : World) : Calls Try.prog 93 #[.int .i64 a, .int .i64 b] w (Same (.int .i64 (satSub a b)) w) := by
  obtain ⟨k1, k2, k3⟩ := sub_wrap ha hb
  obtain ⟨d, hd⟩ : ∃ d, IntKind.i64.wrap (a - b) = d := ⟨_, rfl⟩
  rw [← wrap_i64, hd] at k1 k2 k3
  by_cases s1 : 0 ≤ a <;> by_cases s2 : b < 0
  · by_cases s3 : d < 0
    · have HK := Lib.hid (k1 s1 s2 s3)
      clear k1 k2 k3 ha hb
      go_enter Try.func93, Try.ntmps93
      go_wp2_with fail
      go_ret
      exact same_of (vint HK.out.symm)
    · have HK := Lib.hid (k3 (by omega) (by omega))
      clear k1 k2 k3 ha hb
      go_enter Try.func93, Try.ntmps93
      go_wp2_with fail
      go_ret
      exact same_of (vint HK.out.symm)
  · have HK : Hid (satSub a b = a - b) := Lib.hid (by unfold InI at ha hb; unfold satSub clampI; split <;> (try split) <;> omega)
    unfold InI at ha hb
    clear k1 k2 k3 hd
    go_enter Try.func93, Try.ntmps93
    go_wp2_with fail
    go_ret
    exact same_of (vint HK.out.symm)
  · have HK : Hid (satSub a b = a - b) := Lib.hid (by unfold InI at ha hb; unfold satSub clampI; split <;> (try split) <;> omega)
    unfold InI at ha hb
    have s4 : ¬ 0 < b := by omega
    clear k1 k2 k3 hd
    go_enter Try.func93, Try.ntmps93
    go_wp2_with fail
    go_ret
    exact same_of (vint HK.out.symm)
  · by_cases s4 : 0 < b
    · by_cases s3 : 0 ≤ d
      · have HK := Lib.hid (k2 (by omega) s4 s3)
        clear k1 k2 k3 ha hb
        go_enter Try.func93, Try.ntmps93
        go_wp2_with fail
        go_ret
        exact same_of (vint HK.out.symm)
      · have HK := Lib.hid (k3 (by omega) (by omega))
        clear k1 k2 k3 ha hb
        go_enter Try.func93, Try.ntmps93
        go_wp2_with fail
        go_ret
        exact same_of (vint HK.out.symm)
    · have HK : Hid (satSub a b = a - b) := Lib.hid (by unfold InI at ha hb; unfold satSub clampI; split <;> (try split) <;> omega)
      unfold InI at ha hb
      clear k1 k2 k3 hd
      go_enter Try.func93, Try.ntmps93
      go_wp2_with fail
      go_ret
      exact same_of (vint HK.out.symm)

theorem fNeg (a : Int) (ha : InI a) (w : World) : Calls Try.prog 89 #[.int .i64 a] w (Same (.int .i64 (satSub 0 a)) w) := by
  go_enter Try.func89, Try.ntmps89
  go_wp2_with fail
  refine (fSub 0 a (by unfold InI; omega) ha _).mono ?_; rintro e w1 ⟨rfl, rfl⟩
  go_wp2_with fail
  go_ret
  exact same_of rfl

theorem fAbs (a : Int) (ha : InI a) (w : World) : Calls Try.prog 79 #[.int .i64 a] w (Same (.int .i64 (fabs a)) w) := by
  have HK : Hid (max a (satSub 0 a) = fabs a) := Lib.hid (by unfold fabs; split <;> omega)
  go_enter Try.func79, Try.ntmps79
  go_wp2_with fail
  refine (fNeg a ha _).mono ?_; rintro e w1 ⟨rfl, rfl⟩
  go_wp2_with fail
  go_ret
  exact same_of (vint HK.out)

end Go.Proofs.Ytbfgmedjogjkeaa

namespace Go.Proofs.Ytbfgmedjogjkeaa
open Go.RowKit
set_option linter.unusedVariables false
set_option linter.unusedSimpArgs false

end Go.Proofs.Ytbfgmedjogjkeaa

namespace Go.Proofs.Ytbfgmedjogjkeaa
open Go.RowKit
set_option linter.unusedVariables false
set_option linter.unusedSimpArgs false

theorem shr32 (p x : Int) : shrN (p * x) 32 = p * x / 4294967296 := rfl

end Go.Proofs.Ytbfgmedjogjkeaa

namespace Go.Proofs.Ytbfgmedjogjkeaa
open Go.RowKit
set_option linter.unusedVariables false
set_option linter.unusedSimpArgs false

theorem sqrt_small {a : Int} (ha : InI a) (h0 : 0 ≤ a) : 0 ≤ sqN (a * 4294967296) ∧ sqN (a * 4294967296) ≤ 9223372036854775807 := by
  unfold InI at ha
  obtain ⟨⟨r0, r1, r2⟩, h1⟩ := sqN_root (x := a * 4294967296) (by omega) (by omega)
  refine ⟨r0, ?_⟩
  rcases ltge (sqN (a * 4294967296)) 9223372036854775808 with g | g
  · omega
  · have := sq_mono (a := 9223372036854775808) (by omega) g
    omega



end Go.Proofs.Ytbfgmedjogjkeaa

namespace Go.Proofs.Ytbfgmedjogjkeaa
open Go.RowKit Go.Sort
set_option linter.unusedVariables false
set_option linter.unusedSimpArgs false

theorem cells2 {w : World} {B : Nat} {a b : Int} (h0 : w.cell? ⟨B, 0, none⟩ = some (.int .i64 a)) (h1 : w.cell? ⟨B, 1, none⟩ = some (.int .i64 b)) : CellsI w B 0 [a, b] := by
  intro i h
  match i, h with
  | 0, _ => exact h0
  | 1, _ => exact h1
theorem cells3 {w : World} {B : Nat} {a b c : Int} (h0 : w.cell? ⟨B, 0, none⟩ = some (.int .i64 a)) (h1 : w.cell? ⟨B, 1, none⟩ = some (.int .i64 b)) (h2 : w.cell? ⟨B, 2, none⟩ = some (.int .i64 c)) : CellsI w B 0 [a, b, c] := by
  intro i h
  match i, h with
  | 0, _ => exact h0
  | 1, _ => exact h1
  | 2, _ => exact h2


end Go.Proofs.Ytbfgmedjogjkeaa
