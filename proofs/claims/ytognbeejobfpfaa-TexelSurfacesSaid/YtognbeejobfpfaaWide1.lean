/- Walks of the small functions of package wide: Of, Int, size, turned, signed; and Go's own bits.Add64, Sub64, Mul64. Walks: wide.signed, Mul. Walk: wide.Mul. Walk: wide.Shr. -/
import Derived.Test.YtognbeejobfpfaaRows
import Derived.Test.YtognbeejobfpfaaMathA
import Derived.WalkKit
import Derived.WalkSpells
import Derived.WalkLawsBesides
import Derived.Shelf.Spec.BitsCarry
import Derived.Shelf.Bits.Mul64
import Derived.Handy
import Derived.Outline
import Derived.StillTailTactics
import Derived.BigRegion
namespace Go.Proofs.Ytognbeejobfpfaa
open Go.RowKit
set_option linter.unusedVariables false
set_option linter.unusedSimpArgs false

theorem add64 (x y c : Int) (hx : 0 ≤ x) (hy : 0 ≤ y) (hc0 : 0 ≤ c) (hc : c ≤ 1) (w : World) :
    (callFunc 79 #[.int .u64 x, .int .u64 y, .int .u64 c]).run Try.prog w =
      .ok (.value (.tuple #[.int .u64 ((x + y + c) % 18446744073709551616), .int .u64 ((x + y + c) / 18446744073709551616)])) w := by
  rw [run_callFunc_extern Try.func79 (by kernel_rfl) (by kernel_rfl) (by kernel_rfl) (e := add64Entry) (by kernel_rfl), run_add64 x y c hx hy hc0 hc]
  rfl

theorem sub64 (x y c : Int) (hx : 0 ≤ x) (hy : 0 ≤ y) (hy2 : y ≤ 18446744073709551615) (hc0 : 0 ≤ c) (hc : c ≤ 1) (w : World) :
    (callFunc 104 #[.int .u64 x, .int .u64 y, .int .u64 c]).run Try.prog w =
      .ok (.value (.tuple #[.int .u64 ((x + 18446744073709551616 - y - c) % 18446744073709551616), .int .u64 (if x < y + c then 1 else 0)])) w := by
  obtain ⟨X, rfl⟩ := Int.eq_ofNat_of_zero_le hx
  obtain ⟨Y, rfl⟩ := Int.eq_ofNat_of_zero_le hy
  obtain ⟨C, rfl⟩ := Int.eq_ofNat_of_zero_le hc0
  rw [run_callFunc_extern Try.func104 (by kernel_rfl) (by kernel_rfl) (by kernel_rfl) (e := sub64Entry) (by kernel_rfl), run_sub64 X Y C (by omega)]
  have e1 : (((X + 18446744073709551616 - Y - C) % 18446744073709551616 : Nat) : Int) = ((X : Int) + 18446744073709551616 - Y - C) % 18446744073709551616 := by omega
  have e2 : ((if X < Y + C then 1 else 0 : Nat) : Int) = (if (X : Int) < Y + C then 1 else 0) := by split <;> split <;> omega
  simp only [Result.andThen]
  rw [e1, e2]

set_option maxHeartbeats 1000000 in
theorem mul64N (x y : Nat) (hx : x < 18446744073709551616) (hy : y < 18446744073709551616) (w : World) :
    Calls Try.prog 81 #[.int .u64 x, .int .u64 y] w (Same (.tuple #[.int .u64 ((x * y / 18446744073709551616 : Nat) : Int), .int .u64 ((x * y % 18446744073709551616 : Nat) : Int)]) w) := by
  obtain ⟨bd, bt, bw, hhi⟩ := Lib.mul64_hi x y hx hy
  have ba := Lib.half_mul_le (a := x / 4294967296) (b := y / 4294967296) (by omega) (by omega)
  have bb := Lib.half_mul_le (a := x / 4294967296) (b := y % 4294967296) (by omega) (by omega)
  have bc := Lib.half_mul_le (a := x % 4294967296) (b := y / 4294967296) (by omega) (by omega)
  have ba' : x / 4294967296 * (y / 4294967296) < 18446744073709551616 := by omega
  have bb' : x / 4294967296 * (y % 4294967296) < 18446744073709551616 := by omega
  have bc' : x % 4294967296 * (y / 4294967296) < 18446744073709551616 := by omega
  have bh1 : x / 4294967296 * (y / 4294967296) + (x / 4294967296 * (y % 4294967296) + x % 4294967296 * (y % 4294967296) / 4294967296) / 4294967296 < 18446744073709551616 := by omega
  have bh : x / 4294967296 * (y / 4294967296) + (x / 4294967296 * (y % 4294967296) + x % 4294967296 * (y % 4294967296) / 4294967296) / 4294967296 + ((x / 4294967296 * (y % 4294967296) + x % 4294967296 * (y % 4294967296) / 4294967296) % 4294967296 + x % 4294967296 * (y / 4294967296)) / 4294967296 < 18446744073709551616 := by omega
  go_enter Try.func81, Try.ntmps81
  go_wp2
  simp only [Mul64.maskN x hx, Mul64.maskN y hy, Mul64.divN, Mul64.mulN, Mul64.addN, Mul64.wrapN _ bd, Mul64.wrapN _ bb', Mul64.wrapN _ bt, Mul64.maskN _ bt, Mul64.wrapN _ bc', Mul64.wrapN _ bw, Mul64.wrapN _ ba', Mul64.wrapN _ bh1, Mul64.wrapN _ bh, Mul64.wrapM (x * y)]
  rw [hhi]
  go_ret2
  exact ⟨rfl, rfl⟩

theorem mul64 (x y : Int) (hx : InU x) (hy : InU y) (w : World) :
    Calls Try.prog 81 #[.int .u64 x, .int .u64 y] w (Same (.tuple #[.int .u64 (wHi (x * y)), .int .u64 (wLo (x * y))]) w) := by
  obtain ⟨hx0, hx⟩ := hx
  obtain ⟨hy0, hy⟩ := hy
  obtain ⟨X, rfl⟩ := Int.eq_ofNat_of_zero_le hx0
  obtain ⟨Y, rfl⟩ := Int.eq_ofNat_of_zero_le hy0
  exact mul64N X Y (by omega) (by omega) w

set_option maxHeartbeats 400000 in
theorem wOf (n : Int) (h : InI n) (w : World) :
    Calls Try.prog 109 #[.int .i64 n] w (Ret (W n) w) := by
  go_enter Try.func109, Try.ntmps109
  go_wp2
  exact bodyPost_ret (v := W n) (by simp [results, Try.results109, go_sem, wHi_int h, wLo_int n]) rfl ⟨rfl, (Below.refl _ _).alloc (Nat.le_refl _) _⟩

set_option maxHeartbeats 400000 in
theorem wsize (n : Int) (h : InI n) (w : World) :
    Calls Try.prog 77 #[.int .i64 n] w (Same (.tuple #[.int .u64 (absU n), .bool (decide (n < 0))]) w) := by
  by_cases hn : n < 0
  · go_enter Try.func77, Try.ntmps77
    go_wp2
    go_ret2
    exact same_of (vtup2 (vint (size_neg h hn)) (vbool (decide_eq_true hn).symm))
  · go_enter Try.func77, Try.ntmps77
    go_wp2
    go_ret2
    exact same_of (vtup2 (vint (size_pos h (by omega))) (vbool (decide_eq_false (show ¬ n < 0 by omega)).symm))

set_option maxHeartbeats 400000 in
theorem wturned (x : Int) (h : InU2 x) (w : World) :
    Calls Try.prog 76 #[.int .u64 (wHi x), .int .u64 (wLo x)] w (Same (.tuple #[.int .u64 (wHi (neg128 x)), .int .u64 (wLo (neg128 x))]) w) := by
  have h1 := wHi_U h
  have h2 := wLo_U x
  obtain ⟨b1, b2⟩ := h1
  obtain ⟨b3, b4⟩ := h2
  obtain ⟨c, d, hc0, hc1, s1, s2⟩ : ∃ c d : Int, 0 ≤ c ∧ c ≤ 1 ∧ (∀ w, (callFunc 104 #[.int .u64 0, .int .u64 (wLo x), .int .u64 0]).run Try.prog w = .ok (.value (.tuple #[.int .u64 (wLo (neg128 x)), .int .u64 c])) w) ∧ (∀ w, (callFunc 104 #[.int .u64 0, .int .u64 (wHi x), .int .u64 c]).run Try.prog w = .ok (.value (.tuple #[.int .u64 (wHi (neg128 x)), .int .u64 d])) w) := by
    refine ⟨if 0 < wLo x then 1 else 0, if 0 < wHi x + (if 0 < wLo x then 1 else 0) then 1 else 0, by split <;> omega, by split <;> omega, fun w => ?_, fun w => ?_⟩
    · rw [sub64 0 (wLo x) 0 (by omega) (by omega) (by omega) (by omega) (by omega) w, turned_lo, Int.add_zero]
    · rw [sub64 0 (wHi x) (if 0 < wLo x then 1 else 0) (by omega) (by omega) (by omega) (by split <;> omega) (by split <;> omega) w, turned_hi h]
  go_enter Try.func76, Try.ntmps76
  go_wp2
  go_ret2
  exact ⟨rfl, rfl⟩

set_option maxHeartbeats 400000 in
theorem wInt (x : Int) (h : InW x) (w : World) :
    Calls Try.prog 53 #[W x] w (Ret (.tuple #[.int .i64 (intN x), .bool (fits x)]) w) := by
  have ht := wInt_test h
  cases hf : fits x
  · rw [hf] at ht
    go_enter Try.func53, Try.ntmps53
    go_wp2
    go_ret2
    exact ret_of (vtup2 (vint (intN_not hf).symm) rfl) ((Below.refl _ _).alloc (Nat.le_refl _) _)
  · rw [hf] at ht
    go_enter Try.func53, Try.ntmps53
    go_wp2
    go_ret2
    exact ret_of (vtup2 (vint ((wInt_val hf).trans (intN_fits hf).symm)) rfl) ((Below.refl _ _).alloc (Nat.le_refl _) _)

end Go.Proofs.Ytognbeejobfpfaa

namespace Go.Proofs.Ytognbeejobfpfaa
open Go.RowKit
set_option linter.unusedVariables false
set_option linter.unusedSimpArgs false

set_option maxHeartbeats 400000 in
theorem wsigned_pos (x : Int) (h : InU2 x) (w : World) :
    Calls Try.prog 80 #[.int .u64 (wHi x), .int .u64 (wLo x), .bool false] w (Ret (.tuple #[W (wrap128 x), .bool (InWb x)]) w) := by
  have e1 := signed_hi x h
  by_cases hx : x < 170141183460469231731687303715884105728
  · obtain ⟨-, h0, hb⟩ := sg_pos_in h hx
    clear hx
    have HB := Lib.hid hb; clear hb
    go_enter Try.func80, Try.ntmps80
    go_wp2
    refine bodyPost_ret (v := .tuple #[W (wrap128 x), .bool true]) (by simp [results, Try.results80, go_sem, W, ← signed_lo]) rfl (ret_of (by rw [HB.out]) ?_)
    exact ((Below.refl _ _).alloc (Nat.le_refl _) _).alloc (by simp) _
  · obtain ⟨h0, hb, hz⟩ := sg_pos_out h hx
    have hor := or_not_zero (wHi_U h) (wLo_U x) hz
    clear hx hz
    have HB := Lib.hid hb; clear hb
    go_enter Try.func80, Try.ntmps80
    go_wp2
    refine bodyPost_ret (v := .tuple #[W (wrap128 x), .bool false]) (by simp [results, Try.results80, go_sem, W, ← signed_lo]) rfl (ret_of (by rw [HB.out]) ?_)
    exact ((Below.refl _ _).alloc (Nat.le_refl _) _).alloc (by simp) _

set_option maxHeartbeats 400000 in
theorem wsigned_neg (x : Int) (h : InU2 x) (w : World) :
    Calls Try.prog 80 #[.int .u64 (wHi x), .int .u64 (wLo x), .bool true] w (Ret (.tuple #[W (wrap128 (-x)), .bool (InWb (-x))]) w) := by
  have e1 := signed_hi (neg128 x) (neg128_U2 x)
  have HL := Lib.hid (signed_lo (neg128 x))
  rw [wrap128_neg128] at e1 HL
  by_cases hz : x = 0
  · subst hz
    have hor : (bits BinOp.or IntKind.u64 (wHi (neg128 0)) (wLo (neg128 0)) == 0) = true := by decide
    have hb : InWb (-0) = true := by decide
    have HB := Lib.hid hb; clear hb
    go_enter Try.func80, Try.ntmps80
    go_wp2_with (go_at_call 76; refine (wturned 0 h _).mono ?_; rintro e w1 ⟨rfl, rfl⟩)
    refine bodyPost_ret (v := .tuple #[W (wrap128 (-0)), .bool true]) (by simp [results, Try.results80, go_sem, W, HL.out]) rfl (ret_of (by rw [HB.out]) ?_)
    exact ((Below.refl _ _).alloc (Nat.le_refl _) _).alloc (by simp) _
  by_cases hx : x ≤ 170141183460469231731687303715884105728
  · obtain ⟨h0, hb⟩ := sg_neg_in (by unfold InU2 at h; omega) hx
    clear hx
    have HB := Lib.hid hb; clear hb
    go_enter Try.func80, Try.ntmps80
    go_wp2_with (go_at_call 76; refine (wturned x h _).mono ?_; rintro e w1 ⟨rfl, rfl⟩)
    refine bodyPost_ret (v := .tuple #[W (wrap128 (-x)), .bool true]) (by simp [results, Try.results80, go_sem, W, HL.out, h0]) rfl (ret_of (by rw [HB.out]) ?_)
    exact ((Below.refl _ _).alloc (Nat.le_refl _) _).alloc (by simp) _
  · obtain ⟨h0, hb, hz⟩ := sg_neg_out h hx
    have hor := or_not_zero (wHi_U (neg128_U2 x)) (wLo_U (neg128 x)) hz
    clear hx hz
    have HB := Lib.hid hb; clear hb
    go_enter Try.func80, Try.ntmps80
    go_wp2_with (go_at_call 76; refine (wturned x h _).mono ?_; rintro e w1 ⟨rfl, rfl⟩)
    refine bodyPost_ret (v := .tuple #[W (wrap128 (-x)), .bool false]) (by simp [results, Try.results80, go_sem, W, HL.out, h0]) rfl (ret_of (by rw [HB.out]) ?_)
    exact ((Below.refl _ _).alloc (Nat.le_refl _) _).alloc (by simp) _

theorem wsigned (x : Int) (b : Bool) (h : InU2 x) (w : World) :
    Calls Try.prog 80 #[.int .u64 (wHi x), .int .u64 (wLo x), .bool b] w (Ret (.tuple #[W (wrap128 (sgn b x)), .bool (InWb (sgn b x))]) w) := by
  cases b
  · exact wsigned_pos x h w
  · exact wsigned_neg x h w

end Go.Proofs.Ytognbeejobfpfaa

namespace Go.Proofs.Ytognbeejobfpfaa
open Go.RowKit
set_option linter.unusedVariables false
set_option linter.unusedSimpArgs false

theorem sgn_mul {a b : Int} (ha : InI a) (hb : InI b) : wrap128 (sgn (!decide (a < 0) == decide (b < 0)) (absU a * absU b)) = a * b := by
  by_cases h : (a < 0 ↔ b < 0)
  · have e : (!decide (a < 0) == decide (b < 0)) = false := by
      by_cases h1 : a < 0
      · have h2 := h.1 h1
        simp [h1, h2]
      · have h2 : ¬ b < 0 := fun x => h1 (h.2 x)
        simp [h1, h2]
    rw [e]
    exact mul_sg_pos ha hb h
  · have e : (!decide (a < 0) == decide (b < 0)) = true := by
      by_cases h1 : a < 0 <;> by_cases h2 : b < 0 <;> simp_all
    rw [e]
    exact mul_sg_neg ha hb h

set_option maxHeartbeats 400000 in
theorem wMul (a b : Int) (ha : InI a) (hb : InI b) (w : World) :
    Calls Try.prog 42 #[.int .i64 a, .int .i64 b] w (Ret (W (a * b)) w) := by
  have H := Lib.hid (sgn_mul ha hb)
  go_enter Try.func42, Try.ntmps42
  go_wp2_with fail
  refine (wsize a ha _).mono ?_; rintro e w1 ⟨rfl, rfl⟩
  go_wp2_with fail
  refine (wsize b hb _).mono ?_; rintro e w1 ⟨rfl, rfl⟩
  go_wp2_with fail
  refine (mul64 (absU a) (absU b) (absU_InU ha) (absU_InU hb) _).mono ?_; rintro e w1 ⟨rfl, rfl⟩
  go_wp2_with fail
  refine (wsigned (absU a * absU b) _ (absU_mul_U2 ha hb) _).mono ?_; rintro e w1 ⟨rfl, hb1⟩
  obtain ⟨hc1, hf1, hs1⟩ := bcell hb1
  have hz1 : w.heap.size < w1.heap.size := by simp at hs1; omega
  rw [H.out]
  go_wp2_with fail
  refine bodyPost_ret (v := W (a * b)) (by simp [results, Try.results42, go_sem, hc1, hz1]) rfl (ret_of rfl ?_)
  exact (((Below.next ((Below.refl _ _).alloc (Nat.le_refl _) _) hb1).setCell (by simp) _).setCell (by simp) _).alloc (by simp; omega) _

end Go.Proofs.Ytognbeejobfpfaa

namespace Go.Proofs.Ytognbeejobfpfaa
open Go.RowKit
set_option linter.unusedVariables false
set_option linter.unusedSimpArgs false

set_option maxHeartbeats 400000 in
theorem wShr_mid (x : Int) (n : Nat) (h : InW x) (hn0 : 0 < n) (hn : n < 64) (w : World) :
    Calls Try.prog 106 #[W x, .int .i64 n] w (Ret (W (x / 2 ^ n)) w) := by
  have e0 : ((n : Int) == 0) = false := by rw [beq_eq_false_iff_ne]; omega
  have e1 : ¬ (64 : Int) ≤ n := by omega
  go_enter Try.func106, Try.ntmps106
  go_wp2_with fail
  go_region
  go_wp2
  refine bodyPost_ret (v := W (x / 2 ^ n)) (by simp [results, Try.results106, go_sem, shr_hi, shr_lo h n hn0 hn]) rfl (ret_of rfl ?_)
  go_grown

set_option maxHeartbeats 400000 in
theorem wShr_zero (x : Int) (n : Int) (h : InW x) (hn : n ≤ 0) (hl : -9223372036854775808 ≤ n) (w : World) :
    Calls Try.prog 106 #[W x, .int .i64 n] w (Ret (W x) w) := by
  by_cases h0 : n = 0
  · subst h0
    go_enter Try.func106, Try.ntmps106
    go_wp2_with fail
    refine bodyPost_ret (v := W x) (by simp [results, Try.results106, go_sem]) rfl (ret_of rfl ?_)
    go_grown
  · have h1 : n < 0 := by omega
    go_enter Try.func106, Try.ntmps106
    go_wp2_with fail
    refine bodyPost_ret (v := W x) (by simp [results, Try.results106, go_sem]) rfl (ret_of rfl ?_)
    go_grown

set_option maxHeartbeats 400000 in
theorem wShr_far (x : Int) (n : Int) (h : InW x) (hn : 64 ≤ n) (hl : n ≤ 9223372036854775807) (w : World) :
    Calls Try.prog 106 #[W x, .int .i64 n] w (Ret (W (x / 2 ^ n.toNat)) w) := by
  by_cases h1 : 63 < n - 64
  · go_enter Try.func106, Try.ntmps106
    go_wp2_with fail
    have H := Lib.hid (shr_far1 h (k := n.toNat) (by omega))
    refine (wOf _ (by unfold InI wHi; unfold InW at h; omega) _).mono ?_; rintro e w1 ⟨rfl, hb1⟩
    rw [H.out]
    have hz : w.heap.size + 1 < w1.heap.size := by have := hb1.size; simp at this; omega
    obtain ⟨hc1, hf1, hs1⟩ := bcell hb1
    have hb1 : Below w.heap.size w w1 := Below.next (by go_grown) hb1
    go_wp2_with fail
    refine bodyPost_ret (v := W (x / 2 ^ n.toNat)) (by simp [results, Try.results106, go_sem, hc1, hz]) rfl (ret_of rfl ?_)
    go_grown
  · go_enter Try.func106, Try.ntmps106
    go_wp2_with fail
    have H := Lib.hid (shr_far2 x (k := n.toNat) (by omega))
    have hI := shr_InI h (n.toNat - 64)
    have e5 : (n - 64).toNat = n.toNat - 64 := by omega
    rw [e5]
    refine (wOf _ hI _).mono ?_; rintro e w1 ⟨rfl, hb1⟩
    rw [H.out]
    have hz : w.heap.size + 1 < w1.heap.size := by have := hb1.size; simp at this; omega
    obtain ⟨hc1, hf1, hs1⟩ := bcell hb1
    have hb1 : Below w.heap.size w w1 := Below.next (by go_grown) hb1
    go_wp2_with fail
    refine bodyPost_ret (v := W (x / 2 ^ n.toNat)) (by simp [results, Try.results106, go_sem, hc1, hz]) rfl (ret_of rfl ?_)
    go_grown

def shrN (x n : Int) : Int := x / 2 ^ n.toNat

theorem wShr (x n : Int) (h : InW x) (hn : InI n) (w : World) :
    Calls Try.prog 106 #[W x, .int .i64 n] w (Ret (W (shrN x n)) w) := by
  unfold InI at hn
  unfold shrN
  by_cases h0 : n ≤ 0
  · have e : n.toNat = 0 := by omega
    rw [e, Int.pow_zero, Int.ediv_one]
    exact wShr_zero x n h h0 hn.1 w
  by_cases h1 : n < 64
  · obtain ⟨k, rfl⟩ := Int.eq_ofNat_of_zero_le (show 0 ≤ n by omega)
    rw [Int.toNat_natCast]
    exact wShr_mid x k h (by omega) (by omega) w
  · exact wShr_far x n h (by omega) hn.2 w
end Go.Proofs.Ytognbeejobfpfaa
