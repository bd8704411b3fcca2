/- Walks: wide.signed, Mul. -/
import Derived.Test.YtenefncpokdmnaaWalkA
import Derived.Test.YtenefncpokdmnaaMathB
namespace Go.Proofs.Ytenefncpokdmnaa
open Go.RowKit
set_option linter.unusedVariables false
set_option linter.unusedSimpArgs false

set_option maxHeartbeats 400000 in
theorem wsigned_pos (x : Int) (h : InU2 x) (w : World) :
    Calls Try.prog 88 #[.int .u64 (wHi x), .int .u64 (wLo x), .bool false] w (Ret (.tuple #[W (wrap128 x), .bool (InWb x)]) w) := by
  have e1 := signed_hi x h
  by_cases hx : x < 170141183460469231731687303715884105728
  · obtain ⟨-, h0, hb⟩ := sg_pos_in h hx
    clear hx
    have HB := Lib.hid hb; clear hb
    go_enter Try.func88, Try.ntmps88
    go_wp2
    refine bodyPost_ret (v := .tuple #[W (wrap128 x), .bool true]) (by simp [results, Try.results88, go_sem, W, ← signed_lo]) rfl (ret_of (by rw [HB.out]) ?_)
    exact ((Below.refl _ _).alloc (Nat.le_refl _) _).alloc (by simp) _
  · obtain ⟨h0, hb, hz⟩ := sg_pos_out h hx
    have hor := or_not_zero (wHi_U h) (wLo_U x) hz
    clear hx hz
    have HB := Lib.hid hb; clear hb
    go_enter Try.func88, Try.ntmps88
    go_wp2
    refine bodyPost_ret (v := .tuple #[W (wrap128 x), .bool false]) (by simp [results, Try.results88, go_sem, W, ← signed_lo]) rfl (ret_of (by rw [HB.out]) ?_)
    exact ((Below.refl _ _).alloc (Nat.le_refl _) _).alloc (by simp) _

set_option maxHeartbeats 400000 in
theorem wsigned_neg (x : Int) (h : InU2 x) (w : World) :
    Calls Try.prog 88 #[.int .u64 (wHi x), .int .u64 (wLo x), .bool true] w (Ret (.tuple #[W (wrap128 (-x)), .bool (InWb (-x))]) w) := by
  have e1 := signed_hi (neg128 x) (neg128_U2 x)
  have HL := Lib.hid (signed_lo (neg128 x))
  rw [wrap128_neg128] at e1 HL
  by_cases hz : x = 0
  · subst hz
    have hor : (bits BinOp.or IntKind.u64 (wHi (neg128 0)) (wLo (neg128 0)) == 0) = true := by decide
    have hb : InWb (-0) = true := by decide
    have HB := Lib.hid hb; clear hb
    go_enter Try.func88, Try.ntmps88
    go_wp2_with (go_at_call 96; refine (wturned 0 h _).mono ?_; rintro e w1 ⟨rfl, rfl⟩)
    refine bodyPost_ret (v := .tuple #[W (wrap128 (-0)), .bool true]) (by simp [results, Try.results88, go_sem, W, HL.out]) rfl (ret_of (by rw [HB.out]) ?_)
    exact ((Below.refl _ _).alloc (Nat.le_refl _) _).alloc (by simp) _
  by_cases hx : x ≤ 170141183460469231731687303715884105728
  · obtain ⟨h0, hb⟩ := sg_neg_in (by unfold InU2 at h; omega) hx
    clear hx
    have HB := Lib.hid hb; clear hb
    go_enter Try.func88, Try.ntmps88
    go_wp2_with (go_at_call 96; refine (wturned x h _).mono ?_; rintro e w1 ⟨rfl, rfl⟩)
    refine bodyPost_ret (v := .tuple #[W (wrap128 (-x)), .bool true]) (by simp [results, Try.results88, go_sem, W, HL.out, h0]) rfl (ret_of (by rw [HB.out]) ?_)
    exact ((Below.refl _ _).alloc (Nat.le_refl _) _).alloc (by simp) _
  · obtain ⟨h0, hb, hz⟩ := sg_neg_out h hx
    have hor := or_not_zero (wHi_U (neg128_U2 x)) (wLo_U (neg128 x)) hz
    clear hx hz
    have HB := Lib.hid hb; clear hb
    go_enter Try.func88, Try.ntmps88
    go_wp2_with (go_at_call 96; refine (wturned x h _).mono ?_; rintro e w1 ⟨rfl, rfl⟩)
    refine bodyPost_ret (v := .tuple #[W (wrap128 (-x)), .bool false]) (by simp [results, Try.results88, go_sem, W, HL.out, h0]) rfl (ret_of (by rw [HB.out]) ?_)
    exact ((Below.refl _ _).alloc (Nat.le_refl _) _).alloc (by simp) _

theorem wsigned (x : Int) (b : Bool) (h : InU2 x) (w : World) :
    Calls Try.prog 88 #[.int .u64 (wHi x), .int .u64 (wLo x), .bool b] w (Ret (.tuple #[W (wrap128 (sgn b x)), .bool (InWb (sgn b x))]) w) := by
  cases b
  · exact wsigned_pos x h w
  · exact wsigned_neg x h w

end Go.Proofs.Ytenefncpokdmnaa
