/- Walk: wide.Sqrt. -/
import Derived.Test.YtlpnklcnheafoaaWide1
import Derived.Test.YtlpnklcnheafoaaMathA
import Derived.Outline
import Derived.Deep.LoopGhost
namespace Go.Proofs.Ytlpnklcnheafoaa
open Go.RowKit
set_option linter.unusedVariables false
set_option linter.unusedSimpArgs false

set_option maxHeartbeats 400000 in
theorem wSqrt_neg (x : Int) (hx : x < 0) (w : World) :
    Calls Try.prog 15 #[W x] w (Ret (.int .u64 0) w) := by
  have e1 : wHi x < 0 := by unfold wHi; omega
  go_enter Try.func15, Try.ntmps15
  go_wp2_with fail
  go_ret
  exact ret_of rfl (by go_grown)

set_option maxHeartbeats 400000 in
theorem wSqrt_pos (x : Int) (h : InW x) (hx : 0 ≤ x) (w : World) :
    Calls Try.prog 15 #[W x] w (Ret (.int .u64 (sqLoop x 64 0)) w) := by
  have e1 : ¬ wHi x < 0 := by unfold wHi; omega
  have e2 : wHi x ≤ 9223372036854775807 := (wHi_I h).2
  go_enter Try.func15, Try.ntmps15
  go_wp2_with fail
  go_loop [3, 11] (fun a b => ∃ (r : Int) (k : Nat), k ≤ 64 ∧ a = .int .u64 r ∧ b = .int .i64 k ∧ SqInv x r k) (fun _ b => (64 - intOf b).toNat)
  case atStart => exact ⟨0, 0, by omega, rfl, rfl, SqInv.start x⟩
  case round =>
    obtain ⟨r, k, hk, rfl, rfl, hr⟩ := hrel
    by_cases hlt : k < 64
    · have hp := pow_pos' (63 - k)
      have hb := hr.bound hlt
      have ho := hr.or_ hlt
      have eP : IntKind.u64.wrap (2 ^ (63 - k)) = 2 ^ (63 - k) := by
        obtain ⟨a, -, -, -⟩ := hr
        rw [IntKind.wrap_u64, Int.emod_eq_of_lt (by omega) (by omega)]
      have HY := fun hc => Lib.hid (hr.yes hlt hc)
      have HN := fun hc => Lib.hid (hr.no hlt hc)
      obtain ⟨n, en⟩ : ∃ n, r + 2 ^ (63 - k) = n := ⟨_, rfl⟩
      rw [en] at hb ho HY HN
      have eN : bits BinOp.or IntKind.u64 r (IntKind.u64.wrap (2 ^ (63 - k))) = n := by rw [eP]; exact ho
      have hn : InU n := hb
      clear en ho hb eP hp
      have hm : ∀ y : Int, InU2 y → 0 ≤ wHi y ∧ wHi y ≤ 18446744073709551615 := by intro y hy; have := wHi_U hy; unfold InU at this; omega
      by_cases hc : n * n ≤ x
      · have HS := HY hc
        clear HY HN hm
        rcases w_le.1 hc with a | ⟨a, b⟩
        · clear hc
          clear hr
          go_wp2_with fail
          refine (mul64 n n hn hn _).mono ?_; rintro e w1 ⟨rfl, rfl⟩
          go_wp2_with fail
          go_round
          case rel => exact ⟨_, k + 1, by omega, rfl, by go_num, HS.out⟩
          case measure => simp [intOf]; omega
        · have e4 : ¬ wHi (n * n) < wHi x := by omega
          have e5 : (wHi (n * n) == wHi x) = true := by rw [beq_iff_eq]; exact a
          clear hc a
          clear hr
          go_wp2_with fail
          refine (mul64 n n hn hn _).mono ?_; rintro e w1 ⟨rfl, rfl⟩
          go_wp2_with fail
          go_round
          case rel => exact ⟨_, k + 1, by omega, rfl, by go_num, HS.out⟩
          case measure => simp [intOf]; omega
      · have HS := HN hc
        clear HY HN hm
        have hc2 : ¬ (wHi (n * n) < wHi x ∨ (wHi (n * n) = wHi x ∧ wLo (n * n) ≤ wLo x)) := fun a => hc (w_le.2 a)
        by_cases a : wHi (n * n) = wHi x
        · have e4 : ¬ wHi (n * n) < wHi x := by omega
          have e5 : (wHi (n * n) == wHi x) = true := by rw [beq_iff_eq]; exact a
          have e6 : ¬ wLo (n * n) ≤ wLo x := fun b => hc2 (.inr ⟨a, b⟩)
          clear hc a hc2
          clear hr
          go_wp2_with fail
          refine (mul64 n n hn hn _).mono ?_; rintro e w1 ⟨rfl, rfl⟩
          go_wp2_with fail
          go_round
          case rel => exact ⟨_, k + 1, by omega, rfl, by go_num, HS.out⟩
          case measure => simp [intOf]; omega
        · have e4 : ¬ wHi (n * n) < wHi x := fun b => hc2 (.inl b)
          have e5 : (wHi (n * n) == wHi x) = false := by rw [beq_eq_false_iff_ne]; exact a
          clear hc a hc2
          clear hr
          go_wp2_with fail
          refine (mul64 n n hn hn _).mono ?_; rintro e w1 ⟨rfl, rfl⟩
          go_wp2_with fail
          go_round
          case rel => exact ⟨_, k + 1, by omega, rfl, by go_num, HS.out⟩
          case measure => simp [intOf]; omega
    · obtain rfl : k = 64 := by omega
      have HD := Lib.hid hr.done
      go_wp2_with fail
      go_ret
      exact ret_of (vint HD.out) (by go_grown)

theorem wSqrt (x : Int) (h : InW x) (w : World) :
    Calls Try.prog 15 #[W x] w (Ret (.int .u64 (sqN x)) w) := by
  by_cases hx : x < 0
  · rw [sqN_neg hx]
    exact wSqrt_neg x hx w
  · have := wSqrt_pos x h (by omega) w
    unfold sqN
    rw [if_neg hx]
    exact this

end Go.Proofs.Ytlpnklcnheafoaa
