/- Walks: the document's answer for layer 2: Root, Sqrt. -/
import Derived.Test.YtjhnkpapbjkbcaaRef2
import Derived.Test.YtjhnkpapbjkbcaaMathA
import Derived.Test.YtjhnkpapbjkbcaaFix1
import Derived.Deep.LoopGhost
namespace Go.Proofs.Ytjhnkpapbjkbcaa
open Go.RowKit
set_option linter.unusedVariables false
set_option linter.unusedSimpArgs false

theorem sqN_0 : sqN 0 = 0 := by
  obtain ⟨⟨a, b, c⟩, -⟩ := sqN_root (x := 0) (by omega) (by omega)
  rcases ltge (sqN 0) 1 with g | g
  · omega
  · have := sq_mono (a := 1) (by omega) g
    omega
theorem SqInv.sum {x r : Int} {m : Nat} (h : SqInv x r (63 - m)) (hk : m < 64) : 0 ≤ r ∧ 0 < (2 : Int) ^ m ∧ r + 2 ^ m < 18446744073709551616 := by
  have hb := h.bound (by omega)
  rw [show 63 - (63 - m) = m by omega] at hb
  exact ⟨h.1, pow_pos' m, hb.2⟩
theorem SqInv.yes' {x r : Int} {m : Nat} (h : SqInv x r (63 - m)) (hk : m < 64) (hc : (r + 2 ^ m) * (r + 2 ^ m) ≤ x) : SqInv x (r + 2 ^ m) (63 - ((m : Int) - 1)).toNat := by
  have e : 63 - (63 - m) = m := by omega
  have := h.yes (by omega) (by rw [e]; exact hc)
  rw [e] at this
  rw [show (63 - ((m : Int) - 1)).toNat = 63 - m + 1 by omega]
  exact this
theorem SqInv.no' {x r : Int} {m : Nat} (h : SqInv x r (63 - m)) (hk : m < 64) (hc : ¬ (r + 2 ^ m) * (r + 2 ^ m) ≤ x) : SqInv x r (63 - ((m : Int) - 1)).toNat := by
  have e : 63 - (63 - m) = m := by omega
  have := h.no (by omega) (by rw [e]; exact hc)
  rw [show (63 - ((m : Int) - 1)).toNat = 63 - m + 1 by omega]
  exact this

set_option maxHeartbeats 800000 in
theorem rRoot_loop (x hi lo : Int) (hH0 : 0 ≤ hi) (hH1 : hi ≤ 18446744073709551615) (hL0 : 0 ≤ lo) (hL1 : lo ≤ 18446744073709551615) (HH : Hid (wHi x = hi)) (HL : Hid (wLo x = lo)) (w : World) :
    Calls Try.prog 103 #[.int .u64 hi, .int .u64 lo] w (Same (.int .u64 (sqLoop x 64 0)) w) := by
  go_enter Try.func103, Try.ntmps103
  go_wp2_with fail
  go_loop [5, 6] (fun a b => ∃ r i : Int, -1 ≤ i ∧ i ≤ 63 ∧ a = .int .u64 r ∧ b = .int .i64 i ∧ SqInv x r (63 - i).toNat) (fun _ b => (intOf b + 1).toNat)
  case atStart => exact ⟨0, 63, by omega, by omega, rfl, rfl, SqInv.start x⟩
  case round =>
    obtain ⟨r, i, hi1, hi2, rfl, rfl, hr⟩ := hrel
    by_cases hlt : 0 ≤ i
    · obtain ⟨m, rfl⟩ : ∃ m : Nat, i = m := ⟨i.toNat, by omega⟩
      rw [show (63 - (m : Int)).toNat = 63 - m by omega] at hr
      have hm : m < 64 := by omega
      obtain ⟨b0, b1, b2⟩ := hr.sum hm
      have eP : IntKind.u64.wrap (2 ^ m) = 2 ^ m := by rw [IntKind.wrap_u64, Int.emod_eq_of_lt (by omega) (by omega)]
      have HY := fun hc => Lib.hid (hr.yes' hm hc)
      have HN := fun hc => Lib.hid (hr.no' hm hc)
      obtain ⟨n, en⟩ : ∃ n, r + 2 ^ m = n := ⟨_, rfl⟩
      rw [en] at HY HN b2
      have eN : IntKind.u64.wrap (r + 2 ^ m) = n := by rw [en, IntKind.wrap_u64, Int.emod_eq_of_lt (by omega) (by omega)]
      have hn : InU n := by unfold InU; omega
      clear en b0 b1 b2 hlt
      by_cases hc : n * n ≤ x
      · have HS := HY hc
        clear HY HN
        have hw := w_le.1 hc
        rw [HH.out, HL.out] at hw
        rcases hw with a | ⟨a, b⟩
        · clear hc hr
          go_wp2_with fail
          refine (mul64 n n hn hn _).mono ?_; rintro e w1 ⟨rfl, rfl⟩
          go_wp2_with fail
          go_round
          case rel => exact ⟨_, _, by omega, by omega, rfl, rfl, HS.out⟩
          case measure => simp [intOf] <;> omega
        · have e4 : ¬ wHi (n * n) < hi := by omega
          have e5 : (wHi (n * n) == hi) = true := by rw [beq_iff_eq]; exact a
          clear hc a hr
          go_wp2_with fail
          refine (mul64 n n hn hn _).mono ?_; rintro e w1 ⟨rfl, rfl⟩
          go_wp2_with fail
          go_round
          case rel => exact ⟨_, _, by omega, by omega, rfl, rfl, HS.out⟩
          case measure => simp [intOf] <;> omega
      · have HS := HN hc
        clear HY HN
        have hc2 : ¬ (wHi (n * n) < hi ∨ (wHi (n * n) = hi ∧ wLo (n * n) ≤ lo)) := fun a => hc (w_le.2 (by rw [HH.out, HL.out]; exact a))
        by_cases a : wHi (n * n) = hi
        · have e4 : ¬ wHi (n * n) < hi := by omega
          have e5 : (wHi (n * n) == hi) = true := by rw [beq_iff_eq]; exact a
          have e6 : ¬ wLo (n * n) ≤ lo := fun b => hc2 (.inr ⟨a, b⟩)
          clear hc a hc2 hr
          go_wp2_with fail
          refine (mul64 n n hn hn _).mono ?_; rintro e w1 ⟨rfl, rfl⟩
          go_wp2_with fail
          go_round
          case rel => exact ⟨_, _, by omega, by omega, rfl, rfl, HS.out⟩
          case measure => simp [intOf] <;> omega
        · have e4 : ¬ wHi (n * n) < hi := fun b => hc2 (.inl b)
          have e5 : (wHi (n * n) == hi) = false := by rw [beq_eq_false_iff_ne]; exact a
          clear hc a hc2 hr
          go_wp2_with fail
          refine (mul64 n n hn hn _).mono ?_; rintro e w1 ⟨rfl, rfl⟩
          go_wp2_with fail
          go_round
          case rel => exact ⟨_, _, by omega, by omega, rfl, rfl, HS.out⟩
          case measure => simp [intOf] <;> omega
    · obtain rfl : i = -1 := by omega
      have HD := Lib.hid (SqInv.done (x := x) (r := r) hr)
      clear hr
      go_wp2_with fail
      go_ret
      exact same_of (vint HD.out)

theorem rRoot (x : Int) (h0 : 0 ≤ x) (h1 : x < 340282366920938463463374607431768211456) (w : World) :
    Calls Try.prog 103 #[.int .u64 (wHi x), .int .u64 (wLo x)] w (Same (.int .u64 (sqN x)) w) := by
  have l := wLo_U x
  have e : sqN x = sqLoop x 64 0 := by unfold sqN; rw [if_neg (by omega)]
  rw [e]
  exact rRoot_loop x _ _ (by unfold wHi; omega) (by unfold wHi; omega) l.1 (by have := l.2; omega) rfl rfl w


end Go.Proofs.Ytjhnkpapbjkbcaa
