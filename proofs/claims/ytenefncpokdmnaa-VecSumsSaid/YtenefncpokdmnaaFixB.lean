/- Walk: fix.Add. -/
import Derived.Test.YtenefncpokdmnaaFixA
import Derived.Deep.LoopGhost
namespace Go.Proofs.Ytenefncpokdmnaa
open Go.RowKit
set_option linter.unusedVariables false
set_option linter.unusedSimpArgs false

set_option maxHeartbeats 1600000 in
theorem fAdd_ne (b off n cap : Nat) (l : List Int) (hn : n = l.length) (hl : l.length ≤ 1000000) (hI : ∀ x ∈ l, InI x) (w : World) (hc : CellsI w b off l) :
    Calls Try.prog 27 #[.slice (some ⟨b, off, none⟩) n cap] w (Same (.int .i64 (sumF l)) w) := by
  obtain rfl := hn
  obtain ⟨N, hN⟩ : ∃ N, N = l.length := ⟨_, rfl⟩
  have HN := Lib.hid hN
  have HC := Lib.hid hc
  have HW := Lib.hid hI
  rw [← hN] at hl ⊢
  clear hN hc hI
  go_enter Try.func27, Try.ntmps27
  go_wp2_with fail
  go_loop [3, 9] (fun a b => ∃ (k : Nat) (s : Int), k ≤ N ∧ a = .int .i64 s ∧ b = .int .i64 k ∧ InI s ∧ (l.drop k).foldl satAdd s = sumF l) (fun _ b => N - (intOf b).toNat)
  case atStart => exact ⟨0, 0, by omega, rfl, rfl, by unfold InI; omega, rfl⟩
  case round =>
    obtain ⟨k, s, hk, rfl, rfl, hs, hsum⟩ := hrel
    by_cases hlt : k < N
    · have hkl : k < l.length := by rw [← HN.out]; exact hlt
      obtain ⟨x, hx⟩ : ∃ x, l[k] = x := ⟨_, rfl⟩
      have hxI : InI x := by rw [← hx]; exact HW.out _ (List.getElem_mem hkl)
      have hc := HC.out k hkl
      have HY := Lib.hid (fold_step (f := satAdd) (s := s) hkl)
      rw [hsum, hx] at HY
      rw [hx] at hc
      clear hx hsum hkl
      obtain ⟨k1, k2, k3⟩ := add_wrap hs hxI
      obtain ⟨d, hd⟩ : ∃ d, IntKind.i64.wrap (s + x) = d := ⟨_, rfl⟩
      rw [← wrap_i64, hd] at k1 k2 k3
      by_cases s1 : 0 < s
      · by_cases s2 : 0 < x
        · by_cases s3 : d < 0
          · have HK := Lib.hid (k1 s1 s2 s3)
            clear k1 k2 k3 hs hxI
            go_wp2_with fail
            go_round
            case rel => exact ⟨k + 1, satAdd s x, by omega, vint HK.out.symm, by go_num, satAdd_I _ _, HY.out.symm⟩
            case measure => simp [intOf]; omega
          · have HK := Lib.hid (k3 (by omega) (by omega))
            clear k1 k2 k3 hs hxI
            go_wp2_with fail
            go_round
            case rel => exact ⟨k + 1, satAdd s x, by omega, vint HK.out.symm, by go_num, satAdd_I _ _, HY.out.symm⟩
            case measure => simp [intOf]; omega
        · have HK : Hid (satAdd s x = s + x) := Lib.hid (by unfold InI at hs hxI; unfold satAdd clampI; split <;> (try split) <;> omega)
          unfold InI at hs hxI
          clear k1 k2 k3 hd
          go_wp2_with fail
          go_round
          case rel => exact ⟨k + 1, satAdd s x, by omega, vint HK.out.symm, by go_num, satAdd_I _ _, HY.out.symm⟩
          case measure => simp [intOf]; omega
      · by_cases s2 : s < 0
        · by_cases s4 : x < 0
          · by_cases s3 : 0 ≤ d
            · have HK := Lib.hid (k2 s2 s4 s3)
              clear k1 k2 k3 hs hxI
              go_wp2_with fail
              go_round
              case rel => exact ⟨k + 1, satAdd s x, by omega, vint HK.out.symm, by go_num, satAdd_I _ _, HY.out.symm⟩
              case measure => simp [intOf]; omega
            · have HK := Lib.hid (k3 (by omega) (by omega))
              clear k1 k2 k3 hs hxI
              go_wp2_with fail
              go_round
              case rel => exact ⟨k + 1, satAdd s x, by omega, vint HK.out.symm, by go_num, satAdd_I _ _, HY.out.symm⟩
              case measure => simp [intOf]; omega
          · have HK : Hid (satAdd s x = s + x) := Lib.hid (by unfold InI at hs hxI; unfold satAdd clampI; split <;> (try split) <;> omega)
            unfold InI at hs hxI
            clear k1 k2 k3 hd
            go_wp2_with fail
            go_round
            case rel => exact ⟨k + 1, satAdd s x, by omega, vint HK.out.symm, by go_num, satAdd_I _ _, HY.out.symm⟩
            case measure => simp [intOf]; omega
        · have HK : Hid (satAdd s x = s + x) := Lib.hid (by unfold InI at hs hxI; unfold satAdd clampI; split <;> (try split) <;> omega)
          unfold InI at hs hxI
          clear k1 k2 k3 hd
          go_wp2_with fail
          go_round
          case rel => exact ⟨k + 1, satAdd s x, by omega, vint HK.out.symm, by go_num, satAdd_I _ _, HY.out.symm⟩
          case measure => simp [intOf]; omega
    · obtain rfl : k = N := by omega
      have HE : Hid (sumF l = s) := Lib.hid (by rw [← hsum, HN.out, List.drop_length]; rfl)
      clear hsum
      go_wp2_with fail
      go_ret
      exact same_of (vint HE.out.symm)

theorem fAdd_zero (A : Option Addr) (cap : Nat) (w : World) : Calls Try.prog 27 #[.slice A 0 cap] w (Same (.int .i64 0) w) := by
  go_enter Try.func27, Try.ntmps27
  go_wp2_with fail
  refine wp_loop_rounds 1 ?_
  rw [rounds_succ]
  go_wp2
  go_ret
  exact same_of rfl

theorem fAdd_nil (w : World) : Calls Try.prog 27 #[.slice none 0 0] w (Same (.int .i64 0) w) := fAdd_zero none 0 w

theorem fAdd (A : Option Addr) (n cap : Nat) (l : List Int) (w : World) (hr : RdI w A n l) (hl : l.length ≤ 1000000) (hI : ∀ x ∈ l, InI x) :
    Calls Try.prog 27 #[.slice A n cap] w (Same (.int .i64 (sumF l)) w) := by
  obtain ⟨rfl, h⟩ := hr
  rcases h with rfl | ⟨b, off, rfl, hc⟩
  · exact fAdd_zero A cap w
  · exact fAdd_ne b off _ cap l rfl hl hI w hc

end Go.Proofs.Ytenefncpokdmnaa
