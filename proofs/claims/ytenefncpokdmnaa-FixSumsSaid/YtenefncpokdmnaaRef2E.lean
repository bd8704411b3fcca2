/- Walks: the document's answer for layer 2: the loops Add, Mul. -/
import Derived.Test.YtenefncpokdmnaaRef2C
import Derived.Deep.LoopGhost
namespace Go.Proofs.Ytenefncpokdmnaa
open Go.RowKit
set_option linter.unusedVariables false
set_option linter.unusedSimpArgs false

set_option maxHeartbeats 800000 in
theorem rAdd_ne (b off n cap : Nat) (l : List Int) (hn : n = l.length) (hl : l.length ≤ 1000000) (hI : ∀ x ∈ l, InI x) (w : World) (hc : CellsI w b off l) :
    Calls Try.prog 45 #[.slice (some ⟨b, off, none⟩) n cap] w (Same (.int .i64 (sumF l)) w) := by
  obtain rfl := hn
  obtain ⟨N, hN⟩ : ∃ N, N = l.length := ⟨_, rfl⟩
  have HN := Lib.hid hN
  have HC := Lib.hid hc
  have HW := Lib.hid hI
  have H0 : Hid (l.foldl satAdd 0 = sumF l) := Lib.hid (rfl)
  rw [← hN] at hl ⊢
  clear hN hc hI
  go_enter Try.func45, Try.ntmps45
  go_wp2_with fail
  go_loop [3, 4] (fun a b => ∃ (k : Nat) (s : Int), k ≤ N ∧ a = .int .i64 s ∧ b = .int .i64 k ∧ InI s ∧ (l.drop k).foldl satAdd s = sumF l) (fun _ b => N - (intOf b).toNat)
  case atStart => exact ⟨0, 0, by omega, rfl, rfl, by unfold InI; omega, H0.out⟩
  case round =>
    obtain ⟨k, s, hk, rfl, rfl, hs, hsum⟩ := hrel
    by_cases hlt : k < N
    · have hkl : k < l.length := by rw [← HN.out]; exact hlt
      obtain ⟨x, hx⟩ : ∃ x, l[k] = x := ⟨_, rfl⟩
      have hxI : InI x := by rw [← hx]; exact HW.out _ (List.getElem_mem hkl)
      have hc := HC.out k hkl
      have HY := Lib.hid (fold_step (f := satAdd) (s := s) hkl)
      rw [hsum, hx] at HY
      rw [hx] at hc
      clear hx hsum hkl
      go_wp2_with fail
      refine (rTwo s x hs hxI _).mono ?_; rintro e w1 ⟨rfl, rfl⟩
      go_wp2_with fail
      go_round
      case rel => exact ⟨k + 1, satAdd s x, by omega, rfl, by go_num, satAdd_I _ _, HY.out.symm⟩
      case measure => simp [intOf]; omega
    · obtain rfl : k = N := by omega
      have HE : Hid (sumF l = s) := Lib.hid (by rw [← hsum, HN.out, List.drop_length]; rfl)
      clear hsum
      go_wp2_with fail
      go_ret
      exact same_of (vint HE.out.symm)

theorem rAdd_zero (A : Option Addr) (cap : Nat) (w : World) : Calls Try.prog 45 #[.slice A 0 cap] w (Same (.int .i64 0) w) := by
  go_enter Try.func45, Try.ntmps45
  go_wp2_with fail
  refine wp_loop_rounds 1 ?_
  rw [rounds_succ]
  go_wp2
  go_ret
  exact same_of rfl

theorem rAdd_nil (w : World) : Calls Try.prog 45 #[.slice none 0 0] w (Same (.int .i64 0) w) := rAdd_zero none 0 w
theorem rAdd (A : Option Addr) (n cap : Nat) (l : List Int) (w : World) (hr : RdI w A n l) (hl : l.length ≤ 1000000) (hI : ∀ x ∈ l, InI x) :
    Calls Try.prog 45 #[.slice A n cap] w (Same (.int .i64 (sumF l)) w) := by
  obtain ⟨rfl, h⟩ := hr
  by_cases h0 : l = []
  · subst h0
    exact rAdd_zero A cap w
  · rcases h with rfl | ⟨b, off, rfl, hc⟩
    · exact absurd rfl h0
    · exact rAdd_ne b off _ cap l rfl hl hI w hc

set_option maxHeartbeats 800000 in
theorem rMul_ne (b off n cap : Nat) (l : List Int) (hn : n = l.length) (hl : l.length ≤ 1000000) (hI : ∀ x ∈ l, InI x) (w : World) (hc : CellsI w b off l) :
    Calls Try.prog 21 #[.slice (some ⟨b, off, none⟩) n cap] w (Same (.int .i64 (mulF l)) w) := by
  obtain rfl := hn
  obtain ⟨N, hN⟩ : ∃ N, N = l.length := ⟨_, rfl⟩
  have HN := Lib.hid hN
  have HC := Lib.hid hc
  have HW := Lib.hid hI
  have H0 : Hid (l.foldl fmul 4294967296 = mulF l) := Lib.hid ((mulF_fold hI).symm)
  rw [← hN] at hl ⊢
  clear hN hc hI
  go_enter Try.func21, Try.ntmps21
  go_wp2_with fail
  go_loop [3, 4] (fun a b => ∃ (k : Nat) (s : Int), k ≤ N ∧ a = .int .i64 s ∧ b = .int .i64 k ∧ InI s ∧ (l.drop k).foldl fmul s = mulF l) (fun _ b => N - (intOf b).toNat)
  case atStart => exact ⟨0, 4294967296, by omega, rfl, rfl, by unfold InI; omega, H0.out⟩
  case round =>
    obtain ⟨k, s, hk, rfl, rfl, hs, hsum⟩ := hrel
    by_cases hlt : k < N
    · have hkl : k < l.length := by rw [← HN.out]; exact hlt
      obtain ⟨x, hx⟩ : ∃ x, l[k] = x := ⟨_, rfl⟩
      have hxI : InI x := by rw [← hx]; exact HW.out _ (List.getElem_mem hkl)
      have hc := HC.out k hkl
      have HY := Lib.hid (fold_step (f := fmul) (s := s) hkl)
      rw [hsum, hx] at HY
      rw [hx] at hc
      clear hx hsum hkl
      go_wp2_with fail
      refine (rTimes s x hs hxI _).mono ?_; rintro e w1 ⟨rfl, rfl⟩
      go_wp2_with fail
      go_round
      case rel => exact ⟨k + 1, fmul s x, by omega, rfl, by go_num, fmul_I _ _, HY.out.symm⟩
      case measure => simp [intOf]; omega
    · obtain rfl : k = N := by omega
      have HE : Hid (mulF l = s) := Lib.hid (by rw [← hsum, HN.out, List.drop_length]; rfl)
      clear hsum
      go_wp2_with fail
      go_ret
      exact same_of (vint HE.out.symm)

theorem rMul_zero (A : Option Addr) (cap : Nat) (w : World) : Calls Try.prog 21 #[.slice A 0 cap] w (Same (.int .i64 4294967296) w) := by
  go_enter Try.func21, Try.ntmps21
  go_wp2_with fail
  refine wp_loop_rounds 1 ?_
  rw [rounds_succ]
  go_wp2
  go_ret
  exact same_of rfl

theorem rMul_nil (w : World) : Calls Try.prog 21 #[.slice none 0 0] w (Same (.int .i64 4294967296) w) := rMul_zero none 0 w
theorem rMul (A : Option Addr) (n cap : Nat) (l : List Int) (w : World) (hr : RdI w A n l) (hl : l.length ≤ 1000000) (hI : ∀ x ∈ l, InI x) :
    Calls Try.prog 21 #[.slice A n cap] w (Same (.int .i64 (mulF l)) w) := by
  obtain ⟨rfl, h⟩ := hr
  by_cases h0 : l = []
  · subst h0
    exact rMul_zero A cap w
  · rcases h with rfl | ⟨b, off, rfl, hc⟩
    · exact absurd rfl h0
    · exact rMul_ne b off _ cap l rfl hl hI w hc

end Go.Proofs.Ytenefncpokdmnaa
