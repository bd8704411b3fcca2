/- Walk: fix.Mul. -/
import Derived.Test.YtenefncpokdmnaaFixA
import Derived.Test.YtenefncpokdmnaaWalkD
import Derived.Deep.LoopGhost
namespace Go.Proofs.Ytenefncpokdmnaa
open Go.RowKit
set_option linter.unusedVariables false
set_option linter.unusedSimpArgs false

theorem shr32 (p x : Int) : shrN (p * x) 32 = p * x / 4294967296 := rfl

set_option maxHeartbeats 1600000 in
theorem fMul_ne (b off n cap : Nat) (l : List Int) (hn : n = l.length) (hl : l.length ≤ 1000000) (hI : ∀ x ∈ l, InI x) (w : World) (hb : b < w.heap.size) (hc : CellsI w b off l) :
    Calls Try.prog 20 #[.slice (some ⟨b, off, none⟩) n cap] w (Ret (.int .i64 (mulF l)) w) := by
  obtain rfl := hn
  obtain ⟨N, hN⟩ : ∃ N, N = l.length := ⟨_, rfl⟩
  have HN := Lib.hid hN
  have HC := Lib.hid hc
  have HW := Lib.hid hI
  rw [← hN] at hl ⊢
  clear hN hc hI
  go_enter Try.func20, Try.ntmps20
  go_wp2_with fail
  go_loopw [3, 8] (fun a b wr => ∃ (k : Nat) (s : Int), k ≤ N ∧ a = .int .i64 s ∧ b = .int .i64 k ∧ InI s ∧ ((k = 0 ∧ s = 4294967296) ∨ (0 < k ∧ (l.drop k).foldl fmul s = mulF l)) ∧ Below w.heap.size w wr) (fun _ b _ => N - (intOf b).toNat)
  case atStart => exact ⟨0, 4294967296, by omega, rfl, rfl, by unfold InI; omega, .inl ⟨rfl, rfl⟩, Below.refl _ _⟩
  case round =>
    obtain ⟨k, s, hk, rfl, rfl, hs, hrun, hB⟩ := hrel
    by_cases hlt : k < N
    · have hkl : k < l.length := by rw [← HN.out]; exact hlt
      obtain ⟨x, hx⟩ : ∃ x, l[k] = x := ⟨_, rfl⟩
      have hxI : InI x := by rw [← hx]; exact HW.out _ (List.getElem_mem hkl)
      have hc := (hB.cell (p := ⟨b, off + k, none⟩) hb).trans (HC.out k hkl)
      rw [hx] at hc
      by_cases h0 : k = 0
      · have HY : Hid ((l.drop (k + 1)).foldl fmul x = mulF l) := Lib.hid (by
          subst h0
          cases l with
          | nil => simp at hkl
          | cons y l => simp at hx; subst hx; rfl)
        have hk0 : ((k : Int) == 0) = true := by rw [beq_iff_eq]; omega
        clear hx hrun hkl h0
        go_wp2_with fail
        go_roundw
        case rel => exact ⟨k + 1, x, by omega, rfl, by go_num, hxI, .inr ⟨by omega, HY.out⟩, hB⟩
        case measure => simp [intOf]; omega
      · have hk0 : ((k : Int) == 0) = false := by rw [beq_eq_false_iff_ne]; omega
        have hsum : (l.drop k).foldl fmul s = mulF l := by
          rcases hrun with h | h
          · exact absurd h.1 h0
          · exact h.2
        have HY := Lib.hid (fold_step (f := fmul) (s := s) hkl)
        rw [hsum, hx] at HY
        clear hx hsum hrun hkl h0
        have hS := hB.size
        go_wp2_with fail
        refine (wMul s x hs hxI _).mono ?_; rintro e w1 ⟨rfl, hb1⟩
        obtain ⟨hB1, hS1⟩ : Below w.heap.size w w1 ∧ w.heap.size ≤ w1.heap.size := Below.step (by go_grown) hb1
        go_wp2_with fail
        refine (wShr (s * x) 32 (mul_InW hs hxI) (by unfold InI; omega) _).mono ?_; rintro e w2 ⟨rfl, hb2⟩
        obtain ⟨hB2, hS2⟩ : Below w.heap.size w w2 ∧ w.heap.size ≤ w2.heap.size := Below.step (by go_grown) hb2
        go_wp2_with fail
        refine (fnear _ (shr_InW (mul_InW hs hxI) 32) _).mono ?_; rintro e w3 ⟨rfl, hb3⟩
        obtain ⟨hB3, hS3⟩ : Below w.heap.size w w3 ∧ w.heap.size ≤ w3.heap.size := Below.step (by go_grown) hb3
        go_wp2_with fail
        go_roundw
        case rel => exact ⟨k + 1, fmul s x, by omega, rfl, by go_num, fmul_I _ _, .inr ⟨by omega, HY.out.symm⟩, hB3⟩
        case measure => simp [intOf]; omega
    · obtain rfl : k = N := by omega
      have HE : Hid (mulF l = s) := Lib.hid (by
        rcases hrun with ⟨h1, h2⟩ | ⟨h1, h2⟩
        · have : l = [] := List.length_eq_zero_iff.1 (by rw [← HN.out]; exact h1)
          subst this h2; rfl
        · rw [← h2, HN.out, List.drop_length]; rfl)
      clear hrun
      go_wp2_with fail
      go_ret
      exact ret_of (vint HE.out.symm) hB

theorem fMul_zero (A : Option Addr) (cap : Nat) (w : World) : Calls Try.prog 20 #[.slice A 0 cap] w (Same (.int .i64 4294967296) w) := by
  go_enter Try.func20, Try.ntmps20
  go_wp2_with fail
  refine wp_loop_rounds 1 ?_
  rw [rounds_succ]
  go_wp2
  go_ret
  exact same_of rfl

theorem fMul_nil (w : World) : Calls Try.prog 20 #[.slice none 0 0] w (Same (.int .i64 4294967296) w) := fMul_zero none 0 w
theorem fMul (A : Option Addr) (n cap : Nat) (l : List Int) (w : World) (hr : RdI w A n l) (hl : l.length ≤ 1000000) (hI : ∀ x ∈ l, InI x) :
    Calls Try.prog 20 #[.slice A n cap] w (Ret (.int .i64 (mulF l)) w) := by
  obtain ⟨rfl, h⟩ := hr
  by_cases h0 : l = []
  · subst h0
    exact (fMul_zero A cap w).mono fun _ _ h => h.ret
  · rcases h with rfl | ⟨b, off, rfl, hc⟩
    · exact absurd rfl h0
    · exact fMul_ne b off _ cap l rfl hl hI w (World.block_lt_of_cell? w _ (hc 0 (List.length_pos_iff.2 h0))) hc

end Go.Proofs.Ytenefncpokdmnaa
