/- Walks: fix.near, Of, Floor, Round, Sub, Neg, Abs. Walk: fix.Add. Walk: fix.Mul. Walks: fix.Div, Sqrt, Clamp. fix.Add, fix.Mul of two and three; Lerp; the chapter's example. -/
import Derived.Test.YtognbeejobfpfaaFixM
import Derived.Test.YtognbeejobfpfaaWide1
import Derived.Outline
import Derived.Deep.LoopGhost
import Derived.Test.YtognbeejobfpfaaWalkG
import Derived.Test.YtognbeejobfpfaaWalkH
import Derived.Test.YtognbeejobfpfaaQuiet
namespace Go.Proofs.Ytognbeejobfpfaa
open Go.RowKit
set_option linter.unusedVariables false
set_option linter.unusedSimpArgs false

set_option maxHeartbeats 400000 in
theorem fnear (x : Int) (h : InW x) (w : World) : Calls Try.prog 43 #[W x] w (Ret (.int .i64 (clampI x)) w) := by
  by_cases hf : InI x
  · have HF := Lib.hid (fits_true hf)
    have HN := Lib.hid (intN_fits HF.out)
    have HC := Lib.hid (clampI_in hf)
    go_enter Try.func43, Try.ntmps43
    go_wp2_with fail
    refine (wInt x h _).mono ?_; rintro e w1 ⟨rfl, hb1⟩
    rw [HF.out, HN.out]
    obtain ⟨hB1, hS1⟩ : Below w.heap.size w w1 ∧ w.heap.size ≤ w1.heap.size := Below.step (by go_grown) hb1
    go_wp2_with fail
    go_ret
    exact ret_of (vint HC.out.symm) hB1
  · have HF := Lib.hid (fits_false hf)
    have HN := Lib.hid (intN_not HF.out)
    by_cases hn : x < 0
    · have HC := Lib.hid (clampI_lo hf hn)
      have e1 : wHi x < 0 := by unfold wHi; omega
      clear hf
      go_enter Try.func43, Try.ntmps43
      go_wp2_with fail
      refine (wInt x h _).mono ?_; rintro e w1 ⟨rfl, hb1⟩
      rw [HF.out, HN.out]
      obtain ⟨hB1, hS1⟩ : Below w.heap.size w w1 ∧ w.heap.size ≤ w1.heap.size := Below.step (by go_grown) hb1
      obtain ⟨hc1, hf1, hs1⟩ := bcell hb1
      go_wp2_with fail
      go_ret
      exact ret_of (vint HC.out.symm) hB1
    · have HC := Lib.hid (clampI_hi hf hn)
      have e1 : ¬ wHi x < 0 := by unfold wHi; omega
      clear hf
      go_enter Try.func43, Try.ntmps43
      go_wp2_with fail
      refine (wInt x h _).mono ?_; rintro e w1 ⟨rfl, hb1⟩
      rw [HF.out, HN.out]
      obtain ⟨hB1, hS1⟩ : Below w.heap.size w w1 ∧ w.heap.size ≤ w1.heap.size := Below.step (by go_grown) hb1
      obtain ⟨hc1, hf1, hs1⟩ := bcell hb1
      go_wp2_with fail
      go_ret
      exact ret_of (vint HC.out.symm) hB1

theorem fOf (n : Int) (h : InI n) (w : World) : Calls Try.prog 18 #[.int .i64 n] w (Ret (.int .i64 (fof n)) w) := by
  have hO : InI 4294967296 := by unfold InI; omega
  go_enter Try.func18, Try.ntmps18
  go_wp2_with fail
  refine (wMul n 4294967296 h hO _).mono ?_; rintro e w1 ⟨rfl, hb1⟩
  obtain ⟨hB1, hS1⟩ : Below w.heap.size w w1 ∧ w.heap.size ≤ w1.heap.size := Below.step (by go_grown) hb1
  go_wp2_with fail
  refine (fnear _ (mul_InW h hO) _).mono ?_; rintro e w2 ⟨rfl, hb2⟩
  obtain ⟨hB2, hS2⟩ : Below w.heap.size w w2 ∧ w.heap.size ≤ w2.heap.size := Below.step (by go_grown) hb2
  go_wp2_with fail
  go_ret
  exact ret_of rfl hB2


theorem i64_mask (m : Nat) (hm : m ≤ 62) (n : Int) : bits .and .i64 n ((2 ^ m - 1 : Nat) : Int) = n % ((2 ^ m : Nat) : Int) := by
  have hp : 2 ^ m ≤ 2 ^ 62 := Nat.pow_le_pow_right (by decide) hm
  have h0 : 0 < 2 ^ m := Nat.two_pow_pos m
  have hmask : (BitVec.ofInt 64 ((2 ^ m - 1 : Nat) : Int)).toNat = 2 ^ m - 1 := by
    rw [BitVec.toNat_ofInt, ← Int.natCast_emod, Int.toNat_natCast, Nat.mod_eq_of_lt (by omega)]
  have key : (BitVec.ofInt 64 n &&& BitVec.ofInt 64 ((2 ^ m - 1 : Nat) : Int)).toNat = (n % ((2 ^ 64 : Nat) : Int)).toNat % 2 ^ m := by
    rw [BitVec.toNat_and, BitVec.toNat_ofInt, hmask, Nat.and_two_pow_sub_one_eq_mod]
  show IntKind.i64.wrap ((BitVec.ofInt 64 n &&& BitVec.ofInt 64 ((2 ^ m - 1 : Nat) : Int)).toNat : Nat) = n % ((2 ^ m : Nat) : Int)
  rw [key, IntKind.wrap_i64]
  have e1 : (((n % ((2 ^ 64 : Nat) : Int)).toNat % 2 ^ m : Nat) : Int) = n % ((2 ^ m : Nat) : Int) := by
    rw [Int.natCast_emod, Int.toNat_of_nonneg (Int.emod_nonneg _ (by decide))]
    apply Int.emod_emod_of_dvd
    exact Int.natCast_dvd_natCast.2 (Nat.pow_dvd_pow 2 (by omega))
  rw [e1]
  have e2 := Int.emod_nonneg n (show ((2 ^ m : Nat) : Int) ≠ 0 by omega)
  have e3 := Int.emod_lt_of_pos n (show (0 : Int) < ((2 ^ m : Nat) : Int) by omega)
  omega
theorem i64_bit (n : Int) : bits BinOp.and IntKind.i64 n 1 = n % 2 := i64_mask 1 (by decide) n
theorem i64_low16 (n : Int) : bits BinOp.and IntKind.i64 n 65535 = n % 65536 := i64_mask 16 (by decide) n
theorem fRound (x : Int) (h : InI x) (w : World) : Calls Try.prog 100 #[.int .i64 x] w (Same (.int .i64 (fround x)) w) := by
  have e1 := i64_bit (x / 2147483648)
  unfold InI at h
  have e2 : -2147483648 ≤ x / 4294967296 ∧ x / 4294967296 ≤ 2147483647 := by omega
  go_enter Try.func100, Try.ntmps100
  go_wp2_with fail
  go_ret
  exact same_of rfl

theorem wrap_i64 (n : Int) : IntKind.i64.wrap n = wrap64 n := IntWalk.i64_left n
set_option maxHeartbeats 800000 in
theorem fSub (a b : Int) (ha : InI a) (hb : InI b) (w : World) : Calls Try.prog 68 #[.int .i64 a, .int .i64 b] w (Same (.int .i64 (satSub a b)) w) := by
  obtain ⟨k1, k2, k3⟩ := sub_wrap ha hb
  obtain ⟨d, hd⟩ : ∃ d, IntKind.i64.wrap (a - b) = d := ⟨_, rfl⟩
  rw [← wrap_i64, hd] at k1 k2 k3
  by_cases s1 : 0 ≤ a <;> by_cases s2 : b < 0
  · by_cases s3 : d < 0
    · have HK := Lib.hid (k1 s1 s2 s3)
      clear k1 k2 k3 ha hb
      go_enter Try.func68, Try.ntmps68
      go_wp2_with fail
      go_ret
      exact same_of (vint HK.out.symm)
    · have HK := Lib.hid (k3 (by omega) (by omega))
      clear k1 k2 k3 ha hb
      go_enter Try.func68, Try.ntmps68
      go_wp2_with fail
      go_ret
      exact same_of (vint HK.out.symm)
  · have HK : Hid (satSub a b = a - b) := Lib.hid (by unfold InI at ha hb; unfold satSub clampI; split <;> (try split) <;> omega)
    unfold InI at ha hb
    clear k1 k2 k3 hd
    go_enter Try.func68, Try.ntmps68
    go_wp2_with fail
    go_ret
    exact same_of (vint HK.out.symm)
  · have HK : Hid (satSub a b = a - b) := Lib.hid (by unfold InI at ha hb; unfold satSub clampI; split <;> (try split) <;> omega)
    unfold InI at ha hb
    have s4 : ¬ 0 < b := by omega
    clear k1 k2 k3 hd
    go_enter Try.func68, Try.ntmps68
    go_wp2_with fail
    go_ret
    exact same_of (vint HK.out.symm)
  · by_cases s4 : 0 < b
    · by_cases s3 : 0 ≤ d
      · have HK := Lib.hid (k2 (by omega) s4 s3)
        clear k1 k2 k3 ha hb
        go_enter Try.func68, Try.ntmps68
        go_wp2_with fail
        go_ret
        exact same_of (vint HK.out.symm)
      · have HK := Lib.hid (k3 (by omega) (by omega))
        clear k1 k2 k3 ha hb
        go_enter Try.func68, Try.ntmps68
        go_wp2_with fail
        go_ret
        exact same_of (vint HK.out.symm)
    · have HK : Hid (satSub a b = a - b) := Lib.hid (by unfold InI at ha hb; unfold satSub clampI; split <;> (try split) <;> omega)
      unfold InI at ha hb
      clear k1 k2 k3 hd
      go_enter Try.func68, Try.ntmps68
      go_wp2_with fail
      go_ret
      exact same_of (vint HK.out.symm)

theorem fNeg (a : Int) (ha : InI a) (w : World) : Calls Try.prog 110 #[.int .i64 a] w (Same (.int .i64 (satSub 0 a)) w) := by
  go_enter Try.func110, Try.ntmps110
  go_wp2_with fail
  refine (fSub 0 a (by unfold InI; omega) ha _).mono ?_; rintro e w1 ⟨rfl, rfl⟩
  go_wp2_with fail
  go_ret
  exact same_of rfl

theorem fAbs (a : Int) (ha : InI a) (w : World) : Calls Try.prog 107 #[.int .i64 a] w (Same (.int .i64 (fabs a)) w) := by
  have HK : Hid (max a (satSub 0 a) = fabs a) := Lib.hid (by unfold fabs; split <;> omega)
  go_enter Try.func107, Try.ntmps107
  go_wp2_with fail
  refine (fNeg a ha _).mono ?_; rintro e w1 ⟨rfl, rfl⟩
  go_wp2_with fail
  go_ret
  exact same_of (vint HK.out)

end Go.Proofs.Ytognbeejobfpfaa

namespace Go.Proofs.Ytognbeejobfpfaa
open Go.RowKit
set_option linter.unusedVariables false
set_option linter.unusedSimpArgs false

set_option maxHeartbeats 1600000 in
theorem fAdd_ne (b off n cap : Nat) (l : List Int) (hn : n = l.length) (hl : l.length ≤ 1000000) (hI : ∀ x ∈ l, InI x) (w : World) (hc : CellsI w b off l) :
    Calls Try.prog 66 #[.slice (some ⟨b, off, none⟩) n cap] w (Same (.int .i64 (sumF l)) w) := by
  obtain rfl := hn
  obtain ⟨N, hN⟩ : ∃ N, N = l.length := ⟨_, rfl⟩
  have HN := Lib.hid hN
  have HC := Lib.hid hc
  have HW := Lib.hid hI
  rw [← hN] at hl ⊢
  clear hN hc hI
  go_enter Try.func66, Try.ntmps66
  go_wp2_with fail
  go_loop [3, 9] (fun a b => ∃ (k : Nat) (s : Int), k ≤ N ∧ a = .int .i64 s ∧ b = .int .i64 k ∧ InI s ∧ (l.drop k).foldl satAdd s = sumF l) (fun _ b => N - (intOf b).toNat)
  case atStart => exact ⟨0, 0, by omega, rfl, rfl, by unfold InI; omega, rfl⟩
  case round =>
    obtain ⟨k, s, hk, rfl, rfl, hs, hsum⟩ := hrel
    by_cases hlt : k < N
    · have hkl : k < l.length := by rw [← HN.out]; exact hlt
      obtain ⟨x, hx⟩ : ∃ x, l[k] = x := ⟨_, rfl⟩
      have hxI : InI x := by rw [← hx]; exact HW.out _ (List.getElem_mem hkl)
      have hc := HC.out k hkl
      have HY := Lib.hid (fold_step (f := satAdd) (s := s) hkl)
      rw [hsum, hx] at HY
      rw [hx] at hc
      clear hx hsum hkl
      obtain ⟨k1, k2, k3⟩ := add_wrap hs hxI
      obtain ⟨d, hd⟩ : ∃ d, IntKind.i64.wrap (s + x) = d := ⟨_, rfl⟩
      rw [← wrap_i64, hd] at k1 k2 k3
      by_cases s1 : 0 < s
      · by_cases s2 : 0 < x
        · by_cases s3 : d < 0
          · have HK := Lib.hid (k1 s1 s2 s3)
            clear k1 k2 k3 hs hxI
            go_wp2_with fail
            go_round
            case rel => exact ⟨k + 1, satAdd s x, by omega, vint HK.out.symm, by go_num, satAdd_I _ _, HY.out.symm⟩
            case measure => simp [intOf]; omega
          · have HK := Lib.hid (k3 (by omega) (by omega))
            clear k1 k2 k3 hs hxI
            go_wp2_with fail
            go_round
            case rel => exact ⟨k + 1, satAdd s x, by omega, vint HK.out.symm, by go_num, satAdd_I _ _, HY.out.symm⟩
            case measure => simp [intOf]; omega
        · have HK : Hid (satAdd s x = s + x) := Lib.hid (by unfold InI at hs hxI; unfold satAdd clampI; split <;> (try split) <;> omega)
          unfold InI at hs hxI
          clear k1 k2 k3 hd
          go_wp2_with fail
          go_round
          case rel => exact ⟨k + 1, satAdd s x, by omega, vint HK.out.symm, by go_num, satAdd_I _ _, HY.out.symm⟩
          case measure => simp [intOf]; omega
      · by_cases s2 : s < 0
        · by_cases s4 : x < 0
          · by_cases s3 : 0 ≤ d
            · have HK := Lib.hid (k2 s2 s4 s3)
              clear k1 k2 k3 hs hxI
              go_wp2_with fail
              go_round
              case rel => exact ⟨k + 1, satAdd s x, by omega, vint HK.out.symm, by go_num, satAdd_I _ _, HY.out.symm⟩
              case measure => simp [intOf]; omega
            · have HK := Lib.hid (k3 (by omega) (by omega))
              clear k1 k2 k3 hs hxI
              go_wp2_with fail
              go_round
              case rel => exact ⟨k + 1, satAdd s x, by omega, vint HK.out.symm, by go_num, satAdd_I _ _, HY.out.symm⟩
              case measure => simp [intOf]; omega
          · have HK : Hid (satAdd s x = s + x) := Lib.hid (by unfold InI at hs hxI; unfold satAdd clampI; split <;> (try split) <;> omega)
            unfold InI at hs hxI
            clear k1 k2 k3 hd
            go_wp2_with fail
            go_round
            case rel => exact ⟨k + 1, satAdd s x, by omega, vint HK.out.symm, by go_num, satAdd_I _ _, HY.out.symm⟩
            case measure => simp [intOf]; omega
        · have HK : Hid (satAdd s x = s + x) := Lib.hid (by unfold InI at hs hxI; unfold satAdd clampI; split <;> (try split) <;> omega)
          unfold InI at hs hxI
          clear k1 k2 k3 hd
          go_wp2_with fail
          go_round
          case rel => exact ⟨k + 1, satAdd s x, by omega, vint HK.out.symm, by go_num, satAdd_I _ _, HY.out.symm⟩
          case measure => simp [intOf]; omega
    · obtain rfl : k = N := by omega
      have HE : Hid (sumF l = s) := Lib.hid (by rw [← hsum, HN.out, List.drop_length]; rfl)
      clear hsum
      go_wp2_with fail
      go_ret
      exact same_of (vint HE.out.symm)

theorem fAdd_zero (A : Option Addr) (cap : Nat) (w : World) : Calls Try.prog 66 #[.slice A 0 cap] w (Same (.int .i64 0) w) := by
  go_enter Try.func66, Try.ntmps66
  go_wp2_with fail
  refine wp_loop_rounds 1 ?_
  rw [rounds_succ]
  go_wp2
  go_ret
  exact same_of rfl

theorem fAdd_nil (w : World) : Calls Try.prog 66 #[.slice none 0 0] w (Same (.int .i64 0) w) := fAdd_zero none 0 w

theorem fAdd (A : Option Addr) (n cap : Nat) (l : List Int) (w : World) (hr : RdI w A n l) (hl : l.length ≤ 1000000) (hI : ∀ x ∈ l, InI x) :
    Calls Try.prog 66 #[.slice A n cap] w (Same (.int .i64 (sumF l)) w) := by
  obtain ⟨rfl, h⟩ := hr
  rcases h with rfl | ⟨b, off, rfl, hc⟩
  · exact fAdd_zero A cap w
  · exact fAdd_ne b off _ cap l rfl hl hI w hc

end Go.Proofs.Ytognbeejobfpfaa

namespace Go.Proofs.Ytognbeejobfpfaa
open Go.RowKit
set_option linter.unusedVariables false
set_option linter.unusedSimpArgs false

theorem shr32 (p x : Int) : shrN (p * x) 32 = p * x / 4294967296 := rfl

set_option maxHeartbeats 1600000 in
theorem fMul_ne (b off n cap : Nat) (l : List Int) (hn : n = l.length) (hl : l.length ≤ 1000000) (hI : ∀ x ∈ l, InI x) (w : World) (hb : b < w.heap.size) (hc : CellsI w b off l) :
    Calls Try.prog 95 #[.slice (some ⟨b, off, none⟩) n cap] w (Ret (.int .i64 (mulF l)) w) := by
  obtain rfl := hn
  obtain ⟨N, hN⟩ : ∃ N, N = l.length := ⟨_, rfl⟩
  have HN := Lib.hid hN
  have HC := Lib.hid hc
  have HW := Lib.hid hI
  rw [← hN] at hl ⊢
  clear hN hc hI
  go_enter Try.func95, Try.ntmps95
  go_wp2_with fail
  go_loopw [3, 8] (fun a b wr => ∃ (k : Nat) (s : Int), k ≤ N ∧ a = .int .i64 s ∧ b = .int .i64 k ∧ InI s ∧ ((k = 0 ∧ s = 4294967296) ∨ (0 < k ∧ (l.drop k).foldl fmul s = mulF l)) ∧ Below w.heap.size w wr) (fun _ b _ => N - (intOf b).toNat)
  case atStart => exact ⟨0, 4294967296, by omega, rfl, rfl, by unfold InI; omega, .inl ⟨rfl, rfl⟩, Below.refl _ _⟩
  case round =>
    obtain ⟨k, s, hk, rfl, rfl, hs, hrun, hB⟩ := hrel
    by_cases hlt : k < N
    · have hkl : k < l.length := by rw [← HN.out]; exact hlt
      obtain ⟨x, hx⟩ : ∃ x, l[k] = x := ⟨_, rfl⟩
      have hxI : InI x := by rw [← hx]; exact HW.out _ (List.getElem_mem hkl)
      have hc := (hB.cell (p := ⟨b, off + k, none⟩) hb).trans (HC.out k hkl)
      rw [hx] at hc
      by_cases h0 : k = 0
      · have HY : Hid ((l.drop (k + 1)).foldl fmul x = mulF l) := Lib.hid (by
          subst h0
          cases l with
          | nil => simp at hkl
          | cons y l => simp at hx; subst hx; rfl)
        have hk0 : ((k : Int) == 0) = true := by rw [beq_iff_eq]; omega
        clear hx hrun hkl h0
        go_wp2_with fail
        go_roundw
        case rel => exact ⟨k + 1, x, by omega, rfl, by go_num, hxI, .inr ⟨by omega, HY.out⟩, hB⟩
        case measure => simp [intOf]; omega
      · have hk0 : ((k : Int) == 0) = false := by rw [beq_eq_false_iff_ne]; omega
        have hsum : (l.drop k).foldl fmul s = mulF l := by
          rcases hrun with h | h
          · exact absurd h.1 h0
          · exact h.2
        have HY := Lib.hid (fold_step (f := fmul) (s := s) hkl)
        rw [hsum, hx] at HY
        clear hx hsum hrun hkl h0
        have hS := hB.size
        go_wp2_with fail
        refine (wMul s x hs hxI _).mono ?_; rintro e w1 ⟨rfl, hb1⟩
        obtain ⟨hB1, hS1⟩ : Below w.heap.size w w1 ∧ w.heap.size ≤ w1.heap.size := Below.step (by go_grown) hb1
        go_wp2_with fail
        refine (wShr (s * x) 32 (mul_InW hs hxI) (by unfold InI; omega) _).mono ?_; rintro e w2 ⟨rfl, hb2⟩
        obtain ⟨hB2, hS2⟩ : Below w.heap.size w w2 ∧ w.heap.size ≤ w2.heap.size := Below.step (by go_grown) hb2
        go_wp2_with fail
        refine (fnear _ (shr_InW (mul_InW hs hxI) 32) _).mono ?_; rintro e w3 ⟨rfl, hb3⟩
        obtain ⟨hB3, hS3⟩ : Below w.heap.size w w3 ∧ w.heap.size ≤ w3.heap.size := Below.step (by go_grown) hb3
        go_wp2_with fail
        go_roundw
        case rel => exact ⟨k + 1, fmul s x, by omega, rfl, by go_num, fmul_I _ _, .inr ⟨by omega, HY.out.symm⟩, hB3⟩
        case measure => simp [intOf]; omega
    · obtain rfl : k = N := by omega
      have HE : Hid (mulF l = s) := Lib.hid (by
        rcases hrun with ⟨h1, h2⟩ | ⟨h1, h2⟩
        · have : l = [] := List.length_eq_zero_iff.1 (by rw [← HN.out]; exact h1)
          subst this h2; rfl
        · rw [← h2, HN.out, List.drop_length]; rfl)
      clear hrun
      go_wp2_with fail
      go_ret
      exact ret_of (vint HE.out.symm) hB

theorem fMul_zero (A : Option Addr) (cap : Nat) (w : World) : Calls Try.prog 95 #[.slice A 0 cap] w (Same (.int .i64 4294967296) w) := by
  go_enter Try.func95, Try.ntmps95
  go_wp2_with fail
  refine wp_loop_rounds 1 ?_
  rw [rounds_succ]
  go_wp2
  go_ret
  exact same_of rfl

theorem fMul_nil (w : World) : Calls Try.prog 95 #[.slice none 0 0] w (Same (.int .i64 4294967296) w) := fMul_zero none 0 w
theorem fMul (A : Option Addr) (n cap : Nat) (l : List Int) (w : World) (hr : RdI w A n l) (hl : l.length ≤ 1000000) (hI : ∀ x ∈ l, InI x) :
    Calls Try.prog 95 #[.slice A n cap] w (Ret (.int .i64 (mulF l)) w) := by
  obtain ⟨rfl, h⟩ := hr
  by_cases h0 : l = []
  · subst h0
    exact (fMul_zero A cap w).mono fun _ _ h => h.ret
  · rcases h with rfl | ⟨b, off, rfl, hc⟩
    · exact absurd rfl h0
    · exact fMul_ne b off _ cap l rfl hl hI w (World.block_lt_of_cell? w _ (hc 0 (List.length_pos_iff.2 h0))) hc

end Go.Proofs.Ytognbeejobfpfaa

namespace Go.Proofs.Ytognbeejobfpfaa
open Go.RowKit
set_option linter.unusedVariables false
set_option linter.unusedSimpArgs false

theorem one_I : InI 4294967296 := by unfold InI; omega
set_option maxHeartbeats 800000 in
theorem fDiv (a b : Int) (ha : InI a) (hb : InI b) (w : World) : Calls Try.prog 17 #[.int .i64 a, .int .i64 b] w (Ret (.int .i64 (fdiv a b)) w) := by
  by_cases h0 : b = 0
  · subst h0
    by_cases h1 : 0 < a
    · have HK : Hid (fdiv a 0 = 9223372036854775807) := Lib.hid (by unfold fdiv; rw [if_pos rfl, if_pos h1])
      go_enter Try.func17, Try.ntmps17
      go_wp2_with fail
      go_ret
      exact ret_of (vint HK.out.symm) (Below.refl _ _)
    · by_cases h2 : a < 0
      · have HK : Hid (fdiv a 0 = -9223372036854775808) := Lib.hid (by unfold fdiv; rw [if_pos rfl, if_neg h1, if_pos h2])
        go_enter Try.func17, Try.ntmps17
        go_wp2_with fail
        go_ret
        exact ret_of (vint HK.out.symm) (Below.refl _ _)
      · have HK : Hid (fdiv a 0 = 0) := Lib.hid (by unfold fdiv; rw [if_pos rfl, if_neg h1, if_neg h2])
        go_enter Try.func17, Try.ntmps17
        go_wp2_with fail
        go_ret
        exact ret_of (vint HK.out.symm) (Below.refl _ _)
  · have e0 : (b == 0) = false := by rw [beq_eq_false_iff_ne]; exact h0
    have hok := divOk_mul ha one_I h0
    have HK : Hid (fdiv a b = clampI (divQ (a * 4294967296) b)) := Lib.hid (by unfold fdiv; rw [if_neg h0, divQ_ok hok])
    clear h0 hok
    go_enter Try.func17, Try.ntmps17
    go_wp2_with fail
    refine (wMul a 4294967296 ha one_I _).mono ?_; rintro e w1 ⟨rfl, hb1⟩
    obtain ⟨hB1, hS1⟩ : Below w.heap.size w w1 ∧ w.heap.size ≤ w1.heap.size := Below.step (by go_grown) hb1
    go_wp2_with fail
    refine (wDiv _ b (mul_InW ha one_I) hb _).mono ?_; rintro e w2 ⟨rfl, hb2⟩
    obtain ⟨hB2, hS2⟩ : Below w.heap.size w w2 ∧ w.heap.size ≤ w2.heap.size := Below.step (by go_grown) hb2
    go_wp2_with fail
    refine (fnear _ (divQ_in _ _) _).mono ?_; rintro e w3 ⟨rfl, hb3⟩
    obtain ⟨hB3, hS3⟩ : Below w.heap.size w w3 ∧ w.heap.size ≤ w3.heap.size := Below.step (by go_grown) hb3
    go_wp2_with fail
    go_ret
    exact ret_of (vint HK.out.symm) hB3

theorem sqrt_small {a : Int} (ha : InI a) (h0 : 0 ≤ a) : 0 ≤ sqN (a * 4294967296) ∧ sqN (a * 4294967296) ≤ 9223372036854775807 := by
  unfold InI at ha
  obtain ⟨⟨r0, r1, r2⟩, h1⟩ := sqN_root (x := a * 4294967296) (by omega) (by omega)
  refine ⟨r0, ?_⟩
  rcases ltge (sqN (a * 4294967296)) 9223372036854775808 with g | g
  · omega
  · have := sq_mono (a := 9223372036854775808) (by omega) g
    omega



end Go.Proofs.Ytognbeejobfpfaa

namespace Go.Proofs.Ytognbeejobfpfaa
open Go.RowKit Go.Sort
set_option linter.unusedVariables false
set_option linter.unusedSimpArgs false

theorem cells2 {w : World} {B : Nat} {a b : Int} (h0 : w.cell? ⟨B, 0, none⟩ = some (.int .i64 a)) (h1 : w.cell? ⟨B, 1, none⟩ = some (.int .i64 b)) : CellsI w B 0 [a, b] := by
  intro i h
  match i, h with
  | 0, _ => exact h0
  | 1, _ => exact h1
theorem cells3 {w : World} {B : Nat} {a b c : Int} (h0 : w.cell? ⟨B, 0, none⟩ = some (.int .i64 a)) (h1 : w.cell? ⟨B, 1, none⟩ = some (.int .i64 b)) (h2 : w.cell? ⟨B, 2, none⟩ = some (.int .i64 c)) : CellsI w B 0 [a, b, c] := by
  intro i h
  match i, h with
  | 0, _ => exact h0
  | 1, _ => exact h1
  | 2, _ => exact h2

theorem fAdd2 (a b : Int) (ha : InI a) (hb : InI b) (w : World) (B cap : Nat) (h0 : w.cell? ⟨B, 0, none⟩ = some (.int .i64 a)) (h1 : w.cell? ⟨B, 1, none⟩ = some (.int .i64 b)) :
    Calls Try.prog 66 #[.slice (some ⟨B, 0, none⟩) 2 cap] w (Same (.int .i64 (satAdd a b)) w) := by
  have := fAdd_ne B 0 2 cap [a, b] rfl (by simp) (by simp; exact ⟨ha, hb⟩) w (cells2 h0 h1)
  have e : sumF [a, b] = satAdd a b := by show satAdd (satAdd 0 a) b = _; rw [satAdd_zero ha]
  rw [e] at this
  exact this
theorem fAdd3 (a b c : Int) (ha : InI a) (hb : InI b) (hc : InI c) (w : World) (B cap : Nat) (h0 : w.cell? ⟨B, 0, none⟩ = some (.int .i64 a)) (h1 : w.cell? ⟨B, 1, none⟩ = some (.int .i64 b)) (h2 : w.cell? ⟨B, 2, none⟩ = some (.int .i64 c)) :
    Calls Try.prog 66 #[.slice (some ⟨B, 0, none⟩) 3 cap] w (Same (.int .i64 (satAdd (satAdd a b) c)) w) := by
  have := fAdd_ne B 0 3 cap [a, b, c] rfl (by simp) (by simp; exact ⟨ha, hb, hc⟩) w (cells3 h0 h1 h2)
  have e : sumF [a, b, c] = satAdd (satAdd a b) c := by show satAdd (satAdd (satAdd 0 a) b) c = _; rw [satAdd_zero ha]
  rw [e] at this
  exact this
theorem fMul2 (a b : Int) (ha : InI a) (hb : InI b) (w : World) (B cap : Nat) (h0 : w.cell? ⟨B, 0, none⟩ = some (.int .i64 a)) (h1 : w.cell? ⟨B, 1, none⟩ = some (.int .i64 b)) :
    Calls Try.prog 95 #[.slice (some ⟨B, 0, none⟩) 2 cap] w (Ret (.int .i64 (fmul a b)) w) :=
  fMul_ne B 0 2 cap [a, b] rfl (by simp) (by simp; exact ⟨ha, hb⟩) w (World.block_lt_of_cell? w _ h0) (cells2 h0 h1)


end Go.Proofs.Ytognbeejobfpfaa
