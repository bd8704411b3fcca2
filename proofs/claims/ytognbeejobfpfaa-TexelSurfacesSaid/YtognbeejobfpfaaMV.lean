/- Walks: fix.near, Of, Floor, Round, Sub, Neg, Abs. Walk: fix.Add. Walk: fix.Mul. Walks: fix.Div, Sqrt, Clamp. fix.Add, fix.Mul of two and three; Lerp; the chapter's example. The chapter's example of layer 2. Walks: vec.each. Walks: vec.Add, vec.Times. Walks: vec.Sub, Scale, Lerp, Dot, Most. Walk: wide.MulDiv. Walks: vec.Of. Walks: vec.Length. Walks: the document's answer for layer 2: Size, Near, Of, Floor, Round, Two, Sub. Walks: the document's answer for layer 2: Two, Sub. Walk: the document's answer for layer 2: Times. Walks: the document's answer for layer 2: Clamp, Lerp. Walks: the document's answer for layer 2: Root, Sqrt. vec.Length, vec.Unit. vec.Toward. Walk: the document's answer for layer 2: Div. Walks: the document's answer for layer 3: vectors made part by part. Walks: the document's answer for layer 3: Dot, Cross, Most, Length. Walks: the document's answer for layer 3: Length, Unit. -/
import Derived.Test.YtognbeejobfpfaaFixM
import Derived.Test.YtognbeejobfpfaaWide1
import Derived.Outline
import Derived.Deep.LoopGhost
import Derived.Test.YtognbeejobfpfaaMD
import Derived.Test.YtognbeejobfpfaaQuiet
import Derived.Test.YtognbeejobfpfaaQuietT
import Derived.Test.YtognbeejobfpfaaVecM
import Derived.Test.YtognbeejobfpfaaMathA
import Derived.Test.YtognbeejobfpfaaAddTwo
import Derived.Deep.RegionHeld3
import Derived.Deep.CutRange
import Derived.Test.YtognbeejobfpfaaBase
namespace Go.Proofs.Ytognbeejobfpfaa
open Go.RowKit
set_option linter.unusedVariables false
set_option linter.unusedSimpArgs false

set_option maxHeartbeats 400000 in
theorem fnear (x : Int) (h : InW x) (w : World) : Calls Try.prog 43 #[W x] w (Ret (.int .i64 (clampI x)) w) := by
  by_cases hf : InI x
  · have HF := Lib.hid (fits_true hf)
    have HN := Lib.hid (intN_fits HF.out)
    have HC := Lib.hid (clampI_in hf)
    go_enter Try.func43, Try.ntmps43
    go_wp2_with fail
    refine (wInt x h _).mono ?_; rintro e w1 ⟨rfl, hb1⟩
    rw [HF.out, HN.out]
    obtain ⟨hB1, hS1⟩ : Below w.heap.size w w1 ∧ w.heap.size ≤ w1.heap.size := Below.step (by go_grown) hb1
    go_wp2_with fail
    go_ret
    exact ret_of (vint HC.out.symm) hB1
  · have HF := Lib.hid (fits_false hf)
    have HN := Lib.hid (intN_not HF.out)
    by_cases hn : x < 0
    · have HC := Lib.hid (clampI_lo hf hn)
      have e1 : wHi x < 0 := by unfold wHi; omega
      clear hf
      go_enter Try.func43, Try.ntmps43
      go_wp2_with fail
      refine (wInt x h _).mono ?_; rintro e w1 ⟨rfl, hb1⟩
      rw [HF.out, HN.out]
      obtain ⟨hB1, hS1⟩ : Below w.heap.size w w1 ∧ w.heap.size ≤ w1.heap.size := Below.step (by go_grown) hb1
      obtain ⟨hc1, hf1, hs1⟩ := bcell hb1
      go_wp2_with fail
      go_ret
      exact ret_of (vint HC.out.symm) hB1
    · have HC := Lib.hid (clampI_hi hf hn)
      have e1 : ¬ wHi x < 0 := by unfold wHi; omega
      clear hf
      go_enter Try.func43, Try.ntmps43
      go_wp2_with fail
      refine (wInt x h _).mono ?_; rintro e w1 ⟨rfl, hb1⟩
      rw [HF.out, HN.out]
      obtain ⟨hB1, hS1⟩ : Below w.heap.size w w1 ∧ w.heap.size ≤ w1.heap.size := Below.step (by go_grown) hb1
      obtain ⟨hc1, hf1, hs1⟩ := bcell hb1
      go_wp2_with fail
      go_ret
      exact ret_of (vint HC.out.symm) hB1

theorem fOf (n : Int) (h : InI n) (w : World) : Calls Try.prog 18 #[.int .i64 n] w (Ret (.int .i64 (fof n)) w) := by
  have hO : InI 4294967296 := by unfold InI; omega
  go_enter Try.func18, Try.ntmps18
  go_wp2_with fail
  refine (wMul n 4294967296 h hO _).mono ?_; rintro e w1 ⟨rfl, hb1⟩
  obtain ⟨hB1, hS1⟩ : Below w.heap.size w w1 ∧ w.heap.size ≤ w1.heap.size := Below.step (by go_grown) hb1
  go_wp2_with fail
  refine (fnear _ (mul_InW h hO) _).mono ?_; rintro e w2 ⟨rfl, hb2⟩
  obtain ⟨hB2, hS2⟩ : Below w.heap.size w w2 ∧ w.heap.size ≤ w2.heap.size := Below.step (by go_grown) hb2
  go_wp2_with fail
  go_ret
  exact ret_of rfl hB2


theorem i64_mask (m : Nat) (hm : m ≤ 62) (n : Int) : bits .and .i64 n ((2 ^ m - 1 : Nat) : Int) = n % ((2 ^ m : Nat) : Int) := by
  have hp : 2 ^ m ≤ 2 ^ 62 := Nat.pow_le_pow_right (by decide) hm
  have h0 : 0 < 2 ^ m := Nat.two_pow_pos m
  have hmask : (BitVec.ofInt 64 ((2 ^ m - 1 : Nat) : Int)).toNat = 2 ^ m - 1 := by
    rw [BitVec.toNat_ofInt, ← Int.natCast_emod, Int.toNat_natCast, Nat.mod_eq_of_lt (by omega)]
  have key : (BitVec.ofInt 64 n &&& BitVec.ofInt 64 ((2 ^ m - 1 : Nat) : Int)).toNat = (n % ((2 ^ 64 : Nat) : Int)).toNat % 2 ^ m := by
    rw [BitVec.toNat_and, BitVec.toNat_ofInt, hmask, Nat.and_two_pow_sub_one_eq_mod]
  show IntKind.i64.wrap ((BitVec.ofInt 64 n &&& BitVec.ofInt 64 ((2 ^ m - 1 : Nat) : Int)).toNat : Nat) = n % ((2 ^ m : Nat) : Int)
  rw [key, IntKind.wrap_i64]
  have e1 : (((n % ((2 ^ 64 : Nat) : Int)).toNat % 2 ^ m : Nat) : Int) = n % ((2 ^ m : Nat) : Int) := by
    rw [Int.natCast_emod, Int.toNat_of_nonneg (Int.emod_nonneg _ (by decide))]
    apply Int.emod_emod_of_dvd
    exact Int.natCast_dvd_natCast.2 (Nat.pow_dvd_pow 2 (by omega))
  rw [e1]
  have e2 := Int.emod_nonneg n (show ((2 ^ m : Nat) : Int) ≠ 0 by omega)
  have e3 := Int.emod_lt_of_pos n (show (0 : Int) < ((2 ^ m : Nat) : Int) by omega)
  omega
theorem i64_bit (n : Int) : bits BinOp.and IntKind.i64 n 1 = n % 2 := i64_mask 1 (by decide) n
theorem i64_low16 (n : Int) : bits BinOp.and IntKind.i64 n 65535 = n % 65536 := i64_mask 16 (by decide) n
theorem fRound (x : Int) (h : InI x) (w : World) : Calls Try.prog 100 #[.int .i64 x] w (Same (.int .i64 (fround x)) w) := by
  have e1 := i64_bit (x / 2147483648)
  unfold InI at h
  have e2 : -2147483648 ≤ x / 4294967296 ∧ x / 4294967296 ≤ 2147483647 := by omega
  go_enter Try.func100, Try.ntmps100
  go_wp2_with fail
  go_ret
  exact same_of rfl

theorem wrap_i64 (n : Int) : IntKind.i64.wrap n = wrap64 n := IntWalk.i64_left n
set_option maxHeartbeats 800000 in
theorem fSub (a b : Int) (ha : InI a) (hb : InI b) (w : World) : Calls Try.prog 68 #[.int .i64 a, .int .i64 b] w (Same (.int .i64 (satSub a b)) w) := by
  obtain ⟨k1, k2, k3⟩ := sub_wrap ha hb
  obtain ⟨d, hd⟩ : ∃ d, IntKind.i64.wrap (a - b) = d := ⟨_, rfl⟩
  rw [← wrap_i64, hd] at k1 k2 k3
  by_cases s1 : 0 ≤ a <;> by_cases s2 : b < 0
  · by_cases s3 : d < 0
    · have HK := Lib.hid (k1 s1 s2 s3)
      clear k1 k2 k3 ha hb
      go_enter Try.func68, Try.ntmps68
      go_wp2_with fail
      go_ret
      exact same_of (vint HK.out.symm)
    · have HK := Lib.hid (k3 (by omega) (by omega))
      clear k1 k2 k3 ha hb
      go_enter Try.func68, Try.ntmps68
      go_wp2_with fail
      go_ret
      exact same_of (vint HK.out.symm)
  · have HK : Hid (satSub a b = a - b) := Lib.hid (by unfold InI at ha hb; unfold satSub clampI; split <;> (try split) <;> omega)
    unfold InI at ha hb
    clear k1 k2 k3 hd
    go_enter Try.func68, Try.ntmps68
    go_wp2_with fail
    go_ret
    exact same_of (vint HK.out.symm)
  · have HK : Hid (satSub a b = a - b) := Lib.hid (by unfold InI at ha hb; unfold satSub clampI; split <;> (try split) <;> omega)
    unfold InI at ha hb
    have s4 : ¬ 0 < b := by omega
    clear k1 k2 k3 hd
    go_enter Try.func68, Try.ntmps68
    go_wp2_with fail
    go_ret
    exact same_of (vint HK.out.symm)
  · by_cases s4 : 0 < b
    · by_cases s3 : 0 ≤ d
      · have HK := Lib.hid (k2 (by omega) s4 s3)
        clear k1 k2 k3 ha hb
        go_enter Try.func68, Try.ntmps68
        go_wp2_with fail
        go_ret
        exact same_of (vint HK.out.symm)
      · have HK := Lib.hid (k3 (by omega) (by omega))
        clear k1 k2 k3 ha hb
        go_enter Try.func68, Try.ntmps68
        go_wp2_with fail
        go_ret
        exact same_of (vint HK.out.symm)
    · have HK : Hid (satSub a b = a - b) := Lib.hid (by unfold InI at ha hb; unfold satSub clampI; split <;> (try split) <;> omega)
      unfold InI at ha hb
      clear k1 k2 k3 hd
      go_enter Try.func68, Try.ntmps68
      go_wp2_with fail
      go_ret
      exact same_of (vint HK.out.symm)

theorem fNeg (a : Int) (ha : InI a) (w : World) : Calls Try.prog 110 #[.int .i64 a] w (Same (.int .i64 (satSub 0 a)) w) := by
  go_enter Try.func110, Try.ntmps110
  go_wp2_with fail
  refine (fSub 0 a (by unfold InI; omega) ha _).mono ?_; rintro e w1 ⟨rfl, rfl⟩
  go_wp2_with fail
  go_ret
  exact same_of rfl

theorem fAbs (a : Int) (ha : InI a) (w : World) : Calls Try.prog 107 #[.int .i64 a] w (Same (.int .i64 (fabs a)) w) := by
  have HK : Hid (max a (satSub 0 a) = fabs a) := Lib.hid (by unfold fabs; split <;> omega)
  go_enter Try.func107, Try.ntmps107
  go_wp2_with fail
  refine (fNeg a ha _).mono ?_; rintro e w1 ⟨rfl, rfl⟩
  go_wp2_with fail
  go_ret
  exact same_of (vint HK.out)

end Go.Proofs.Ytognbeejobfpfaa

namespace Go.Proofs.Ytognbeejobfpfaa
open Go.RowKit
set_option linter.unusedVariables false
set_option linter.unusedSimpArgs false

set_option maxHeartbeats 1600000 in
theorem fAdd_ne (b off n cap : Nat) (l : List Int) (hn : n = l.length) (hl : l.length ≤ 1000000) (hI : ∀ x ∈ l, InI x) (w : World) (hc : CellsI w b off l) :
    Calls Try.prog 66 #[.slice (some ⟨b, off, none⟩) n cap] w (Same (.int .i64 (sumF l)) w) := by
  obtain rfl := hn
  obtain ⟨N, hN⟩ : ∃ N, N = l.length := ⟨_, rfl⟩
  have HN := Lib.hid hN
  have HC := Lib.hid hc
  have HW := Lib.hid hI
  rw [← hN] at hl ⊢
  clear hN hc hI
  go_enter Try.func66, Try.ntmps66
  go_wp2_with fail
  go_loop [3, 9] (fun a b => ∃ (k : Nat) (s : Int), k ≤ N ∧ a = .int .i64 s ∧ b = .int .i64 k ∧ InI s ∧ (l.drop k).foldl satAdd s = sumF l) (fun _ b => N - (intOf b).toNat)
  case atStart => exact ⟨0, 0, by omega, rfl, rfl, by unfold InI; omega, rfl⟩
  case round =>
    obtain ⟨k, s, hk, rfl, rfl, hs, hsum⟩ := hrel
    by_cases hlt : k < N
    · have hkl : k < l.length := by rw [← HN.out]; exact hlt
      obtain ⟨x, hx⟩ : ∃ x, l[k] = x := ⟨_, rfl⟩
      have hxI : InI x := by rw [← hx]; exact HW.out _ (List.getElem_mem hkl)
      have hc := HC.out k hkl
      have HY := Lib.hid (fold_step (f := satAdd) (s := s) hkl)
      rw [hsum, hx] at HY
      rw [hx] at hc
      clear hx hsum hkl
      obtain ⟨k1, k2, k3⟩ := add_wrap hs hxI
      obtain ⟨d, hd⟩ : ∃ d, IntKind.i64.wrap (s + x) = d := ⟨_, rfl⟩
      rw [← wrap_i64, hd] at k1 k2 k3
      by_cases s1 : 0 < s
      · by_cases s2 : 0 < x
        · by_cases s3 : d < 0
          · have HK := Lib.hid (k1 s1 s2 s3)
            clear k1 k2 k3 hs hxI
            go_wp2_with fail
            go_round
            case rel => exact ⟨k + 1, satAdd s x, by omega, vint HK.out.symm, by go_num, satAdd_I _ _, HY.out.symm⟩
            case measure => simp [intOf]; omega
          · have HK := Lib.hid (k3 (by omega) (by omega))
            clear k1 k2 k3 hs hxI
            go_wp2_with fail
            go_round
            case rel => exact ⟨k + 1, satAdd s x, by omega, vint HK.out.symm, by go_num, satAdd_I _ _, HY.out.symm⟩
            case measure => simp [intOf]; omega
        · have HK : Hid (satAdd s x = s + x) := Lib.hid (by unfold InI at hs hxI; unfold satAdd clampI; split <;> (try split) <;> omega)
          unfold InI at hs hxI
          clear k1 k2 k3 hd
          go_wp2_with fail
          go_round
          case rel => exact ⟨k + 1, satAdd s x, by omega, vint HK.out.symm, by go_num, satAdd_I _ _, HY.out.symm⟩
          case measure => simp [intOf]; omega
      · by_cases s2 : s < 0
        · by_cases s4 : x < 0
          · by_cases s3 : 0 ≤ d
            · have HK := Lib.hid (k2 s2 s4 s3)
              clear k1 k2 k3 hs hxI
              go_wp2_with fail
              go_round
              case rel => exact ⟨k + 1, satAdd s x, by omega, vint HK.out.symm, by go_num, satAdd_I _ _, HY.out.symm⟩
              case measure => simp [intOf]; omega
            · have HK := Lib.hid (k3 (by omega) (by omega))
              clear k1 k2 k3 hs hxI
              go_wp2_with fail
              go_round
              case rel => exact ⟨k + 1, satAdd s x, by omega, vint HK.out.symm, by go_num, satAdd_I _ _, HY.out.symm⟩
              case measure => simp [intOf]; omega
          · have HK : Hid (satAdd s x = s + x) := Lib.hid (by unfold InI at hs hxI; unfold satAdd clampI; split <;> (try split) <;> omega)
            unfold InI at hs hxI
            clear k1 k2 k3 hd
            go_wp2_with fail
            go_round
            case rel => exact ⟨k + 1, satAdd s x, by omega, vint HK.out.symm, by go_num, satAdd_I _ _, HY.out.symm⟩
            case measure => simp [intOf]; omega
        · have HK : Hid (satAdd s x = s + x) := Lib.hid (by unfold InI at hs hxI; unfold satAdd clampI; split <;> (try split) <;> omega)
          unfold InI at hs hxI
          clear k1 k2 k3 hd
          go_wp2_with fail
          go_round
          case rel => exact ⟨k + 1, satAdd s x, by omega, vint HK.out.symm, by go_num, satAdd_I _ _, HY.out.symm⟩
          case measure => simp [intOf]; omega
    · obtain rfl : k = N := by omega
      have HE : Hid (sumF l = s) := Lib.hid (by rw [← hsum, HN.out, List.drop_length]; rfl)
      clear hsum
      go_wp2_with fail
      go_ret
      exact same_of (vint HE.out.symm)

theorem fAdd_zero (A : Option Addr) (cap : Nat) (w : World) : Calls Try.prog 66 #[.slice A 0 cap] w (Same (.int .i64 0) w) := by
  go_enter Try.func66, Try.ntmps66
  go_wp2_with fail
  refine wp_loop_rounds 1 ?_
  rw [rounds_succ]
  go_wp2
  go_ret
  exact same_of rfl

theorem fAdd_nil (w : World) : Calls Try.prog 66 #[.slice none 0 0] w (Same (.int .i64 0) w) := fAdd_zero none 0 w

theorem fAdd (A : Option Addr) (n cap : Nat) (l : List Int) (w : World) (hr : RdI w A n l) (hl : l.length ≤ 1000000) (hI : ∀ x ∈ l, InI x) :
    Calls Try.prog 66 #[.slice A n cap] w (Same (.int .i64 (sumF l)) w) := by
  obtain ⟨rfl, h⟩ := hr
  rcases h with rfl | ⟨b, off, rfl, hc⟩
  · exact fAdd_zero A cap w
  · exact fAdd_ne b off _ cap l rfl hl hI w hc

end Go.Proofs.Ytognbeejobfpfaa

namespace Go.Proofs.Ytognbeejobfpfaa
open Go.RowKit
set_option linter.unusedVariables false
set_option linter.unusedSimpArgs false

theorem shr32 (p x : Int) : shrN (p * x) 32 = p * x / 4294967296 := rfl

set_option maxHeartbeats 1600000 in
theorem fMul_ne (b off n cap : Nat) (l : List Int) (hn : n = l.length) (hl : l.length ≤ 1000000) (hI : ∀ x ∈ l, InI x) (w : World) (hb : b < w.heap.size) (hc : CellsI w b off l) :
    Calls Try.prog 95 #[.slice (some ⟨b, off, none⟩) n cap] w (Ret (.int .i64 (mulF l)) w) := by
  obtain rfl := hn
  obtain ⟨N, hN⟩ : ∃ N, N = l.length := ⟨_, rfl⟩
  have HN := Lib.hid hN
  have HC := Lib.hid hc
  have HW := Lib.hid hI
  rw [← hN] at hl ⊢
  clear hN hc hI
  go_enter Try.func95, Try.ntmps95
  go_wp2_with fail
  go_loopw [3, 8] (fun a b wr => ∃ (k : Nat) (s : Int), k ≤ N ∧ a = .int .i64 s ∧ b = .int .i64 k ∧ InI s ∧ ((k = 0 ∧ s = 4294967296) ∨ (0 < k ∧ (l.drop k).foldl fmul s = mulF l)) ∧ Below w.heap.size w wr) (fun _ b _ => N - (intOf b).toNat)
  case atStart => exact ⟨0, 4294967296, by omega, rfl, rfl, by unfold InI; omega, .inl ⟨rfl, rfl⟩, Below.refl _ _⟩
  case round =>
    obtain ⟨k, s, hk, rfl, rfl, hs, hrun, hB⟩ := hrel
    by_cases hlt : k < N
    · have hkl : k < l.length := by rw [← HN.out]; exact hlt
      obtain ⟨x, hx⟩ : ∃ x, l[k] = x := ⟨_, rfl⟩
      have hxI : InI x := by rw [← hx]; exact HW.out _ (List.getElem_mem hkl)
      have hc := (hB.cell (p := ⟨b, off + k, none⟩) hb).trans (HC.out k hkl)
      rw [hx] at hc
      by_cases h0 : k = 0
      · have HY : Hid ((l.drop (k + 1)).foldl fmul x = mulF l) := Lib.hid (by
          subst h0
          cases l with
          | nil => simp at hkl
          | cons y l => simp at hx; subst hx; rfl)
        have hk0 : ((k : Int) == 0) = true := by rw [beq_iff_eq]; omega
        clear hx hrun hkl h0
        go_wp2_with fail
        go_roundw
        case rel => exact ⟨k + 1, x, by omega, rfl, by go_num, hxI, .inr ⟨by omega, HY.out⟩, hB⟩
        case measure => simp [intOf]; omega
      · have hk0 : ((k : Int) == 0) = false := by rw [beq_eq_false_iff_ne]; omega
        have hsum : (l.drop k).foldl fmul s = mulF l := by
          rcases hrun with h | h
          · exact absurd h.1 h0
          · exact h.2
        have HY := Lib.hid (fold_step (f := fmul) (s := s) hkl)
        rw [hsum, hx] at HY
        clear hx hsum hrun hkl h0
        have hS := hB.size
        go_wp2_with fail
        refine (wMul s x hs hxI _).mono ?_; rintro e w1 ⟨rfl, hb1⟩
        obtain ⟨hB1, hS1⟩ : Below w.heap.size w w1 ∧ w.heap.size ≤ w1.heap.size := Below.step (by go_grown) hb1
        go_wp2_with fail
        refine (wShr (s * x) 32 (mul_InW hs hxI) (by unfold InI; omega) _).mono ?_; rintro e w2 ⟨rfl, hb2⟩
        obtain ⟨hB2, hS2⟩ : Below w.heap.size w w2 ∧ w.heap.size ≤ w2.heap.size := Below.step (by go_grown) hb2
        go_wp2_with fail
        refine (fnear _ (shr_InW (mul_InW hs hxI) 32) _).mono ?_; rintro e w3 ⟨rfl, hb3⟩
        obtain ⟨hB3, hS3⟩ : Below w.heap.size w w3 ∧ w.heap.size ≤ w3.heap.size := Below.step (by go_grown) hb3
        go_wp2_with fail
        go_roundw
        case rel => exact ⟨k + 1, fmul s x, by omega, rfl, by go_num, fmul_I _ _, .inr ⟨by omega, HY.out.symm⟩, hB3⟩
        case measure => simp [intOf]; omega
    · obtain rfl : k = N := by omega
      have HE : Hid (mulF l = s) := Lib.hid (by
        rcases hrun with ⟨h1, h2⟩ | ⟨h1, h2⟩
        · have : l = [] := List.length_eq_zero_iff.1 (by rw [← HN.out]; exact h1)
          subst this h2; rfl
        · rw [← h2, HN.out, List.drop_length]; rfl)
      clear hrun
      go_wp2_with fail
      go_ret
      exact ret_of (vint HE.out.symm) hB

theorem fMul_zero (A : Option Addr) (cap : Nat) (w : World) : Calls Try.prog 95 #[.slice A 0 cap] w (Same (.int .i64 4294967296) w) := by
  go_enter Try.func95, Try.ntmps95
  go_wp2_with fail
  refine wp_loop_rounds 1 ?_
  rw [rounds_succ]
  go_wp2
  go_ret
  exact same_of rfl

theorem fMul_nil (w : World) : Calls Try.prog 95 #[.slice none 0 0] w (Same (.int .i64 4294967296) w) := fMul_zero none 0 w
theorem fMul (A : Option Addr) (n cap : Nat) (l : List Int) (w : World) (hr : RdI w A n l) (hl : l.length ≤ 1000000) (hI : ∀ x ∈ l, InI x) :
    Calls Try.prog 95 #[.slice A n cap] w (Ret (.int .i64 (mulF l)) w) := by
  obtain ⟨rfl, h⟩ := hr
  by_cases h0 : l = []
  · subst h0
    exact (fMul_zero A cap w).mono fun _ _ h => h.ret
  · rcases h with rfl | ⟨b, off, rfl, hc⟩
    · exact absurd rfl h0
    · exact fMul_ne b off _ cap l rfl hl hI w (World.block_lt_of_cell? w _ (hc 0 (List.length_pos_iff.2 h0))) hc

end Go.Proofs.Ytognbeejobfpfaa

namespace Go.Proofs.Ytognbeejobfpfaa
open Go.RowKit
set_option linter.unusedVariables false
set_option linter.unusedSimpArgs false

theorem one_I : InI 4294967296 := by unfold InI; omega
set_option maxHeartbeats 800000 in
theorem fDiv (a b : Int) (ha : InI a) (hb : InI b) (w : World) : Calls Try.prog 17 #[.int .i64 a, .int .i64 b] w (Ret (.int .i64 (fdiv a b)) w) := by
  by_cases h0 : b = 0
  · subst h0
    by_cases h1 : 0 < a
    · have HK : Hid (fdiv a 0 = 9223372036854775807) := Lib.hid (by unfold fdiv; rw [if_pos rfl, if_pos h1])
      go_enter Try.func17, Try.ntmps17
      go_wp2_with fail
      go_ret
      exact ret_of (vint HK.out.symm) (Below.refl _ _)
    · by_cases h2 : a < 0
      · have HK : Hid (fdiv a 0 = -9223372036854775808) := Lib.hid (by unfold fdiv; rw [if_pos rfl, if_neg h1, if_pos h2])
        go_enter Try.func17, Try.ntmps17
        go_wp2_with fail
        go_ret
        exact ret_of (vint HK.out.symm) (Below.refl _ _)
      · have HK : Hid (fdiv a 0 = 0) := Lib.hid (by unfold fdiv; rw [if_pos rfl, if_neg h1, if_neg h2])
        go_enter Try.func17, Try.ntmps17
        go_wp2_with fail
        go_ret
        exact ret_of (vint HK.out.symm) (Below.refl _ _)
  · have e0 : (b == 0) = false := by rw [beq_eq_false_iff_ne]; exact h0
    have hok := divOk_mul ha one_I h0
    have HK : Hid (fdiv a b = clampI (divQ (a * 4294967296) b)) := Lib.hid (by unfold fdiv; rw [if_neg h0, divQ_ok hok])
    clear h0 hok
    go_enter Try.func17, Try.ntmps17
    go_wp2_with fail
    refine (wMul a 4294967296 ha one_I _).mono ?_; rintro e w1 ⟨rfl, hb1⟩
    obtain ⟨hB1, hS1⟩ : Below w.heap.size w w1 ∧ w.heap.size ≤ w1.heap.size := Below.step (by go_grown) hb1
    go_wp2_with fail
    refine (wDiv _ b (mul_InW ha one_I) hb _).mono ?_; rintro e w2 ⟨rfl, hb2⟩
    obtain ⟨hB2, hS2⟩ : Below w.heap.size w w2 ∧ w.heap.size ≤ w2.heap.size := Below.step (by go_grown) hb2
    go_wp2_with fail
    refine (fnear _ (divQ_in _ _) _).mono ?_; rintro e w3 ⟨rfl, hb3⟩
    obtain ⟨hB3, hS3⟩ : Below w.heap.size w w3 ∧ w.heap.size ≤ w3.heap.size := Below.step (by go_grown) hb3
    go_wp2_with fail
    go_ret
    exact ret_of (vint HK.out.symm) hB3

theorem sqrt_small {a : Int} (ha : InI a) (h0 : 0 ≤ a) : 0 ≤ sqN (a * 4294967296) ∧ sqN (a * 4294967296) ≤ 9223372036854775807 := by
  unfold InI at ha
  obtain ⟨⟨r0, r1, r2⟩, h1⟩ := sqN_root (x := a * 4294967296) (by omega) (by omega)
  refine ⟨r0, ?_⟩
  rcases ltge (sqN (a * 4294967296)) 9223372036854775808 with g | g
  · omega
  · have := sq_mono (a := 9223372036854775808) (by omega) g
    omega



end Go.Proofs.Ytognbeejobfpfaa

namespace Go.Proofs.Ytognbeejobfpfaa
open Go.RowKit Go.Sort
set_option linter.unusedVariables false
set_option linter.unusedSimpArgs false

theorem cells2 {w : World} {B : Nat} {a b : Int} (h0 : w.cell? ⟨B, 0, none⟩ = some (.int .i64 a)) (h1 : w.cell? ⟨B, 1, none⟩ = some (.int .i64 b)) : CellsI w B 0 [a, b] := by
  intro i h
  match i, h with
  | 0, _ => exact h0
  | 1, _ => exact h1
theorem cells3 {w : World} {B : Nat} {a b c : Int} (h0 : w.cell? ⟨B, 0, none⟩ = some (.int .i64 a)) (h1 : w.cell? ⟨B, 1, none⟩ = some (.int .i64 b)) (h2 : w.cell? ⟨B, 2, none⟩ = some (.int .i64 c)) : CellsI w B 0 [a, b, c] := by
  intro i h
  match i, h with
  | 0, _ => exact h0
  | 1, _ => exact h1
  | 2, _ => exact h2

theorem fAdd2 (a b : Int) (ha : InI a) (hb : InI b) (w : World) (B cap : Nat) (h0 : w.cell? ⟨B, 0, none⟩ = some (.int .i64 a)) (h1 : w.cell? ⟨B, 1, none⟩ = some (.int .i64 b)) :
    Calls Try.prog 66 #[.slice (some ⟨B, 0, none⟩) 2 cap] w (Same (.int .i64 (satAdd a b)) w) := by
  have := fAdd_ne B 0 2 cap [a, b] rfl (by simp) (by simp; exact ⟨ha, hb⟩) w (cells2 h0 h1)
  have e : sumF [a, b] = satAdd a b := by show satAdd (satAdd 0 a) b = _; rw [satAdd_zero ha]
  rw [e] at this
  exact this
theorem fAdd3 (a b c : Int) (ha : InI a) (hb : InI b) (hc : InI c) (w : World) (B cap : Nat) (h0 : w.cell? ⟨B, 0, none⟩ = some (.int .i64 a)) (h1 : w.cell? ⟨B, 1, none⟩ = some (.int .i64 b)) (h2 : w.cell? ⟨B, 2, none⟩ = some (.int .i64 c)) :
    Calls Try.prog 66 #[.slice (some ⟨B, 0, none⟩) 3 cap] w (Same (.int .i64 (satAdd (satAdd a b) c)) w) := by
  have := fAdd_ne B 0 3 cap [a, b, c] rfl (by simp) (by simp; exact ⟨ha, hb, hc⟩) w (cells3 h0 h1 h2)
  have e : sumF [a, b, c] = satAdd (satAdd a b) c := by show satAdd (satAdd (satAdd 0 a) b) c = _; rw [satAdd_zero ha]
  rw [e] at this
  exact this
theorem fMul2 (a b : Int) (ha : InI a) (hb : InI b) (w : World) (B cap : Nat) (h0 : w.cell? ⟨B, 0, none⟩ = some (.int .i64 a)) (h1 : w.cell? ⟨B, 1, none⟩ = some (.int .i64 b)) :
    Calls Try.prog 95 #[.slice (some ⟨B, 0, none⟩) 2 cap] w (Ret (.int .i64 (fmul a b)) w) :=
  fMul_ne B 0 2 cap [a, b] rfl (by simp) (by simp; exact ⟨ha, hb⟩) w (World.block_lt_of_cell? w _ h0) (cells2 h0 h1)


end Go.Proofs.Ytognbeejobfpfaa

namespace Go.Proofs.Ytognbeejobfpfaa
open Go.RowKit Go.Sort
set_option linter.unusedVariables false
set_option linter.unusedSimpArgs false

theorem vals2 : fof 3 = 12884901888 ∧ fof (-1) = -4294967296 ∧ fof 2 = 8589934592 ∧ fmul 12884901888 2147483648 = 6442450944 ∧ fdiv (-4294967296) 12884901888 = -1431655766 ∧ satAdd 9223372036854775807 1 = 9223372036854775807 ∧ fsqrt 8589934592 = 6074000999 := by decide +kernel

end Go.Proofs.Ytognbeejobfpfaa

namespace Go.Proofs.Ytognbeejobfpfaa
open Go.RowKit Go.Sort
set_option linter.unusedVariables false
set_option linter.unusedSimpArgs false

/-- A vector. -/
abbrev V3 (x y z : Int) : Value := .agg #[.int .i64 x, .int .i64 y, .int .i64 z]
/-- Its cells. -/
abbrev C3 (x y z : Int) : Obj := .cells #[.int .i64 x, .int .i64 y, .int .i64 z] 29

set_option maxRecDepth 100000 in
set_option maxHeartbeats 800000 in
theorem vEach (k : FuncId) (cap : Array Value) (f : Int → Int → Int) (ax ay az bx b_y bz : Int) (w : World) (he : ∀ args w, (callFunc k args).run Try.prog w = .ok (.enter k args) w)
    (H1 : ∀ w', Below w.heap.size w w' → Calls Try.prog k (#[.int .i64 ax, .int .i64 bx] ++ cap) w' (Ret (.int .i64 (f ax bx)) w'))
    (H2 : ∀ w', Below w.heap.size w w' → Calls Try.prog k (#[.int .i64 ay, .int .i64 b_y] ++ cap) w' (Ret (.int .i64 (f ay b_y)) w'))
    (H3 : ∀ w', Below w.heap.size w w' → Calls Try.prog k (#[.int .i64 az, .int .i64 bz] ++ cap) w' (Ret (.int .i64 (f az bz)) w')) :
    Calls Try.prog 93 #[V3 ax ay az, V3 bx b_y bz, .func (.func k) #[] cap] w (Ret (V3 (f ax bx) (f ay b_y) (f az bz)) w) := by
  have K1 := Lib.hid H1
  have K2 := Lib.hid H2
  have K3 := Lib.hid H3
  clear H1 H2 H3
  go_enter Try.func93, Try.ntmps93
  go_wp2_with fail
  have c1 := reg_cell (w := ((w.alloc (C3 ax ay az)).alloc (C3 bx b_y bz)).alloc (C3 0 0 0)) (a := ⟨w.heap.size, 0, none⟩) (v := .int .i64 ax) (by first | go_cell | simp [go_sem])
  have c2 := reg_cell (w := ((w.alloc (C3 ax ay az)).alloc (C3 bx b_y bz)).alloc (C3 0 0 0)) (a := ⟨w.heap.size, 1, none⟩) (v := .int .i64 ay) (by first | go_cell | simp [go_sem])
  have c3 := reg_cell (w := ((w.alloc (C3 ax ay az)).alloc (C3 bx b_y bz)).alloc (C3 0 0 0)) (a := ⟨w.heap.size, 2, none⟩) (v := .int .i64 az) (by first | go_cell | simp [go_sem])
  have c4 := reg_cell (w := ((w.alloc (C3 ax ay az)).alloc (C3 bx b_y bz)).alloc (C3 0 0 0)) (a := ⟨w.heap.size + 1, 0, none⟩) (v := .int .i64 bx) (by first | go_cell | simp [go_sem])
  have c5 := reg_cell (w := ((w.alloc (C3 ax ay az)).alloc (C3 bx b_y bz)).alloc (C3 0 0 0)) (a := ⟨w.heap.size + 1, 1, none⟩) (v := .int .i64 b_y) (by first | go_cell | simp [go_sem])
  have c6 := reg_cell (w := ((w.alloc (C3 ax ay az)).alloc (C3 bx b_y bz)).alloc (C3 0 0 0)) (a := ⟨w.heap.size + 1, 2, none⟩) (v := .int .i64 bz) (by first | go_cell | simp [go_sem])
  have hg : Below w.heap.size w (((w.alloc (C3 ax ay az)).alloc (C3 bx b_y bz)).alloc (C3 0 0 0)) := by go_grown
  have KG := Lib.hid hg
  clear hg
  refine wp_region_below_tail 19 (by kernel_rfl) (by kernel_rfl) ?_
  simp only [List.take_succ_cons, List.take_zero, List.drop_succ_cons, List.drop_zero]
  repeat (quiet_step (first | exact reg_ret (K1.out _ (Below.step KG.out (reg_below ⟨⟨_, _⟩, rfl⟩)).1) | exact reg_ret (K2.out _ (Below.step KG.out (reg_below ⟨⟨_, _⟩, rfl⟩)).1) | exact reg_ret (K3.out _ (Below.step KG.out (reg_below ⟨⟨_, _⟩, rfl⟩)).1)))
  refine wpQuiet_nil ?_
  intro w3 hw3
  have hb3 := reg_below hw3
  clear hw3 c1 c2 c3 c4 c5 c6
  obtain ⟨hB3, hS3⟩ : Below w.heap.size w w3 ∧ w.heap.size ≤ w3.heap.size := Below.step KG.out hb3
  have r0 : w3.cell? ⟨w.heap.size + 1 + 1, 0, none⟩ = some (.int .i64 0) := (hb3.cell (p := ⟨w.heap.size + 1 + 1, 0, none⟩) (by simp)).trans (by first | go_cell | simp [go_sem])
  have f0 : w3.frozen? ⟨w.heap.size + 1 + 1, 0, none⟩ = false := (hb3.frozen (p := ⟨w.heap.size + 1 + 1, 0, none⟩) (by simp)).trans (by simp [go_sem])
  have r1 : w3.cell? ⟨w.heap.size + 1 + 1, 1, none⟩ = some (.int .i64 0) := (hb3.cell (p := ⟨w.heap.size + 1 + 1, 1, none⟩) (by simp)).trans (by first | go_cell | simp [go_sem])
  have f1 : w3.frozen? ⟨w.heap.size + 1 + 1, 1, none⟩ = false := (hb3.frozen (p := ⟨w.heap.size + 1 + 1, 1, none⟩) (by simp)).trans (by simp [go_sem])
  have r2 : w3.cell? ⟨w.heap.size + 1 + 1, 2, none⟩ = some (.int .i64 0) := (hb3.cell (p := ⟨w.heap.size + 1 + 1, 2, none⟩) (by simp)).trans (by first | go_cell | simp [go_sem])
  have f2 : w3.frozen? ⟨w.heap.size + 1 + 1, 2, none⟩ = false := (hb3.frozen (p := ⟨w.heap.size + 1 + 1, 2, none⟩) (by simp)).trans (by simp [go_sem])
  clear hb3
  go_wp2
  exact bodyPost_ret (v := V3 (f ax bx) (f ay b_y) (f az bz)) (by simp (maxDischargeDepth := 9) [results, Try.results93, go_sem, r0, r1, r2]) rfl ⟨rfl, by go_grown⟩

end Go.Proofs.Ytognbeejobfpfaa

namespace Go.Proofs.Ytognbeejobfpfaa
open Go.RowKit Go.Sort
set_option linter.unusedVariables false
set_option linter.unusedSimpArgs false

theorem vAdd1 (a b : Int) (ha : InI a) (hb : InI b) (w : World) : Calls Try.prog 97 #[.int .i64 a, .int .i64 b] w (Ret (.int .i64 (satAdd a b)) w) := by
  go_enter Try.func97, Try.ntmps97
  go_wp2_with fail
  refine (fAdd2 a b ha hb _ _ _ (by simp) (by simp)).mono ?_; rintro e w3 ⟨rfl, rfl⟩
  go_wp2_with fail
  go_ret
  exact ret_of rfl (by go_grown)

theorem vTimes1 (a b : Int) (ha : InI a) (hb : InI b) (w : World) : Calls Try.prog 94 #[.int .i64 a, .int .i64 b] w (Ret (.int .i64 (fmul a b)) w) := by
  go_enter Try.func94, Try.ntmps94
  go_wp2_with fail
  refine (fMul2 a b ha hb _ _ _ (by simp) (by simp)).mono ?_; rintro e w3 ⟨rfl, hb1⟩
  obtain ⟨hB1, hS1⟩ : Below w.heap.size w w3 ∧ w.heap.size ≤ w3.heap.size := Below.step (by go_grown) hb1
  go_wp2_with fail
  go_ret
  exact ret_of rfl hB1

theorem vEachAdd (a b : T3) (ha : InV a) (hb : InV b) (w : World) :
    Calls Try.prog 93 #[V3 a.1 a.2.1 a.2.2, V3 b.1 b.2.1 b.2.2, .func (.func 97) #[] #[]] w (Ret (V3 (vadd a b).1 (vadd a b).2.1 (vadd a b).2.2) w) :=
  vEach 97 #[] satAdd a.1 a.2.1 a.2.2 b.1 b.2.1 b.2.2 w (enters_of Try.func97 (by kernel_rfl) rfl)
    (fun w' _ => vAdd1 _ _ ha.1 hb.1 w') (fun w' _ => vAdd1 _ _ ha.2.1 hb.2.1 w') (fun w' _ => vAdd1 _ _ ha.2.2 hb.2.2 w')

theorem vEachTimes (a b : T3) (ha : InV a) (hb : InV b) (w : World) :
    Calls Try.prog 93 #[V3 a.1 a.2.1 a.2.2, V3 b.1 b.2.1 b.2.2, .func (.func 94) #[] #[]] w (Ret (V3 (vmul a b).1 (vmul a b).2.1 (vmul a b).2.2) w) :=
  vEach 94 #[] fmul a.1 a.2.1 a.2.2 b.1 b.2.1 b.2.2 w (enters_of Try.func94 (by kernel_rfl) rfl)
    (fun w' _ => vTimes1 _ _ ha.1 hb.1 w') (fun w' _ => vTimes1 _ _ ha.2.1 hb.2.1 w') (fun w' _ => vTimes1 _ _ ha.2.2 hb.2.2 w')

set_option maxRecDepth 100000 in
set_option maxHeartbeats 1600000 in
theorem vAdd_ne (b off n cap : Nat) (l : List T3) (hn : n = l.length) (hl : l.length ≤ 1000000) (hI : ∀ x ∈ l, InV x) (w : World) (hb : b < w.heap.size) (hc : CellsV w b off l) :
    Calls Try.prog 69 #[.slice (some ⟨b, off, none⟩) n cap] w (Ret (V3 (sumT l).1 (sumT l).2.1 (sumT l).2.2) w) := by
  obtain rfl := hn
  obtain ⟨N, hN⟩ : ∃ N, N = l.length := ⟨_, rfl⟩
  have HN := Lib.hid hN
  have HC := Lib.hid hc
  have HW := Lib.hid hI
  have H0 : Hid (l.foldl vadd zero3 = sumT l) := Lib.hid rfl
  rw [← hN] at hl ⊢
  clear hN hc hI
  go_enter Try.func69, Try.ntmps69
  go_wp2_with fail
  go_loopw [8] (fun i wr => ∃ (k : Nat) (s : T3), k ≤ N ∧ i = .int .i64 k ∧ InV s ∧ (l.drop k).foldl vadd s = sumT l ∧ Below w.heap.size w wr ∧ Holds3 wr (w.heap.size + 1) s ∧ Holds3 wr w.heap.size zero3) (fun i _ => N - (intOf i).toNat)
  case atStart => exact ⟨0, zero3, by omega, rfl, zero3_I, H0.out, by go_grown, Holds3.new _ 0 0 0 _ _ (by simp), (Holds3.new _ 0 0 0 _ _ rfl).more _⟩
  case round =>
    obtain ⟨k, s, hk, rfl, hs, hsum, hB, hh1, hh0⟩ := hrel
    by_cases hlt : k < N
    · have hkl : k < l.length := by rw [← HN.out]; exact hlt
      obtain ⟨x, hx⟩ : ∃ x, l[k] = x := ⟨_, rfl⟩
      have hxI : InV x := by rw [← hx]; exact HW.out _ (List.getElem_mem hkl)
      have HY := Lib.hid (foldV_step (f := vadd) (s := s) hkl)
      rw [hsum, hx] at HY
      obtain ⟨q0, q1, q2⟩ := (HC.out).call hB k hkl
      rw [hx] at q0 q1 q2
      have HH1 := Lib.hid hh1
      have HH0 := Lib.hid hh0
      have hlt1 := hh1.lt
      obtain ⟨p0, p1, p2, -, -, -⟩ := hh1
      have hS := hB.size
      clear hx hsum hkl hh0
      go_wp2_with fail
      refine (vEachAdd s x hs hxI _).mono ?_; rintro e w1 ⟨rfl, hb1⟩
      have hB1 : Below w.heap.size w w1 := Below.next (by go_grown) hb1
      have hS1 := hB1.size
      have g1 := ((HH1.out).more _).call hb1
      have G0 := Lib.hid (((HH0.out).more _).call hb1)
      have G1 := Lib.hid g1
      obtain ⟨r0, r1, r2, t0, t1, t2⟩ := g1
      clear p0 p1 p2 q0 q1 q2 hb1 hB hlt1
      go_wp2_with fail
      go_roundw
      case rel => exact ⟨k + 1, vadd s x, by omega, by go_num, vadd_I _ _, HY.out.symm, by go_grown, (G1.out).put _, (G0.out).other (by omega) _ _ _⟩
      case measure => simp [intOf] <;> omega
    · obtain rfl : k = N := by omega
      have HE : Hid (sumT l = s) := Lib.hid (by rw [← hsum, HN.out, List.drop_length]; rfl)
      clear hsum
      have hlt1 := hh1.lt
      have hS := hB.size
      obtain ⟨p0, p1, p2, -, -, -⟩ := hh1
      obtain ⟨r0, r1, r2, t0, t1, t2⟩ := hh0
      go_wp2_with fail
      rw [HE.out]
      exact bodyPost_ret (v := V3 s.1 s.2.1 s.2.2) (by simp (maxDischargeDepth := 9) [results, Try.results69, go_sem, r0, r1, r2]) rfl ⟨rfl, by go_grown⟩

set_option maxRecDepth 100000 in
set_option maxHeartbeats 1600000 in
theorem vTimes_ne (b off n cap : Nat) (l : List T3) (hn : n = l.length) (hl : l.length ≤ 1000000) (hI : ∀ x ∈ l, InV x) (w : World) (hb : b < w.heap.size) (hc : CellsV w b off l) :
    Calls Try.prog 61 #[.slice (some ⟨b, off, none⟩) n cap] w (Ret (V3 (mulT l).1 (mulT l).2.1 (mulT l).2.2) w) := by
  obtain rfl := hn
  obtain ⟨N, hN⟩ : ∃ N, N = l.length := ⟨_, rfl⟩
  have HN := Lib.hid hN
  have HC := Lib.hid hc
  have HW := Lib.hid hI
  have H0 : Hid (l.foldl vmul one3 = mulT l) := Lib.hid rfl
  rw [← hN] at hl ⊢
  clear hN hc hI
  go_enter Try.func61, Try.ntmps61
  go_wp2_with fail
  go_loopw [9] (fun i wr => ∃ (k : Nat) (s : T3), k ≤ N ∧ i = .int .i64 k ∧ InV s ∧ (l.drop k).foldl vmul s = mulT l ∧ Below w.heap.size w wr ∧ Holds3 wr (w.heap.size + 1) s ∧ Holds3 wr w.heap.size zero3) (fun i _ => N - (intOf i).toNat)
  case atStart => exact ⟨0, one3, by omega, rfl, one3_I, H0.out, by go_grown, Holds3.new _ 4294967296 4294967296 4294967296 _ _ (by simp), (Holds3.new _ 0 0 0 _ _ rfl).more _⟩
  case round =>
    obtain ⟨k, s, hk, rfl, hs, hsum, hB, hh1, hh0⟩ := hrel
    by_cases hlt : k < N
    · have hkl : k < l.length := by rw [← HN.out]; exact hlt
      obtain ⟨x, hx⟩ : ∃ x, l[k] = x := ⟨_, rfl⟩
      have hxI : InV x := by rw [← hx]; exact HW.out _ (List.getElem_mem hkl)
      have HY := Lib.hid (foldV_step (f := vmul) (s := s) hkl)
      rw [hsum, hx] at HY
      obtain ⟨q0, q1, q2⟩ := (HC.out).call hB k hkl
      rw [hx] at q0 q1 q2
      have HH1 := Lib.hid hh1
      have HH0 := Lib.hid hh0
      have hlt1 := hh1.lt
      obtain ⟨p0, p1, p2, -, -, -⟩ := hh1
      have hS := hB.size
      clear hx hsum hkl hh0
      go_wp2_with fail
      refine (vEachTimes s x hs hxI _).mono ?_; rintro e w1 ⟨rfl, hb1⟩
      have hB1 : Below w.heap.size w w1 := Below.next (by go_grown) hb1
      have hS1 := hB1.size
      have g1 := ((HH1.out).more _).call hb1
      have G0 := Lib.hid (((HH0.out).more _).call hb1)
      have G1 := Lib.hid g1
      obtain ⟨r0, r1, r2, t0, t1, t2⟩ := g1
      clear p0 p1 p2 q0 q1 q2 hb1 hB hlt1
      go_wp2_with fail
      go_roundw
      case rel => exact ⟨k + 1, vmul s x, by omega, by go_num, vmul_I _ _, HY.out.symm, by go_grown, (G1.out).put _, (G0.out).other (by omega) _ _ _⟩
      case measure => simp [intOf] <;> omega
    · obtain rfl : k = N := by omega
      have HE : Hid (mulT l = s) := Lib.hid (by rw [← hsum, HN.out, List.drop_length]; rfl)
      clear hsum
      have hlt1 := hh1.lt
      have hS := hB.size
      obtain ⟨p0, p1, p2, -, -, -⟩ := hh1
      obtain ⟨r0, r1, r2, t0, t1, t2⟩ := hh0
      go_wp2_with fail
      rw [HE.out]
      exact bodyPost_ret (v := V3 s.1 s.2.1 s.2.2) (by simp (maxDischargeDepth := 9) [results, Try.results61, go_sem, r0, r1, r2]) rfl ⟨rfl, by go_grown⟩

theorem vAdd_zero (A : Option Addr) (cap : Nat) (w : World) : Calls Try.prog 69 #[.slice A 0 cap] w (Ret (V3 0 0 0) w) := by
  go_enter Try.func69, Try.ntmps69
  go_wp2_with fail
  refine wp_loop_rounds 1 ?_
  rw [rounds_succ]
  go_wp2
  exact bodyPost_ret (v := V3 0 0 0) (by simp (maxDischargeDepth := 9) [results, Try.results69, go_sem]) rfl ⟨rfl, by go_grown⟩
theorem vAdd (A : Option Addr) (n cap : Nat) (l : List T3) (w : World) (hr : RdV w A n l) (hl : l.length ≤ 1000000) (hI : ∀ x ∈ l, InV x) :
    Calls Try.prog 69 #[.slice A n cap] w (Ret (V3 (sumT l).1 (sumT l).2.1 (sumT l).2.2) w) := by
  obtain ⟨rfl, h⟩ := hr
  by_cases h0 : l = []
  · subst h0
    exact vAdd_zero A cap w
  · rcases h with rfl | ⟨b, off, rfl, hc⟩
    · exact absurd rfl h0
    · exact vAdd_ne b off _ cap l rfl hl hI w (hc.lt h0) hc

theorem vTimes_zero (A : Option Addr) (cap : Nat) (w : World) : Calls Try.prog 61 #[.slice A 0 cap] w (Ret (V3 4294967296 4294967296 4294967296) w) := by
  go_enter Try.func61, Try.ntmps61
  go_wp2_with fail
  refine wp_loop_rounds 1 ?_
  rw [rounds_succ]
  go_wp2
  exact bodyPost_ret (v := V3 4294967296 4294967296 4294967296) (by simp (maxDischargeDepth := 9) [results, Try.results61, go_sem]) rfl ⟨rfl, by go_grown⟩
theorem vTimes (A : Option Addr) (n cap : Nat) (l : List T3) (w : World) (hr : RdV w A n l) (hl : l.length ≤ 1000000) (hI : ∀ x ∈ l, InV x) :
    Calls Try.prog 61 #[.slice A n cap] w (Ret (V3 (mulT l).1 (mulT l).2.1 (mulT l).2.2) w) := by
  obtain ⟨rfl, h⟩ := hr
  by_cases h0 : l = []
  · subst h0
    exact vTimes_zero A cap w
  · rcases h with rfl | ⟨b, off, rfl, hc⟩
    · exact absurd rfl h0
    · exact vTimes_ne b off _ cap l rfl hl hI w (hc.lt h0) hc

/-- Two vectors, three vectors in a block. -/
theorem cellsV2 {w : World} {B : Nat} {a b : T3} (h0 : w.cell? ⟨B, 0, none⟩ = some (.int .i64 a.1)) (h1 : w.cell? ⟨B, 1, none⟩ = some (.int .i64 a.2.1)) (h2 : w.cell? ⟨B, 2, none⟩ = some (.int .i64 a.2.2))
    (h3 : w.cell? ⟨B, 3, none⟩ = some (.int .i64 b.1)) (h4 : w.cell? ⟨B, 4, none⟩ = some (.int .i64 b.2.1)) (h5 : w.cell? ⟨B, 5, none⟩ = some (.int .i64 b.2.2)) : CellsV w B 0 [a, b] := by
  intro i h
  match i, h with
  | 0, _ => exact ⟨h0, h1, h2⟩
  | 1, _ => exact ⟨h3, h4, h5⟩

end Go.Proofs.Ytognbeejobfpfaa

namespace Go.Proofs.Ytognbeejobfpfaa
open Go.RowKit Go.Sort
set_option linter.unusedVariables false
set_option linter.unusedSimpArgs false

theorem sumT2 {a b : T3} (ha : InV a) : sumT [a, b] = vadd a b := by show vadd (vadd zero3 a) b = _; rw [vadd_zero ha]
theorem sumT3 {a b c : T3} (ha : InV a) : sumT [a, b, c] = vadd (vadd a b) c := by show vadd (vadd (vadd zero3 a) b) c = _; rw [vadd_zero ha]
theorem mulT2 {a b : T3} (ha : InV a) : mulT [a, b] = vmul a b := by show vmul (vmul one3 a) b = _; rw [vmul_one ha]

theorem vTimes2 (a b : T3) (ha : InV a) (hb : InV b) (w : World) (B cap : Nat) (hc : CellsV w B 0 [a, b]) :
    Calls Try.prog 61 #[.slice (some ⟨B, 0, none⟩) 2 cap] w (Ret (V3 (vmul a b).1 (vmul a b).2.1 (vmul a b).2.2) w) := by
  have := vTimes_ne B 0 2 cap [a, b] rfl (by simp) (by simp; exact ⟨ha, hb⟩) w (hc.lt (by simp)) hc
  rw [mulT2 ha] at this
  exact this

theorem vAdd2 (a b : T3) (ha : InV a) (hb : InV b) (w : World) (B cap : Nat) (hc : CellsV w B 0 [a, b]) :
    Calls Try.prog 69 #[.slice (some ⟨B, 0, none⟩) 2 cap] w (Ret (V3 (vadd a b).1 (vadd a b).2.1 (vadd a b).2.2) w) := by
  have := vAdd_ne B 0 2 cap [a, b] rfl (by simp) (by simp; exact ⟨ha, hb⟩) w (hc.lt (by simp)) hc
  rw [sumT2 ha] at this
  exact this

theorem vEachSub (a b : T3) (ha : InV a) (hb : InV b) (w : World) :
    Calls Try.prog 93 #[V3 a.1 a.2.1 a.2.2, V3 b.1 b.2.1 b.2.2, .func (.func 68) #[] #[]] w (Ret (V3 (vsub a b).1 (vsub a b).2.1 (vsub a b).2.2) w) :=
  vEach 68 #[] satSub a.1 a.2.1 a.2.2 b.1 b.2.1 b.2.2 w (enters_of Try.func68 (by kernel_rfl) rfl)
    (fun w' _ => (fSub _ _ ha.1 hb.1 w').mono fun _ _ h => h.ret) (fun w' _ => (fSub _ _ ha.2.1 hb.2.1 w').mono fun _ _ h => h.ret) (fun w' _ => (fSub _ _ ha.2.2 hb.2.2 w').mono fun _ _ h => h.ret)

def vlerp (a b : T3) (t : Int) : T3 := (flerp a.1 b.1 t, flerp a.2.1 b.2.1 t, flerp a.2.2 b.2.2 t)

theorem flerp_I (a b t : Int) : InI (flerp a b t) := satAdd_I _ _
theorem vlerp_I (a b : T3) (t : Int) : InV (vlerp a b t) := ⟨flerp_I _ _ _, flerp_I _ _ _, flerp_I _ _ _⟩

set_option maxRecDepth 100000 in
set_option maxHeartbeats 1600000 in
theorem vSub (a b : T3) (ha : InV a) (hb : InV b) (w : World) : Calls Try.prog 72 #[V3 a.1 a.2.1 a.2.2, V3 b.1 b.2.1 b.2.2] w (Ret (V3 (vsub a b).1 (vsub a b).2.1 (vsub a b).2.2) w) := by
  go_enter Try.func72, Try.ntmps72
  go_wp2_with fail
  refine (vEachSub a b ha hb _).mono ?_; rintro e w1 ⟨rfl, hb1⟩
  have hB1 : Below w.heap.size w w1 := Below.next (by go_grown) hb1
  have g := (Holds3.new ((w.alloc _).alloc _) 0 0 0 _ (w.heap.size + 1 + 1) (by simp)).call hb1
  obtain ⟨r0, r1, r2, t0, t1, t2⟩ := g
  clear hb1
  go_wp2
  exact bodyPost_ret (v := V3 (vsub a b).1 (vsub a b).2.1 (vsub a b).2.2) (by simp (maxDischargeDepth := 9) [results, Try.results72, go_sem, r0, r1, r2]) rfl ⟨rfl, by go_grown⟩

set_option maxRecDepth 100000 in
set_option maxHeartbeats 1600000 in
theorem vScale (a : T3) (k : Int) (ha : InV a) (hk : InI k) (w : World) : Calls Try.prog 70 #[V3 a.1 a.2.1 a.2.2, .int .i64 k] w (Ret (V3 (vmul a (k, k, k)).1 (vmul a (k, k, k)).2.1 (vmul a (k, k, k)).2.2) w) := by
  go_enter Try.func70, Try.ntmps70
  go_wp2_with fail
  refine (vTimes2 a (k, k, k) ha ⟨hk, hk, hk⟩ _ _ _ (cellsV2 (by first | go_cell | simp [go_sem]) (by first | go_cell | simp [go_sem]) (by first | go_cell | simp [go_sem]) (by first | go_cell | simp [go_sem]) (by first | go_cell | simp [go_sem]) (by first | go_cell | simp [go_sem]))).mono ?_; rintro e w1 ⟨rfl, hb1⟩
  have hB1 : Below w.heap.size w w1 := Below.next (by go_grown) hb1
  have g := ((Holds3.new (w.alloc _) 0 0 0 _ (w.heap.size + 1) (by simp)).more _).call hb1
  obtain ⟨r0, r1, r2, t0, t1, t2⟩ := g
  clear hb1
  go_wp2
  exact bodyPost_ret (v := V3 (vmul a (k, k, k)).1 (vmul a (k, k, k)).2.1 (vmul a (k, k, k)).2.2) (by simp (maxDischargeDepth := 9) [results, Try.results70, go_sem, r0, r1, r2]) rfl ⟨rfl, by go_grown⟩

def vdot (a b : T3) : Int := satAdd (satAdd (vmul a b).1 (vmul a b).2.1) (vmul a b).2.2

theorem imax (x y : Int) : (if x < y then y else x) = max x y := by omega
theorem imin (x y : Int) : (if y < x then y else x) = min x y := by omega
def vmost (a : T3) : Int := max (max (fabs a.1) (fabs a.2.1)) (fabs a.2.2)

set_option maxRecDepth 100000 in
set_option maxHeartbeats 1600000 in
theorem vMost (a : T3) (ha : InV a) (w : World) : Calls Try.prog 101 #[V3 a.1 a.2.1 a.2.2] w (Ret (.int .i64 (vmost a)) w) := by
  obtain ⟨h0, h1, h2⟩ := ha
  go_enter Try.func101, Try.ntmps101
  go_wp2_with fail
  have c0 := reg_cell (w := (w.alloc (.cells #[.int .i64 a.1, .int .i64 a.2.1, .int .i64 a.2.2] 29))) (a := ⟨w.heap.size, 0, none⟩) (v := .int .i64 a.1) (by first | go_cell | simp [go_sem])
  have c1 := reg_cell (w := (w.alloc (.cells #[.int .i64 a.1, .int .i64 a.2.1, .int .i64 a.2.2] 29))) (a := ⟨w.heap.size, 1, none⟩) (v := .int .i64 a.2.1) (by first | go_cell | simp [go_sem])
  have c2 := reg_cell (w := (w.alloc (.cells #[.int .i64 a.1, .int .i64 a.2.1, .int .i64 a.2.2] 29))) (a := ⟨w.heap.size, 2, none⟩) (v := .int .i64 a.2.2) (by first | go_cell | simp [go_sem])
  refine wp_region_quiet_below (by kernel_rfl) (by kernel_rfl) ?_
  repeat (quiet_step ((go_at_call 107; exact reg_same (fAbs _ (by assumption) _))))
  refine wpQuiet_nil ?_
  intro w3 hw3
  have hb3 := reg_below hw3
  clear hw3 c0 c1 c2
  have hB3 : Below w.heap.size w w3 := Below.next (by go_grown) hb3
  simp only [imax]
  go_wp2
  go_ret
  exact ret_of rfl hB3

end Go.Proofs.Ytognbeejobfpfaa

namespace Go.Proofs.Ytognbeejobfpfaa
open Go.RowKit
set_option linter.unusedVariables false
set_option linter.unusedSimpArgs false

set_option maxHeartbeats 800000 in
theorem wMulDiv (a b c : Int) (ha : InI a) (hb : InI b) (hc : InI c) (w : World) :
    Calls Try.prog 103 #[.int .i64 a, .int .i64 b, .int .i64 c] w (Ret (.int .i64 (mdN a b c)) w) := by
  by_cases h0 : c = 0
  · subst h0
    have e : mdN a b 0 = 0 := rfl
    rw [e]
    go_enter Try.func103, Try.ntmps103
    go_wp2_with fail
    go_ret
    exact ret_of rfl (by go_grown)
  have e0 : (c == 0) = false := by rw [beq_eq_false_iff_ne]; exact h0
  have hok := divOk_mul ha hb h0
  have HM : Hid (mdN a b c = clampI (divQ (a * b) c)) := Lib.hid (by rw [divQ_ok hok]; unfold mdN; rw [if_neg h0])
  have hq := divQ_in (a * b) c
  have hp := mul_InW ha hb
  clear h0 hok
  by_cases hf : InI (divQ (a * b) c)
  · have HF := Lib.hid (fits_true hf)
    have HC := Lib.hid (clampI_in hf)
    have HI := Lib.hid (intN_fits HF.out)
    clear hf
    go_enter Try.func103, Try.ntmps103
    go_wp2_with fail
    refine (wMul a b ha hb _).mono ?_; rintro e w1 ⟨rfl, hb1⟩
    obtain ⟨hB1, hS1⟩ : Below w.heap.size w w1 ∧ w.heap.size ≤ w1.heap.size := Below.step (by go_grown) hb1
    go_wp2_with fail
    refine (wDiv (a * b) c hp hc _).mono ?_; rintro e w2 ⟨rfl, hb2⟩
    obtain ⟨hB2, hS2⟩ : Below w.heap.size w w2 ∧ w.heap.size ≤ w2.heap.size := Below.step (by go_grown) hb2
    go_wp2_with fail
    refine (wInt _ hq _).mono ?_; rintro e w3 ⟨rfl, hb3⟩
    obtain ⟨hB3, hS3⟩ : Below w.heap.size w w3 ∧ w.heap.size ≤ w3.heap.size := Below.step (by go_grown) hb3
    rw [HF.out, HI.out]
    go_wp2_with fail
    go_ret
    exact ret_of (vint (by rw [HM.out, HC.out])) hB3
  · have HF := Lib.hid (fits_false hf)
    have HI := Lib.hid (intN_not HF.out)
    by_cases hn : divQ (a * b) c < 0
    · have HC := Lib.hid (clampI_lo hf hn)
      have e3 : wHi (divQ (a * b) c) < 0 := by unfold wHi; omega
      clear hf
      go_enter Try.func103, Try.ntmps103
      go_wp2_with fail
      refine (wMul a b ha hb _).mono ?_; rintro e w1 ⟨rfl, hb1⟩
      obtain ⟨hB1, hS1⟩ : Below w.heap.size w w1 ∧ w.heap.size ≤ w1.heap.size := Below.step (by go_grown) hb1
      go_wp2_with fail
      refine (wDiv (a * b) c hp hc _).mono ?_; rintro e w2 ⟨rfl, hb2⟩
      obtain ⟨hB2, hS2⟩ : Below w.heap.size w w2 ∧ w.heap.size ≤ w2.heap.size := Below.step (by go_grown) hb2
      go_wp2_with fail
      refine (wInt _ hq _).mono ?_; rintro e w3 ⟨rfl, hb3⟩
      obtain ⟨hB3, hS3⟩ : Below w.heap.size w w3 ∧ w.heap.size ≤ w3.heap.size := Below.step (by go_grown) hb3
      rw [HF.out, HI.out]
      obtain ⟨hc3, hf3, hs3⟩ := bcell hb3
      go_wp2_with fail
      go_ret
      exact ret_of (vint (by rw [HM.out, HC.out])) hB3
    · have HC := Lib.hid (clampI_hi hf hn)
      have e3 : ¬ wHi (divQ (a * b) c) < 0 := by unfold wHi; omega
      clear hf
      go_enter Try.func103, Try.ntmps103
      go_wp2_with fail
      refine (wMul a b ha hb _).mono ?_; rintro e w1 ⟨rfl, hb1⟩
      obtain ⟨hB1, hS1⟩ : Below w.heap.size w w1 ∧ w.heap.size ≤ w1.heap.size := Below.step (by go_grown) hb1
      go_wp2_with fail
      refine (wDiv (a * b) c hp hc _).mono ?_; rintro e w2 ⟨rfl, hb2⟩
      obtain ⟨hB2, hS2⟩ : Below w.heap.size w w2 ∧ w.heap.size ≤ w2.heap.size := Below.step (by go_grown) hb2
      go_wp2_with fail
      refine (wInt _ hq _).mono ?_; rintro e w3 ⟨rfl, hb3⟩
      obtain ⟨hB3, hS3⟩ : Below w.heap.size w w3 ∧ w.heap.size ≤ w3.heap.size := Below.step (by go_grown) hb3
      rw [HF.out, HI.out]
      obtain ⟨hc3, hf3, hs3⟩ := bcell hb3
      go_wp2_with fail
      go_ret
      exact ret_of (vint (by rw [HM.out, HC.out])) hB3

end Go.Proofs.Ytognbeejobfpfaa

namespace Go.Proofs.Ytognbeejobfpfaa
open Go.RowKit Go.Sort
set_option linter.unusedVariables false
set_option linter.unusedSimpArgs false

set_option maxRecDepth 100000 in
set_option maxHeartbeats 1600000 in
theorem vOf (x y z : Int) (hx : InI x) (hy : InI y) (hz : InI z) (w : World) :
    Calls Try.prog 33 #[(.agg #[.int .i64 x, .int .i64 y, .int .i64 z])] w (Ret (.agg #[.int .i64 (fof x), .int .i64 (fof y), .int .i64 (fof z)]) w) := by
  go_enter Try.func33, Try.ntmps33
  go_wp2_with fail
  have hg : Below w.heap.size w ((w.alloc (.cells #[.int .i64 x, .int .i64 y, .int .i64 z] 69)).alloc (.cells #[.int .i64 0, .int .i64 0, .int .i64 0] 29)) := by go_grown
  have HG := Lib.hid (fun d os => (Below.step hg (below_regrown ((w.alloc (.cells #[.int .i64 x, .int .i64 y, .int .i64 z] 69)).alloc (.cells #[.int .i64 0, .int .i64 0, .int .i64 0] 29)) d os)).1)
  have c1 := reg_cell (w := ((w.alloc (.cells #[.int .i64 x, .int .i64 y, .int .i64 z] 69)).alloc (.cells #[.int .i64 0, .int .i64 0, .int .i64 0] 29))) (a := ⟨w.heap.size, 0, none⟩) (v := .int .i64 x) (by first | go_cell | simp [go_sem])
  have c2 := reg_cell (w := ((w.alloc (.cells #[.int .i64 x, .int .i64 y, .int .i64 z] 69)).alloc (.cells #[.int .i64 0, .int .i64 0, .int .i64 0] 29))) (a := ⟨w.heap.size, 1, none⟩) (v := .int .i64 y) (by first | go_cell | simp [go_sem])
  have c3 := reg_cell (w := ((w.alloc (.cells #[.int .i64 x, .int .i64 y, .int .i64 z] 69)).alloc (.cells #[.int .i64 0, .int .i64 0, .int .i64 0] 29))) (a := ⟨w.heap.size, 2, none⟩) (v := .int .i64 z) (by first | go_cell | simp [go_sem])
  refine wp_region_below_tail 10 (by kernel_rfl) (by kernel_rfl) ?_
  simp only [List.take_succ_cons, List.take_zero, List.drop_succ_cons, List.drop_zero]
  repeat (quiet_step (first
    | (go_at_call 18; exact reg_ret (fOf _ (by assumption) _))))
  refine wpQuiet_nil ?_
  intro w3 hw3
  have hb3 := reg_below hw3
  clear hw3 c1 c2 c3
  have hB3 : Below w.heap.size w w3 := (Below.step hg hb3).1
  have r0 : w3.cell? ⟨w.heap.size + 1, 0, none⟩ = some (.int .i64 0) := (hb3.cell (p := ⟨w.heap.size + 1, 0, none⟩) (by simp)).trans (by first | go_cell | simp [go_sem])
  have f0 : w3.frozen? ⟨w.heap.size + 1, 0, none⟩ = false := (hb3.frozen (p := ⟨w.heap.size + 1, 0, none⟩) (by simp)).trans (by simp [go_sem])
  have r1 : w3.cell? ⟨w.heap.size + 1, 1, none⟩ = some (.int .i64 0) := (hb3.cell (p := ⟨w.heap.size + 1, 1, none⟩) (by simp)).trans (by first | go_cell | simp [go_sem])
  have f1 : w3.frozen? ⟨w.heap.size + 1, 1, none⟩ = false := (hb3.frozen (p := ⟨w.heap.size + 1, 1, none⟩) (by simp)).trans (by simp [go_sem])
  have r2 : w3.cell? ⟨w.heap.size + 1, 2, none⟩ = some (.int .i64 0) := (hb3.cell (p := ⟨w.heap.size + 1, 2, none⟩) (by simp)).trans (by first | go_cell | simp [go_sem])
  have f2 : w3.frozen? ⟨w.heap.size + 1, 2, none⟩ = false := (hb3.frozen (p := ⟨w.heap.size + 1, 2, none⟩) (by simp)).trans (by simp [go_sem])
  clear hb3 hg
  go_wp2
  exact bodyPost_ret (v := (.agg #[.int .i64 (fof x), .int .i64 (fof y), .int .i64 (fof z)])) (by simp (maxDischargeDepth := 9) [results, Try.results33, go_sem, r0, r1, r2]) rfl ⟨rfl, by go_grown⟩

end Go.Proofs.Ytognbeejobfpfaa

namespace Go.Proofs.Ytognbeejobfpfaa
open Go.RowKit Go.Sort
set_option linter.unusedVariables false
set_option linter.unusedSimpArgs false

/-- A wide number in a block. -/
abbrev Holds2 (w : World) (b : Nat) (h l : Int) : Prop :=
  (w.cell? ⟨b, 0, none⟩ = some (.int .i64 h) ∧ w.cell? ⟨b, 1, none⟩ = some (.int .u64 l)) ∧ w.frozen? ⟨b, 0, none⟩ = false ∧ w.frozen? ⟨b, 1, none⟩ = false
theorem Holds2.call {w w1 : World} {b : Nat} {x y : Int} (h : Holds2 w b x y) (hb : Below w.heap.size w w1) : Holds2 w1 b x y := by
  obtain ⟨⟨h0, h1⟩, f0, f1⟩ := h
  have hl := World.block_lt_of_cell? w _ h0
  obtain ⟨kc, kf, -⟩ := bcell hb
  exact ⟨⟨(kc b 0 hl).trans h0, (kc b 1 hl).trans h1⟩, (kf b 0 hl).trans f0, (kf b 1 hl).trans f1⟩
theorem Holds2.more {w : World} {b : Nat} {x y : Int} (h : Holds2 w b x y) (o : Obj) : Holds2 (w.alloc o) b x y := h.call ((Below.refl _ _).alloc (Nat.le_refl _) _)
theorem own1 {W w1 : World} {x y : Int} {T : TypeId} (hb : Below (W.alloc (.cells #[.int .i64 x, .int .u64 y] T)).heap.size (W.alloc (.cells #[.int .i64 x, .int .u64 y] T)) w1) : Holds2 w1 W.heap.size x y :=
  Holds2.call (w := W.alloc (.cells #[.int .i64 x, .int .u64 y] T)) (by unfold Holds2; simp [go_sem]) hb
theorem own2 {W w1 : World} {x y : Int} {T : TypeId} {o : Obj} (hb : Below ((W.alloc (.cells #[.int .i64 x, .int .u64 y] T)).alloc o).heap.size ((W.alloc (.cells #[.int .i64 x, .int .u64 y] T)).alloc o) w1) : Holds2 w1 W.heap.size x y :=
  Holds2.call (w := (W.alloc (.cells #[.int .i64 x, .int .u64 y] T)).alloc o) (Holds2.call (w := W.alloc (.cells #[.int .i64 x, .int .u64 y] T)) (by unfold Holds2; simp [go_sem]) ((Below.refl _ _).alloc (Nat.le_refl _) _)) hb
theorem own3 {W w1 : World} {x y : Int} {T : TypeId} (hb : Below (W.alloc (.cells #[.int .i64 x, .int .u64 y] T)).drew.heap.size (W.alloc (.cells #[.int .i64 x, .int .u64 y] T)).drew w1) : Holds2 w1 W.heap.size x y :=
  Holds2.call (w := (W.alloc (.cells #[.int .i64 x, .int .u64 y] T)).drew) (by unfold Holds2; simp [go_sem]) hb

/-- The cells of a box. -/
abbrev Cells3 (B : Nat) (v : T3) (w : World) : Prop :=
  w.cell? ⟨B, 0, none⟩ = some (.int .i64 v.1) ∧ w.cell? ⟨B, 1, none⟩ = some (.int .i64 v.2.1) ∧ w.cell? ⟨B, 2, none⟩ = some (.int .i64 v.2.2)
theorem Cells3.call {w w1 : World} {b : Nat} {v : T3} (h : Cells3 b v w) (hb : Below w.heap.size w w1) : Cells3 b v w1 :=
  ⟨cell_call hb h.1, cell_call hb h.2.1, cell_call hb h.2.2⟩

theorem Cells3.put2 {w : World} {b g : Nat} {v : T3} (h : Cells3 b v w) (hne : b ≠ g) (x y : Value) : Cells3 b v ((w.setCell ⟨g, 0, none⟩ x).setCell ⟨g, 1, none⟩ y) := by
  obtain ⟨h0, h1, h2⟩ := h
  unfold Cells3
  simp (maxDischargeDepth := 9) [go_sem, h0, h1, h2, hne, Ne.symm hne]

/-- A variable that holds a wide number, and whether there is one. -/
def IsW (w : World) (S : Int) (ok : Bool) (p o : Value) (wx : World) : Prop :=
  ∃ g : Nat, p = .pointer (some ⟨g, 0, none⟩) ∧ o = .bool ok ∧ Holds2 wx g (wHi S) (wLo S) ∧ Below w.heap.size w wx

end Go.Proofs.Ytognbeejobfpfaa

namespace Go.Proofs.Ytognbeejobfpfaa
open Go.RowKit
set_option linter.unusedVariables false
set_option linter.unusedSimpArgs false

/-- The nearest number to a size with a sign. -/
def nearV (s : Int) (below big : Bool) : Int :=
  if below then (if big || decide (9223372036854775808 ≤ s) then -9223372036854775808 else -s)
  else (if big || decide (9223372036854775808 ≤ s) then 9223372036854775807 else s)
theorem nearV_clamp {S s : Int} {below big : Bool} (h0 : 0 ≤ S) (hs : big = false → s = S) (hb : big = true → 9223372036854775808 ≤ S) : nearV s below big = clampI (sgn below S) := by
  unfold nearV clampI sgn
  cases big <;> cases below <;> simp_all <;> (try split) <;> (try split) <;> omega

theorem rSize (x : Int) (h : InI x) (w : World) : Calls Try.prog 83 #[.int .i64 x] w (Same (.int .u64 (absU x)) w) := by
  unfold InI at h
  by_cases hn : x < 0
  · have HK : Hid (absU x = -(x + 1) + 1) := Lib.hid (by unfold absU; rw [if_pos hn]; omega)
    go_enter Try.func83, Try.ntmps83
    go_wp2_with fail
    go_ret
    exact same_of (vint (by rw [HK.out]))
  · have HK : Hid (absU x = x) := Lib.hid (by unfold absU; rw [if_neg hn])
    go_enter Try.func83, Try.ntmps83
    go_wp2_with fail
    go_ret
    exact same_of (vint (by rw [HK.out]))

set_option maxHeartbeats 400000 in
theorem rNear (s : Int) (below big : Bool) (h0 : 0 ≤ s) (h1 : s ≤ 18446744073709551615) (w : World) : Calls Try.prog 84 #[.int .u64 s, .bool below, .bool big] w (Same (.int .i64 (nearV s below big)) w) := by
  cases below <;> cases big
  · by_cases hs : 9223372036854775808 ≤ s
    · have HK : Hid (nearV s false false = 9223372036854775807) := Lib.hid (by unfold nearV; simp [hs])
      go_enter Try.func84, Try.ntmps84
      go_wp2_with fail
      go_ret
      exact same_of (vint HK.out.symm)
    · have HK : Hid (nearV s false false = s) := Lib.hid (by unfold nearV; simp [hs])
      go_enter Try.func84, Try.ntmps84
      go_wp2_with fail
      go_ret
      exact same_of (vint HK.out.symm)
  · go_enter Try.func84, Try.ntmps84
    go_wp2_with fail
    go_ret
    exact same_of rfl
  · by_cases hs : 9223372036854775808 ≤ s
    · have HK : Hid (nearV s true false = -9223372036854775808) := Lib.hid (by unfold nearV; simp [hs])
      go_enter Try.func84, Try.ntmps84
      go_wp2_with fail
      go_ret
      exact same_of (vint HK.out.symm)
    · have HK : Hid (nearV s true false = -s) := Lib.hid (by unfold nearV; simp [hs])
      go_enter Try.func84, Try.ntmps84
      go_wp2_with fail
      go_ret
      exact same_of (vint HK.out.symm)
  · go_enter Try.func84, Try.ntmps84
    go_wp2_with fail
    go_ret
    exact same_of rfl

set_option maxHeartbeats 400000 in
theorem rOf (n : Int) (h : InI n) (w : World) : Calls Try.prog 48 #[.int .i64 n] w (Same (.int .i64 (fof n)) w) := by
  have hA := absU_le h
  obtain ⟨S, hS⟩ : ∃ S, absU n = S := ⟨_, rfl⟩
  rw [hS] at hA
  obtain ⟨hA0, hA1⟩ := hA
  have hsg : sgn (decide (n < 0)) S = n := by
    rw [← hS]; unfold sgn absU; by_cases hn : n < 0 <;> simp [hn]
  have HK : Hid (nearV (IntKind.u64.wrap (S * 4294967296)) (decide (n < 0)) (decide (4294967296 ≤ S)) = fof n) := Lib.hid (by
    rw [nearV_clamp (S := S * 4294967296) (by omega) (by intro hb; have hb := of_decide_eq_false hb; rw [IntKind.wrap_u64]; omega) (by intro hb; have hb := of_decide_eq_true hb; omega)]
    have hk : sgn (decide (n < 0)) (S * 4294967296) = sgn (decide (n < 0)) S * 4294967296 := by unfold sgn; split <;> omega
    unfold fof
    rw [hk, hsg])
  have HS := Lib.hid hS
  have hw : 0 ≤ IntKind.u64.wrap (S * 4294967296) ∧ IntKind.u64.wrap (S * 4294967296) ≤ 18446744073709551615 := by rw [IntKind.wrap_u64]; omega
  clear hS hsg
  go_enter Try.func48, Try.ntmps48
  go_wp2_with fail
  refine (rSize n h _).mono ?_; rintro e w1 ⟨rfl, rfl⟩
  rw [HS.out]
  go_wp2_with fail
  refine (rNear _ _ _ hw.1 hw.2 _).mono ?_; rintro e w1 ⟨rfl, rfl⟩
  rw [HK.out]
  go_wp2_with fail
  go_ret
  exact same_of rfl



end Go.Proofs.Ytognbeejobfpfaa

namespace Go.Proofs.Ytognbeejobfpfaa
open Go.RowKit
set_option linter.unusedVariables false
set_option linter.unusedSimpArgs false

theorem wrap_i64' (n : Int) : IntKind.i64.wrap n = wrap64 n := IntWalk.i64_left n
theorem two_near {X Y Z : Int} (h0 : 0 ≤ X) (h1 : X ≤ 9223372036854775808) (h2 : 0 ≤ Y) (h3 : Y ≤ 9223372036854775808) (hZ : IntKind.u64.wrap (X + Y) = Z) (b : Bool) :
    nearV Z b (decide (Z < X)) = clampI (sgn b (X + Y)) ∧ 0 ≤ Z ∧ Z ≤ 18446744073709551615 := by
  rw [IntKind.wrap_u64] at hZ
  refine ⟨nearV_clamp (by omega) (by intro hb; have hb := of_decide_eq_false hb; omega) (by intro hb; have hb := of_decide_eq_true hb; omega), by omega, by omega⟩

end Go.Proofs.Ytognbeejobfpfaa

namespace Go.Proofs.Ytognbeejobfpfaa
open Go.RowKit
set_option linter.unusedVariables false
set_option linter.unusedSimpArgs false

theorem mid_bits {P : Int} (h0 : 0 ≤ P) (h1 : P ≤ 85070591730234615865843651857942052864) :
    bits BinOp.or IntKind.u64 (IntKind.u64.wrap (wHi P * 4294967296)) (wLo P / 4294967296) = P / 4294967296 % 18446744073709551616 := by
  have l := wLo_U P
  unfold InU at l
  have hh : 0 ≤ wHi P := by unfold wHi; omega
  have c : IntKind.u64.wrap (wHi P * 4294967296) = 2 ^ 32 * (wHi P % 4294967296) := by
    rw [IntKind.wrap_u64]
    show _ = 4294967296 * _
    omega
  have hor : ∀ a b : Int, 0 ≤ a → 0 ≤ b → a < 18446744073709551616 → b < 18446744073709551616 → bits BinOp.or IntKind.u64 a b = bits BinOp.or IntKind.u64 b a := by
    intro a b ha hb ha2 hb2
    rw [u64_or a b ha ha2 hb hb2, u64_or b a hb hb2 ha ha2, Nat.or_comm]
  have e : (2 : Int) ^ 32 = 4294967296 := rfl
  rw [c, hor _ _ (by rw [e]; omega) (by omega) (by rw [e]; omega) (by omega), or_add 32 _ _ (by omega) (by rw [e]; omega) (by omega) (by omega) (by rw [e]; omega), e]
  unfold wHi wLo
  omega
theorem times1 {P : Int} (h0 : 0 ≤ P) : nearV (P / 4294967296 % 18446744073709551616) false (decide (4294967296 ≤ wHi P)) = clampI (P / 4294967296) := by
  have := nearV_clamp (S := P / 4294967296) (s := P / 4294967296 % 18446744073709551616) (below := false) (big := decide (4294967296 ≤ wHi P)) (by omega) (by intro hb; have hb := of_decide_eq_false hb; unfold wHi at hb; omega) (by intro hb; have hb := of_decide_eq_true hb; unfold wHi at hb; omega)
  rw [this]; rfl
theorem times2 {P : Int} (h0 : 0 ≤ P) (hm : P % 4294967296 = 0) : nearV (P / 4294967296 % 18446744073709551616) true (decide (4294967296 ≤ wHi P)) = clampI (-P / 4294967296) := by
  have := nearV_clamp (S := P / 4294967296) (s := P / 4294967296 % 18446744073709551616) (below := true) (big := decide (4294967296 ≤ wHi P)) (by omega) (by intro hb; have hb := of_decide_eq_false hb; unfold wHi at hb; omega) (by intro hb; have hb := of_decide_eq_true hb; unfold wHi at hb; omega)
  rw [this]; unfold sgn; rw [if_pos rfl]; congr 1; omega
theorem times3 {P : Int} (h0 : 0 ≤ P) (hm : 0 < P % 4294967296) (hb : 4294967296 ≤ wHi P) (s : Int) : nearV s true true = clampI (-P / 4294967296) := by
  have := nearV_clamp (S := P / 4294967296 + 1) (s := s) (below := true) (big := true) (by omega) (by intro hb; cases hb) (by intro _; unfold wHi at hb; omega)
  rw [this]; unfold sgn; rw [if_pos rfl]; congr 1; omega
theorem times4 {P s1 : Int} (h0 : 0 ≤ P) (hm : 0 < P % 4294967296) (hb : ¬ 4294967296 ≤ wHi P) (hs : IntKind.u64.wrap (P / 4294967296 % 18446744073709551616 + 1) = s1) : nearV s1 true (s1 == 0) = clampI (-P / 4294967296) := by
  rw [IntKind.wrap_u64] at hs
  have := nearV_clamp (S := P / 4294967296 + 1) (s := s1) (below := true) (big := (s1 == 0)) (by omega) (by intro h; have h := beq_eq_false_iff_ne.1 h; unfold wHi at hb; omega) (by intro h; have h := beq_iff_eq.1 h; unfold wHi at hb; omega)
  rw [this]; unfold sgn; rw [if_pos rfl]; congr 1; omega

set_option maxHeartbeats 800000 in
theorem rTimes_11 (a b X Y P s0 m s1 : Int) (ha : InI a) (hb : InI b) (s1' : a < 0) (s2' : b < 0) (HX : Hid (absU a = X)) (HY : Hid (absU b = Y)) (HP : Hid (X * Y = P)) (hX : InU X) (hY : InU Y)
    (hP0 : 0 ≤ wHi P) (hP1 : wHi P ≤ 4611686018427387904) (hL0 : 0 ≤ wLo P) (hL1 : wLo P ≤ 18446744073709551615)
    (eS : bits BinOp.or IntKind.u64 (IntKind.u64.wrap (wHi P * 4294967296)) (wLo P / 4294967296) = s0) (h00 : 0 ≤ s0) (h01 : s0 ≤ 18446744073709551615)
    (em : bits BinOp.and IntKind.u64 (wLo P) 4294967295 = m) (HK : Hid (nearV s0 false (decide (4294967296 ≤ wHi P)) = fmul a b)) (w : World) :
    Calls Try.prog 96 #[.int .i64 a, .int .i64 b] w (Same (.int .i64 (fmul a b)) w) := by
  have sb1 : decide (a < 0) = true := by simp; omega
  have sb2 : decide (b < 0) = true := by simp; omega
  go_enter Try.func96, Try.ntmps96
  go_wp2_with fail
  refine (rSize a ha _).mono ?_; rintro e w1 ⟨rfl, rfl⟩
  rw [HX.out]
  go_wp2_with fail
  refine (rSize b hb _).mono ?_; rintro e w1 ⟨rfl, rfl⟩
  rw [HY.out]
  go_wp2_with fail
  refine (mul64 X Y hX hY _).mono ?_; rintro e w1 ⟨rfl, rfl⟩
  rw [HP.out]
  go_wp2_with fail
  refine (rNear s0 false _ h00 h01 _).mono ?_; rintro e w1 ⟨rfl, rfl⟩
  rw [HK.out]
  go_wp2_with fail
  go_ret
  exact same_of rfl

set_option maxHeartbeats 800000 in
theorem rTimes_10z (a b X Y P s0 m s1 : Int) (ha : InI a) (hb : InI b) (s1' : a < 0) (s2' : ¬ b < 0) (HX : Hid (absU a = X)) (HY : Hid (absU b = Y)) (HP : Hid (X * Y = P)) (hX : InU X) (hY : InU Y)
    (hP0 : 0 ≤ wHi P) (hP1 : wHi P ≤ 4611686018427387904) (hL0 : 0 ≤ wLo P) (hL1 : wLo P ≤ 18446744073709551615)
    (eS : bits BinOp.or IntKind.u64 (IntKind.u64.wrap (wHi P * 4294967296)) (wLo P / 4294967296) = s0) (h00 : 0 ≤ s0) (h01 : s0 ≤ 18446744073709551615)
    (em : bits BinOp.and IntKind.u64 (wLo P) 4294967295 = m) (hm : ¬ 0 < m) (HK : Hid (nearV s0 true (decide (4294967296 ≤ wHi P)) = fmul a b)) (w : World) :
    Calls Try.prog 96 #[.int .i64 a, .int .i64 b] w (Same (.int .i64 (fmul a b)) w) := by
  have sb1 : decide (a < 0) = true := by simp; omega
  have sb2 : decide (b < 0) = false := by simp; omega
  have sm : decide (0 < m) = false := by simp; omega
  go_enter Try.func96, Try.ntmps96
  go_wp2_with fail
  refine (rSize a ha _).mono ?_; rintro e w1 ⟨rfl, rfl⟩
  rw [HX.out]
  go_wp2_with fail
  refine (rSize b hb _).mono ?_; rintro e w1 ⟨rfl, rfl⟩
  rw [HY.out]
  go_wp2_with fail
  refine (mul64 X Y hX hY _).mono ?_; rintro e w1 ⟨rfl, rfl⟩
  rw [HP.out]
  go_wp2_with fail
  refine (rNear s0 true _ h00 h01 _).mono ?_; rintro e w1 ⟨rfl, rfl⟩
  rw [HK.out]
  go_wp2_with fail
  go_ret
  exact same_of rfl

set_option maxHeartbeats 800000 in
theorem rTimes_10b (a b X Y P s0 m s1 : Int) (ha : InI a) (hb : InI b) (s1' : a < 0) (s2' : ¬ b < 0) (HX : Hid (absU a = X)) (HY : Hid (absU b = Y)) (HP : Hid (X * Y = P)) (hX : InU X) (hY : InU Y)
    (hP0 : 0 ≤ wHi P) (hP1 : wHi P ≤ 4611686018427387904) (hL0 : 0 ≤ wLo P) (hL1 : wLo P ≤ 18446744073709551615)
    (eS : bits BinOp.or IntKind.u64 (IntKind.u64.wrap (wHi P * 4294967296)) (wLo P / 4294967296) = s0) (h00 : 0 ≤ s0) (h01 : s0 ≤ 18446744073709551615)
    (em : bits BinOp.and IntKind.u64 (wLo P) 4294967295 = m) (hm : 0 < m) (hg : 4294967296 ≤ wHi P) (HK : Hid (∀ s, nearV s true true = fmul a b)) (w : World) :
    Calls Try.prog 96 #[.int .i64 a, .int .i64 b] w (Same (.int .i64 (fmul a b)) w) := by
  have sb1 : decide (a < 0) = true := by simp; omega
  have sb2 : decide (b < 0) = false := by simp; omega
  have sg : decide (4294967296 ≤ wHi P) = true := by simp; omega
  have hw : 0 ≤ IntKind.u64.wrap (s0 + 1) ∧ IntKind.u64.wrap (s0 + 1) ≤ 18446744073709551615 := by rw [IntKind.wrap_u64]; omega
  obtain ⟨hw0, hw1⟩ := hw
  have sm : decide (0 < m) = true := by simp; omega
  go_enter Try.func96, Try.ntmps96
  go_wp2_with fail
  refine (rSize a ha _).mono ?_; rintro e w1 ⟨rfl, rfl⟩
  rw [HX.out]
  go_wp2_with fail
  refine (rSize b hb _).mono ?_; rintro e w1 ⟨rfl, rfl⟩
  rw [HY.out]
  go_wp2_with fail
  refine (mul64 X Y hX hY _).mono ?_; rintro e w1 ⟨rfl, rfl⟩
  rw [HP.out]
  go_wp2_with fail
  refine (rNear _ true true hw0 hw1 _).mono ?_; rintro e w1 ⟨rfl, rfl⟩
  rw [HK.out]
  go_wp2_with fail
  go_ret
  exact same_of rfl

set_option maxHeartbeats 800000 in
theorem rTimes_10s (a b X Y P s0 m s1 : Int) (ha : InI a) (hb : InI b) (s1' : a < 0) (s2' : ¬ b < 0) (HX : Hid (absU a = X)) (HY : Hid (absU b = Y)) (HP : Hid (X * Y = P)) (hX : InU X) (hY : InU Y)
    (hP0 : 0 ≤ wHi P) (hP1 : wHi P ≤ 4611686018427387904) (hL0 : 0 ≤ wLo P) (hL1 : wLo P ≤ 18446744073709551615)
    (eS : bits BinOp.or IntKind.u64 (IntKind.u64.wrap (wHi P * 4294967296)) (wLo P / 4294967296) = s0) (h00 : 0 ≤ s0) (h01 : s0 ≤ 18446744073709551615)
    (em : bits BinOp.and IntKind.u64 (wLo P) 4294967295 = m) (hm : 0 < m) (hg : ¬ 4294967296 ≤ wHi P) (hw : IntKind.u64.wrap (s0 + 1) = s1) (h10 : 0 ≤ s1) (h11 : s1 ≤ 18446744073709551615) (HK : Hid (nearV s1 true (s1 == 0) = fmul a b)) (w : World) :
    Calls Try.prog 96 #[.int .i64 a, .int .i64 b] w (Same (.int .i64 (fmul a b)) w) := by
  have sb1 : decide (a < 0) = true := by simp; omega
  have sb2 : decide (b < 0) = false := by simp; omega
  have sg : decide (4294967296 ≤ wHi P) = false := by simp; omega
  have eS2 : bits BinOp.or IntKind.u64 (wHi P * 4294967296) (wLo P / 4294967296) = s0 := by rw [← eS, IntKind.wrap_u64, Int.emod_eq_of_lt (by omega) (by omega)]
  have sm : decide (0 < m) = true := by simp; omega
  go_enter Try.func96, Try.ntmps96
  go_wp2_with fail
  refine (rSize a ha _).mono ?_; rintro e w1 ⟨rfl, rfl⟩
  rw [HX.out]
  go_wp2_with fail
  refine (rSize b hb _).mono ?_; rintro e w1 ⟨rfl, rfl⟩
  rw [HY.out]
  go_wp2_with fail
  refine (mul64 X Y hX hY _).mono ?_; rintro e w1 ⟨rfl, rfl⟩
  rw [HP.out]
  go_wp2_with fail
  refine (rNear s1 true (s1 == 0) h10 h11 _).mono ?_; rintro e w1 ⟨rfl, rfl⟩
  rw [HK.out]
  go_wp2_with fail
  go_ret
  exact same_of rfl

set_option maxHeartbeats 800000 in
theorem rTimes_01z (a b X Y P s0 m s1 : Int) (ha : InI a) (hb : InI b) (s1' : ¬ a < 0) (s2' : b < 0) (HX : Hid (absU a = X)) (HY : Hid (absU b = Y)) (HP : Hid (X * Y = P)) (hX : InU X) (hY : InU Y)
    (hP0 : 0 ≤ wHi P) (hP1 : wHi P ≤ 4611686018427387904) (hL0 : 0 ≤ wLo P) (hL1 : wLo P ≤ 18446744073709551615)
    (eS : bits BinOp.or IntKind.u64 (IntKind.u64.wrap (wHi P * 4294967296)) (wLo P / 4294967296) = s0) (h00 : 0 ≤ s0) (h01 : s0 ≤ 18446744073709551615)
    (em : bits BinOp.and IntKind.u64 (wLo P) 4294967295 = m) (hm : ¬ 0 < m) (HK : Hid (nearV s0 true (decide (4294967296 ≤ wHi P)) = fmul a b)) (w : World) :
    Calls Try.prog 96 #[.int .i64 a, .int .i64 b] w (Same (.int .i64 (fmul a b)) w) := by
  have sb1 : decide (a < 0) = false := by simp; omega
  have sb2 : decide (b < 0) = true := by simp; omega
  have sm : decide (0 < m) = false := by simp; omega
  go_enter Try.func96, Try.ntmps96
  go_wp2_with fail
  refine (rSize a ha _).mono ?_; rintro e w1 ⟨rfl, rfl⟩
  rw [HX.out]
  go_wp2_with fail
  refine (rSize b hb _).mono ?_; rintro e w1 ⟨rfl, rfl⟩
  rw [HY.out]
  go_wp2_with fail
  refine (mul64 X Y hX hY _).mono ?_; rintro e w1 ⟨rfl, rfl⟩
  rw [HP.out]
  go_wp2_with fail
  refine (rNear s0 true _ h00 h01 _).mono ?_; rintro e w1 ⟨rfl, rfl⟩
  rw [HK.out]
  go_wp2_with fail
  go_ret
  exact same_of rfl

set_option maxHeartbeats 800000 in
theorem rTimes_01b (a b X Y P s0 m s1 : Int) (ha : InI a) (hb : InI b) (s1' : ¬ a < 0) (s2' : b < 0) (HX : Hid (absU a = X)) (HY : Hid (absU b = Y)) (HP : Hid (X * Y = P)) (hX : InU X) (hY : InU Y)
    (hP0 : 0 ≤ wHi P) (hP1 : wHi P ≤ 4611686018427387904) (hL0 : 0 ≤ wLo P) (hL1 : wLo P ≤ 18446744073709551615)
    (eS : bits BinOp.or IntKind.u64 (IntKind.u64.wrap (wHi P * 4294967296)) (wLo P / 4294967296) = s0) (h00 : 0 ≤ s0) (h01 : s0 ≤ 18446744073709551615)
    (em : bits BinOp.and IntKind.u64 (wLo P) 4294967295 = m) (hm : 0 < m) (hg : 4294967296 ≤ wHi P) (HK : Hid (∀ s, nearV s true true = fmul a b)) (w : World) :
    Calls Try.prog 96 #[.int .i64 a, .int .i64 b] w (Same (.int .i64 (fmul a b)) w) := by
  have sb1 : decide (a < 0) = false := by simp; omega
  have sb2 : decide (b < 0) = true := by simp; omega
  have sg : decide (4294967296 ≤ wHi P) = true := by simp; omega
  have hw : 0 ≤ IntKind.u64.wrap (s0 + 1) ∧ IntKind.u64.wrap (s0 + 1) ≤ 18446744073709551615 := by rw [IntKind.wrap_u64]; omega
  obtain ⟨hw0, hw1⟩ := hw
  have sm : decide (0 < m) = true := by simp; omega
  go_enter Try.func96, Try.ntmps96
  go_wp2_with fail
  refine (rSize a ha _).mono ?_; rintro e w1 ⟨rfl, rfl⟩
  rw [HX.out]
  go_wp2_with fail
  refine (rSize b hb _).mono ?_; rintro e w1 ⟨rfl, rfl⟩
  rw [HY.out]
  go_wp2_with fail
  refine (mul64 X Y hX hY _).mono ?_; rintro e w1 ⟨rfl, rfl⟩
  rw [HP.out]
  go_wp2_with fail
  refine (rNear _ true true hw0 hw1 _).mono ?_; rintro e w1 ⟨rfl, rfl⟩
  rw [HK.out]
  go_wp2_with fail
  go_ret
  exact same_of rfl

set_option maxHeartbeats 800000 in
theorem rTimes_01s (a b X Y P s0 m s1 : Int) (ha : InI a) (hb : InI b) (s1' : ¬ a < 0) (s2' : b < 0) (HX : Hid (absU a = X)) (HY : Hid (absU b = Y)) (HP : Hid (X * Y = P)) (hX : InU X) (hY : InU Y)
    (hP0 : 0 ≤ wHi P) (hP1 : wHi P ≤ 4611686018427387904) (hL0 : 0 ≤ wLo P) (hL1 : wLo P ≤ 18446744073709551615)
    (eS : bits BinOp.or IntKind.u64 (IntKind.u64.wrap (wHi P * 4294967296)) (wLo P / 4294967296) = s0) (h00 : 0 ≤ s0) (h01 : s0 ≤ 18446744073709551615)
    (em : bits BinOp.and IntKind.u64 (wLo P) 4294967295 = m) (hm : 0 < m) (hg : ¬ 4294967296 ≤ wHi P) (hw : IntKind.u64.wrap (s0 + 1) = s1) (h10 : 0 ≤ s1) (h11 : s1 ≤ 18446744073709551615) (HK : Hid (nearV s1 true (s1 == 0) = fmul a b)) (w : World) :
    Calls Try.prog 96 #[.int .i64 a, .int .i64 b] w (Same (.int .i64 (fmul a b)) w) := by
  have sb1 : decide (a < 0) = false := by simp; omega
  have sb2 : decide (b < 0) = true := by simp; omega
  have sg : decide (4294967296 ≤ wHi P) = false := by simp; omega
  have eS2 : bits BinOp.or IntKind.u64 (wHi P * 4294967296) (wLo P / 4294967296) = s0 := by rw [← eS, IntKind.wrap_u64, Int.emod_eq_of_lt (by omega) (by omega)]
  have sm : decide (0 < m) = true := by simp; omega
  go_enter Try.func96, Try.ntmps96
  go_wp2_with fail
  refine (rSize a ha _).mono ?_; rintro e w1 ⟨rfl, rfl⟩
  rw [HX.out]
  go_wp2_with fail
  refine (rSize b hb _).mono ?_; rintro e w1 ⟨rfl, rfl⟩
  rw [HY.out]
  go_wp2_with fail
  refine (mul64 X Y hX hY _).mono ?_; rintro e w1 ⟨rfl, rfl⟩
  rw [HP.out]
  go_wp2_with fail
  refine (rNear s1 true (s1 == 0) h10 h11 _).mono ?_; rintro e w1 ⟨rfl, rfl⟩
  rw [HK.out]
  go_wp2_with fail
  go_ret
  exact same_of rfl

set_option maxHeartbeats 800000 in
theorem rTimes_00 (a b X Y P s0 m s1 : Int) (ha : InI a) (hb : InI b) (s1' : ¬ a < 0) (s2' : ¬ b < 0) (HX : Hid (absU a = X)) (HY : Hid (absU b = Y)) (HP : Hid (X * Y = P)) (hX : InU X) (hY : InU Y)
    (hP0 : 0 ≤ wHi P) (hP1 : wHi P ≤ 4611686018427387904) (hL0 : 0 ≤ wLo P) (hL1 : wLo P ≤ 18446744073709551615)
    (eS : bits BinOp.or IntKind.u64 (IntKind.u64.wrap (wHi P * 4294967296)) (wLo P / 4294967296) = s0) (h00 : 0 ≤ s0) (h01 : s0 ≤ 18446744073709551615)
    (em : bits BinOp.and IntKind.u64 (wLo P) 4294967295 = m) (HK : Hid (nearV s0 false (decide (4294967296 ≤ wHi P)) = fmul a b)) (w : World) :
    Calls Try.prog 96 #[.int .i64 a, .int .i64 b] w (Same (.int .i64 (fmul a b)) w) := by
  have sb1 : decide (a < 0) = false := by simp; omega
  have sb2 : decide (b < 0) = false := by simp; omega
  go_enter Try.func96, Try.ntmps96
  go_wp2_with fail
  refine (rSize a ha _).mono ?_; rintro e w1 ⟨rfl, rfl⟩
  rw [HX.out]
  go_wp2_with fail
  refine (rSize b hb _).mono ?_; rintro e w1 ⟨rfl, rfl⟩
  rw [HY.out]
  go_wp2_with fail
  refine (mul64 X Y hX hY _).mono ?_; rintro e w1 ⟨rfl, rfl⟩
  rw [HP.out]
  go_wp2_with fail
  refine (rNear s0 false _ h00 h01 _).mono ?_; rintro e w1 ⟨rfl, rfl⟩
  rw [HK.out]
  go_wp2_with fail
  go_ret
  exact same_of rfl

theorem rTimes (a b : Int) (ha : InI a) (hb : InI b) (w : World) : Calls Try.prog 96 #[.int .i64 a, .int .i64 b] w (Same (.int .i64 (fmul a b)) w) := by
  have hPb := absU_mul_bound ha hb
  have hA := absU_le ha
  have hB := absU_le hb
  have hX : InU (absU a) := absU_InU ha
  have hY : InU (absU b) := absU_InU hb
  have hS := mid_bits hPb.1 hPb.2
  have l := wLo_U (absU a * absU b)
  have hL0 := l.1
  have hL1 : wLo (absU a * absU b) ≤ 18446744073709551615 := by have := l.2; omega
  have em := and_low l.1 l.2
  have em2 : wLo (absU a * absU b) % 4294967296 = absU a * absU b % 4294967296 := by unfold wLo; omega
  rw [em2] at em
  have hP0 : 0 ≤ wHi (absU a * absU b) := by unfold wHi; omega
  have hP1 : wHi (absU a * absU b) ≤ 4611686018427387904 := by unfold wHi; omega
  have hpos := fun h : (a < 0 ↔ b < 0) => absU_mul_pos h
  have hneg := fun h : ¬ (a < 0 ↔ b < 0) => absU_mul_neg h
  have pp := fun h : (a < 0 ↔ b < 0) => (show nearV _ false _ = fmul a b by rw [times1 hPb.1, hpos h]; rfl)
  by_cases s1 : a < 0 <;> by_cases s2 : b < 0
  · exact rTimes_11 a b _ _ _ _ _ 0 ha hb s1 s2 rfl rfl rfl hX hY hP0 hP1 hL0 hL1 hS (by omega) (by omega) em (pp (by simp [s1, s2])) w
  · have hn := hneg (by simp [s1, s2])
    have hn2 : -(absU a * absU b) / 4294967296 = a * b / 4294967296 := by rw [hn]
    by_cases hm : 0 < absU a * absU b % 4294967296
    · by_cases hg : 4294967296 ≤ wHi (absU a * absU b)
      · exact rTimes_10b a b _ _ _ _ _ 0 ha hb s1 s2 rfl rfl rfl hX hY hP0 hP1 hL0 hL1 hS (by omega) (by omega) em hm hg (fun s => (times3 hPb.1 hm hg s).trans (by rw [hn2]; rfl)) w
      · exact rTimes_10s a b _ _ _ _ _ _ ha hb s1 s2 rfl rfl rfl hX hY hP0 hP1 hL0 hL1 hS (by omega) (by omega) em hm hg rfl (by rw [IntKind.wrap_u64]; omega) (by rw [IntKind.wrap_u64]; omega) ((times4 hPb.1 hm hg rfl).trans (by rw [hn2]; rfl)) w
    · exact rTimes_10z a b _ _ _ _ _ 0 ha hb s1 s2 rfl rfl rfl hX hY hP0 hP1 hL0 hL1 hS (by omega) (by omega) em hm ((times2 hPb.1 (by omega)).trans (by rw [hn2]; rfl)) w
  · have hn := hneg (by simp [s1, s2])
    have hn2 : -(absU a * absU b) / 4294967296 = a * b / 4294967296 := by rw [hn]
    by_cases hm : 0 < absU a * absU b % 4294967296
    · by_cases hg : 4294967296 ≤ wHi (absU a * absU b)
      · exact rTimes_01b a b _ _ _ _ _ 0 ha hb s1 s2 rfl rfl rfl hX hY hP0 hP1 hL0 hL1 hS (by omega) (by omega) em hm hg (fun s => (times3 hPb.1 hm hg s).trans (by rw [hn2]; rfl)) w
      · exact rTimes_01s a b _ _ _ _ _ _ ha hb s1 s2 rfl rfl rfl hX hY hP0 hP1 hL0 hL1 hS (by omega) (by omega) em hm hg rfl (by rw [IntKind.wrap_u64]; omega) (by rw [IntKind.wrap_u64]; omega) ((times4 hPb.1 hm hg rfl).trans (by rw [hn2]; rfl)) w
    · exact rTimes_01z a b _ _ _ _ _ 0 ha hb s1 s2 rfl rfl rfl hX hY hP0 hP1 hL0 hL1 hS (by omega) (by omega) em hm ((times2 hPb.1 (by omega)).trans (by rw [hn2]; rfl)) w
  · exact rTimes_00 a b _ _ _ _ _ 0 ha hb s1 s2 rfl rfl rfl hX hY hP0 hP1 hL0 hL1 hS (by omega) (by omega) em (pp (by simp [s1, s2])) w

end Go.Proofs.Ytognbeejobfpfaa

namespace Go.Proofs.Ytognbeejobfpfaa
open Go.RowKit
set_option linter.unusedVariables false
set_option linter.unusedSimpArgs false

end Go.Proofs.Ytognbeejobfpfaa

namespace Go.Proofs.Ytognbeejobfpfaa
open Go.RowKit
set_option linter.unusedVariables false
set_option linter.unusedSimpArgs false

theorem sqN_0 : sqN 0 = 0 := by
  obtain ⟨⟨a, b, c⟩, -⟩ := sqN_root (x := 0) (by omega) (by omega)
  rcases ltge (sqN 0) 1 with g | g
  · omega
  · have := sq_mono (a := 1) (by omega) g
    omega
theorem SqInv.sum {x r : Int} {m : Nat} (h : SqInv x r (63 - m)) (hk : m < 64) : 0 ≤ r ∧ 0 < (2 : Int) ^ m ∧ r + 2 ^ m < 18446744073709551616 := by
  have hb := h.bound (by omega)
  rw [show 63 - (63 - m) = m by omega] at hb
  exact ⟨h.1, pow_pos' m, hb.2⟩
theorem SqInv.yes' {x r : Int} {m : Nat} (h : SqInv x r (63 - m)) (hk : m < 64) (hc : (r + 2 ^ m) * (r + 2 ^ m) ≤ x) : SqInv x (r + 2 ^ m) (63 - ((m : Int) - 1)).toNat := by
  have e : 63 - (63 - m) = m := by omega
  have := h.yes (by omega) (by rw [e]; exact hc)
  rw [e] at this
  rw [show (63 - ((m : Int) - 1)).toNat = 63 - m + 1 by omega]
  exact this
theorem SqInv.no' {x r : Int} {m : Nat} (h : SqInv x r (63 - m)) (hk : m < 64) (hc : ¬ (r + 2 ^ m) * (r + 2 ^ m) ≤ x) : SqInv x r (63 - ((m : Int) - 1)).toNat := by
  have e : 63 - (63 - m) = m := by omega
  have := h.no (by omega) (by rw [e]; exact hc)
  rw [show (63 - ((m : Int) - 1)).toNat = 63 - m + 1 by omega]
  exact this


end Go.Proofs.Ytognbeejobfpfaa

namespace Go.Proofs.Ytognbeejobfpfaa
open Go.RowKit Go.Sort
set_option linter.unusedVariables false
set_option linter.unusedSimpArgs false

def vT (a : T3) : Int := a.1 * a.1 + a.2.1 * a.2.1 + a.2.2 * a.2.2
def vlen (a : T3) : Int := if 85070591730234615865843651857942052864 ≤ vT a then 9223372036854775807 else sqN (vT a)
theorem sq_bd {x : Int} (h : InI x) : 0 ≤ x * x ∧ x * x ≤ 85070591730234615865843651857942052864 := by
  have := absU_mul_bound h h
  have e : absU x * absU x = x * x := absU_mul_pos (Iff.rfl)
  rw [e] at this
  exact this
theorem vT_bd {a : T3} (h : InV a) : 0 ≤ vT a ∧ vT a ≤ 255211775190703847597530955573826158592 := by
  have h0 := sq_bd h.1
  have h1 := sq_bd h.2.1
  have h2 := sq_bd h.2.2
  unfold vT
  omega
theorem sqN_small {T : Int} (h0 : 0 ≤ T) (h1 : T < 85070591730234615865843651857942052864) : 0 ≤ sqN T ∧ sqN T ≤ 9223372036854775807 := by
  obtain ⟨⟨r0, r1, r2⟩, h⟩ := sqN_root (x := T) h0 (by omega)
  refine ⟨r0, ?_⟩
  rcases ltge (sqN T) 9223372036854775808 with g | g
  · omega
  · have := sq_mono (a := 9223372036854775808) (by omega) g
    omega
theorem sqN_big {T : Int} (h0 : 85070591730234615865843651857942052864 ≤ T) (h1 : T < 340282366920938463463374607431768211456) : 9223372036854775808 ≤ sqN T ∧ sqN T ≤ 18446744073709551615 := by
  obtain ⟨⟨r0, r1, r2⟩, h⟩ := sqN_root (x := T) (by omega) (by omega)
  refine ⟨?_, by omega⟩
  rcases ltge (sqN T) 9223372036854775808 with g | g
  · have := sq_mono (a := sqN T + 1) (b := 9223372036854775808) (by omega) (by omega)
    omega
  · exact g
theorem vlen_I {a : T3} (h : InV a) : 0 ≤ vlen a ∧ vlen a ≤ 9223372036854775807 := by
  have hb := vT_bd h
  unfold vlen
  split
  · omega
  · exact sqN_small hb.1 (by omega)
theorem vlen_InI {a : T3} (h : InV a) : InI (vlen a) := by have := vlen_I h; unfold InI; omega

theorem sq_zero {x : Int} (h : x * x ≤ 0) : x = 0 := by
  rcases Int.lt_trichotomy x 0 with g | g | g
  · have := Int.mul_pos_of_neg_of_neg g g; omega
  · exact g
  · have := Int.mul_pos g g; omega
theorem vlen_zero {a : T3} (h : InV a) : vlen a = 0 ↔ a = zero3 := by
  have hb := vT_bd h
  have h0 := (sq_bd h.1).1
  have h1 := (sq_bd h.2.1).1
  have h2 := (sq_bd h.2.2).1
  constructor
  · intro e
    have eT : vT a = 0 := by
      unfold vlen at e
      split at e
      · omega
      · obtain ⟨⟨r0, r1, r2⟩, -⟩ := sqN_root (x := vT a) hb.1 (by omega)
        rw [e] at r2
        omega
    unfold vT at eT
    have e1 := sq_zero (x := a.1) (by omega)
    have e2 := sq_zero (x := a.2.1) (by omega)
    have e3 := sq_zero (x := a.2.2) (by omega)
    obtain ⟨x, y, z⟩ := a
    simp at e1 e2 e3
    subst e1 e2 e3
    rfl
  · intro e
    subst e
    have : vT zero3 = 0 := rfl
    unfold vlen
    rw [this, sqN_0]
    rfl

def vunit (a : T3) : T3 := (fdiv a.1 (vlen a), fdiv a.2.1 (vlen a), fdiv a.2.2 (vlen a))
theorem vunit_I (a : T3) : InV (vunit a) := ⟨fdiv_I _ _, fdiv_I _ _, fdiv_I _ _⟩
theorem vunit_zero : vunit zero3 = zero3 := by
  have e : vlen zero3 = 0 := (vlen_zero zero3_I).2 rfl
  unfold vunit
  rw [e]
  rfl

theorem vEachDiv (a : T3) (n : Int) (ha : InV a) (hn : InI n) (w : World) :
    Calls Try.prog 93 #[V3 a.1 a.2.1 a.2.2, V3 n n n, .func (.func 17) #[] #[]] w (Ret (V3 (fdiv a.1 n) (fdiv a.2.1 n) (fdiv a.2.2 n)) w) :=
  vEach 17 #[] fdiv a.1 a.2.1 a.2.2 n n n w (enters_of Try.func17 (by kernel_rfl) rfl)
    (fun w' _ => fDiv _ _ ha.1 hn w') (fun w' _ => fDiv _ _ ha.2.1 hn w') (fun w' _ => fDiv _ _ ha.2.2 hn w')

end Go.Proofs.Ytognbeejobfpfaa

namespace Go.Proofs.Ytognbeejobfpfaa
open Go.RowKit Go.Sort
set_option linter.unusedVariables false
set_option linter.unusedSimpArgs false

def clip (n : Int) : Int := min (max n (-1073741824)) 1073741824
theorem clip_bd (n : Int) : -1073741824 ≤ clip n ∧ clip n ≤ 1073741824 := by unfold clip; omega
theorem clip_sq {n : Int} (h : -1073741824 ≤ n ∧ n ≤ 1073741824) : 0 ≤ n * n ∧ n * n ≤ 1152921504606846976 := by
  constructor
  · rcases Int.le_total 0 n with g | g
    · exact Int.mul_nonneg g g
    · exact Int.mul_nonneg_of_nonpos_of_nonpos g g
  · rcases Int.le_total 0 n with g | g
    · have := Int.mul_le_mul h.2 h.2 g (by omega); omega
    · have := Int.mul_le_mul (show -n ≤ 1073741824 by omega) (show -n ≤ 1073741824 by omega) (show 0 ≤ -n by omega) (by omega)
      rw [Int.neg_mul_neg] at this
      omega
/-- The root of a place's square, times 2^32. -/
def vroot (p : T3) : Int := sqN ((clip p.1 * clip p.1 + clip p.2.1 * clip p.2.1 + clip p.2.2 * clip p.2.2) * 18446744073709551616)
def vtow (p : T3) : T3 := if vroot p = 0 then zero3 else (clip p.1 * 18446744073709551616 / vroot p, clip p.2.1 * 18446744073709551616 / vroot p, clip p.2.2 * 18446744073709551616 / vroot p)
theorem root_ge {S n : Int} (h0 : n * n ≤ S) (hS : S ≤ 4611686018427387903) : -(sqN (S * 18446744073709551616)) ≤ n * 4294967296 ∧ n * 4294967296 ≤ sqN (S * 18446744073709551616) := by
  have hn : 0 ≤ n * n := by
    rcases Int.le_total 0 n with g | g
    · exact Int.mul_nonneg g g
    · exact Int.mul_nonneg_of_nonpos_of_nonpos g g
  obtain ⟨⟨r0, r1, r2⟩, -⟩ := sqN_root (x := S * 18446744073709551616) (by omega) (by omega)
  generalize sqN (S * 18446744073709551616) = R at *
  have e1 : (n * 4294967296) * (n * 4294967296) = n * n * 18446744073709551616 := by grind
  constructor
  · rcases Int.lt_or_le (n * 4294967296) (-R) with g | g
    · exfalso
      have := sq_mono (a := R + 1) (b := -(n * 4294967296)) (by omega) (by omega)
      rw [Int.neg_mul_neg, e1] at this
      omega
    · exact g
  · rcases Int.lt_or_le R (n * 4294967296) with g | g
    · exfalso
      have := sq_mono (a := R + 1) (b := n * 4294967296) (by omega) (by omega)
      rw [e1] at this
      omega
    · exact g
theorem tow_q {n R : Int} (hR : 0 < R) (h1 : -R ≤ n * 4294967296) (h2 : n * 4294967296 ≤ R) : -4294967296 ≤ n * 18446744073709551616 / R ∧ n * 18446744073709551616 / R ≤ 4294967296 := by
  constructor
  · rw [Int.le_ediv_iff_mul_le hR]
    omega
  · have : n * 18446744073709551616 / R < 4294967297 := by
      rw [Int.ediv_lt_iff_lt_mul hR]
      omega
    omega
theorem vroot_bd (p : T3) : 0 ≤ vroot p ∧ vroot p ≤ 9223372036854775807 := by
  have h0 := clip_sq (clip_bd p.1)
  have h1 := clip_sq (clip_bd p.2.1)
  have h2 := clip_sq (clip_bd p.2.2)
  exact sqN_small (by omega) (by omega)
theorem vtow_parts (p : T3) (h : vroot p ≠ 0) : ∀ n, n = clip p.1 ∨ n = clip p.2.1 ∨ n = clip p.2.2 → -4294967296 ≤ n * 18446744073709551616 / vroot p ∧ n * 18446744073709551616 / vroot p ≤ 4294967296 := by
  intro n hn
  have h0 := clip_sq (clip_bd p.1)
  have h1 := clip_sq (clip_bd p.2.1)
  have h2 := clip_sq (clip_bd p.2.2)
  have hb := vroot_bd p
  have := root_ge (S := clip p.1 * clip p.1 + clip p.2.1 * clip p.2.1 + clip p.2.2 * clip p.2.2) (n := n) (by rcases hn with e | e | e <;> rw [e] <;> omega) (by omega)
  exact tow_q (by omega) this.1 this.2
theorem vtow_bd (p : T3) : (-4294967296 ≤ (vtow p).1 ∧ (vtow p).1 ≤ 4294967296) ∧ (-4294967296 ≤ (vtow p).2.1 ∧ (vtow p).2.1 ≤ 4294967296) ∧ (-4294967296 ≤ (vtow p).2.2 ∧ (vtow p).2.2 ≤ 4294967296) := by
  unfold vtow
  split
  · simp [zero3]
  · rename_i h
    exact ⟨vtow_parts p h _ (.inl rfl), vtow_parts p h _ (.inr (.inl rfl)), vtow_parts p h _ (.inr (.inr rfl))⟩
theorem vtow_I (p : T3) : InV (vtow p) := by
  have := vtow_bd p
  unfold InV InI
  omega

end Go.Proofs.Ytognbeejobfpfaa

namespace Go.Proofs.Ytognbeejobfpfaa
open Go.RowKit
set_option linter.unusedVariables false
set_option linter.unusedSimpArgs false

theorem divlo {X : Int} (h0 : 0 ≤ X) (h1 : X ≤ 9223372036854775808) : X / 4294967296 * 18446744073709551616 + IntKind.u64.wrap (X * 4294967296) = X * 4294967296 := by rw [IntKind.wrap_u64]; omega
theorem fdiv_sgn {a b X Y : Int} {sa sb : Bool} (hb : b ≠ 0) (hX : absU a = X) (hY : absU b = Y) (ha : decide (a < 0) = sa) (hs : decide (b < 0) = sb) : fdiv a b = clampI (sgn (!sa == sb) (dq (!sa == sb) (X * 4294967296) Y)) := by
  have e1 : decide (a * 4294967296 < 0) = sa := by rw [← ha]; congr 1; apply propext; omega
  have e2 : absU (a * 4294967296) = X * 4294967296 := by rw [← hX]; unfold absU; split <;> split <;> omega
  unfold fdiv
  rw [if_neg hb, (fq_dq hb).1, e1, e2, hY, hs]
theorem rdiv_p {P Y : Int} (h0 : 0 ≤ P / Y) : nearV (P / Y) false false = clampI (sgn false (dq false P Y)) := by
  have := nearV_clamp (S := P / Y) (s := P / Y) (below := false) (big := false) h0 (fun _ => rfl) (fun h => by cases h)
  rw [this]; rfl
theorem rdiv_z {P Y : Int} (h0 : 0 ≤ P / Y) (hr : P % Y = 0) : nearV (P / Y) true false = clampI (sgn true (dq true P Y)) := by
  have := nearV_clamp (S := P / Y) (s := P / Y) (below := true) (big := false) h0 (fun _ => rfl) (fun h => by cases h)
  rw [this]; unfold dq; rw [hr]; rfl
theorem rdiv_n {P Y s1 : Int} (h0 : 0 ≤ P / Y) (h1 : P / Y < 18446744073709551616) (hr : 0 < P % Y) (hs : IntKind.u64.wrap (P / Y + 1) = s1) : nearV s1 true (s1 == 0) = clampI (sgn true (dq true P Y)) := by
  rw [IntKind.wrap_u64] at hs
  have e : dq true P Y = P / Y + 1 := by unfold dq; rw [if_pos]; simp; omega
  rw [e]
  exact nearV_clamp (by omega) (by intro h; have h := beq_eq_false_iff_ne.1 h; omega) (by intro h; have h := beq_iff_eq.1 h; omega)
theorem rdiv_b {P Y : Int} (b : Bool) (h : 18446744073709551616 ≤ P / Y) : nearV 0 b true = clampI (sgn b (dq b P Y)) := by
  have e : P / Y ≤ dq b P Y := by unfold dq; split <;> omega
  exact nearV_clamp (by omega) (fun h => by cases h) (fun _ => by omega)

theorem rDiv_01 (a X : Int) (ha : InI a) (s1 : a < 0) (HX : Hid (absU a = X)) (HK : Hid (nearV 0 true true = fdiv a 0)) (w : World) :
    Calls Try.prog 49 #[.int .i64 a, .int .i64 0] w (Same (.int .i64 (fdiv a 0)) w) := by
  have sb1 : decide (a < 0) = true := by simp; omega
  have e0 : (a == 0) = false := by rw [beq_eq_false_iff_ne]; omega
  have hb : InI 0 := by unfold InI; omega
  go_enter Try.func49, Try.ntmps49
  go_wp2_with fail
  refine (rSize a ha _).mono ?_; rintro e w1 ⟨rfl, rfl⟩
  rw [HX.out]
  go_wp2_with fail
  refine (rSize 0 hb _).mono ?_; rintro e w1 ⟨rfl, rfl⟩
  go_wp2_with fail
  refine (rNear 0 true true (by omega) (by omega) _).mono ?_; rintro e w1 ⟨rfl, rfl⟩
  rw [HK.out]
  go_wp2_with fail
  go_ret
  exact same_of rfl

theorem rDiv_0p (a X : Int) (ha : InI a) (s1 : 0 < a) (HX : Hid (absU a = X)) (HK : Hid (nearV 0 false true = fdiv a 0)) (w : World) :
    Calls Try.prog 49 #[.int .i64 a, .int .i64 0] w (Same (.int .i64 (fdiv a 0)) w) := by
  have sb1 : decide (a < 0) = false := by simp; omega
  have e0 : (a == 0) = false := by rw [beq_eq_false_iff_ne]; omega
  have hb : InI 0 := by unfold InI; omega
  go_enter Try.func49, Try.ntmps49
  go_wp2_with fail
  refine (rSize a ha _).mono ?_; rintro e w1 ⟨rfl, rfl⟩
  rw [HX.out]
  go_wp2_with fail
  refine (rSize 0 hb _).mono ?_; rintro e w1 ⟨rfl, rfl⟩
  go_wp2_with fail
  refine (rNear 0 false true (by omega) (by omega) _).mono ?_; rintro e w1 ⟨rfl, rfl⟩
  rw [HK.out]
  go_wp2_with fail
  go_ret
  exact same_of rfl

theorem rDiv_00 (w : World) : Calls Try.prog 49 #[.int .i64 0, .int .i64 0] w (Same (.int .i64 (fdiv 0 0)) w) := by
  go_enter Try.func49, Try.ntmps49
  go_wp2_with fail
  go_ret
  exact same_of rfl

set_option maxHeartbeats 800000 in
theorem rDiv_11g (a b X Y Q R s1 : Int) (ha : InI a) (hb : InI b) (s1' : a < 0) (s2' : b < 0) (HX : Hid (absU a = X)) (HY : Hid (absU b = Y)) (hX0 : 0 ≤ X) (hX1 : X ≤ 9223372036854775808) (hY0 : 0 < Y) (hY1 : Y ≤ 9223372036854775808)
    (hg : Y ≤ X / 4294967296) (HK : Hid (nearV 0 false true = fdiv a b)) (w : World) :
    Calls Try.prog 49 #[.int .i64 a, .int .i64 b] w (Ret (.int .i64 (fdiv a b)) w) := by
  have sb1 : decide (a < 0) = true := by simp; omega
  have sb2 : decide (b < 0) = true := by simp; omega
  have e0 : (b == 0) = false := by rw [beq_eq_false_iff_ne]; intro h; subst h; have := HY.out; unfold absU at this; simp at this; omega
  go_enter Try.func49, Try.ntmps49
  go_wp2_with fail
  refine (rSize a ha _).mono ?_; rintro e w1 ⟨rfl, rfl⟩
  rw [HX.out]
  go_wp2_with fail
  refine (rSize b hb _).mono ?_; rintro e w1 ⟨rfl, rfl⟩
  rw [HY.out]
  go_wp2_with fail
  refine (rNear 0 false true (by omega) (by omega) _).mono ?_; rintro e w1 ⟨rfl, rfl⟩
  rw [HK.out]
  go_wp2_with fail
  go_ret
  exact ret_of rfl (by go_grown)

set_option maxHeartbeats 800000 in
theorem rDiv_11p (a b X Y Q R s1 : Int) (ha : InI a) (hb : InI b) (s1' : a < 0) (s2' : b < 0) (HX : Hid (absU a = X)) (HY : Hid (absU b = Y)) (hX0 : 0 ≤ X) (hX1 : X ≤ 9223372036854775808) (hY0 : 0 < Y) (hY1 : Y ≤ 9223372036854775808)
    (hg : ¬ Y ≤ X / 4294967296) (hQ0 : 0 ≤ Q) (hQ1 : Q ≤ 18446744073709551615) (HQ : Hid ((X / 4294967296 * 18446744073709551616 + IntKind.u64.wrap (X * 4294967296)) / Y = Q)) (HR : Hid ((X / 4294967296 * 18446744073709551616 + IntKind.u64.wrap (X * 4294967296)) % Y = R)) (HK : Hid (nearV Q false false = fdiv a b)) (w : World) :
    Calls Try.prog 49 #[.int .i64 a, .int .i64 b] w (Ret (.int .i64 (fdiv a b)) w) := by
  have sb1 : decide (a < 0) = true := by simp; omega
  have sb2 : decide (b < 0) = true := by simp; omega
  have e0 : (b == 0) = false := by rw [beq_eq_false_iff_ne]; intro h; subst h; have := HY.out; unfold absU at this; simp at this; omega
  go_enter Try.func49, Try.ntmps49
  go_wp2_with fail
  refine (rSize a ha _).mono ?_; rintro e w1 ⟨rfl, rfl⟩
  rw [HX.out]
  go_wp2_with fail
  refine (rSize b hb _).mono ?_; rintro e w1 ⟨rfl, rfl⟩
  rw [HY.out]
  go_wp2_with fail
  refine (div64 (X / 4294967296) (IntKind.u64.wrap (X * 4294967296)) Y (by omega) (by omega) (by omega) (by rw [IntKind.wrap_u64]; omega) (by rw [IntKind.wrap_u64]; omega) _).mono ?_; rintro e w1 ⟨rfl, hb1⟩
  rw [HQ.out, HR.out]
  obtain ⟨hB1, hS1⟩ : Below w.heap.size w w1 ∧ w.heap.size ≤ w1.heap.size := Below.step (by go_grown) hb1
  go_wp2_with fail
  refine (rNear Q false false hQ0 hQ1 _).mono ?_; rintro e w2 ⟨rfl, rfl⟩
  rw [HK.out]
  go_wp2_with fail
  go_ret
  exact ret_of rfl hB1

set_option maxHeartbeats 800000 in
theorem rDiv_10g (a b X Y Q R s1 : Int) (ha : InI a) (hb : InI b) (s1' : a < 0) (s2' : ¬ b < 0) (HX : Hid (absU a = X)) (HY : Hid (absU b = Y)) (hX0 : 0 ≤ X) (hX1 : X ≤ 9223372036854775808) (hY0 : 0 < Y) (hY1 : Y ≤ 9223372036854775808)
    (hg : Y ≤ X / 4294967296) (HK : Hid (nearV 0 true true = fdiv a b)) (w : World) :
    Calls Try.prog 49 #[.int .i64 a, .int .i64 b] w (Ret (.int .i64 (fdiv a b)) w) := by
  have sb1 : decide (a < 0) = true := by simp; omega
  have sb2 : decide (b < 0) = false := by simp; omega
  have e0 : (b == 0) = false := by rw [beq_eq_false_iff_ne]; intro h; subst h; have := HY.out; unfold absU at this; simp at this; omega
  go_enter Try.func49, Try.ntmps49
  go_wp2_with fail
  refine (rSize a ha _).mono ?_; rintro e w1 ⟨rfl, rfl⟩
  rw [HX.out]
  go_wp2_with fail
  refine (rSize b hb _).mono ?_; rintro e w1 ⟨rfl, rfl⟩
  rw [HY.out]
  go_wp2_with fail
  refine (rNear 0 true true (by omega) (by omega) _).mono ?_; rintro e w1 ⟨rfl, rfl⟩
  rw [HK.out]
  go_wp2_with fail
  go_ret
  exact ret_of rfl (by go_grown)

set_option maxHeartbeats 800000 in
theorem rDiv_10z (a b X Y Q R s1 : Int) (ha : InI a) (hb : InI b) (s1' : a < 0) (s2' : ¬ b < 0) (HX : Hid (absU a = X)) (HY : Hid (absU b = Y)) (hX0 : 0 ≤ X) (hX1 : X ≤ 9223372036854775808) (hY0 : 0 < Y) (hY1 : Y ≤ 9223372036854775808)
    (hg : ¬ Y ≤ X / 4294967296) (hQ0 : 0 ≤ Q) (hQ1 : Q ≤ 18446744073709551615) (HQ : Hid ((X / 4294967296 * 18446744073709551616 + IntKind.u64.wrap (X * 4294967296)) / Y = Q)) (HR : Hid ((X / 4294967296 * 18446744073709551616 + IntKind.u64.wrap (X * 4294967296)) % Y = R)) (hR : ¬ 0 < R) (HK : Hid (nearV Q true false = fdiv a b)) (w : World) :
    Calls Try.prog 49 #[.int .i64 a, .int .i64 b] w (Ret (.int .i64 (fdiv a b)) w) := by
  have sb1 : decide (a < 0) = true := by simp; omega
  have sb2 : decide (b < 0) = false := by simp; omega
  have e0 : (b == 0) = false := by rw [beq_eq_false_iff_ne]; intro h; subst h; have := HY.out; unfold absU at this; simp at this; omega
  have sm : decide (0 < R) = false := by simp; omega
  go_enter Try.func49, Try.ntmps49
  go_wp2_with fail
  refine (rSize a ha _).mono ?_; rintro e w1 ⟨rfl, rfl⟩
  rw [HX.out]
  go_wp2_with fail
  refine (rSize b hb _).mono ?_; rintro e w1 ⟨rfl, rfl⟩
  rw [HY.out]
  go_wp2_with fail
  refine (div64 (X / 4294967296) (IntKind.u64.wrap (X * 4294967296)) Y (by omega) (by omega) (by omega) (by rw [IntKind.wrap_u64]; omega) (by rw [IntKind.wrap_u64]; omega) _).mono ?_; rintro e w1 ⟨rfl, hb1⟩
  rw [HQ.out, HR.out]
  obtain ⟨hB1, hS1⟩ : Below w.heap.size w w1 ∧ w.heap.size ≤ w1.heap.size := Below.step (by go_grown) hb1
  go_wp2_with fail
  refine (rNear Q true false hQ0 hQ1 _).mono ?_; rintro e w2 ⟨rfl, rfl⟩
  rw [HK.out]
  go_wp2_with fail
  go_ret
  exact ret_of rfl hB1

set_option maxHeartbeats 800000 in
theorem rDiv_10n (a b X Y Q R s1 : Int) (ha : InI a) (hb : InI b) (s1' : a < 0) (s2' : ¬ b < 0) (HX : Hid (absU a = X)) (HY : Hid (absU b = Y)) (hX0 : 0 ≤ X) (hX1 : X ≤ 9223372036854775808) (hY0 : 0 < Y) (hY1 : Y ≤ 9223372036854775808)
    (hg : ¬ Y ≤ X / 4294967296) (hQ0 : 0 ≤ Q) (hQ1 : Q ≤ 18446744073709551615) (HQ : Hid ((X / 4294967296 * 18446744073709551616 + IntKind.u64.wrap (X * 4294967296)) / Y = Q)) (HR : Hid ((X / 4294967296 * 18446744073709551616 + IntKind.u64.wrap (X * 4294967296)) % Y = R)) (hR : 0 < R) (hw : IntKind.u64.wrap (Q + 1) = s1) (h10 : 0 ≤ s1) (h11 : s1 ≤ 18446744073709551615) (HK : Hid (nearV s1 true (s1 == 0) = fdiv a b)) (w : World) :
    Calls Try.prog 49 #[.int .i64 a, .int .i64 b] w (Ret (.int .i64 (fdiv a b)) w) := by
  have sb1 : decide (a < 0) = true := by simp; omega
  have sb2 : decide (b < 0) = false := by simp; omega
  have e0 : (b == 0) = false := by rw [beq_eq_false_iff_ne]; intro h; subst h; have := HY.out; unfold absU at this; simp at this; omega
  have sm : decide (0 < R) = true := by simp; omega
  go_enter Try.func49, Try.ntmps49
  go_wp2_with fail
  refine (rSize a ha _).mono ?_; rintro e w1 ⟨rfl, rfl⟩
  rw [HX.out]
  go_wp2_with fail
  refine (rSize b hb _).mono ?_; rintro e w1 ⟨rfl, rfl⟩
  rw [HY.out]
  go_wp2_with fail
  refine (div64 (X / 4294967296) (IntKind.u64.wrap (X * 4294967296)) Y (by omega) (by omega) (by omega) (by rw [IntKind.wrap_u64]; omega) (by rw [IntKind.wrap_u64]; omega) _).mono ?_; rintro e w1 ⟨rfl, hb1⟩
  rw [HQ.out, HR.out]
  obtain ⟨hB1, hS1⟩ : Below w.heap.size w w1 ∧ w.heap.size ≤ w1.heap.size := Below.step (by go_grown) hb1
  go_wp2_with fail
  refine (rNear s1 true (s1 == 0) h10 h11 _).mono ?_; rintro e w2 ⟨rfl, rfl⟩
  rw [HK.out]
  go_wp2_with fail
  go_ret
  exact ret_of rfl hB1

set_option maxHeartbeats 800000 in
theorem rDiv_01g (a b X Y Q R s1 : Int) (ha : InI a) (hb : InI b) (s1' : ¬ a < 0) (s2' : b < 0) (HX : Hid (absU a = X)) (HY : Hid (absU b = Y)) (hX0 : 0 ≤ X) (hX1 : X ≤ 9223372036854775808) (hY0 : 0 < Y) (hY1 : Y ≤ 9223372036854775808)
    (hg : Y ≤ X / 4294967296) (HK : Hid (nearV 0 true true = fdiv a b)) (w : World) :
    Calls Try.prog 49 #[.int .i64 a, .int .i64 b] w (Ret (.int .i64 (fdiv a b)) w) := by
  have sb1 : decide (a < 0) = false := by simp; omega
  have sb2 : decide (b < 0) = true := by simp; omega
  have e0 : (b == 0) = false := by rw [beq_eq_false_iff_ne]; intro h; subst h; have := HY.out; unfold absU at this; simp at this; omega
  go_enter Try.func49, Try.ntmps49
  go_wp2_with fail
  refine (rSize a ha _).mono ?_; rintro e w1 ⟨rfl, rfl⟩
  rw [HX.out]
  go_wp2_with fail
  refine (rSize b hb _).mono ?_; rintro e w1 ⟨rfl, rfl⟩
  rw [HY.out]
  go_wp2_with fail
  refine (rNear 0 true true (by omega) (by omega) _).mono ?_; rintro e w1 ⟨rfl, rfl⟩
  rw [HK.out]
  go_wp2_with fail
  go_ret
  exact ret_of rfl (by go_grown)

set_option maxHeartbeats 800000 in
theorem rDiv_01z (a b X Y Q R s1 : Int) (ha : InI a) (hb : InI b) (s1' : ¬ a < 0) (s2' : b < 0) (HX : Hid (absU a = X)) (HY : Hid (absU b = Y)) (hX0 : 0 ≤ X) (hX1 : X ≤ 9223372036854775808) (hY0 : 0 < Y) (hY1 : Y ≤ 9223372036854775808)
    (hg : ¬ Y ≤ X / 4294967296) (hQ0 : 0 ≤ Q) (hQ1 : Q ≤ 18446744073709551615) (HQ : Hid ((X / 4294967296 * 18446744073709551616 + IntKind.u64.wrap (X * 4294967296)) / Y = Q)) (HR : Hid ((X / 4294967296 * 18446744073709551616 + IntKind.u64.wrap (X * 4294967296)) % Y = R)) (hR : ¬ 0 < R) (HK : Hid (nearV Q true false = fdiv a b)) (w : World) :
    Calls Try.prog 49 #[.int .i64 a, .int .i64 b] w (Ret (.int .i64 (fdiv a b)) w) := by
  have sb1 : decide (a < 0) = false := by simp; omega
  have sb2 : decide (b < 0) = true := by simp; omega
  have e0 : (b == 0) = false := by rw [beq_eq_false_iff_ne]; intro h; subst h; have := HY.out; unfold absU at this; simp at this; omega
  have sm : decide (0 < R) = false := by simp; omega
  go_enter Try.func49, Try.ntmps49
  go_wp2_with fail
  refine (rSize a ha _).mono ?_; rintro e w1 ⟨rfl, rfl⟩
  rw [HX.out]
  go_wp2_with fail
  refine (rSize b hb _).mono ?_; rintro e w1 ⟨rfl, rfl⟩
  rw [HY.out]
  go_wp2_with fail
  refine (div64 (X / 4294967296) (IntKind.u64.wrap (X * 4294967296)) Y (by omega) (by omega) (by omega) (by rw [IntKind.wrap_u64]; omega) (by rw [IntKind.wrap_u64]; omega) _).mono ?_; rintro e w1 ⟨rfl, hb1⟩
  rw [HQ.out, HR.out]
  obtain ⟨hB1, hS1⟩ : Below w.heap.size w w1 ∧ w.heap.size ≤ w1.heap.size := Below.step (by go_grown) hb1
  go_wp2_with fail
  refine (rNear Q true false hQ0 hQ1 _).mono ?_; rintro e w2 ⟨rfl, rfl⟩
  rw [HK.out]
  go_wp2_with fail
  go_ret
  exact ret_of rfl hB1

set_option maxHeartbeats 800000 in
theorem rDiv_01n (a b X Y Q R s1 : Int) (ha : InI a) (hb : InI b) (s1' : ¬ a < 0) (s2' : b < 0) (HX : Hid (absU a = X)) (HY : Hid (absU b = Y)) (hX0 : 0 ≤ X) (hX1 : X ≤ 9223372036854775808) (hY0 : 0 < Y) (hY1 : Y ≤ 9223372036854775808)
    (hg : ¬ Y ≤ X / 4294967296) (hQ0 : 0 ≤ Q) (hQ1 : Q ≤ 18446744073709551615) (HQ : Hid ((X / 4294967296 * 18446744073709551616 + IntKind.u64.wrap (X * 4294967296)) / Y = Q)) (HR : Hid ((X / 4294967296 * 18446744073709551616 + IntKind.u64.wrap (X * 4294967296)) % Y = R)) (hR : 0 < R) (hw : IntKind.u64.wrap (Q + 1) = s1) (h10 : 0 ≤ s1) (h11 : s1 ≤ 18446744073709551615) (HK : Hid (nearV s1 true (s1 == 0) = fdiv a b)) (w : World) :
    Calls Try.prog 49 #[.int .i64 a, .int .i64 b] w (Ret (.int .i64 (fdiv a b)) w) := by
  have sb1 : decide (a < 0) = false := by simp; omega
  have sb2 : decide (b < 0) = true := by simp; omega
  have e0 : (b == 0) = false := by rw [beq_eq_false_iff_ne]; intro h; subst h; have := HY.out; unfold absU at this; simp at this; omega
  have sm : decide (0 < R) = true := by simp; omega
  go_enter Try.func49, Try.ntmps49
  go_wp2_with fail
  refine (rSize a ha _).mono ?_; rintro e w1 ⟨rfl, rfl⟩
  rw [HX.out]
  go_wp2_with fail
  refine (rSize b hb _).mono ?_; rintro e w1 ⟨rfl, rfl⟩
  rw [HY.out]
  go_wp2_with fail
  refine (div64 (X / 4294967296) (IntKind.u64.wrap (X * 4294967296)) Y (by omega) (by omega) (by omega) (by rw [IntKind.wrap_u64]; omega) (by rw [IntKind.wrap_u64]; omega) _).mono ?_; rintro e w1 ⟨rfl, hb1⟩
  rw [HQ.out, HR.out]
  obtain ⟨hB1, hS1⟩ : Below w.heap.size w w1 ∧ w.heap.size ≤ w1.heap.size := Below.step (by go_grown) hb1
  go_wp2_with fail
  refine (rNear s1 true (s1 == 0) h10 h11 _).mono ?_; rintro e w2 ⟨rfl, rfl⟩
  rw [HK.out]
  go_wp2_with fail
  go_ret
  exact ret_of rfl hB1

set_option maxHeartbeats 800000 in
theorem rDiv_00g (a b X Y Q R s1 : Int) (ha : InI a) (hb : InI b) (s1' : ¬ a < 0) (s2' : ¬ b < 0) (HX : Hid (absU a = X)) (HY : Hid (absU b = Y)) (hX0 : 0 ≤ X) (hX1 : X ≤ 9223372036854775808) (hY0 : 0 < Y) (hY1 : Y ≤ 9223372036854775808)
    (hg : Y ≤ X / 4294967296) (HK : Hid (nearV 0 false true = fdiv a b)) (w : World) :
    Calls Try.prog 49 #[.int .i64 a, .int .i64 b] w (Ret (.int .i64 (fdiv a b)) w) := by
  have sb1 : decide (a < 0) = false := by simp; omega
  have sb2 : decide (b < 0) = false := by simp; omega
  have e0 : (b == 0) = false := by rw [beq_eq_false_iff_ne]; intro h; subst h; have := HY.out; unfold absU at this; simp at this; omega
  go_enter Try.func49, Try.ntmps49
  go_wp2_with fail
  refine (rSize a ha _).mono ?_; rintro e w1 ⟨rfl, rfl⟩
  rw [HX.out]
  go_wp2_with fail
  refine (rSize b hb _).mono ?_; rintro e w1 ⟨rfl, rfl⟩
  rw [HY.out]
  go_wp2_with fail
  refine (rNear 0 false true (by omega) (by omega) _).mono ?_; rintro e w1 ⟨rfl, rfl⟩
  rw [HK.out]
  go_wp2_with fail
  go_ret
  exact ret_of rfl (by go_grown)

set_option maxHeartbeats 800000 in
theorem rDiv_00p (a b X Y Q R s1 : Int) (ha : InI a) (hb : InI b) (s1' : ¬ a < 0) (s2' : ¬ b < 0) (HX : Hid (absU a = X)) (HY : Hid (absU b = Y)) (hX0 : 0 ≤ X) (hX1 : X ≤ 9223372036854775808) (hY0 : 0 < Y) (hY1 : Y ≤ 9223372036854775808)
    (hg : ¬ Y ≤ X / 4294967296) (hQ0 : 0 ≤ Q) (hQ1 : Q ≤ 18446744073709551615) (HQ : Hid ((X / 4294967296 * 18446744073709551616 + IntKind.u64.wrap (X * 4294967296)) / Y = Q)) (HR : Hid ((X / 4294967296 * 18446744073709551616 + IntKind.u64.wrap (X * 4294967296)) % Y = R)) (HK : Hid (nearV Q false false = fdiv a b)) (w : World) :
    Calls Try.prog 49 #[.int .i64 a, .int .i64 b] w (Ret (.int .i64 (fdiv a b)) w) := by
  have sb1 : decide (a < 0) = false := by simp; omega
  have sb2 : decide (b < 0) = false := by simp; omega
  have e0 : (b == 0) = false := by rw [beq_eq_false_iff_ne]; intro h; subst h; have := HY.out; unfold absU at this; simp at this; omega
  go_enter Try.func49, Try.ntmps49
  go_wp2_with fail
  refine (rSize a ha _).mono ?_; rintro e w1 ⟨rfl, rfl⟩
  rw [HX.out]
  go_wp2_with fail
  refine (rSize b hb _).mono ?_; rintro e w1 ⟨rfl, rfl⟩
  rw [HY.out]
  go_wp2_with fail
  refine (div64 (X / 4294967296) (IntKind.u64.wrap (X * 4294967296)) Y (by omega) (by omega) (by omega) (by rw [IntKind.wrap_u64]; omega) (by rw [IntKind.wrap_u64]; omega) _).mono ?_; rintro e w1 ⟨rfl, hb1⟩
  rw [HQ.out, HR.out]
  obtain ⟨hB1, hS1⟩ : Below w.heap.size w w1 ∧ w.heap.size ≤ w1.heap.size := Below.step (by go_grown) hb1
  go_wp2_with fail
  refine (rNear Q false false hQ0 hQ1 _).mono ?_; rintro e w2 ⟨rfl, rfl⟩
  rw [HK.out]
  go_wp2_with fail
  go_ret
  exact ret_of rfl hB1

theorem rDiv (a b : Int) (ha : InI a) (hb : InI b) (w : World) : Calls Try.prog 49 #[.int .i64 a, .int .i64 b] w (Ret (.int .i64 (fdiv a b)) w) := by
  have hA := absU_le ha
  have hB := absU_le hb
  by_cases h0 : b = 0
  · subst h0
    rcases Int.lt_trichotomy a 0 with g | g | g
    · exact (rDiv_01 a _ ha g rfl (Lib.hid (by unfold fdiv; rw [if_pos rfl, if_neg (by omega), if_pos g]; rfl)) w).mono fun _ _ h => h.ret
    · subst g; exact (rDiv_00 w).mono fun _ _ h => h.ret
    · exact (rDiv_0p a _ ha g rfl (Lib.hid (by unfold fdiv; rw [if_pos rfl, if_pos g]; rfl)) w).mono fun _ _ h => h.ret
  · have hY : 0 < absU b := by unfold absU; split <;> omega
    have hlo := divlo (X := absU a) (by omega) (by omega)
    by_cases hg : absU b ≤ absU a / 4294967296
    · have hq : 18446744073709551616 ≤ absU a * 4294967296 / absU b := by
        rw [Int.le_ediv_iff_mul_le hY]; omega
      by_cases s1 : a < 0 <;> by_cases s2 : b < 0
      · exact rDiv_11g a b _ _ 0 0 0 ha hb s1 s2 rfl rfl (by omega) (by omega) hY (by omega) hg ((rdiv_b false hq).trans (fdiv_sgn h0 rfl rfl (sa := true) (sb := true) (by simp [s1]) (by simp [s2])).symm) w
      · exact rDiv_10g a b _ _ 0 0 0 ha hb s1 s2 rfl rfl (by omega) (by omega) hY (by omega) hg ((rdiv_b true hq).trans (fdiv_sgn h0 rfl rfl (sa := true) (sb := false) (by simp [s1]) (by simp [s2])).symm) w
      · exact rDiv_01g a b _ _ 0 0 0 ha hb s1 s2 rfl rfl (by omega) (by omega) hY (by omega) hg ((rdiv_b true hq).trans (fdiv_sgn h0 rfl rfl (sa := false) (sb := true) (by simp [s1]) (by simp [s2])).symm) w
      · exact rDiv_00g a b _ _ 0 0 0 ha hb s1 s2 rfl rfl (by omega) (by omega) hY (by omega) hg ((rdiv_b false hq).trans (fdiv_sgn h0 rfl rfl (sa := false) (sb := false) (by simp [s1]) (by simp [s2])).symm) w
    · have hq0 : 0 ≤ absU a * 4294967296 / absU b := Int.ediv_nonneg (by omega) (by omega)
      have hq1 : absU a * 4294967296 / absU b < 18446744073709551616 := by rw [Int.ediv_lt_iff_lt_mul hY]; omega
      have hr0 := Int.emod_nonneg (absU a * 4294967296) (show absU b ≠ 0 by omega)
      have eQ := congrArg (· / absU b) hlo
      have eR := congrArg (· % absU b) hlo
      by_cases s1 : a < 0 <;> by_cases s2 : b < 0
      · exact rDiv_11p a b _ _ _ _ 0 ha hb s1 s2 rfl rfl (by omega) (by omega) hY (by omega) hg hq0 (by omega) eQ eR ((rdiv_p hq0).trans (fdiv_sgn h0 rfl rfl (sa := true) (sb := true) (by simp [s1]) (by simp [s2])).symm) w
      · by_cases hm : 0 < absU a * 4294967296 % absU b
        · exact rDiv_10n a b _ _ _ _ _ ha hb s1 s2 rfl rfl (by omega) (by omega) hY (by omega) hg hq0 (by omega) eQ eR hm rfl (by rw [IntKind.wrap_u64]; omega) (by rw [IntKind.wrap_u64]; omega) ((rdiv_n hq0 hq1 hm rfl).trans (fdiv_sgn h0 rfl rfl (sa := true) (sb := false) (by simp [s1]) (by simp [s2])).symm) w
        · exact rDiv_10z a b _ _ _ _ 0 ha hb s1 s2 rfl rfl (by omega) (by omega) hY (by omega) hg hq0 (by omega) eQ eR hm ((rdiv_z hq0 (by omega)).trans (fdiv_sgn h0 rfl rfl (sa := true) (sb := false) (by simp [s1]) (by simp [s2])).symm) w
      · by_cases hm : 0 < absU a * 4294967296 % absU b
        · exact rDiv_01n a b _ _ _ _ _ ha hb s1 s2 rfl rfl (by omega) (by omega) hY (by omega) hg hq0 (by omega) eQ eR hm rfl (by rw [IntKind.wrap_u64]; omega) (by rw [IntKind.wrap_u64]; omega) ((rdiv_n hq0 hq1 hm rfl).trans (fdiv_sgn h0 rfl rfl (sa := false) (sb := true) (by simp [s1]) (by simp [s2])).symm) w
        · exact rDiv_01z a b _ _ _ _ 0 ha hb s1 s2 rfl rfl (by omega) (by omega) hY (by omega) hg hq0 (by omega) eQ eR hm ((rdiv_z hq0 (by omega)).trans (fdiv_sgn h0 rfl rfl (sa := false) (sb := true) (by simp [s1]) (by simp [s2])).symm) w
      · exact rDiv_00p a b _ _ _ _ 0 ha hb s1 s2 rfl rfl (by omega) (by omega) hY (by omega) hg hq0 (by omega) eQ eR ((rdiv_p hq0).trans (fdiv_sgn h0 rfl rfl (sa := false) (sb := false) (by simp [s1]) (by simp [s2])).symm) w

end Go.Proofs.Ytognbeejobfpfaa

namespace Go.Proofs.Ytognbeejobfpfaa
open Go.RowKit Go.Sort
set_option linter.unusedVariables false
set_option linter.unusedSimpArgs false

set_option maxRecDepth 100000 in
set_option maxHeartbeats 1600000 in
theorem r3Both (ax ay az bx b_y bz : Int) (hax : InI ax) (hay : InI ay) (haz : InI az) (hbx : InI bx) (hby : InI b_y) (hbz : InI bz) (w : World) :
    Calls Try.prog 62 #[(.agg #[.int .i64 ax, .int .i64 ay, .int .i64 az]), (.agg #[.int .i64 bx, .int .i64 b_y, .int .i64 bz])] w (Ret (.agg #[.int .i64 (fmul ax bx), .int .i64 (fmul ay b_y), .int .i64 (fmul az bz)]) w) := by
  go_enter Try.func62, Try.ntmps62
  go_wp2_with fail
  have hg : Below w.heap.size w (((w.alloc (.cells #[.int .i64 ax, .int .i64 ay, .int .i64 az] 29)).alloc (.cells #[.int .i64 bx, .int .i64 b_y, .int .i64 bz] 29)).alloc (.cells #[.int .i64 0, .int .i64 0, .int .i64 0] 29)) := by go_grown
  have HG := Lib.hid (fun d os => (Below.step hg (below_regrown (((w.alloc (.cells #[.int .i64 ax, .int .i64 ay, .int .i64 az] 29)).alloc (.cells #[.int .i64 bx, .int .i64 b_y, .int .i64 bz] 29)).alloc (.cells #[.int .i64 0, .int .i64 0, .int .i64 0] 29)) d os)).1)
  have c1 := reg_cell (w := (((w.alloc (.cells #[.int .i64 ax, .int .i64 ay, .int .i64 az] 29)).alloc (.cells #[.int .i64 bx, .int .i64 b_y, .int .i64 bz] 29)).alloc (.cells #[.int .i64 0, .int .i64 0, .int .i64 0] 29))) (a := ⟨w.heap.size, 0, none⟩) (v := .int .i64 ax) (by first | go_cell | simp [go_sem])
  have c2 := reg_cell (w := (((w.alloc (.cells #[.int .i64 ax, .int .i64 ay, .int .i64 az] 29)).alloc (.cells #[.int .i64 bx, .int .i64 b_y, .int .i64 bz] 29)).alloc (.cells #[.int .i64 0, .int .i64 0, .int .i64 0] 29))) (a := ⟨w.heap.size, 1, none⟩) (v := .int .i64 ay) (by first | go_cell | simp [go_sem])
  have c3 := reg_cell (w := (((w.alloc (.cells #[.int .i64 ax, .int .i64 ay, .int .i64 az] 29)).alloc (.cells #[.int .i64 bx, .int .i64 b_y, .int .i64 bz] 29)).alloc (.cells #[.int .i64 0, .int .i64 0, .int .i64 0] 29))) (a := ⟨w.heap.size, 2, none⟩) (v := .int .i64 az) (by first | go_cell | simp [go_sem])
  have c4 := reg_cell (w := (((w.alloc (.cells #[.int .i64 ax, .int .i64 ay, .int .i64 az] 29)).alloc (.cells #[.int .i64 bx, .int .i64 b_y, .int .i64 bz] 29)).alloc (.cells #[.int .i64 0, .int .i64 0, .int .i64 0] 29))) (a := ⟨w.heap.size + 1, 0, none⟩) (v := .int .i64 bx) (by first | go_cell | simp [go_sem])
  have c5 := reg_cell (w := (((w.alloc (.cells #[.int .i64 ax, .int .i64 ay, .int .i64 az] 29)).alloc (.cells #[.int .i64 bx, .int .i64 b_y, .int .i64 bz] 29)).alloc (.cells #[.int .i64 0, .int .i64 0, .int .i64 0] 29))) (a := ⟨w.heap.size + 1, 1, none⟩) (v := .int .i64 b_y) (by first | go_cell | simp [go_sem])
  have c6 := reg_cell (w := (((w.alloc (.cells #[.int .i64 ax, .int .i64 ay, .int .i64 az] 29)).alloc (.cells #[.int .i64 bx, .int .i64 b_y, .int .i64 bz] 29)).alloc (.cells #[.int .i64 0, .int .i64 0, .int .i64 0] 29))) (a := ⟨w.heap.size + 1, 2, none⟩) (v := .int .i64 bz) (by first | go_cell | simp [go_sem])
  refine wp_region_below_tail 16 (by kernel_rfl) (by kernel_rfl) ?_
  simp only [List.take_succ_cons, List.take_zero, List.drop_succ_cons, List.drop_zero]
  repeat (quiet_step (first
    | (go_at_call 96; exact reg_same (rTimes _ _ (by assumption) (by assumption) _))))
  refine wpQuiet_nil ?_
  intro w3 hw3
  have hb3 := reg_below hw3
  clear hw3 c1 c2 c3 c4 c5 c6
  have hB3 : Below w.heap.size w w3 := (Below.step hg hb3).1
  have r0 : w3.cell? ⟨w.heap.size + 1 + 1, 0, none⟩ = some (.int .i64 0) := (hb3.cell (p := ⟨w.heap.size + 1 + 1, 0, none⟩) (by simp)).trans (by first | go_cell | simp [go_sem])
  have f0 : w3.frozen? ⟨w.heap.size + 1 + 1, 0, none⟩ = false := (hb3.frozen (p := ⟨w.heap.size + 1 + 1, 0, none⟩) (by simp)).trans (by simp [go_sem])
  have r1 : w3.cell? ⟨w.heap.size + 1 + 1, 1, none⟩ = some (.int .i64 0) := (hb3.cell (p := ⟨w.heap.size + 1 + 1, 1, none⟩) (by simp)).trans (by first | go_cell | simp [go_sem])
  have f1 : w3.frozen? ⟨w.heap.size + 1 + 1, 1, none⟩ = false := (hb3.frozen (p := ⟨w.heap.size + 1 + 1, 1, none⟩) (by simp)).trans (by simp [go_sem])
  have r2 : w3.cell? ⟨w.heap.size + 1 + 1, 2, none⟩ = some (.int .i64 0) := (hb3.cell (p := ⟨w.heap.size + 1 + 1, 2, none⟩) (by simp)).trans (by first | go_cell | simp [go_sem])
  have f2 : w3.frozen? ⟨w.heap.size + 1 + 1, 2, none⟩ = false := (hb3.frozen (p := ⟨w.heap.size + 1 + 1, 2, none⟩) (by simp)).trans (by simp [go_sem])
  clear hb3 hg
  go_wp2
  exact bodyPost_ret (v := (.agg #[.int .i64 (fmul ax bx), .int .i64 (fmul ay b_y), .int .i64 (fmul az bz)])) (by simp (maxDischargeDepth := 9) [results, Try.results62, go_sem, r0, r1, r2]) rfl ⟨rfl, by go_grown⟩

end Go.Proofs.Ytognbeejobfpfaa

namespace Go.Proofs.Ytognbeejobfpfaa
open Go.RowKit Go.Sort
set_option linter.unusedVariables false
set_option linter.unusedSimpArgs false

def vcross (a b : T3) : T3 := (satSub (fmul a.2.1 b.2.2) (fmul a.2.2 b.2.1), satSub (fmul a.2.2 b.1) (fmul a.1 b.2.2), satSub (fmul a.1 b.2.1) (fmul a.2.1 b.1))
theorem vcross_I (a b : T3) : InV (vcross a b) := ⟨satSub_I _ _, satSub_I _ _, satSub_I _ _⟩

theorem squares_num (A B C : Int) (hA : InU2 A) (hB : InU2 B) (hC : InU2 C) : ∃ L1 C1 H1 O1 L2 C2 H2 O2 : Int,
    (∀ w, (callFunc 79 #[.int .u64 (wLo A), .int .u64 (wLo B), .int .u64 0]).run Try.prog w = .ok (.value (.tuple #[.int .u64 L1, .int .u64 C1])) w) ∧
    (∀ w, (callFunc 79 #[.int .u64 (wHi A), .int .u64 (wHi B), .int .u64 C1]).run Try.prog w = .ok (.value (.tuple #[.int .u64 H1, .int .u64 O1])) w) ∧
    (∀ w, (callFunc 79 #[.int .u64 L1, .int .u64 (wLo C), .int .u64 0]).run Try.prog w = .ok (.value (.tuple #[.int .u64 L2, .int .u64 C2])) w) ∧
    (∀ w, (callFunc 79 #[.int .u64 H1, .int .u64 (wHi C), .int .u64 C2]).run Try.prog w = .ok (.value (.tuple #[.int .u64 H2, .int .u64 O2])) w) ∧
    0 ≤ O1 ∧ O1 ≤ 1 ∧ 0 ≤ O2 ∧ O2 ≤ 1 ∧ H2 = wHi ((A + B + C) % 340282366920938463463374607431768211456) ∧ L2 = wLo (A + B + C) ∧ (0 < O1 + O2 ↔ 340282366920938463463374607431768211456 ≤ A + B + C) := by
  have a1 := wLo_U A
  have b1 := wLo_U B
  have c1 := wLo_U C
  unfold InU at a1 b1 c1
  unfold InU2 at hA hB hC
  have a2 : 0 ≤ wHi A ∧ wHi A < 18446744073709551616 := by unfold wHi; omega
  have b2 : 0 ≤ wHi B ∧ wHi B < 18446744073709551616 := by unfold wHi; omega
  have c2 : 0 ≤ wHi C ∧ wHi C < 18446744073709551616 := by unfold wHi; omega
  obtain ⟨L1, eL1⟩ : ∃ L1, (wLo A + wLo B + 0) % 18446744073709551616 = L1 := ⟨_, rfl⟩
  obtain ⟨C1, eC1⟩ : ∃ C1, (wLo A + wLo B + 0) / 18446744073709551616 = C1 := ⟨_, rfl⟩
  obtain ⟨H1, eH1⟩ : ∃ H1, (wHi A + wHi B + C1) % 18446744073709551616 = H1 := ⟨_, rfl⟩
  obtain ⟨O1, eO1⟩ : ∃ O1, (wHi A + wHi B + C1) / 18446744073709551616 = O1 := ⟨_, rfl⟩
  obtain ⟨L2, eL2⟩ : ∃ L2, (L1 + wLo C + 0) % 18446744073709551616 = L2 := ⟨_, rfl⟩
  obtain ⟨C2, eC2⟩ : ∃ C2, (L1 + wLo C + 0) / 18446744073709551616 = C2 := ⟨_, rfl⟩
  obtain ⟨H2, eH2⟩ : ∃ H2, (H1 + wHi C + C2) % 18446744073709551616 = H2 := ⟨_, rfl⟩
  obtain ⟨O2, eO2⟩ : ∃ O2, (H1 + wHi C + C2) / 18446744073709551616 = O2 := ⟨_, rfl⟩
  refine ⟨L1, C1, H1, O1, L2, C2, H2, O2, ?_, ?_, ?_, ?_, ?_⟩
  · intro w; rw [add64 _ _ _ a1.1 b1.1 (by omega) (by omega), eL1, eC1]
  · intro w; rw [add64 _ _ _ a2.1 b2.1 (by omega) (by omega), eH1, eO1]
  · intro w; rw [add64 _ _ _ (by omega) c1.1 (by omega) (by omega), eL2, eC2]
  · intro w; rw [add64 _ _ _ (by omega) c2.1 (by omega) (by omega), eH2, eO2]
  · have sA := w_split A
    have sB := w_split B
    have sC := w_split C
    have d1 := Int.mul_ediv_add_emod (wLo A + wLo B + 0) 18446744073709551616
    have d2 := Int.mul_ediv_add_emod (wHi A + wHi B + C1) 18446744073709551616
    have d3 := Int.mul_ediv_add_emod (L1 + wLo C + 0) 18446744073709551616
    have d4 := Int.mul_ediv_add_emod (H1 + wHi C + C2) 18446744073709551616
    rw [eL1, eC1] at d1
    rw [eH1, eO1] at d2
    rw [eL2, eC2] at d3
    rw [eH2, eO2] at d4
    have hT : A + B + C = (O1 + O2) * 340282366920938463463374607431768211456 + H2 * 18446744073709551616 + L2 := by omega
    have l2 : 0 ≤ L2 ∧ L2 < 18446744073709551616 := by omega
    have m2 : 0 ≤ H2 ∧ H2 < 18446744073709551616 := by omega
    have n1 : 0 ≤ O1 ∧ O1 ≤ 1 := by omega
    have n2 : 0 ≤ O2 ∧ O2 ≤ 1 := by omega
    rw [hT]
    clear hT d1 d2 d3 d4 sA sB sC eL1 eC1 eH1 eO1 eL2 eC2 eH2 eO2 a1 b1 c1 a2 b2 c2 hA hB hC
    unfold wHi wLo
    omega

end Go.Proofs.Ytognbeejobfpfaa

namespace Go.Proofs.Ytognbeejobfpfaa
open Go.RowKit Go.Sort
set_option linter.unusedVariables false
set_option linter.unusedSimpArgs false

end Go.Proofs.Ytognbeejobfpfaa
