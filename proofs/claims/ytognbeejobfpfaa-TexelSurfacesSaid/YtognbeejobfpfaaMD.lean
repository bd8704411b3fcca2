/- The library's contracts of math/bits.LeadingZeros64, Len64 at this translation, as the kit's shelf lays them (its program wrote these lines; numbers by name). Walk: math/bits.Div64. Walk: wide.Div. Walk: wide.Div, one way through. Walk: wide.Div, one way through. Walk: wide.Div, one way through. Walk: wide.Div, one way through. Walk: wide.Div, one way through. Walk: wide.Div, one way through. Walk: wide.Div, one way through. Walks: wide.Div, the ways together; MulDiv. Walk: wide.Sqrt. -/
import Derived.Shelf.Small.Bits
import Derived.Shelf.Strconv.Itoa0
import Derived.Test.YtognbeejobfpfaaProg
import Derived.Test.YtognbeejobfpfaaRows
import Derived.RowKit
import Derived.Test.YtognbeejobfpfaaWide1
import Derived.Test.YtognbeejobfpfaaMathA
import Derived.Handy
import Derived.Outline
import Derived.Deep.CutBlock
import Derived.Deep.CutRange
import Derived.Deep.DeepCutAuto
import Derived.Deep.LoopGhost
import Derived.Deep.Cut
namespace Go.Proofs.Ytognbeejobfpfaa
open Go.Shelf Go.RowKit
set_option linter.unusedVariables false
set_option linter.unusedSimpArgs false
def lays134_ren : Go.Shelf.Ren := ⟨fun | 134 => 105 | 129 => 108 | n => n, fun | 53 => 96 | 3 => 3 | 4 => 4 | 46 => 77 | 5 => 5 | 9 => 9 | n => n, fun | n => n⟩
theorem lays134 : Lays.n134 Try.prog lays134_ren := {
  mixed := by kernel_rfl
  f129 := Try.func108.trans (congrArg some (by kernel_rfl))
  f134 := Try.func105.trans (congrArg some (by kernel_rfl))
  t3 := Try.underlying3
  a3 := Try.isAgg3
  z3 := Try.sizeOf3
  v3 := Try.zeroValue3
  t4 := Try.underlying4
  a4 := Try.isAgg4
  z4 := Try.sizeOf4
  v4 := Try.zeroValue4
  t5 := Try.underlying5
  a5 := Try.isAgg5
  z5 := Try.sizeOf5
  v5 := Try.zeroValue5
  t9 := Try.underlying9
  a9 := Try.isAgg9
  z9 := Try.sizeOf9
  v9 := Try.zeroValue9
  t46 := Try.underlying77
  a46 := Try.isAgg77
  z46 := Try.sizeOf77
  v46 := Try.zeroValue77
  t53 := Try.underlying96
  a53 := Try.isAgg96
  z53 := Try.sizeOf96
  v53 := Try.zeroValue96 }
theorem bits_LeadingZeros64 (x : Int) (w : World) (h0 : 0 ≤ x) (h1 : x ≤ 18446744073709551615) :
    Calls Try.prog 105 #[.int .u64 x] w fun e w' => e = .returned (.int .i64 (64 - (Lib.bitLen x.toNat : Int))) ∧ w' = w := Any.bits_LeadingZeros64 lays134 x w h0 h1
def lays129_ren : Go.Shelf.Ren := ⟨fun | 129 => 108 | n => n, fun | 53 => 96 | 3 => 3 | 4 => 4 | 46 => 77 | 5 => 5 | 9 => 9 | n => n, fun | n => n⟩
theorem lays129 : Lays.n129 Try.prog lays129_ren := {
  mixed := by kernel_rfl
  f129 := Try.func108.trans (congrArg some (by kernel_rfl))
  t3 := Try.underlying3
  a3 := Try.isAgg3
  z3 := Try.sizeOf3
  v3 := Try.zeroValue3
  t4 := Try.underlying4
  a4 := Try.isAgg4
  z4 := Try.sizeOf4
  v4 := Try.zeroValue4
  t5 := Try.underlying5
  a5 := Try.isAgg5
  z5 := Try.sizeOf5
  v5 := Try.zeroValue5
  t9 := Try.underlying9
  a9 := Try.isAgg9
  z9 := Try.sizeOf9
  v9 := Try.zeroValue9
  t46 := Try.underlying77
  a46 := Try.isAgg77
  z46 := Try.sizeOf77
  v46 := Try.zeroValue77
  t53 := Try.underlying96
  a53 := Try.isAgg96
  z53 := Try.sizeOf96
  v53 := Try.zeroValue96 }
theorem bits_Len64 (x : Int) (w : World) (h0 : 0 ≤ x) (h1 : x ≤ 18446744073709551615) :
    Calls Try.prog 108 #[.int .u64 x] w fun e w' => e = .returned (.int .i64 (Lib.bitLen x.toNat)) ∧ w' = w := Any.bits_Len64 lays129 x w h0 h1
end Go.Proofs.Ytognbeejobfpfaa

namespace Go.Proofs.Ytognbeejobfpfaa
open Go.RowKit
set_option linter.unusedVariables false
set_option linter.unusedSimpArgs false

set_option maxHeartbeats 1000000 in
theorem div64_walk (hi lo y Y U L y1 y0 l1 l0 Q V Q0 R : Int) (s : Nat) (hh : 0 < hi) (hy : hi < y) (hy2 : y ≤ 18446744073709551615) (hl0 : 0 ≤ lo) (hl : lo ≤ 18446744073709551615) (hs : s < 64) (hb : 64 - (Lib.bitLen y.toNat : Int) = (s : Int))
    (eY : IntKind.u64.wrap (y * 2 ^ s) = Y) (eU : bits BinOp.or IntKind.u64 (IntKind.u64.wrap (hi * 2 ^ s)) (lo / 2 ^ (64 - s)) = U) (eL : IntKind.u64.wrap (lo * 2 ^ s) = L)
    (ey1 : Y / 4294967296 = y1) (ey0 : bits BinOp.and IntKind.u64 Y 4294967295 = y0) (el1 : L / 4294967296 = l1) (el0 : bits BinOp.and IntKind.u64 L 4294967295 = l0)
    (hK : KDiv Y y1 y0) (hU0 : 0 ≤ U) (hU1 : U < Y) (h10 : 0 ≤ l1) (h11 : l1 < 4294967296) (h00 : 0 ≤ l0) (h01 : l0 < 4294967296)
    (eQ : (U * 4294967296 + l1) / Y = Q) (eV : (U * 4294967296 + l1) % Y = V) (eQ0 : (V * 4294967296 + l0) / Y = Q0) (eR : (V * 4294967296 + l0) % Y = R) (w : World) :
    Calls Try.prog 78 #[.int .u64 hi, .int .u64 lo, .int .u64 y] w (Same (.tuple #[.int .u64 (Q * 4294967296 + Q0), .int .u64 (R / 2 ^ s)]) w) := by
  have e0 : (hi == 0) = false := by rw [beq_eq_false_iff_ne]; omega
  have e1 : (y == 0) = false := by rw [beq_eq_false_iff_ne]; omega
  have HB := Lib.hid hb
  have HK := Lib.hid hK
  have a1 := hK.a
  have a2 := hK.b
  have a3 := hK.c
  have a4 := hK.d
  have a5 : 0 < Y := by have := hK.e; omega
  have a6 : Y < 18446744073709551616 := by have := hK.e; omega
  clear hb hK
  obtain ⟨⟨b0, b1, b2, b3, b4⟩, b5⟩ := k_start HK.out hU0 hU1 h10 h11
  have HI := Lib.hid (k_start HK.out hU0 hU1 h10 h11).1
  clear b3 b4
  obtain ⟨q, eq⟩ : ∃ z, U / y1 = z := ⟨_, rfl⟩
  obtain ⟨r, er⟩ : ∃ z, U - q * y1 = z := ⟨_, rfl⟩
  rw [eq] at HI b0 b1 b2 b5
  rw [er] at HI b2 b5
  have c0 : 0 ≤ q * y1 := Int.mul_nonneg b0 (by omega)
  have d1 : 0 ≤ Q ∧ Q < 4294967296 := by rw [← eQ]; exact k_quot a5 hU0 hU1 h10 h11
  have d2 : 0 ≤ V ∧ V < Y := by rw [← eV]; exact ⟨Int.emod_nonneg _ (by omega), Int.emod_lt_of_pos _ a5⟩
  have d3 : 0 ≤ Q0 ∧ Q0 < 4294967296 := by rw [← eQ0]; exact k_quot a5 d2.1 d2.2 h00 h01
  have d4 : 0 ≤ R ∧ R < Y := by rw [← eR]; exact ⟨Int.emod_nonneg _ (by omega), Int.emod_lt_of_pos _ a5⟩
  obtain ⟨d1, d1'⟩ := d1
  obtain ⟨d2, d2'⟩ := d2
  obtain ⟨d3, d3'⟩ := d3
  obtain ⟨d4, d4'⟩ := d4
  have HV := Lib.hid (k_left a5 a6 eQ)
  rw [eV] at HV
  have HR := Lib.hid (k_left a5 a6 eQ0)
  rw [eR] at HR
  have HQ1 := Lib.hid eQ
  have HQ2 := Lib.hid eQ0
  clear eQ eV eQ0 eR
  go_enter Try.func78, Try.ntmps78
  go_wp2_with fail
  refine (bits_LeadingZeros64 y _ (by omega) (by omega)).mono ?_; rintro e w1 ⟨rfl, rfl⟩
  rw [HB.out]
  go_upto_block 0 with fail
  rw [eq]
  clear eq er
  go_cut [15, 16] from 67 to 85 (fun a b wx => ∃ z : Int, a = .int .u64 Q ∧ b = .int .u64 z ∧ w1 = wx)
  case first =>
    clear eY eU eL ey1 ey0 el1 el0
    go_wp2_with fail
    go_loop [15, 16] (fun a b => ∃ q r : Int, a = .int .u64 q ∧ b = .int .u64 r ∧ KInv U Y y1 l1 q r ∧ r < 4294967296) (fun _ b => (4294967296 - intOf b).toNat)
    case atStart => exact ⟨q, r, rfl, rfl, HI.out, b5⟩
    case round =>
      obtain ⟨q, r, rfl, rfl, hk, hr⟩ := hrel
      have hk' := hk
      obtain ⟨k0, k1, k2, -, -⟩ := hk'
      obtain ⟨k3, k4⟩ := k_bound HK.out k0 k1
      have HS := fun hc => k_step HK.out hU1 h11 h10 hk hc
      have HE := fun hc => Lib.hid (k_exit1 (l1 := l1) HK.out hk hc)
      by_cases hq : 4294967296 ≤ q
      · obtain ⟨m1, m2⟩ := HS (.inl hq)
        clear HS HE hk
        by_cases hb : 4294967296 ≤ r + y1
        · have HQ := Lib.hid (k_exit2 HK.out hU1 h10 m2 hb)
          go_wp2_with fail
          go_meet
          exact ⟨_, vint (HQ.out.symm.trans HQ1.out), rfl, rfl⟩
        · go_wp2_with fail
          go_round
          case rel => exact ⟨_, _, rfl, rfl, m2, by omega⟩
          case measure => simp [intOf]; omega
      · by_cases hc : 4294967296 * r + l1 < q * y0
        · obtain ⟨m1, m2⟩ := HS (.inr hc)
          clear HS HE hk
          by_cases hb : 4294967296 ≤ r + y1
          · have HQ := Lib.hid (k_exit2 HK.out hU1 h10 m2 hb)
            go_wp2_with fail
            go_meet
            exact ⟨_, vint (HQ.out.symm.trans HQ1.out), rfl, rfl⟩
          · go_wp2_with fail
            go_round
            case rel => exact ⟨_, _, rfl, rfl, m2, by omega⟩
            case measure => simp [intOf]; omega
        · have HQ := HE (by omega)
          clear HS HE hk
          go_wp2_with fail
          go_meet
          exact ⟨_, vint (HQ.out.symm.trans HQ1.out), rfl, rfl⟩
  case rest =>
    obtain ⟨z, rfl, rfl, rfl⟩ := hcut
    obtain ⟨⟨b0, b1, b2, b3, b4⟩, b5⟩ := k_start HK.out d2 d2' h00 h01
    have HI := Lib.hid (k_start HK.out d2 d2' h00 h01).1
    clear b3 b4 c0
    obtain ⟨q2, eq2⟩ : ∃ z, V / y1 = z := ⟨_, rfl⟩
    obtain ⟨r2, er2⟩ : ∃ z, V - q2 * y1 = z := ⟨_, rfl⟩
    rw [eq2] at HI b0 b1 b2 b5
    rw [er2] at HI b2 b5
    have c0 : 0 ≤ q2 * y1 := Int.mul_nonneg b0 (by omega)
    have eV := HV.out
    clear eY eU eL ey1 ey0 el1 el0
    go_upto_block 2 with fail
    rw [eq2]
    clear eq2 er2
    go_cut [18, 16] from 102 to 120 (fun a b wx => ∃ z : Int, a = .int .u64 Q0 ∧ b = .int .u64 z ∧ w1 = wx)
    case first =>
      go_wp2_with fail
      go_loop [18, 16] (fun a b => ∃ q r : Int, a = .int .u64 q ∧ b = .int .u64 r ∧ KInv V Y y1 l0 q r ∧ r < 4294967296) (fun _ b => (4294967296 - intOf b).toNat)
      case atStart => exact ⟨_, _, rfl, rfl, HI.out, b5⟩
      case round =>
        obtain ⟨q, r, rfl, rfl, hk, hr⟩ := hrel
        have hk' := hk
        obtain ⟨k0, k1, k2, -, -⟩ := hk'
        obtain ⟨k3, k4⟩ := k_bound HK.out k0 k1
        have HS := fun hc => k_step HK.out d2' h01 h00 hk hc
        have HE := fun hc => Lib.hid (k_exit1 (l1 := l0) HK.out hk hc)
        by_cases hq : 4294967296 ≤ q
        · obtain ⟨m1, m2⟩ := HS (.inl hq)
          clear HS HE hk
          by_cases hb : 4294967296 ≤ r + y1
          · have HQ := Lib.hid (k_exit2 HK.out d2' h00 m2 hb)
            go_wp2_with fail
            go_meet
            exact ⟨_, vint (HQ.out.symm.trans HQ2.out), rfl, rfl⟩
          · go_wp2_with fail
            go_round
            case rel => exact ⟨_, _, rfl, rfl, m2, by omega⟩
            case measure => simp [intOf]; omega
        · by_cases hc : 4294967296 * r + l0 < q * y0
          · obtain ⟨m1, m2⟩ := HS (.inr hc)
            clear HS HE hk
            by_cases hb : 4294967296 ≤ r + y1
            · have HQ := Lib.hid (k_exit2 HK.out d2' h00 m2 hb)
              go_wp2_with fail
              go_meet
              exact ⟨_, vint (HQ.out.symm.trans HQ2.out), rfl, rfl⟩
            · go_wp2_with fail
              go_round
              case rel => exact ⟨_, _, rfl, rfl, m2, by omega⟩
              case measure => simp [intOf]; omega
          · have HQ := HE (by omega)
            clear HS HE hk
            go_wp2_with fail
            go_meet
            exact ⟨_, vint (HQ.out.symm.trans HQ2.out), rfl, rfl⟩
    case rest =>
      obtain ⟨z, rfl, rfl, rfl⟩ := hcut
      have eR := HR.out
      go_wp2_with fail
      go_ret2
      exact same_of rfl

theorem and_low {Y : Int} (h0 : 0 ≤ Y) (h1 : Y < 18446744073709551616) : bits BinOp.and IntKind.u64 Y 4294967295 = Y % 4294967296 := by
  obtain ⟨n, rfl⟩ := Int.eq_ofNat_of_zero_le h0
  rw [u64_and _ _ h0 h1 (by omega) (by omega), Int.toNat_natCast]
  show ((n &&& 2 ^ 32 - 1 : Nat) : Int) = _
  rw [Nat.and_two_pow_sub_one_eq_mod]
  rfl

theorem div64_zero (lo y : Int) (hy : 0 < y) (hy2 : y ≤ 18446744073709551615) (hl0 : 0 ≤ lo) (hl : lo ≤ 18446744073709551615) (w : World) :
    Calls Try.prog 78 #[.int .u64 0, .int .u64 lo, .int .u64 y] w (Ret (.tuple #[.int .u64 (lo / y), .int .u64 (lo % y)]) w) := by
  have e1 : (y == 0) = false := by rw [beq_eq_false_iff_ne]; omega
  have a1 := Int.ediv_nonneg hl0 (show 0 ≤ y by omega)
  have a2 := Int.ediv_le_self y hl0
  have a3 := Int.emod_nonneg lo (show y ≠ 0 by omega)
  have a4 := Int.emod_lt_of_pos lo hy
  go_enter Try.func78, Try.ntmps78
  go_wp2_with fail
  go_region
  all_goals
    go_wp2
    go_ret2
    exact ret_of rfl (by go_grown)

theorem div64 (hi lo y : Int) (hh : 0 ≤ hi) (hy : hi < y) (hy2 : y ≤ 18446744073709551615) (hl0 : 0 ≤ lo) (hl : lo ≤ 18446744073709551615) (w : World) :
    Calls Try.prog 78 #[.int .u64 hi, .int .u64 lo, .int .u64 y] w (Ret (.tuple #[.int .u64 ((hi * 18446744073709551616 + lo) / y), .int .u64 ((hi * 18446744073709551616 + lo) % y)]) w) := by
  by_cases h0 : hi = 0
  · subst h0
    rw [Int.zero_mul, Int.zero_add]
    exact div64_zero lo y hy hy2 hl0 hl w
  · have hbl : ∃ s : Nat, 64 - (Lib.bitLen y.toNat : Int) = (s : Int) := by
      have := Lib.bitLen_le y.toNat 64 (by omega) (by have : (2 : Nat) ^ 64 = 18446744073709551616 := rfl; omega)
      exact ⟨64 - Lib.bitLen y.toNat, by omega⟩
    obtain ⟨s, hb⟩ := hbl
    obtain ⟨hs, hY1, hY2⟩ := norm_bits y s (by omega) hy2 hb
    obtain ⟨hU, hU0, hU1, hN⟩ := norm_num hi lo y s hs (by omega) hy hl0 (by omega) hY2
    have hL : 0 ≤ IntKind.u64.wrap (lo * 2 ^ s) ∧ IntKind.u64.wrap (lo * 2 ^ s) < 18446744073709551616 := by rw [IntKind.wrap_u64]; omega
    obtain ⟨e1, e2⟩ := norm_last (Y := y * 2 ^ s) (L := IntKind.u64.wrap (lo * 2 ^ s)) (l1 := IntKind.u64.wrap (lo * 2 ^ s) / 4294967296) (l0 := IntKind.u64.wrap (lo * 2 ^ s) % 4294967296) rfl (by omega) hN (by omega) rfl rfl rfl rfl
    rw [e1, e2]
    refine Calls.mono (div64_walk hi lo y (y * 2 ^ s) (hi * 2 ^ s + lo / 2 ^ (64 - s)) (IntKind.u64.wrap (lo * 2 ^ s)) (y * 2 ^ s / 4294967296) (y * 2 ^ s % 4294967296) (IntKind.u64.wrap (lo * 2 ^ s) / 4294967296) (IntKind.u64.wrap (lo * 2 ^ s) % 4294967296) _ _ _ _ s
      (by omega) hy hy2 hl0 hl hs hb (by rw [IntKind.wrap_u64]; omega) hU rfl rfl (and_low (by omega) hY2) rfl (and_low hL.1 hL.2) (KDiv.of hY1 hY2) hU0 hU1 (by omega) (by omega) (by omega) (by omega) rfl rfl rfl rfl w) fun _ _ h => h.ret

end Go.Proofs.Ytognbeejobfpfaa

namespace Go.Proofs.Ytognbeejobfpfaa
open Go.RowKit
set_option linter.unusedVariables false
set_option linter.unusedSimpArgs false

theorem div64a (A D : Int) (h : InU2 A) (hD : 0 < D) (hD2 : D ≤ 18446744073709551615) (w : World) :
    Calls Try.prog 78 #[.int .u64 0, .int .u64 (wHi A), .int .u64 D] w (Ret (.tuple #[.int .u64 (wHi (A / D)), .int .u64 (wHi A % D)]) w) := by
  have h1 := wHi_U h
  have := div64_zero (wHi A) D hD hD2 h1.1 (by have := h1.2; omega) w
  rw [(two_digits h.1 hD (by omega)).1] at this
  exact this
theorem div64b (A D : Int) (h : InU2 A) (hD : 0 < D) (hD2 : D ≤ 18446744073709551615) (w : World) :
    Calls Try.prog 78 #[.int .u64 (wHi A % D), .int .u64 (wLo A), .int .u64 D] w (Ret (.tuple #[.int .u64 (wLo (A / D)), .int .u64 (A % D)]) w) := by
  have h1 := wLo_U A
  have := div64 (wHi A % D) (wLo A) D (Int.emod_nonneg _ (by omega)) (Int.emod_lt_of_pos _ hD) hD2 h1.1 (by have := h1.2; omega) w
  obtain ⟨-, e2, e3⟩ := two_digits h.1 hD (by omega)
  rw [e2, e3] at this
  exact this

/-- The quotient's size one up, in two digits. -/
theorem up_one (Q : Int) (h : InU2 (Q + 1)) (w : World) : ∃ c : Int, 0 ≤ c ∧ c ≤ 1 ∧ (∀ w, (callFunc 79 #[.int .u64 (wLo Q), .int .u64 1, .int .u64 0]).run Try.prog w = .ok (.value (.tuple #[.int .u64 (wLo (Q + 1)), .int .u64 c])) w) ∧ wHi Q + c = wHi (Q + 1) := by
  have h1 := wLo_U Q
  obtain ⟨a1, a2⟩ := h1
  refine ⟨(wLo Q + 1 + 0) / 18446744073709551616, by omega, by omega, fun w => ?_, ?_⟩
  · rw [add64 (wLo Q) 1 0 a1 (by omega) (by omega) (by omega)]
    have : (wLo Q + 1 + 0) % 18446744073709551616 = wLo (Q + 1) := by unfold wLo; omega
    rw [this]
  · unfold wHi wLo; omega

end Go.Proofs.Ytognbeejobfpfaa

namespace Go.Proofs.Ytognbeejobfpfaa
open Go.RowKit
set_option linter.unusedVariables false
set_option linter.unusedSimpArgs false

set_option maxHeartbeats 800000 in
theorem wDiv_pn0 (a d A D Q L R : Int) (h : InW a) (hd : InI d) (ha : 0 ≤ a) (hd0 : d < 0) (eA : absU a = A) (eD : absU d = D) (eQ : A / D = Q) (eL : A % D = L) (hl : ¬ 0 < L) (HOk : Hid (InWb (fq a d) = true)) (HQ : Hid (fq a d = -Q)) (HR : Hid (fr a d = R)) (w : World) :
    Calls Try.prog 41 #[W a, .int .i64 d] w (Ret (.tuple #[W (divQ a d), .int .i64 (divR a d), .bool (divOk a d)]) w) := by
  have e0 : (d == 0) = false := by rw [beq_eq_false_iff_ne]; omega
  have hU : InU2 A := by rw [← eA]; exact absU_U2 h
  have hD : 0 < D ∧ D ≤ 9223372036854775808 := by have := absU_le hd; rw [eD] at this; have e := eD; unfold absU at e; split at e <;> omega
  obtain ⟨hD0, hD1⟩ := hD
  have hL0 : 0 ≤ L := by rw [← eL]; exact Int.emod_nonneg _ (by omega)
  have hL1 : L < D := by rw [← eL]; exact Int.emod_lt_of_pos _ hD0
  have hQU : InU2 (Q) := by
    have h1 := dq_U2 (d := d) true h (by omega)
    rw [eA, eD] at h1
    unfold dq at h1; rw [eL, eQ, if_neg (by simp; omega)] at h1; exact h1
  have HD := Lib.hid eD
  have HOk' := Lib.hid (divOk_of (by omega : d ≠ 0) HOk.out)
  have HQ' := Lib.hid ((divQ_ok HOk'.out).trans HQ.out)
  have HR' := Lib.hid ((divR_ok HOk'.out).trans HR.out)
  have HW : Hid (wrap128 (-Q) = -Q) := Lib.hid (wrap128_in (by rw [← HQ.out]; exact InWb_iff.1 HOk.out))
  have e1 : ¬ wHi a < 0 := by unfold wHi; omega
  have e2 : IntKind.u64.wrap (wHi a) = wHi A := by rw [IntKind.wrap_u64, ← eA, absU_pos ha]; unfold wHi; unfold InW at h; omega
  have e3 : wLo a = wLo A := by rw [← eA, absU_pos ha]
  have e4 : wrap64 (IntKind.u64.wrap (-L)) = R := by
    have h1 := HR.out
    rw [(fq_dq (by omega : d ≠ 0)).2, eA, eD] at h1
    rw [← h1, IntKind.wrap_u64]
    unfold dr wrap64; rw [eL]; simp [show ¬ a < 0 by omega, hd0, sgn]
    first | omega | (split <;> omega)
  have hdb : decide (d < 0) = true := by simp; omega
  have hab : decide (wHi a < 0) = false := by simp; omega
  have H5 : Hid (-L = R) := Lib.hid (by have h := e4; rw [IntKind.wrap_u64] at h; unfold wrap64 at h; omega)
  have H4 := Lib.hid e4
  clear e4 eA eD
  go_enter Try.func41, Try.ntmps41
  go_wp2_with fail
  go_region
  go_wp2_with fail
  refine (wsize d hd _).mono ?_; rintro e w1 ⟨rfl, rfl⟩
  rw [HD.out]
  go_wp2_with fail
  refine (div64a A D hU hD0 (by omega) _).mono ?_; rintro e w1 ⟨rfl, hb1⟩
  obtain ⟨hc1, hf1, hs1⟩ := bcell hb1
  obtain ⟨hz1, hz1'⟩ : w.heap.size < w1.heap.size ∧ w.heap.size + 1 < w1.heap.size := by simp at hs1; omega
  have hB1 : Below w.heap.size w w1 := Below.next (by go_grown) hb1
  go_wp2_with fail
  refine (div64b A D hU hD0 (by omega) _).mono ?_; rintro e w2 ⟨rfl, hb2⟩
  obtain ⟨hc2, hf2, hs2⟩ := bcell hb2
  obtain ⟨hz2, hz2'⟩ : w.heap.size < w2.heap.size ∧ w.heap.size + 1 < w2.heap.size := by omega
  have hB2 : Below w.heap.size w w2 := Below.next hB1 hb2
  go_wp2_with fail
  refine (wsigned_neg (Q) hQU _).mono ?_; rintro e w3 ⟨rfl, hb3⟩
  rw [HW.out, ← HQ.out, HOk.out]
  obtain ⟨hc3, hf3, hs3⟩ := bcell hb3
  obtain ⟨hz3, hz3'⟩ : w.heap.size < w3.heap.size ∧ w.heap.size + 1 < w3.heap.size := by omega
  have hB3 : Below w.heap.size w w3 := Below.next hB2 hb3
  have q0 : w3.cell? ⟨w.heap.size + 1, 0, none⟩ = some (.int .i64 0) := by rw [hc3 _ _ hz2', hc2 _ _ hz1', hc1 _ _ (by simp)]; simp [go_sem]
  have q1 : w3.cell? ⟨w.heap.size + 1, 1, none⟩ = some (.int .u64 0) := by rw [hc3 _ _ hz2', hc2 _ _ hz1', hc1 _ _ (by simp)]; simp [go_sem]
  have e4 := H5.out
  go_wp2_with fail
  refine bodyPost_ret (v := .tuple #[W (fq a d), .int .i64 R, .bool true]) (by simp (maxDischargeDepth := 9) [results, Try.results41, go_sem, q0, q1, e4]) rfl (ret_of (by rw [HQ'.out, HQ.out, HR'.out, HOk'.out]) (by go_grown))

end Go.Proofs.Ytognbeejobfpfaa

namespace Go.Proofs.Ytognbeejobfpfaa
open Go.RowKit
set_option linter.unusedVariables false
set_option linter.unusedSimpArgs false

set_option maxHeartbeats 800000 in
theorem wDiv_pn1 (a d A D Q L R : Int) (h : InW a) (hd : InI d) (ha : 0 ≤ a) (hd0 : d < 0) (eA : absU a = A) (eD : absU d = D) (eQ : A / D = Q) (eL : A % D = L) (hl : 0 < L) (HOk : Hid (InWb (fq a d) = true)) (HQ : Hid (fq a d = -(Q + 1))) (HR : Hid (fr a d = R)) (w : World) :
    Calls Try.prog 41 #[W a, .int .i64 d] w (Ret (.tuple #[W (divQ a d), .int .i64 (divR a d), .bool (divOk a d)]) w) := by
  have e0 : (d == 0) = false := by rw [beq_eq_false_iff_ne]; omega
  have hU : InU2 A := by rw [← eA]; exact absU_U2 h
  have hD : 0 < D ∧ D ≤ 9223372036854775808 := by have := absU_le hd; rw [eD] at this; have e := eD; unfold absU at e; split at e <;> omega
  obtain ⟨hD0, hD1⟩ := hD
  have hL0 : 0 ≤ L := by rw [← eL]; exact Int.emod_nonneg _ (by omega)
  have hL1 : L < D := by rw [← eL]; exact Int.emod_lt_of_pos _ hD0
  have hQU : InU2 (Q + 1) := by
    have h1 := dq_U2 (d := d) true h (by omega)
    rw [eA, eD] at h1
    unfold dq at h1; rw [eL, eQ, if_pos (by simp; omega)] at h1; exact h1
  have HD := Lib.hid eD
  have HOk' := Lib.hid (divOk_of (by omega : d ≠ 0) HOk.out)
  have HQ' := Lib.hid ((divQ_ok HOk'.out).trans HQ.out)
  have HR' := Lib.hid ((divR_ok HOk'.out).trans HR.out)
  have HW : Hid (wrap128 (-(Q + 1)) = -(Q + 1)) := Lib.hid (wrap128_in (by rw [← HQ.out]; exact InWb_iff.1 HOk.out))
  have e1 : ¬ wHi a < 0 := by unfold wHi; omega
  have e2 : IntKind.u64.wrap (wHi a) = wHi A := by rw [IntKind.wrap_u64, ← eA, absU_pos ha]; unfold wHi; unfold InW at h; omega
  have e3 : wLo a = wLo A := by rw [← eA, absU_pos ha]
  have e4 : wrap64 (IntKind.u64.wrap (-(D - L))) = R := by
    have h1 := HR.out
    rw [(fq_dq (by omega : d ≠ 0)).2, eA, eD] at h1
    rw [← h1, IntKind.wrap_u64]
    unfold dr wrap64; rw [eL]; simp [show ¬ a < 0 by omega, hd0, sgn]
    first | omega | (split <;> omega)
  have hdb : decide (d < 0) = true := by simp; omega
  have hab : decide (wHi a < 0) = false := by simp; omega
  have H4 := Lib.hid e4
  clear e4 eA eD
  go_enter Try.func41, Try.ntmps41
  go_wp2_with fail
  go_region
  go_wp2_with fail
  refine (wsize d hd _).mono ?_; rintro e w1 ⟨rfl, rfl⟩
  rw [HD.out]
  go_wp2_with fail
  refine (div64a A D hU hD0 (by omega) _).mono ?_; rintro e w1 ⟨rfl, hb1⟩
  obtain ⟨hc1, hf1, hs1⟩ := bcell hb1
  obtain ⟨hz1, hz1'⟩ : w.heap.size < w1.heap.size ∧ w.heap.size + 1 < w1.heap.size := by simp at hs1; omega
  have hB1 : Below w.heap.size w w1 := Below.next (by go_grown) hb1
  go_wp2_with fail
  refine (div64b A D hU hD0 (by omega) _).mono ?_; rintro e w2 ⟨rfl, hb2⟩
  obtain ⟨hc2, hf2, hs2⟩ := bcell hb2
  obtain ⟨hz2, hz2'⟩ : w.heap.size < w2.heap.size ∧ w.heap.size + 1 < w2.heap.size := by omega
  have hB2 : Below w.heap.size w w2 := Below.next hB1 hb2
  obtain ⟨c, hc0, hc1', s1, s2⟩ := up_one Q hQU w
  obtain ⟨hq0, hq1⟩ := wHi_U hQU
  go_wp2_with fail
  refine (wsigned_neg (Q + 1) hQU _).mono ?_; rintro e w3 ⟨rfl, hb3⟩
  rw [HW.out, ← HQ.out, HOk.out]
  obtain ⟨hc3, hf3, hs3⟩ := bcell hb3
  obtain ⟨hz3, hz3'⟩ : w.heap.size < w3.heap.size ∧ w.heap.size + 1 < w3.heap.size := by omega
  have hB3 : Below w.heap.size w w3 := Below.next hB2 hb3
  have q0 : w3.cell? ⟨w.heap.size + 1, 0, none⟩ = some (.int .i64 0) := by rw [hc3 _ _ hz2', hc2 _ _ hz1', hc1 _ _ (by simp)]; simp [go_sem]
  have q1 : w3.cell? ⟨w.heap.size + 1, 1, none⟩ = some (.int .u64 0) := by rw [hc3 _ _ hz2', hc2 _ _ hz1', hc1 _ _ (by simp)]; simp [go_sem]
  have e4 := H4.out
  go_wp2_with fail
  refine bodyPost_ret (v := .tuple #[W (fq a d), .int .i64 R, .bool true]) (by simp (maxDischargeDepth := 9) [results, Try.results41, go_sem, q0, q1, e4]) rfl (ret_of (by rw [HQ'.out, HQ.out, HR'.out, HOk'.out]) (by go_grown))

end Go.Proofs.Ytognbeejobfpfaa

namespace Go.Proofs.Ytognbeejobfpfaa
open Go.RowKit
set_option linter.unusedVariables false
set_option linter.unusedSimpArgs false

set_option maxHeartbeats 800000 in
theorem wDiv_pp (a d A D Q L R : Int) (h : InW a) (hd : InI d) (ha : 0 ≤ a) (hd0 : 0 < d) (eA : absU a = A) (eD : absU d = D) (eQ : A / D = Q) (eL : A % D = L) (HOk : Hid (InWb (fq a d) = true)) (HQ : Hid (fq a d = Q)) (HR : Hid (fr a d = R)) (w : World) :
    Calls Try.prog 41 #[W a, .int .i64 d] w (Ret (.tuple #[W (divQ a d), .int .i64 (divR a d), .bool (divOk a d)]) w) := by
  have e0 : (d == 0) = false := by rw [beq_eq_false_iff_ne]; omega
  have hU : InU2 A := by rw [← eA]; exact absU_U2 h
  have hD : 0 < D ∧ D ≤ 9223372036854775808 := by have := absU_le hd; rw [eD] at this; have e := eD; unfold absU at e; split at e <;> omega
  obtain ⟨hD0, hD1⟩ := hD
  have hL0 : 0 ≤ L := by rw [← eL]; exact Int.emod_nonneg _ (by omega)
  have hL1 : L < D := by rw [← eL]; exact Int.emod_lt_of_pos _ hD0
  have hQU : InU2 (Q) := by
    have h1 := dq_U2 (d := d) false h (by omega)
    rw [eA, eD] at h1
    unfold dq at h1; simp at h1; rw [eQ] at h1; exact h1
  have HD := Lib.hid eD
  have HOk' := Lib.hid (divOk_of (by omega : d ≠ 0) HOk.out)
  have HQ' := Lib.hid ((divQ_ok HOk'.out).trans HQ.out)
  have HR' := Lib.hid ((divR_ok HOk'.out).trans HR.out)
  have HW : Hid (wrap128 (Q) = Q) := Lib.hid (wrap128_in (by rw [← HQ.out]; exact InWb_iff.1 HOk.out))
  have e1 : ¬ wHi a < 0 := by unfold wHi; omega
  have e2 : IntKind.u64.wrap (wHi a) = wHi A := by rw [IntKind.wrap_u64, ← eA, absU_pos ha]; unfold wHi; unfold InW at h; omega
  have e3 : wLo a = wLo A := by rw [← eA, absU_pos ha]
  have e4 : L = R := by
    have h1 := HR.out
    rw [(fq_dq (by omega : d ≠ 0)).2, eA, eD] at h1
    rw [← h1]
    unfold dr; rw [eL]; simp [show ¬ a < 0 by omega, show ¬ d < 0 by omega, sgn]
  have hdb : decide (d < 0) = false := by simp; omega
  have hab : decide (wHi a < 0) = false := by simp; omega
  have H4 := Lib.hid e4
  clear e4 eA eD
  go_enter Try.func41, Try.ntmps41
  go_wp2_with fail
  go_region
  go_wp2_with fail
  refine (wsize d hd _).mono ?_; rintro e w1 ⟨rfl, rfl⟩
  rw [HD.out]
  go_wp2_with fail
  refine (div64a A D hU hD0 (by omega) _).mono ?_; rintro e w1 ⟨rfl, hb1⟩
  obtain ⟨hc1, hf1, hs1⟩ := bcell hb1
  obtain ⟨hz1, hz1'⟩ : w.heap.size < w1.heap.size ∧ w.heap.size + 1 < w1.heap.size := by simp at hs1; omega
  have hB1 : Below w.heap.size w w1 := Below.next (by go_grown) hb1
  go_wp2_with fail
  refine (div64b A D hU hD0 (by omega) _).mono ?_; rintro e w2 ⟨rfl, hb2⟩
  obtain ⟨hc2, hf2, hs2⟩ := bcell hb2
  obtain ⟨hz2, hz2'⟩ : w.heap.size < w2.heap.size ∧ w.heap.size + 1 < w2.heap.size := by omega
  have hB2 : Below w.heap.size w w2 := Below.next hB1 hb2
  go_wp2_with fail
  refine (wsigned_pos (Q) hQU _).mono ?_; rintro e w3 ⟨rfl, hb3⟩
  rw [HW.out, ← HQ.out, HOk.out]
  obtain ⟨hc3, hf3, hs3⟩ := bcell hb3
  obtain ⟨hz3, hz3'⟩ : w.heap.size < w3.heap.size ∧ w.heap.size + 1 < w3.heap.size := by omega
  have hB3 : Below w.heap.size w w3 := Below.next hB2 hb3
  have q0 : w3.cell? ⟨w.heap.size + 1, 0, none⟩ = some (.int .i64 0) := by rw [hc3 _ _ hz2', hc2 _ _ hz1', hc1 _ _ (by simp)]; simp [go_sem]
  have q1 : w3.cell? ⟨w.heap.size + 1, 1, none⟩ = some (.int .u64 0) := by rw [hc3 _ _ hz2', hc2 _ _ hz1', hc1 _ _ (by simp)]; simp [go_sem]
  have e4 := H4.out
  go_wp2_with fail
  refine bodyPost_ret (v := .tuple #[W (fq a d), .int .i64 R, .bool true]) (by simp (maxDischargeDepth := 9) [results, Try.results41, go_sem, q0, q1, e4]) rfl (ret_of (by rw [HQ'.out, HQ.out, HR'.out, HOk'.out]) (by go_grown))

end Go.Proofs.Ytognbeejobfpfaa

namespace Go.Proofs.Ytognbeejobfpfaa
open Go.RowKit
set_option linter.unusedVariables false
set_option linter.unusedSimpArgs false

set_option maxHeartbeats 800000 in
theorem wDiv_nn (a d A D Q L R : Int) (h : InW a) (hd : InI d) (ha : a < 0) (hd0 : d < 0) (eA : absU a = A) (eD : absU d = D) (eQ : A / D = Q) (eL : A % D = L) (HOk : Hid (InWb (fq a d) = true)) (HQ : Hid (fq a d = Q)) (HR : Hid (fr a d = R)) (w : World) :
    Calls Try.prog 41 #[W a, .int .i64 d] w (Ret (.tuple #[W (divQ a d), .int .i64 (divR a d), .bool (divOk a d)]) w) := by
  have e0 : (d == 0) = false := by rw [beq_eq_false_iff_ne]; omega
  have hU : InU2 A := by rw [← eA]; exact absU_U2 h
  have hD : 0 < D ∧ D ≤ 9223372036854775808 := by have := absU_le hd; rw [eD] at this; have e := eD; unfold absU at e; split at e <;> omega
  obtain ⟨hD0, hD1⟩ := hD
  have hL0 : 0 ≤ L := by rw [← eL]; exact Int.emod_nonneg _ (by omega)
  have hL1 : L < D := by rw [← eL]; exact Int.emod_lt_of_pos _ hD0
  have hQU : InU2 (Q) := by
    have h1 := dq_U2 (d := d) false h (by omega)
    rw [eA, eD] at h1
    unfold dq at h1; simp at h1; rw [eQ] at h1; exact h1
  have HD := Lib.hid eD
  have HOk' := Lib.hid (divOk_of (by omega : d ≠ 0) HOk.out)
  have HQ' := Lib.hid ((divQ_ok HOk'.out).trans HQ.out)
  have HR' := Lib.hid ((divR_ok HOk'.out).trans HR.out)
  have HW : Hid (wrap128 (Q) = Q) := Lib.hid (wrap128_in (by rw [← HQ.out]; exact InWb_iff.1 HOk.out))
  have e1 : wHi a < 0 := by unfold wHi; omega
  have E1 := Lib.hid (u128_hi h)
  have E2 := Lib.hid (u128_lo a)
  have E3 : Hid (neg128 (u128 a) = A) := Lib.hid (by rw [← eA, absU_neg ha]; unfold neg128 u128; unfold InW at h; omega)
  have e4 : wrap64 (IntKind.u64.wrap (-L)) = R := by
    have h1 := HR.out
    rw [(fq_dq (by omega : d ≠ 0)).2, eA, eD] at h1
    rw [← h1, IntKind.wrap_u64]
    unfold dr wrap64; rw [eL]; simp [ha, hd0, sgn]
    first | omega | (split <;> omega)
  have hdb : decide (d < 0) = true := by simp; omega
  have hab : decide (wHi a < 0) = true := by simp; omega
  have H4 := Lib.hid e4
  clear e4 eA eD
  go_enter Try.func41, Try.ntmps41
  go_wp2_with fail
  go_region
  go_wp2_with fail
  rw [E1.out, E2.out]
  refine (wturned (u128 a) (u128_U2 a) _).mono ?_; rintro e w1 ⟨rfl, rfl⟩
  rw [E3.out]
  go_wp2_with fail
  refine (wsize d hd _).mono ?_; rintro e w1 ⟨rfl, rfl⟩
  rw [HD.out]
  go_wp2_with fail
  refine (div64a A D hU hD0 (by omega) _).mono ?_; rintro e w1 ⟨rfl, hb1⟩
  obtain ⟨hc1, hf1, hs1⟩ := bcell hb1
  obtain ⟨hz1, hz1'⟩ : w.heap.size < w1.heap.size ∧ w.heap.size + 1 < w1.heap.size := by simp at hs1; omega
  have hB1 : Below w.heap.size w w1 := Below.next (by go_grown) hb1
  go_wp2_with fail
  refine (div64b A D hU hD0 (by omega) _).mono ?_; rintro e w2 ⟨rfl, hb2⟩
  obtain ⟨hc2, hf2, hs2⟩ := bcell hb2
  obtain ⟨hz2, hz2'⟩ : w.heap.size < w2.heap.size ∧ w.heap.size + 1 < w2.heap.size := by omega
  have hB2 : Below w.heap.size w w2 := Below.next hB1 hb2
  go_wp2_with fail
  refine (wsigned_pos (Q) hQU _).mono ?_; rintro e w3 ⟨rfl, hb3⟩
  rw [HW.out, ← HQ.out, HOk.out]
  obtain ⟨hc3, hf3, hs3⟩ := bcell hb3
  obtain ⟨hz3, hz3'⟩ : w.heap.size < w3.heap.size ∧ w.heap.size + 1 < w3.heap.size := by omega
  have hB3 : Below w.heap.size w w3 := Below.next hB2 hb3
  have q0 : w3.cell? ⟨w.heap.size + 1, 0, none⟩ = some (.int .i64 0) := by rw [hc3 _ _ hz2', hc2 _ _ hz1', hc1 _ _ (by simp)]; simp [go_sem]
  have q1 : w3.cell? ⟨w.heap.size + 1, 1, none⟩ = some (.int .u64 0) := by rw [hc3 _ _ hz2', hc2 _ _ hz1', hc1 _ _ (by simp)]; simp [go_sem]
  have e4 := H4.out
  go_wp2_with fail
  refine bodyPost_ret (v := .tuple #[W (fq a d), .int .i64 R, .bool true]) (by simp (maxDischargeDepth := 9) [results, Try.results41, go_sem, q0, q1, e4]) rfl (ret_of (by rw [HQ'.out, HQ.out, HR'.out, HOk'.out]) (by go_grown))

end Go.Proofs.Ytognbeejobfpfaa

namespace Go.Proofs.Ytognbeejobfpfaa
open Go.RowKit
set_option linter.unusedVariables false
set_option linter.unusedSimpArgs false

set_option maxHeartbeats 800000 in
theorem wDiv_nnx (a d A D Q L R : Int) (h : InW a) (hd : InI d) (ha : a < 0) (hd0 : d < 0) (eA : absU a = A) (eD : absU d = D) (eQ : A / D = Q) (eL : A % D = L) (HOk : Hid (InWb (fq a d) = false)) (HQ : Hid (fq a d = Q)) (HR : Hid (fr a d = R)) (w : World) :
    Calls Try.prog 41 #[W a, .int .i64 d] w (Ret (.tuple #[W (divQ a d), .int .i64 (divR a d), .bool (divOk a d)]) w) := by
  have e0 : (d == 0) = false := by rw [beq_eq_false_iff_ne]; omega
  have hU : InU2 A := by rw [← eA]; exact absU_U2 h
  have hD : 0 < D ∧ D ≤ 9223372036854775808 := by have := absU_le hd; rw [eD] at this; have e := eD; unfold absU at e; split at e <;> omega
  obtain ⟨hD0, hD1⟩ := hD
  have hL0 : 0 ≤ L := by rw [← eL]; exact Int.emod_nonneg _ (by omega)
  have hL1 : L < D := by rw [← eL]; exact Int.emod_lt_of_pos _ hD0
  have hQU : InU2 (Q) := by
    have h1 := dq_U2 (d := d) false h (by omega)
    rw [eA, eD] at h1
    unfold dq at h1; simp at h1; rw [eQ] at h1; exact h1
  have HD := Lib.hid eD
  have HOk' := Lib.hid (divOk_of (by omega : d ≠ 0) HOk.out)
  have HQ' := Lib.hid (divQ_not HOk'.out)
  have HR' := Lib.hid (divR_not HOk'.out)
  have e1 : wHi a < 0 := by unfold wHi; omega
  have E1 := Lib.hid (u128_hi h)
  have E2 := Lib.hid (u128_lo a)
  have E3 : Hid (neg128 (u128 a) = A) := Lib.hid (by rw [← eA, absU_neg ha]; unfold neg128 u128; unfold InW at h; omega)
  have e4 : wrap64 (IntKind.u64.wrap (-L)) = R := by
    have h1 := HR.out
    rw [(fq_dq (by omega : d ≠ 0)).2, eA, eD] at h1
    rw [← h1, IntKind.wrap_u64]
    unfold dr wrap64; rw [eL]; simp [ha, hd0, sgn]
    first | omega | (split <;> omega)
  have hdb : decide (d < 0) = true := by simp; omega
  have hab : decide (wHi a < 0) = true := by simp; omega
  have H4 := Lib.hid e4
  clear e4 eA eD
  go_enter Try.func41, Try.ntmps41
  go_wp2_with fail
  go_region
  go_wp2_with fail
  rw [E1.out, E2.out]
  refine (wturned (u128 a) (u128_U2 a) _).mono ?_; rintro e w1 ⟨rfl, rfl⟩
  rw [E3.out]
  go_wp2_with fail
  refine (wsize d hd _).mono ?_; rintro e w1 ⟨rfl, rfl⟩
  rw [HD.out]
  go_wp2_with fail
  refine (div64a A D hU hD0 (by omega) _).mono ?_; rintro e w1 ⟨rfl, hb1⟩
  obtain ⟨hc1, hf1, hs1⟩ := bcell hb1
  obtain ⟨hz1, hz1'⟩ : w.heap.size < w1.heap.size ∧ w.heap.size + 1 < w1.heap.size := by simp at hs1; omega
  have hB1 : Below w.heap.size w w1 := Below.next (by go_grown) hb1
  go_wp2_with fail
  refine (div64b A D hU hD0 (by omega) _).mono ?_; rintro e w2 ⟨rfl, hb2⟩
  obtain ⟨hc2, hf2, hs2⟩ := bcell hb2
  obtain ⟨hz2, hz2'⟩ : w.heap.size < w2.heap.size ∧ w.heap.size + 1 < w2.heap.size := by omega
  have hB2 : Below w.heap.size w w2 := Below.next hB1 hb2
  go_wp2_with fail
  refine (wsigned_pos (Q) hQU _).mono ?_; rintro e w3 ⟨rfl, hb3⟩
  rw [show InWb (Q) = false from by rw [← HQ.out]; exact HOk.out]
  obtain ⟨hc3, hf3, hs3⟩ := bcell hb3
  obtain ⟨hz3, hz3'⟩ : w.heap.size < w3.heap.size ∧ w.heap.size + 1 < w3.heap.size := by omega
  have hB3 : Below w.heap.size w w3 := Below.next hB2 hb3
  have q0 : w3.cell? ⟨w.heap.size + 1, 0, none⟩ = some (.int .i64 0) := by rw [hc3 _ _ hz2', hc2 _ _ hz1', hc1 _ _ (by simp)]; simp [go_sem]
  have q1 : w3.cell? ⟨w.heap.size + 1, 1, none⟩ = some (.int .u64 0) := by rw [hc3 _ _ hz2', hc2 _ _ hz1', hc1 _ _ (by simp)]; simp [go_sem]
  go_wp2_with fail
  refine bodyPost_ret (v := .tuple #[W 0, .int .i64 0, .bool false]) (by simp (maxDischargeDepth := 9) [results, Try.results41, go_sem, q0, q1, wHi_zero, wLo_zero]) rfl (ret_of (by rw [HQ'.out, HR'.out, HOk'.out]) (by go_grown))

end Go.Proofs.Ytognbeejobfpfaa

namespace Go.Proofs.Ytognbeejobfpfaa
open Go.RowKit
set_option linter.unusedVariables false
set_option linter.unusedSimpArgs false

set_option maxHeartbeats 800000 in
theorem wDiv_np0 (a d A D Q L R : Int) (h : InW a) (hd : InI d) (ha : a < 0) (hd0 : 0 < d) (eA : absU a = A) (eD : absU d = D) (eQ : A / D = Q) (eL : A % D = L) (hl : ¬ 0 < L) (HOk : Hid (InWb (fq a d) = true)) (HQ : Hid (fq a d = -Q)) (HR : Hid (fr a d = R)) (w : World) :
    Calls Try.prog 41 #[W a, .int .i64 d] w (Ret (.tuple #[W (divQ a d), .int .i64 (divR a d), .bool (divOk a d)]) w) := by
  have e0 : (d == 0) = false := by rw [beq_eq_false_iff_ne]; omega
  have hU : InU2 A := by rw [← eA]; exact absU_U2 h
  have hD : 0 < D ∧ D ≤ 9223372036854775808 := by have := absU_le hd; rw [eD] at this; have e := eD; unfold absU at e; split at e <;> omega
  obtain ⟨hD0, hD1⟩ := hD
  have hL0 : 0 ≤ L := by rw [← eL]; exact Int.emod_nonneg _ (by omega)
  have hL1 : L < D := by rw [← eL]; exact Int.emod_lt_of_pos _ hD0
  have hQU : InU2 (Q) := by
    have h1 := dq_U2 (d := d) true h (by omega)
    rw [eA, eD] at h1
    unfold dq at h1; rw [eL, eQ, if_neg (by simp; omega)] at h1; exact h1
  have HD := Lib.hid eD
  have HOk' := Lib.hid (divOk_of (by omega : d ≠ 0) HOk.out)
  have HQ' := Lib.hid ((divQ_ok HOk'.out).trans HQ.out)
  have HR' := Lib.hid ((divR_ok HOk'.out).trans HR.out)
  have HW : Hid (wrap128 (-Q) = -Q) := Lib.hid (wrap128_in (by rw [← HQ.out]; exact InWb_iff.1 HOk.out))
  have e1 : wHi a < 0 := by unfold wHi; omega
  have E1 := Lib.hid (u128_hi h)
  have E2 := Lib.hid (u128_lo a)
  have E3 : Hid (neg128 (u128 a) = A) := Lib.hid (by rw [← eA, absU_neg ha]; unfold neg128 u128; unfold InW at h; omega)
  have e4 : L = R := by
    have h1 := HR.out
    rw [(fq_dq (by omega : d ≠ 0)).2, eA, eD] at h1
    rw [← h1]
    unfold dr; rw [eL]; simp [ha, show ¬ d < 0 by omega, sgn]
    first | omega | (split <;> omega)
  have hdb : decide (d < 0) = false := by simp; omega
  have hab : decide (wHi a < 0) = true := by simp; omega
  have H4 := Lib.hid e4
  clear e4 eA eD
  go_enter Try.func41, Try.ntmps41
  go_wp2_with fail
  go_region
  go_wp2_with fail
  rw [E1.out, E2.out]
  refine (wturned (u128 a) (u128_U2 a) _).mono ?_; rintro e w1 ⟨rfl, rfl⟩
  rw [E3.out]
  go_wp2_with fail
  refine (wsize d hd _).mono ?_; rintro e w1 ⟨rfl, rfl⟩
  rw [HD.out]
  go_wp2_with fail
  refine (div64a A D hU hD0 (by omega) _).mono ?_; rintro e w1 ⟨rfl, hb1⟩
  obtain ⟨hc1, hf1, hs1⟩ := bcell hb1
  obtain ⟨hz1, hz1'⟩ : w.heap.size < w1.heap.size ∧ w.heap.size + 1 < w1.heap.size := by simp at hs1; omega
  have hB1 : Below w.heap.size w w1 := Below.next (by go_grown) hb1
  go_wp2_with fail
  refine (div64b A D hU hD0 (by omega) _).mono ?_; rintro e w2 ⟨rfl, hb2⟩
  obtain ⟨hc2, hf2, hs2⟩ := bcell hb2
  obtain ⟨hz2, hz2'⟩ : w.heap.size < w2.heap.size ∧ w.heap.size + 1 < w2.heap.size := by omega
  have hB2 : Below w.heap.size w w2 := Below.next hB1 hb2
  go_wp2_with fail
  refine (wsigned_neg (Q) hQU _).mono ?_; rintro e w3 ⟨rfl, hb3⟩
  rw [HW.out, ← HQ.out, HOk.out]
  obtain ⟨hc3, hf3, hs3⟩ := bcell hb3
  obtain ⟨hz3, hz3'⟩ : w.heap.size < w3.heap.size ∧ w.heap.size + 1 < w3.heap.size := by omega
  have hB3 : Below w.heap.size w w3 := Below.next hB2 hb3
  have q0 : w3.cell? ⟨w.heap.size + 1, 0, none⟩ = some (.int .i64 0) := by rw [hc3 _ _ hz2', hc2 _ _ hz1', hc1 _ _ (by simp)]; simp [go_sem]
  have q1 : w3.cell? ⟨w.heap.size + 1, 1, none⟩ = some (.int .u64 0) := by rw [hc3 _ _ hz2', hc2 _ _ hz1', hc1 _ _ (by simp)]; simp [go_sem]
  have e4 := H4.out
  go_wp2_with fail
  refine bodyPost_ret (v := .tuple #[W (fq a d), .int .i64 R, .bool true]) (by simp (maxDischargeDepth := 9) [results, Try.results41, go_sem, q0, q1, e4]) rfl (ret_of (by rw [HQ'.out, HQ.out, HR'.out, HOk'.out]) (by go_grown))

end Go.Proofs.Ytognbeejobfpfaa

namespace Go.Proofs.Ytognbeejobfpfaa
open Go.RowKit
set_option linter.unusedVariables false
set_option linter.unusedSimpArgs false

set_option maxHeartbeats 800000 in
theorem wDiv_np1 (a d A D Q L R : Int) (h : InW a) (hd : InI d) (ha : a < 0) (hd0 : 0 < d) (eA : absU a = A) (eD : absU d = D) (eQ : A / D = Q) (eL : A % D = L) (hl : 0 < L) (HOk : Hid (InWb (fq a d) = true)) (HQ : Hid (fq a d = -(Q + 1))) (HR : Hid (fr a d = R)) (w : World) :
    Calls Try.prog 41 #[W a, .int .i64 d] w (Ret (.tuple #[W (divQ a d), .int .i64 (divR a d), .bool (divOk a d)]) w) := by
  have e0 : (d == 0) = false := by rw [beq_eq_false_iff_ne]; omega
  have hU : InU2 A := by rw [← eA]; exact absU_U2 h
  have hD : 0 < D ∧ D ≤ 9223372036854775808 := by have := absU_le hd; rw [eD] at this; have e := eD; unfold absU at e; split at e <;> omega
  obtain ⟨hD0, hD1⟩ := hD
  have hL0 : 0 ≤ L := by rw [← eL]; exact Int.emod_nonneg _ (by omega)
  have hL1 : L < D := by rw [← eL]; exact Int.emod_lt_of_pos _ hD0
  have hQU : InU2 (Q + 1) := by
    have h1 := dq_U2 (d := d) true h (by omega)
    rw [eA, eD] at h1
    unfold dq at h1; rw [eL, eQ, if_pos (by simp; omega)] at h1; exact h1
  have HD := Lib.hid eD
  have HOk' := Lib.hid (divOk_of (by omega : d ≠ 0) HOk.out)
  have HQ' := Lib.hid ((divQ_ok HOk'.out).trans HQ.out)
  have HR' := Lib.hid ((divR_ok HOk'.out).trans HR.out)
  have HW : Hid (wrap128 (-(Q + 1)) = -(Q + 1)) := Lib.hid (wrap128_in (by rw [← HQ.out]; exact InWb_iff.1 HOk.out))
  have e1 : wHi a < 0 := by unfold wHi; omega
  have E1 := Lib.hid (u128_hi h)
  have E2 := Lib.hid (u128_lo a)
  have E3 : Hid (neg128 (u128 a) = A) := Lib.hid (by rw [← eA, absU_neg ha]; unfold neg128 u128; unfold InW at h; omega)
  have e4 : D - L = R := by
    have h1 := HR.out
    rw [(fq_dq (by omega : d ≠ 0)).2, eA, eD] at h1
    rw [← h1]
    unfold dr; rw [eL]; simp [ha, show ¬ d < 0 by omega, sgn]
    first | omega | (split <;> omega)
  have hdb : decide (d < 0) = false := by simp; omega
  have hab : decide (wHi a < 0) = true := by simp; omega
  have H4 := Lib.hid e4
  clear e4 eA eD
  go_enter Try.func41, Try.ntmps41
  go_wp2_with fail
  go_region
  go_wp2_with fail
  rw [E1.out, E2.out]
  refine (wturned (u128 a) (u128_U2 a) _).mono ?_; rintro e w1 ⟨rfl, rfl⟩
  rw [E3.out]
  go_wp2_with fail
  refine (wsize d hd _).mono ?_; rintro e w1 ⟨rfl, rfl⟩
  rw [HD.out]
  go_wp2_with fail
  refine (div64a A D hU hD0 (by omega) _).mono ?_; rintro e w1 ⟨rfl, hb1⟩
  obtain ⟨hc1, hf1, hs1⟩ := bcell hb1
  obtain ⟨hz1, hz1'⟩ : w.heap.size < w1.heap.size ∧ w.heap.size + 1 < w1.heap.size := by simp at hs1; omega
  have hB1 : Below w.heap.size w w1 := Below.next (by go_grown) hb1
  go_wp2_with fail
  refine (div64b A D hU hD0 (by omega) _).mono ?_; rintro e w2 ⟨rfl, hb2⟩
  obtain ⟨hc2, hf2, hs2⟩ := bcell hb2
  obtain ⟨hz2, hz2'⟩ : w.heap.size < w2.heap.size ∧ w.heap.size + 1 < w2.heap.size := by omega
  have hB2 : Below w.heap.size w w2 := Below.next hB1 hb2
  obtain ⟨c, hc0, hc1', s1, s2⟩ := up_one Q hQU w
  obtain ⟨hq0, hq1⟩ := wHi_U hQU
  go_wp2_with fail
  refine (wsigned_neg (Q + 1) hQU _).mono ?_; rintro e w3 ⟨rfl, hb3⟩
  rw [HW.out, ← HQ.out, HOk.out]
  obtain ⟨hc3, hf3, hs3⟩ := bcell hb3
  obtain ⟨hz3, hz3'⟩ : w.heap.size < w3.heap.size ∧ w.heap.size + 1 < w3.heap.size := by omega
  have hB3 : Below w.heap.size w w3 := Below.next hB2 hb3
  have q0 : w3.cell? ⟨w.heap.size + 1, 0, none⟩ = some (.int .i64 0) := by rw [hc3 _ _ hz2', hc2 _ _ hz1', hc1 _ _ (by simp)]; simp [go_sem]
  have q1 : w3.cell? ⟨w.heap.size + 1, 1, none⟩ = some (.int .u64 0) := by rw [hc3 _ _ hz2', hc2 _ _ hz1', hc1 _ _ (by simp)]; simp [go_sem]
  have e4 := H4.out
  go_wp2_with fail
  refine bodyPost_ret (v := .tuple #[W (fq a d), .int .i64 R, .bool true]) (by simp (maxDischargeDepth := 9) [results, Try.results41, go_sem, q0, q1, e4]) rfl (ret_of (by rw [HQ'.out, HQ.out, HR'.out, HOk'.out]) (by go_grown))

end Go.Proofs.Ytognbeejobfpfaa

namespace Go.Proofs.Ytognbeejobfpfaa
open Go.RowKit
set_option linter.unusedVariables false
set_option linter.unusedSimpArgs false

theorem wDiv_zero (a : Int) (w : World) :
    Calls Try.prog 41 #[W a, .int .i64 0] w (Ret (.tuple #[W 0, .int .i64 0, .bool false]) w) := by
  go_enter Try.func41, Try.ntmps41
  go_wp2_with fail
  refine bodyPost_ret (v := .tuple #[W 0, .int .i64 0, .bool false]) (by simp (maxDischargeDepth := 9) [results, Try.results41, go_sem, wHi_zero, wLo_zero]) rfl (ret_of rfl (by go_grown))

theorem wDiv (a d : Int) (h : InW a) (hd : InI d) (w : World) :
    Calls Try.prog 41 #[W a, .int .i64 d] w (Ret (.tuple #[W (divQ a d), .int .i64 (divR a d), .bool (divOk a d)]) w) := by
  by_cases h0 : d = 0
  · subst h0
    rw [divQ_not (divOk_zero a), divR_not (divOk_zero a), divOk_zero]
    exact wDiv_zero a w
  obtain ⟨e1, -⟩ := fq_dq (a := a) h0
  have hA := absU_bound h
  have hD : 0 < absU d := by unfold absU; omega
  have hm := Int.emod_nonneg (absU a) (Int.ne_of_gt hD)
  have hq := Int.ediv_nonneg hA.1 (show 0 ≤ absU d by omega)
  have hq1 := Int.ediv_le_self (absU d) hA.1
  have hde := Int.mul_ediv_add_emod (absU a) (absU d)
  by_cases ha : a < 0 <;> by_cases hd0 : d < 0
  · have e2 : fq a d = absU a / absU d := by rw [e1]; simp [ha, hd0, sgn, dq]
    cases hok : InWb (fq a d)
    · exact wDiv_nnx a d _ _ _ _ _ h hd ha hd0 rfl rfl rfl rfl hok e2 rfl w
    · exact wDiv_nn a d _ _ _ _ _ h hd ha hd0 rfl rfl rfl rfl hok e2 rfl w
  · by_cases hl : 0 < absU a % absU d
    · have e2 : fq a d = -(absU a / absU d + 1) := by rw [e1]; simp only [ha, hd0, sgn, dq]; simp [show ¬ absU a % absU d = 0 by omega]
      have hq2 : absU a / absU d + 1 ≤ 170141183460469231731687303715884105728 := by
        have h3 := Int.emod_lt_of_pos (absU a) hD
        have h4 := Int.mul_le_mul_of_nonneg_right (show 2 ≤ absU d by omega) hq
        omega
      have hok : InWb (fq a d) = true := InWb_true (by rw [e2]; unfold InW; omega)
      exact wDiv_np1 a d _ _ _ _ _ h hd ha (by omega) rfl rfl rfl rfl hl hok e2 rfl w
    · have e2 : fq a d = -(absU a / absU d) := by rw [e1]; simp only [ha, hd0, sgn, dq]; simp [show absU a % absU d = 0 by omega]
      have hok : InWb (fq a d) = true := InWb_true (by rw [e2]; unfold InW; omega)
      exact wDiv_np0 a d _ _ _ _ _ h hd ha (by omega) rfl rfl rfl rfl hl hok e2 rfl w
  · by_cases hl : 0 < absU a % absU d
    · have e2 : fq a d = -(absU a / absU d + 1) := by rw [e1]; simp only [ha, hd0, sgn, dq]; simp [show ¬ absU a % absU d = 0 by omega]
      have hq2 : absU a / absU d + 1 ≤ 170141183460469231731687303715884105728 := by
        have h3 := Int.emod_lt_of_pos (absU a) hD
        have h4 := Int.mul_le_mul_of_nonneg_right (show 2 ≤ absU d by omega) hq
        omega
      have hok : InWb (fq a d) = true := InWb_true (by rw [e2]; unfold InW; omega)
      exact wDiv_pn1 a d _ _ _ _ _ h hd (by omega) hd0 rfl rfl rfl rfl hl hok e2 rfl w
    · have e2 : fq a d = -(absU a / absU d) := by rw [e1]; simp only [ha, hd0, sgn, dq]; simp [show absU a % absU d = 0 by omega]
      have hok : InWb (fq a d) = true := InWb_true (by rw [e2]; unfold InW; omega)
      exact wDiv_pn0 a d _ _ _ _ _ h hd (by omega) hd0 rfl rfl rfl rfl hl hok e2 rfl w
  · have e2 : fq a d = absU a / absU d := by rw [e1]; simp [ha, hd0, sgn, dq]
    have hok : InWb (fq a d) = true := InWb_true (by rw [e2]; unfold InW; rw [absU_pos (by omega)] at *; unfold InW at h; omega)
    exact wDiv_pp a d _ _ _ _ _ h hd (by omega) (by omega) rfl rfl rfl rfl hok e2 rfl w

end Go.Proofs.Ytognbeejobfpfaa

namespace Go.Proofs.Ytognbeejobfpfaa
open Go.RowKit
set_option linter.unusedVariables false
set_option linter.unusedSimpArgs false

end Go.Proofs.Ytognbeejobfpfaa
