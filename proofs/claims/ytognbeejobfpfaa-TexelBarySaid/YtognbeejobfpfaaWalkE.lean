/- Walk: math/bits.Div64. -/
import Derived.Test.YtognbeejobfpfaaWide1
import Derived.Test.YtognbeejobfpfaaShelf
import Derived.Test.YtognbeejobfpfaaMathA
import Derived.Handy
import Derived.Outline
import Derived.Deep.CutBlock
import Derived.Deep.CutRange
import Derived.Deep.DeepCutAuto
import Derived.Deep.LoopGhost
import Derived.Deep.Cut
namespace Go.Proofs.Ytognbeejobfpfaa
open Go.RowKit
set_option linter.unusedVariables false
set_option linter.unusedSimpArgs false

set_option maxHeartbeats 1000000 in
theorem div64_walk (hi lo y Y U L y1 y0 l1 l0 Q V Q0 R : Int) (s : Nat) (hh : 0 < hi) (hy : hi < y) (hy2 : y ≤ 18446744073709551615) (hl0 : 0 ≤ lo) (hl : lo ≤ 18446744073709551615) (hs : s < 64) (hb : 64 - (Lib.bitLen y.toNat : Int) = (s : Int))
    (eY : IntKind.u64.wrap (y * 2 ^ s) = Y) (eU : bits BinOp.or IntKind.u64 (IntKind.u64.wrap (hi * 2 ^ s)) (lo / 2 ^ (64 - s)) = U) (eL : IntKind.u64.wrap (lo * 2 ^ s) = L)
    (ey1 : Y / 4294967296 = y1) (ey0 : bits BinOp.and IntKind.u64 Y 4294967295 = y0) (el1 : L / 4294967296 = l1) (el0 : bits BinOp.and IntKind.u64 L 4294967295 = l0)
    (hK : KDiv Y y1 y0) (hU0 : 0 ≤ U) (hU1 : U < Y) (h10 : 0 ≤ l1) (h11 : l1 < 4294967296) (h00 : 0 ≤ l0) (h01 : l0 < 4294967296)
    (eQ : (U * 4294967296 + l1) / Y = Q) (eV : (U * 4294967296 + l1) % Y = V) (eQ0 : (V * 4294967296 + l0) / Y = Q0) (eR : (V * 4294967296 + l0) % Y = R) (w : World) :
    Calls Try.prog 78 #[.int .u64 hi, .int .u64 lo, .int .u64 y] w (Same (.tuple #[.int .u64 (Q * 4294967296 + Q0), .int .u64 (R / 2 ^ s)]) w) := by
  have e0 : (hi == 0) = false := by rw [beq_eq_false_iff_ne]; omega
  have e1 : (y == 0) = false := by rw [beq_eq_false_iff_ne]; omega
  have HB := Lib.hid hb
  have HK := Lib.hid hK
  have a1 := hK.a
  have a2 := hK.b
  have a3 := hK.c
  have a4 := hK.d
  have a5 : 0 < Y := by have := hK.e; omega
  have a6 : Y < 18446744073709551616 := by have := hK.e; omega
  clear hb hK
  obtain ⟨⟨b0, b1, b2, b3, b4⟩, b5⟩ := k_start HK.out hU0 hU1 h10 h11
  have HI := Lib.hid (k_start HK.out hU0 hU1 h10 h11).1
  clear b3 b4
  obtain ⟨q, eq⟩ : ∃ z, U / y1 = z := ⟨_, rfl⟩
  obtain ⟨r, er⟩ : ∃ z, U - q * y1 = z := ⟨_, rfl⟩
  rw [eq] at HI b0 b1 b2 b5
  rw [er] at HI b2 b5
  have c0 : 0 ≤ q * y1 := Int.mul_nonneg b0 (by omega)
  have d1 : 0 ≤ Q ∧ Q < 4294967296 := by rw [← eQ]; exact k_quot a5 hU0 hU1 h10 h11
  have d2 : 0 ≤ V ∧ V < Y := by rw [← eV]; exact ⟨Int.emod_nonneg _ (by omega), Int.emod_lt_of_pos _ a5⟩
  have d3 : 0 ≤ Q0 ∧ Q0 < 4294967296 := by rw [← eQ0]; exact k_quot a5 d2.1 d2.2 h00 h01
  have d4 : 0 ≤ R ∧ R < Y := by rw [← eR]; exact ⟨Int.emod_nonneg _ (by omega), Int.emod_lt_of_pos _ a5⟩
  obtain ⟨d1, d1'⟩ := d1
  obtain ⟨d2, d2'⟩ := d2
  obtain ⟨d3, d3'⟩ := d3
  obtain ⟨d4, d4'⟩ := d4
  have HV := Lib.hid (k_left a5 a6 eQ)
  rw [eV] at HV
  have HR := Lib.hid (k_left a5 a6 eQ0)
  rw [eR] at HR
  have HQ1 := Lib.hid eQ
  have HQ2 := Lib.hid eQ0
  clear eQ eV eQ0 eR
  go_enter Try.func78, Try.ntmps78
  go_wp2_with fail
  refine (bits_LeadingZeros64 y _ (by omega) (by omega)).mono ?_; rintro e w1 ⟨rfl, rfl⟩
  rw [HB.out]
  go_upto_block 0 with fail
  rw [eq]
  clear eq er
  go_cut [15, 16] from 67 to 85 (fun a b wx => ∃ z : Int, a = .int .u64 Q ∧ b = .int .u64 z ∧ w1 = wx)
  case first =>
    clear eY eU eL ey1 ey0 el1 el0
    go_wp2_with fail
    go_loop [15, 16] (fun a b => ∃ q r : Int, a = .int .u64 q ∧ b = .int .u64 r ∧ KInv U Y y1 l1 q r ∧ r < 4294967296) (fun _ b => (4294967296 - intOf b).toNat)
    case atStart => exact ⟨q, r, rfl, rfl, HI.out, b5⟩
    case round =>
      obtain ⟨q, r, rfl, rfl, hk, hr⟩ := hrel
      have hk' := hk
      obtain ⟨k0, k1, k2, -, -⟩ := hk'
      obtain ⟨k3, k4⟩ := k_bound HK.out k0 k1
      have HS := fun hc => k_step HK.out hU1 h11 h10 hk hc
      have HE := fun hc => Lib.hid (k_exit1 (l1 := l1) HK.out hk hc)
      by_cases hq : 4294967296 ≤ q
      · obtain ⟨m1, m2⟩ := HS (.inl hq)
        clear HS HE hk
        by_cases hb : 4294967296 ≤ r + y1
        · have HQ := Lib.hid (k_exit2 HK.out hU1 h10 m2 hb)
          go_wp2_with fail
          go_meet
          exact ⟨_, vint (HQ.out.symm.trans HQ1.out), rfl, rfl⟩
        · go_wp2_with fail
          go_round
          case rel => exact ⟨_, _, rfl, rfl, m2, by omega⟩
          case measure => simp [intOf]; omega
      · by_cases hc : 4294967296 * r + l1 < q * y0
        · obtain ⟨m1, m2⟩ := HS (.inr hc)
          clear HS HE hk
          by_cases hb : 4294967296 ≤ r + y1
          · have HQ := Lib.hid (k_exit2 HK.out hU1 h10 m2 hb)
            go_wp2_with fail
            go_meet
            exact ⟨_, vint (HQ.out.symm.trans HQ1.out), rfl, rfl⟩
          · go_wp2_with fail
            go_round
            case rel => exact ⟨_, _, rfl, rfl, m2, by omega⟩
            case measure => simp [intOf]; omega
        · have HQ := HE (by omega)
          clear HS HE hk
          go_wp2_with fail
          go_meet
          exact ⟨_, vint (HQ.out.symm.trans HQ1.out), rfl, rfl⟩
  case rest =>
    obtain ⟨z, rfl, rfl, rfl⟩ := hcut
    obtain ⟨⟨b0, b1, b2, b3, b4⟩, b5⟩ := k_start HK.out d2 d2' h00 h01
    have HI := Lib.hid (k_start HK.out d2 d2' h00 h01).1
    clear b3 b4 c0
    obtain ⟨q2, eq2⟩ : ∃ z, V / y1 = z := ⟨_, rfl⟩
    obtain ⟨r2, er2⟩ : ∃ z, V - q2 * y1 = z := ⟨_, rfl⟩
    rw [eq2] at HI b0 b1 b2 b5
    rw [er2] at HI b2 b5
    have c0 : 0 ≤ q2 * y1 := Int.mul_nonneg b0 (by omega)
    have eV := HV.out
    clear eY eU eL ey1 ey0 el1 el0
    go_upto_block 2 with fail
    rw [eq2]
    clear eq2 er2
    go_cut [18, 16] from 102 to 120 (fun a b wx => ∃ z : Int, a = .int .u64 Q0 ∧ b = .int .u64 z ∧ w1 = wx)
    case first =>
      go_wp2_with fail
      go_loop [18, 16] (fun a b => ∃ q r : Int, a = .int .u64 q ∧ b = .int .u64 r ∧ KInv V Y y1 l0 q r ∧ r < 4294967296) (fun _ b => (4294967296 - intOf b).toNat)
      case atStart => exact ⟨_, _, rfl, rfl, HI.out, b5⟩
      case round =>
        obtain ⟨q, r, rfl, rfl, hk, hr⟩ := hrel
        have hk' := hk
        obtain ⟨k0, k1, k2, -, -⟩ := hk'
        obtain ⟨k3, k4⟩ := k_bound HK.out k0 k1
        have HS := fun hc => k_step HK.out d2' h01 h00 hk hc
        have HE := fun hc => Lib.hid (k_exit1 (l1 := l0) HK.out hk hc)
        by_cases hq : 4294967296 ≤ q
        · obtain ⟨m1, m2⟩ := HS (.inl hq)
          clear HS HE hk
          by_cases hb : 4294967296 ≤ r + y1
          · have HQ := Lib.hid (k_exit2 HK.out d2' h00 m2 hb)
            go_wp2_with fail
            go_meet
            exact ⟨_, vint (HQ.out.symm.trans HQ2.out), rfl, rfl⟩
          · go_wp2_with fail
            go_round
            case rel => exact ⟨_, _, rfl, rfl, m2, by omega⟩
            case measure => simp [intOf]; omega
        · by_cases hc : 4294967296 * r + l0 < q * y0
          · obtain ⟨m1, m2⟩ := HS (.inr hc)
            clear HS HE hk
            by_cases hb : 4294967296 ≤ r + y1
            · have HQ := Lib.hid (k_exit2 HK.out d2' h00 m2 hb)
              go_wp2_with fail
              go_meet
              exact ⟨_, vint (HQ.out.symm.trans HQ2.out), rfl, rfl⟩
            · go_wp2_with fail
              go_round
              case rel => exact ⟨_, _, rfl, rfl, m2, by omega⟩
              case measure => simp [intOf]; omega
          · have HQ := HE (by omega)
            clear HS HE hk
            go_wp2_with fail
            go_meet
            exact ⟨_, vint (HQ.out.symm.trans HQ2.out), rfl, rfl⟩
    case rest =>
      obtain ⟨z, rfl, rfl, rfl⟩ := hcut
      have eR := HR.out
      go_wp2_with fail
      go_ret2
      exact same_of rfl

theorem and_low {Y : Int} (h0 : 0 ≤ Y) (h1 : Y < 18446744073709551616) : bits BinOp.and IntKind.u64 Y 4294967295 = Y % 4294967296 := by
  obtain ⟨n, rfl⟩ := Int.eq_ofNat_of_zero_le h0
  rw [u64_and _ _ h0 h1 (by omega) (by omega), Int.toNat_natCast]
  show ((n &&& 2 ^ 32 - 1 : Nat) : Int) = _
  rw [Nat.and_two_pow_sub_one_eq_mod]
  rfl

theorem div64_zero (lo y : Int) (hy : 0 < y) (hy2 : y ≤ 18446744073709551615) (hl0 : 0 ≤ lo) (hl : lo ≤ 18446744073709551615) (w : World) :
    Calls Try.prog 78 #[.int .u64 0, .int .u64 lo, .int .u64 y] w (Ret (.tuple #[.int .u64 (lo / y), .int .u64 (lo % y)]) w) := by
  have e1 : (y == 0) = false := by rw [beq_eq_false_iff_ne]; omega
  have a1 := Int.ediv_nonneg hl0 (show 0 ≤ y by omega)
  have a2 := Int.ediv_le_self y hl0
  have a3 := Int.emod_nonneg lo (show y ≠ 0 by omega)
  have a4 := Int.emod_lt_of_pos lo hy
  go_enter Try.func78, Try.ntmps78
  go_wp2_with fail
  go_region
  all_goals
    go_wp2
    go_ret2
    exact ret_of rfl (by go_grown)

theorem div64 (hi lo y : Int) (hh : 0 ≤ hi) (hy : hi < y) (hy2 : y ≤ 18446744073709551615) (hl0 : 0 ≤ lo) (hl : lo ≤ 18446744073709551615) (w : World) :
    Calls Try.prog 78 #[.int .u64 hi, .int .u64 lo, .int .u64 y] w (Ret (.tuple #[.int .u64 ((hi * 18446744073709551616 + lo) / y), .int .u64 ((hi * 18446744073709551616 + lo) % y)]) w) := by
  by_cases h0 : hi = 0
  · subst h0
    rw [Int.zero_mul, Int.zero_add]
    exact div64_zero lo y hy hy2 hl0 hl w
  · have hbl : ∃ s : Nat, 64 - (Lib.bitLen y.toNat : Int) = (s : Int) := by
      have := Lib.bitLen_le y.toNat 64 (by omega) (by have : (2 : Nat) ^ 64 = 18446744073709551616 := rfl; omega)
      exact ⟨64 - Lib.bitLen y.toNat, by omega⟩
    obtain ⟨s, hb⟩ := hbl
    obtain ⟨hs, hY1, hY2⟩ := norm_bits y s (by omega) hy2 hb
    obtain ⟨hU, hU0, hU1, hN⟩ := norm_num hi lo y s hs (by omega) hy hl0 (by omega) hY2
    have hL : 0 ≤ IntKind.u64.wrap (lo * 2 ^ s) ∧ IntKind.u64.wrap (lo * 2 ^ s) < 18446744073709551616 := by rw [IntKind.wrap_u64]; omega
    obtain ⟨e1, e2⟩ := norm_last (Y := y * 2 ^ s) (L := IntKind.u64.wrap (lo * 2 ^ s)) (l1 := IntKind.u64.wrap (lo * 2 ^ s) / 4294967296) (l0 := IntKind.u64.wrap (lo * 2 ^ s) % 4294967296) rfl (by omega) hN (by omega) rfl rfl rfl rfl
    rw [e1, e2]
    refine Calls.mono (div64_walk hi lo y (y * 2 ^ s) (hi * 2 ^ s + lo / 2 ^ (64 - s)) (IntKind.u64.wrap (lo * 2 ^ s)) (y * 2 ^ s / 4294967296) (y * 2 ^ s % 4294967296) (IntKind.u64.wrap (lo * 2 ^ s) / 4294967296) (IntKind.u64.wrap (lo * 2 ^ s) % 4294967296) _ _ _ _ s
      (by omega) hy hy2 hl0 hl hs hb (by rw [IntKind.wrap_u64]; omega) hU rfl rfl (and_low (by omega) hY2) rfl (and_low hL.1 hL.2) (KDiv.of hY1 hY2) hU0 hU1 (by omega) (by omega) (by omega) (by omega) rfl rfl rfl rfl w) fun _ _ h => h.ret

end Go.Proofs.Ytognbeejobfpfaa
