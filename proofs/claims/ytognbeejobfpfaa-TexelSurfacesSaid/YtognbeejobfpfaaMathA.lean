/- Plain numbers: wide numbers as integers; no program is named here. Plain numbers, second part: signs, products, order, worlds below. Plain numbers, third part: shifts of wide numbers. Plain numbers, fourth part: a quotient of 128 bits by 64, digit by digit (two digits of 32 bits). Plain numbers, fifth part: quotients that are rounded down. Plain numbers, seventh part: the nearest int64. Plain numbers, sixth part: roots, bit by bit. -/
import Derived.Test.YtognbeejobfpfaaBase
import Derived.Lib.BitFns
import Derived.Lib.ItoaNum
namespace Go.Proofs.Ytognbeejobfpfaa
open Go.RowKit
set_option linter.unusedVariables false
set_option linter.unusedSimpArgs false

def wHi (x : Int) : Int := x / 18446744073709551616
def wLo (x : Int) : Int := x % 18446744073709551616
def InW (x : Int) : Prop := -170141183460469231731687303715884105728 ≤ x ∧ x < 170141183460469231731687303715884105728
def InWb (x : Int) : Bool := decide (-170141183460469231731687303715884105728 ≤ x ∧ x < 170141183460469231731687303715884105728)
def InI (n : Int) : Prop := -9223372036854775808 ≤ n ∧ n ≤ 9223372036854775807
def InU (n : Int) : Prop := 0 ≤ n ∧ n < 18446744073709551616
def InU2 (n : Int) : Prop := 0 ≤ n ∧ n < 340282366920938463463374607431768211456
def fits (x : Int) : Bool := decide (-9223372036854775808 ≤ x ∧ x ≤ 9223372036854775807)
def intN (x : Int) : Int := if fits x then x else 0
def wrap128 (x : Int) : Int := (x + 170141183460469231731687303715884105728) % 340282366920938463463374607431768211456 - 170141183460469231731687303715884105728
def neg128 (x : Int) : Int := (-x) % 340282366920938463463374607431768211456
def absU (n : Int) : Int := if n < 0 then -n else n
/-- A wide number as a value. -/
abbrev W (x : Int) : Value := .agg #[.int .i64 (wHi x), .int .u64 (wLo x)]

theorem InWb_true {x : Int} (h : InW x) : InWb x = true := by unfold InWb; exact decide_eq_true h
theorem InWb_false {x : Int} (h : ¬ InW x) : InWb x = false := by unfold InWb; exact decide_eq_false h
theorem InWb_iff {x : Int} : InWb x = true ↔ InW x := by unfold InWb InW; simp
theorem fits_true {x : Int} (h : InI x) : fits x = true := by unfold fits; exact decide_eq_true h
theorem fits_iff {x : Int} : fits x = true ↔ InI x := by unfold fits InI; simp
theorem fits_false {x : Int} (h : ¬ InI x) : fits x = false := by unfold fits; exact decide_eq_false h
theorem intN_fits {x : Int} (h : fits x = true) : intN x = x := by unfold intN; rw [if_pos h]
theorem intN_not {x : Int} (h : fits x = false) : intN x = 0 := by unfold intN; rw [if_neg (by simp [h])]
theorem wrap128_in {x : Int} (h : InW x) : wrap128 x = x := by unfold wrap128 InW at *; omega
theorem InW_wrap128 (x : Int) : InW (wrap128 x) := by unfold wrap128 InW; omega
theorem InW_of_I {x : Int} (h : InI x) : InW x := by unfold InI InW at *; omega
theorem absU_InU {n : Int} (h : InI n) : InU (absU n) := by unfold InI InU absU at *; omega
theorem absU_le {n : Int} (h : InI n) : 0 ≤ absU n ∧ absU n ≤ 9223372036854775808 := by unfold InI absU at *; omega

theorem wHi_I {x : Int} (h : InW x) : InI (wHi x) := by unfold InW InI wHi at *; omega
theorem wLo_U (x : Int) : InU (wLo x) := by unfold InU wLo; omega
theorem wHi_U {x : Int} (h : InU2 x) : InU (wHi x) := by unfold InU2 InU wHi at *; omega
theorem w_split (x : Int) : x = wHi x * 18446744073709551616 + wLo x := by unfold wHi wLo; omega
theorem w_of (hi lo : Int) (h1 : InI hi) (h2 : InU lo) : ∃ x, InW x ∧ hi = wHi x ∧ lo = wLo x :=
  ⟨hi * 18446744073709551616 + lo, by unfold InI InU InW at *; omega, by unfold InU wHi at *; omega, by unfold InU wLo at *; omega⟩
theorem u_of (hi lo : Int) (h1 : InU hi) (h2 : InU lo) : ∃ x, InU2 x ∧ hi = wHi x ∧ lo = wLo x :=
  ⟨hi * 18446744073709551616 + lo, by unfold InU InU2 at *; omega, by unfold InU wHi at *; omega, by unfold InU wLo at *; omega⟩
theorem w_inj {x y : Int} (h1 : wHi x = wHi y) (h2 : wLo x = wLo y) : x = y := by unfold wHi wLo at *; omega
theorem wHi_zero : wHi 0 = 0 := rfl
theorem wLo_zero : wLo 0 = 0 := rfl
theorem wHi_neg {x : Int} : wHi x < 0 ↔ x < 0 := by unfold wHi; omega

theorem wHi_int {n : Int} (h : InI n) : wHi n = n / 9223372036854775808 := by unfold InI wHi at *; omega
theorem wLo_int (n : Int) : IntKind.u64.wrap n = wLo n := by rw [IntKind.wrap_u64]; rfl
theorem wInt_test {x : Int} (h : InW x) : (wHi x != wrap64 (wLo x) / 9223372036854775808) = !fits x := by
  rw [Bool.eq_iff_iff]; unfold fits InW wHi wLo wrap64 at *; simp; omega
theorem wInt_val {x : Int} (h : fits x = true) : wrap64 (wLo x) = x := by
  rw [fits_iff] at h; unfold InI wLo wrap64 at *; omega

theorem size_neg {n : Int} (h : InI n) (hn : n < 0) : IntKind.u64.wrap (-IntKind.u64.wrap n) = absU n := by
  simp only [IntKind.wrap_u64]; unfold InI absU at *; omega
theorem size_pos {n : Int} (h : InI n) (hn : ¬ n < 0) : IntKind.u64.wrap n = absU n := by
  simp only [IntKind.wrap_u64]; unfold InI absU at *; omega

theorem neg128_U2 (x : Int) : InU2 (neg128 x) := by unfold neg128 InU2; omega
theorem turned_lo (x : Int) : (0 + 18446744073709551616 - wLo x - 0) % 18446744073709551616 = wLo (neg128 x) := by unfold neg128 wLo; omega
theorem turned_hi {x : Int} (_h : InU2 x) : (0 + 18446744073709551616 - wHi x - (if 0 < wLo x then 1 else 0)) % 18446744073709551616 = wHi (neg128 x) := by
  unfold InU2 neg128 wLo wHi at *; split <;> omega

theorem signed_hi (x : Int) (h : InU2 x) : wrap64 (wHi x) = wHi (wrap128 x) := by unfold InU2 wHi wrap128 wrap64 at *; omega
theorem signed_lo (x : Int) : wLo x = wLo (wrap128 x) := by unfold wLo wrap128; omega
theorem wrap128_neg128 (x : Int) : wrap128 (neg128 x) = wrap128 (-x) := by unfold wrap128 neg128; omega

end Go.Proofs.Ytognbeejobfpfaa

namespace Go.Proofs.Ytognbeejobfpfaa
open Go.RowKit
set_option linter.unusedVariables false
set_option linter.unusedSimpArgs false

theorem or_zero {a b : Int} (ha : InU a) (hb : InU b) (h : a = 0 ∧ b = 0) : (bits BinOp.or IntKind.u64 a b == 0) = true := by
  obtain ⟨rfl, rfl⟩ := h; decide
theorem or_not_zero {a b : Int} (ha : InU a) (hb : InU b) (h : ¬ (a = 0 ∧ b = 0)) : (bits BinOp.or IntKind.u64 a b == 0) = false := by
  obtain ⟨ha0, ha1⟩ := ha
  obtain ⟨hb0, hb1⟩ := hb
  rw [u64_or a b ha0 ha1 hb0 hb1]
  rw [beq_eq_false_iff_ne]
  intro h2
  have h3 : a.toNat ||| b.toNat = 0 := by omega
  rw [Nat.or_eq_zero_iff] at h3
  omega

theorem sg_pos_in {x : Int} (h : InU2 x) (hx : x < 170141183460469231731687303715884105728) : wrap128 x = x ∧ 0 ≤ wHi (wrap128 x) ∧ InWb x = true := by
  have h1 : InW x := by unfold InU2 InW at *; omega
  rw [wrap128_in h1]
  exact ⟨rfl, by unfold InU2 wHi at *; omega, InWb_true h1⟩
theorem sg_pos_out {x : Int} (h : InU2 x) (hx : ¬ x < 170141183460469231731687303715884105728) : wHi (wrap128 x) < 0 ∧ InWb x = false ∧ ¬ (wHi x = 0 ∧ wLo x = 0) := by
  refine ⟨?_, InWb_false (by unfold InW; omega), ?_⟩
  · unfold InU2 wHi wrap128 at *; omega
  · intro h2
    have := w_split x
    rw [h2.1, h2.2] at this
    omega
theorem sg_neg_in {x : Int} (h0 : 0 < x) (hx : x ≤ 170141183460469231731687303715884105728) : wHi (wrap128 (-x)) < 0 ∧ InWb (-x) = true := by
  have h1 : InW (-x) := by unfold InW at *; omega
  rw [wrap128_in h1]
  exact ⟨by unfold wHi at *; omega, InWb_true h1⟩
theorem sg_neg_out {x : Int} (h : InU2 x) (hx : ¬ x ≤ 170141183460469231731687303715884105728) : 0 ≤ wHi (wrap128 (-x)) ∧ InWb (-x) = false ∧ ¬ (wHi (neg128 x) = 0 ∧ wLo (neg128 x) = 0) := by
  refine ⟨?_, InWb_false (by unfold InW; omega), ?_⟩
  · unfold InU2 wHi wrap128 at *; omega
  · intro h2
    have := w_split (neg128 x)
    rw [h2.1, h2.2] at this
    unfold InU2 neg128 at *
    omega

theorem absU_mul_pos {a b : Int} (h : (a < 0 ↔ b < 0)) : absU a * absU b = a * b := by
  unfold absU
  by_cases ha : a < 0
  · rw [if_pos ha, if_pos (h.1 ha), Int.neg_mul_neg]
  · rw [if_neg ha, if_neg (fun hb => ha (h.2 hb))]
theorem absU_mul_neg {a b : Int} (h : ¬ (a < 0 ↔ b < 0)) : -(absU a * absU b) = a * b := by
  unfold absU
  by_cases ha : a < 0
  · have hb : ¬ b < 0 := fun hb => h ⟨fun _ => hb, fun _ => ha⟩
    rw [if_pos ha, if_neg hb, Int.neg_mul, Int.neg_neg]
  · have hb : b < 0 := by
      by_cases hb : b < 0
      · exact hb
      · exact (h ⟨fun x => (ha x).elim, fun x => (hb x).elim⟩).elim
    rw [if_neg ha, if_pos hb, Int.mul_neg, Int.neg_neg]
theorem absU_mul_bound {a b : Int} (ha : InI a) (hb : InI b) : 0 ≤ absU a * absU b ∧ absU a * absU b ≤ 85070591730234615865843651857942052864 := by
  have h1 := absU_le ha
  have h2 := absU_le hb
  refine ⟨Int.mul_nonneg h1.1 h2.1, ?_⟩
  have h3 := Int.mul_le_mul h1.2 h2.2 h2.1 (by omega)
  omega
theorem absU_mul_U2 {a b : Int} (ha : InI a) (hb : InI b) : InU2 (absU a * absU b) := by
  have := absU_mul_bound ha hb
  unfold InU2; omega
theorem mul_bound {a b : Int} (ha : InI a) (hb : InI b) : -85070591730234615865843651857942052864 ≤ a * b ∧ a * b ≤ 85070591730234615865843651857942052864 := by
  have h := absU_mul_bound ha hb
  by_cases hs : (a < 0 ↔ b < 0)
  · rw [absU_mul_pos hs] at h; omega
  · have := absU_mul_neg hs; omega
theorem mul_InW {a b : Int} (ha : InI a) (hb : InI b) : InW (a * b) := by
  have := mul_bound ha hb
  unfold InW; omega
theorem mul_sg_pos {a b : Int} (ha : InI a) (hb : InI b) (h : (a < 0 ↔ b < 0)) : wrap128 (absU a * absU b) = a * b := by
  rw [absU_mul_pos h, wrap128_in (mul_InW ha hb)]
theorem mul_sg_neg {a b : Int} (ha : InI a) (hb : InI b) (h : ¬ (a < 0 ↔ b < 0)) : wrap128 (-(absU a * absU b)) = a * b := by
  rw [absU_mul_neg h, wrap128_in (mul_InW ha hb)]

def sgn (b : Bool) (x : Int) : Int := if b then -x else x
def cmpW (x y : Int) : Int := if x = y then 0 else if x < y then -1 else 1
theorem w_lt {x y : Int} : x < y ↔ wHi x < wHi y ∨ (wHi x = wHi y ∧ wLo x < wLo y) := by
  unfold wHi wLo
  omega
theorem cmpW_eq {x y : Int} (h : x = y) : cmpW x y = 0 := by unfold cmpW; rw [if_pos h]
theorem cmpW_lt {x y : Int} (h : x < y) : cmpW x y = -1 := by unfold cmpW; rw [if_neg (by omega), if_pos h]
theorem cmpW_gt {x y : Int} (h : y < x) : cmpW x y = 1 := by unfold cmpW; rw [if_neg (by omega), if_neg (by omega)]
def u128 (x : Int) : Int := x % 340282366920938463463374607431768211456
theorem u128_U2 (x : Int) : InU2 (u128 x) := by unfold u128 InU2; omega
theorem u128_hi {x : Int} (h : InW x) : IntKind.u64.wrap (wHi x) = wHi (u128 x) := by rw [IntKind.wrap_u64]; unfold InW wHi u128 at *; omega
theorem u128_lo (x : Int) : wLo x = wLo (u128 x) := by unfold wLo u128; omega
theorem wrap128_u128 (x : Int) : wrap128 (u128 x) = wrap128 x := by unfold wrap128 u128; omega
theorem neg_u128 (x : Int) : neg128 (u128 x) = u128 (-x) := by unfold neg128 u128; omega
def negOk (x : Int) : Bool := decide (x ≠ -170141183460469231731687303715884105728)
def negN (x : Int) : Int := if negOk x then -x else 0
theorem negOk_true {x : Int} (h : x ≠ -170141183460469231731687303715884105728) : negOk x = true := by unfold negOk; exact decide_eq_true h
theorem negOk_false {x : Int} (h : x = -170141183460469231731687303715884105728) : negOk x = false := by unfold negOk; exact decide_eq_false (fun h2 => h2 h)
theorem negN_ok {x : Int} (h : negOk x = true) : negN x = -x := by unfold negN; rw [if_pos h]
theorem negN_not {x : Int} (h : negOk x = false) : negN x = 0 := by unfold negN; rw [if_neg (by simp [h])]
theorem negN_in {x : Int} (h : InW x) : InW (negN x) := by
  unfold negN negOk InW at *
  split <;> simp_all <;> omega
theorem neg_hi_lt {x : Int} (h : InW x) : (wHi x < 0) ↔ x < 0 := by unfold wHi; omega

end Go.Proofs.Ytognbeejobfpfaa

namespace Go.Proofs.Ytognbeejobfpfaa
open Go.RowKit
set_option linter.unusedVariables false
set_option linter.unusedSimpArgs false

theorem pow_pos' (n : Nat) : (0 : Int) < 2 ^ n := Int.pow_pos (by decide)
theorem pow64 (n : Nat) (h : n ≤ 64) : (2 : Int) ^ n * 2 ^ (64 - n) = 18446744073709551616 := by
  rw [← Int.pow_add, show n + (64 - n) = 64 by omega]; rfl
theorem shr_hi (x : Int) (n : Nat) : wHi x / 2 ^ n = wHi (x / 2 ^ n) := by
  unfold wHi
  rw [Int.ediv_ediv_of_nonneg (by omega), Int.ediv_ediv_of_nonneg (Int.le_of_lt (pow_pos' n)), Int.mul_comm]

theorem or_add (i : Nat) (a b : Int) (ha : 0 ≤ a) (ha2 : a < 2 ^ i) (hb : 0 ≤ b) (h1 : a < 18446744073709551616) (h2 : 2 ^ i * b < 18446744073709551616) : bits BinOp.or IntKind.u64 a (2 ^ i * b) = a + 2 ^ i * b := by
  have hp := pow_pos' i
  have h3 : 0 ≤ 2 ^ i * b := Int.mul_nonneg (Int.le_of_lt hp) hb
  rw [u64_or a _ ha h1 h3 h2]
  obtain ⟨A, rfl⟩ := Int.eq_ofNat_of_zero_le ha
  obtain ⟨B, rfl⟩ := Int.eq_ofNat_of_zero_le hb
  have e : ((2 : Int) ^ i * (B : Int)).toNat = 2 ^ i * B := by
    have : (2 : Int) ^ i * (B : Int) = ((2 ^ i * B : Nat) : Int) := by rw [Int.natCast_mul, Int.natCast_pow]; rfl
    rw [this, Int.toNat_natCast]
  have hA : A < 2 ^ i := by
    have : (A : Int) < ((2 ^ i : Nat) : Int) := by rw [Int.natCast_pow]; exact ha2
    omega
  rw [e, Int.toNat_natCast, Nat.or_comm, ← Nat.two_pow_add_eq_or_of_lt hA B]
  rw [Int.natCast_add, Int.natCast_mul, Int.natCast_pow]
  exact Int.add_comm _ _

theorem shr_lo {x : Int} (h : InW x) (n : Nat) (hn0 : 0 < n) (hn : n < 64) :
    bits BinOp.or IntKind.u64 (wLo x / 2 ^ n) (IntKind.u64.wrap (IntKind.u64.wrap (wHi x) * 2 ^ (64 - n))) = wLo (x / 2 ^ n) := by
  have hp := pow_pos' n
  have hq := pow_pos' (64 - n)
  have hpq := pow64 n (by omega)
  have hl := wLo_U x
  have hs := w_split x
  have e1 : IntKind.u64.wrap (IntKind.u64.wrap (wHi x) * 2 ^ (64 - n)) = 2 ^ (64 - n) * (wHi x % 2 ^ n) := by
    rw [IntKind.wrap_u64, IntKind.wrap_u64, Int.mul_comm, show (18446744073709551616 : Int) = 2 ^ (64 - n) * 2 ^ n from by rw [Int.mul_comm]; exact hpq.symm, Int.mul_emod_mul_of_pos _ _ hq]
    rw [Int.emod_emod_of_dvd]
    exact ⟨_, by rw [Int.mul_comm]⟩
  have hr0 := Int.emod_nonneg (wHi x) (Int.ne_of_gt hp)
  have hr1 := Int.emod_lt_of_pos (wHi x) hp
  have ha0 : 0 ≤ wLo x / 2 ^ n := Int.ediv_nonneg hl.1 (Int.le_of_lt hp)
  have ha1 : wLo x / 2 ^ n < 2 ^ (64 - n) := Int.ediv_lt_of_lt_mul hp (by rw [Int.mul_comm, hpq]; exact hl.2)
  have hb1 : 2 ^ (64 - n) * (wHi x % 2 ^ n) + 2 ^ (64 - n) ≤ 18446744073709551616 := by
    have := Int.mul_le_mul_of_nonneg_left (show wHi x % 2 ^ n + 1 ≤ 2 ^ n by omega) (Int.le_of_lt hq)
    rw [Int.mul_add, Int.mul_one, Int.mul_comm (2 ^ (64 - n)) (2 ^ n), hpq] at this
    exact this
  have hm0 : 0 ≤ 2 ^ (64 - n) * (wHi x % 2 ^ n) := Int.mul_nonneg (Int.le_of_lt hq) hr0
  rw [e1, or_add (64 - n) _ _ ha0 ha1 hr0 (by omega) (by omega)]
  -- the other side
  have e2 : x / 2 ^ n = wHi x * 2 ^ (64 - n) + wLo x / 2 ^ n := by
    have : x = wLo x + (wHi x * 2 ^ (64 - n)) * 2 ^ n := by
      rw [Int.mul_assoc, Int.mul_comm (2 ^ (64 - n)), hpq]; omega
    rw [this, Int.add_mul_ediv_right _ _ (Int.ne_of_gt hp)]
    rw [← this]; exact Int.add_comm _ _
  have e3 : wHi x = 2 ^ n * (wHi x / 2 ^ n) + wHi x % 2 ^ n := by rw [Int.mul_ediv_add_emod]
  have e4 : x / 2 ^ n = (wLo x / 2 ^ n + 2 ^ (64 - n) * (wHi x % 2 ^ n)) + 18446744073709551616 * (wHi x / 2 ^ n) := by
    rw [e2, ← hpq]
    generalize wLo x / 2 ^ n = A
    generalize hQ : wHi x / 2 ^ n = Q at *
    generalize hR : wHi x % 2 ^ n = R at *
    generalize (2 : Int) ^ (64 - n) = q at *
    generalize (2 : Int) ^ n = p at *
    rw [e3]
    grind
  show _ = (x / 2 ^ n) % 18446744073709551616
  rw [e4, Int.add_mul_emod_self_left]
  exact (Int.emod_eq_of_lt (by omega) (by omega)).symm

theorem shr_far1 {x : Int} (h : InW x) {k : Nat} (hk : 127 ≤ k) : wHi x / 9223372036854775808 = x / 2 ^ k := by
  have e : (2 : Int) ^ k = 170141183460469231731687303715884105728 * 2 ^ (k - 127) := by
    have := Int.pow_add 2 127 (k - 127)
    rw [show 127 + (k - 127) = k by omega] at this
    exact this
  have hp := pow_pos' (k - 127)
  unfold InW at h
  unfold wHi
  by_cases hx : x < 0
  · have h1 : x / 18446744073709551616 / 9223372036854775808 = -1 := by omega
    rw [h1]
    refine (Int.ediv_eq_iff_of_pos (pow_pos' k)).2 ⟨?_, ?_⟩ |>.symm
    · rw [e]; have := Int.mul_le_mul_of_nonneg_left (show 1 ≤ (2 : Int) ^ (k - 127) by omega) (show (0 : Int) ≤ 170141183460469231731687303715884105728 by omega); omega
    · omega
  · have h1 : x / 18446744073709551616 / 9223372036854775808 = 0 := by omega
    rw [h1]
    refine (Int.ediv_eq_iff_of_pos (pow_pos' k)).2 ⟨?_, ?_⟩ |>.symm
    · omega
    · rw [e]; have := Int.mul_le_mul_of_nonneg_left (show 1 ≤ (2 : Int) ^ (k - 127) by omega) (show (0 : Int) ≤ 170141183460469231731687303715884105728 by omega); omega
theorem shr_far2 (x : Int) {k : Nat} (hk : 64 ≤ k) : wHi x / 2 ^ (k - 64) = x / 2 ^ k := by
  have e : (2 : Int) ^ k = 18446744073709551616 * 2 ^ (k - 64) := by
    have := Int.pow_add 2 64 (k - 64)
    rw [show 64 + (k - 64) = k by omega] at this
    exact this
  unfold wHi
  rw [e, Int.ediv_ediv_of_nonneg (by omega)]
theorem shr_InI {x : Int} (h : InW x) (k : Nat) : InI (wHi x / 2 ^ k) := by
  have hp := pow_pos' k
  have h1 := wHi_I h
  unfold InI at *
  constructor
  · rw [Int.le_ediv_iff_mul_le hp]
    have := Int.mul_le_mul_of_nonneg_left (show 1 ≤ (2 : Int) ^ k by omega) (show (0 : Int) ≤ 9223372036854775808 by omega)
    omega
  · by_cases hx : 0 ≤ wHi x
    · have := Int.ediv_le_self (2 ^ k) hx; omega
    · have := Int.ediv_neg_of_neg_of_pos (show wHi x < 0 by omega) hp; omega
theorem shr_InW {x : Int} (h : InW x) (k : Nat) : InW (x / 2 ^ k) := by
  have h1 := shr_InI h k
  rw [shr_hi] at h1
  unfold InI wHi at h1
  unfold InW
  omega

end Go.Proofs.Ytognbeejobfpfaa

namespace Go.Proofs.Ytognbeejobfpfaa
open Go.RowKit
set_option linter.unusedVariables false
set_option linter.unusedSimpArgs false

theorem ltge (a b : Int) : a < b ∨ b ≤ a := by omega
/-- What stands between two rounds of the digit's correction. -/
def KInv (U Y y1 l1 q r : Int) : Prop := 0 ≤ q ∧ q ≤ 4294967297 ∧ 0 ≤ r ∧ U = q * y1 + r ∧ U * 4294967296 + l1 < q * Y + Y
/-- The divisor, normalized, in two digits. -/
structure KDiv (Y y1 y0 : Int) : Prop where
  e : Y = y1 * 4294967296 + y0
  a : 2147483648 ≤ y1
  b : y1 < 4294967296
  c : 0 ≤ y0
  d : y0 < 4294967296

theorem KDiv.of {Y : Int} (h0 : 9223372036854775808 ≤ Y) (h1 : Y < 18446744073709551616) : KDiv Y (Y / 4294967296) (Y % 4294967296) := ⟨by omega, by omega, by omega, by omega, by omega⟩

theorem KDiv.mul {Y y1 y0 : Int} (h : KDiv Y y1 y0) (q : Int) : q * Y = q * y1 * 4294967296 + q * y0 := by
  rw [h.e, Int.mul_add, Int.mul_assoc]

theorem k_start {U Y y1 y0 l1 : Int} (h : KDiv Y y1 y0) (hU0 : 0 ≤ U) (hU : U < Y) (h0 : 0 ≤ l1) (h1 : l1 < 4294967296) :
    KInv U Y y1 l1 (U / y1) (U - U / y1 * y1) ∧ U - U / y1 * y1 < 4294967296 := by
  obtain ⟨he, ha, hb, hc, hd⟩ := id h
  have e1 := Int.mul_ediv_add_emod U y1
  have e2 := Int.emod_nonneg U (show y1 ≠ 0 by omega)
  have e3 := Int.emod_lt_of_pos U (show 0 < y1 by omega)
  have e4 := Int.ediv_nonneg hU0 (show 0 ≤ y1 by omega)
  rw [Int.mul_comm] at e1
  have hm := h.mul (U / y1)
  have hs := Int.mul_nonneg e4 hc
  have hq : U / y1 ≤ 4294967297 := by
    rcases ltge (U / y1) 4294967298 with h2 | h2
    · omega
    · have := Int.mul_le_mul_of_nonneg_right h2 (show 0 ≤ y1 by omega)
      omega
  refine ⟨⟨e4, hq, by omega, by omega, by omega⟩, by omega⟩

theorem k_step {U Y y1 y0 l1 q r : Int} (h : KDiv Y y1 y0) (hU : U < Y) (h1 : l1 < 4294967296) (h0 : 0 ≤ l1) (k : KInv U Y y1 l1 q r)
    (hc : 4294967296 ≤ q ∨ 4294967296 * r + l1 < q * y0) : 1 ≤ q ∧ KInv U Y y1 l1 (q - 1) (r + y1) := by
  obtain ⟨he, ha, hb, hc', hd⟩ := id h
  obtain ⟨k0, k1, k2, k3, k4⟩ := k
  have hm := h.mul q
  have hm1 : (q - 1) * Y = q * Y - Y := by rw [Int.sub_mul, Int.one_mul]
  have hm2 : (q - 1) * y1 = q * y1 - y1 := by rw [Int.sub_mul, Int.one_mul]
  have hq : 1 ≤ q := by
    rcases hc with hc | hc
    · omega
    · rcases ltge q 1 with h2 | h2
      · have : q = 0 := by omega
        subst this
        simp at hc
        omega
      · exact h2
  refine ⟨hq, by omega, by omega, by omega, by omega, ?_⟩
  rcases hc with hc | hc
  · have := Int.mul_le_mul_of_nonneg_right hc (show 0 ≤ Y by omega)
    omega
  · omega

theorem k_exit1 {U Y y1 y0 l1 q r : Int} (h : KDiv Y y1 y0) (k : KInv U Y y1 l1 q r) (hc : q * y0 ≤ 4294967296 * r + l1) : (U * 4294967296 + l1) / Y = q := by
  obtain ⟨he, ha, hb, hc', hd⟩ := id h
  obtain ⟨k0, k1, k2, k3, k4⟩ := k
  have hm := h.mul q
  rw [Int.ediv_eq_iff_of_pos (by omega)]
  exact ⟨by omega, k4⟩

theorem k_exit2 {U Y y1 y0 l1 q r : Int} (h : KDiv Y y1 y0) (hU : U < Y) (h0 : 0 ≤ l1) (k : KInv U Y y1 l1 q r) (hc : 4294967296 ≤ r) : (U * 4294967296 + l1) / Y = q := by
  refine k_exit1 h k ?_
  obtain ⟨he, ha, hb, hc', hd⟩ := id h
  obtain ⟨k0, k1, k2, k3, k4⟩ := k
  have hq : q < 4294967296 := by
    rcases ltge q 4294967296 with h2 | h2
    · exact h2
    · have := Int.mul_le_mul_of_nonneg_right h2 (show 0 ≤ y1 by omega)
      omega
  have := Int.mul_le_mul_of_nonneg_right (show q ≤ 4294967295 by omega) hc'
  omega

theorem k_bound {Y y1 y0 q : Int} (h : KDiv Y y1 y0) (h0 : 0 ≤ q) (h1 : q ≤ 4294967297) : 0 ≤ q * y0 ∧ q * y0 ≤ 18446744073709551615 := by
  obtain ⟨he, ha, hb, hc, hd⟩ := id h
  refine ⟨Int.mul_nonneg h0 hc, ?_⟩
  have := Int.mul_le_mul_of_nonneg_right h1 hc
  omega

theorem k_quot {U Y l1 : Int} (hY : 0 < Y) (hU0 : 0 ≤ U) (hU : U < Y) (h0 : 0 ≤ l1) (h1 : l1 < 4294967296) : 0 ≤ (U * 4294967296 + l1) / Y ∧ (U * 4294967296 + l1) / Y < 4294967296 := by
  refine ⟨Int.ediv_nonneg (by omega) (by omega), Int.ediv_lt_of_lt_mul hY (by omega)⟩

/-- What is left of a digit, in 64 bits. -/
theorem k_left {U Y l1 Q : Int} (hY0 : 0 < Y) (hY : Y < 18446744073709551616) (hQ : (U * 4294967296 + l1) / Y = Q) :
    IntKind.u64.wrap (IntKind.u64.wrap (IntKind.u64.wrap (U * 4294967296) + l1) - IntKind.u64.wrap (Q * Y)) = (U * 4294967296 + l1) % Y := by
  have e1 := Int.mul_ediv_add_emod (U * 4294967296 + l1) Y
  have e2 := Int.emod_nonneg (U * 4294967296 + l1) (show Y ≠ 0 by omega)
  have e3 := Int.emod_lt_of_pos (U * 4294967296 + l1) hY0
  rw [hQ, Int.mul_comm] at e1
  simp only [IntKind.wrap_u64]
  omega

theorem norm_bits (y : Int) (s : Nat) (h0 : 0 < y) (h1 : y ≤ 18446744073709551615) (hb : 64 - (Lib.bitLen y.toNat : Int) = (s : Int)) :
    s < 64 ∧ 9223372036854775808 ≤ y * 2 ^ s ∧ y * 2 ^ s < 18446744073709551616 := by
  obtain ⟨n, rfl⟩ := Int.eq_ofNat_of_zero_le (show 0 ≤ y by omega)
  have hn : n < 2 ^ 64 := by
    have : (2 : Nat) ^ 64 = 18446744073709551616 := rfl
    omega
  have hb0 := Lib.bitLenAux_bounds 64 n hn (by omega)
  change 1 ≤ Lib.bitLen n ∧ 2 ^ (Lib.bitLen n - 1) ≤ n ∧ n < 2 ^ Lib.bitLen n at hb0
  obtain ⟨b1, b2, b3⟩ := hb0
  rw [Int.toNat_natCast] at hb
  generalize Lib.bitLen n = k at *
  have hk : s = 64 - k := by omega
  have hk2 : k ≤ 64 := by omega
  have e1 : 2 ^ (k - 1) * 2 ^ s = (9223372036854775808 : Nat) := by
    rw [← Nat.pow_add, show k - 1 + s = 63 by omega]
  have e2 : 2 ^ k * 2 ^ s = (18446744073709551616 : Nat) := by
    rw [← Nat.pow_add, show k + s = 64 by omega]
  have hp : 0 < 2 ^ s := Nat.two_pow_pos s
  have g1 := Nat.mul_le_mul_right (2 ^ s) b2
  have g2 := Nat.mul_lt_mul_of_pos_right b3 hp
  have e3 : (n : Int) * 2 ^ s = ((n * 2 ^ s : Nat) : Int) := by rw [Int.natCast_mul, Int.natCast_pow]; rfl
  rw [e3]
  omega

/-- The dividend, shifted, in a head of 64 bits and a rest. -/
theorem norm_num (hi lo y : Int) (s : Nat) (hs : s < 64) (h0 : 0 ≤ hi) (hy : hi < y) (hl0 : 0 ≤ lo) (hl : lo < 18446744073709551616) (hY : y * 2 ^ s < 18446744073709551616) :
    bits BinOp.or IntKind.u64 (IntKind.u64.wrap (hi * 2 ^ s)) (lo / 2 ^ (64 - s)) = hi * 2 ^ s + lo / 2 ^ (64 - s) ∧
    0 ≤ hi * 2 ^ s + lo / 2 ^ (64 - s) ∧ hi * 2 ^ s + lo / 2 ^ (64 - s) < y * 2 ^ s ∧
    (hi * 18446744073709551616 + lo) * 2 ^ s = (hi * 2 ^ s + lo / 2 ^ (64 - s)) * 18446744073709551616 + IntKind.u64.wrap (lo * 2 ^ s) := by
  have hp := pow_pos' s
  have hq := pow_pos' (64 - s)
  have hpq := pow64 s (by omega)
  have a0 : 0 ≤ lo / 2 ^ (64 - s) := Int.ediv_nonneg hl0 (Int.le_of_lt hq)
  have a1 : lo / 2 ^ (64 - s) < 2 ^ s := Int.ediv_lt_of_lt_mul hq (by rw [hpq]; exact hl)
  have b0 : 0 ≤ hi * 2 ^ s := Int.mul_nonneg h0 (Int.le_of_lt hp)
  have b1 : hi * 2 ^ s + 2 ^ s ≤ y * 2 ^ s := by
    have := Int.mul_le_mul_of_nonneg_right (show hi + 1 ≤ y by omega) (Int.le_of_lt hp)
    rw [Int.add_mul, Int.one_mul] at this
    exact this
  have c1 : IntKind.u64.wrap (hi * 2 ^ s) = 2 ^ s * hi := by rw [IntKind.wrap_u64, Int.emod_eq_of_lt b0 (by omega), Int.mul_comm]
  refine ⟨?_, by omega, by omega, ?_⟩
  · have hor : ∀ a b : Int, 0 ≤ a → 0 ≤ b → a < 18446744073709551616 → b < 18446744073709551616 → bits BinOp.or IntKind.u64 a b = bits BinOp.or IntKind.u64 b a := by
      intro a b ha hb ha2 hb2
      rw [u64_or a b ha ha2 hb hb2, u64_or b a hb hb2 ha ha2, Nat.or_comm]
    rw [c1, hor _ _ (by rw [Int.mul_comm]; exact b0) a0 (by rw [Int.mul_comm]; omega) (by omega)]
    rw [or_add s _ _ a0 a1 h0 (by omega) (by rw [Int.mul_comm]; omega)]
    rw [Int.mul_comm, Int.add_comm]
  · rw [IntKind.wrap_u64]
    have d1 := Int.mul_ediv_add_emod lo (2 ^ (64 - s))
    have d3 := Int.emod_nonneg lo (Int.ne_of_gt hq)
    have d4 := Int.emod_lt_of_pos lo hq
    have d5 : lo * 2 ^ s = lo % 2 ^ (64 - s) * 2 ^ s + 18446744073709551616 * (lo / 2 ^ (64 - s)) := by
      rw [← hpq]
      generalize lo / 2 ^ (64 - s) = A at *
      generalize lo % 2 ^ (64 - s) = C at *
      rw [← d1]
      grind
    have d6 := Int.mul_nonneg d3 (Int.le_of_lt hp)
    have d7 : lo % 2 ^ (64 - s) * 2 ^ s < 18446744073709551616 := by
      have := Int.mul_lt_mul_of_pos_right d4 hp
      rw [Int.mul_comm (2 ^ (64 - s)), hpq] at this
      exact this
    have d8 : lo * 2 ^ s % 18446744073709551616 = lo % 2 ^ (64 - s) * 2 ^ s := by
      rw [d5, Int.add_mul_emod_self_left, Int.emod_eq_of_lt d6 d7]
    have d9 : (hi * 18446744073709551616 + lo) * 2 ^ s = hi * 2 ^ s * 18446744073709551616 + lo * 2 ^ s := by grind
    rw [d8, d9]
    omega

/-- The two digits and what is left, put together. -/
theorem norm_last {hi lo y U L l1 l0 Y V Q Q0 R : Int} {s : Nat} (hY : Y = y * 2 ^ s) (hy : 0 < y) (hN : (hi * 18446744073709551616 + lo) * 2 ^ s = U * 18446744073709551616 + L)
    (hL : L = l1 * 4294967296 + l0) (hQ : (U * 4294967296 + l1) / Y = Q) (hV : (U * 4294967296 + l1) % Y = V) (hQ0 : (V * 4294967296 + l0) / Y = Q0) (hR : (V * 4294967296 + l0) % Y = R) :
    (hi * 18446744073709551616 + lo) / y = Q * 4294967296 + Q0 ∧ (hi * 18446744073709551616 + lo) % y = R / 2 ^ s := by
  have hp := pow_pos' s
  have hY0 : 0 < Y := by rw [hY]; exact Int.mul_pos hy hp
  have e1 := Int.mul_ediv_add_emod (U * 4294967296 + l1) Y
  have e2 := Int.mul_ediv_add_emod (V * 4294967296 + l0) Y
  have e3 := Int.emod_nonneg (V * 4294967296 + l0) (Int.ne_of_gt hY0)
  have e4 := Int.emod_lt_of_pos (V * 4294967296 + l0) hY0
  rw [hQ, hV] at e1
  rw [hQ0, hR] at e2
  rw [hR] at e3 e4
  have k : (hi * 18446744073709551616 + lo) * 2 ^ s = (Q * 4294967296 + Q0) * Y + R := by
    rw [hN, hL]
    have : (Q * 4294967296 + Q0) * Y = Y * Q * 4294967296 + Y * Q0 := by grind
    omega
  have kq : (hi * 18446744073709551616 + lo) * 2 ^ s / (y * 2 ^ s) = Q * 4294967296 + Q0 := by
    rw [Int.ediv_eq_iff_of_pos (by rw [← hY]; exact hY0), k, ← hY]
    omega
  have kr : (hi * 18446744073709551616 + lo) * 2 ^ s % (y * 2 ^ s) = R := by
    have := Int.mul_ediv_add_emod ((hi * 18446744073709551616 + lo) * 2 ^ s) (y * 2 ^ s)
    rw [kq, k, ← hY, Int.mul_comm Y] at this
    rw [← hY, k]
    omega
  generalize hi * 18446744073709551616 + lo = N at *
  rw [Int.mul_comm N, Int.mul_comm y, Int.mul_ediv_mul_of_pos _ _ hp] at kq
  rw [Int.mul_comm N, Int.mul_comm y, Int.mul_emod_mul_of_pos _ _ hp] at kr
  refine ⟨kq, ?_⟩
  rw [← kr, Int.mul_ediv_cancel_left _ (Int.ne_of_gt hp)]

end Go.Proofs.Ytognbeejobfpfaa

namespace Go.Proofs.Ytognbeejobfpfaa
open Go.RowKit
set_option linter.unusedVariables false
set_option linter.unusedSimpArgs false

/-- The quotient, rounded down, and what is left, with the divisor's sign. -/
def fq (a d : Int) : Int := if 0 < d then a / d else (-a) / (-d)
def fr (a d : Int) : Int := if 0 < d then a % d else -((-a) % (-d))
def divOk (a d : Int) : Bool := decide (d ≠ 0) && InWb (fq a d)
def divQ (a d : Int) : Int := if divOk a d then fq a d else 0
def divR (a d : Int) : Int := if divOk a d then fr a d else 0

theorem neg_div {A D : Int} (hA : 0 ≤ A) (hD : 0 < D) : (-A) / D = (if A % D = 0 then -(A / D) else -(A / D + 1)) ∧ (-A) % D = (if A % D = 0 then 0 else D - A % D) := by
  have e1 := Int.mul_ediv_add_emod A D
  have e2 := Int.emod_nonneg A (Int.ne_of_gt hD)
  have e3 := Int.emod_lt_of_pos A hD
  rw [Int.ediv_emod_unique hD]
  split
  · refine ⟨?_, by omega, hD⟩
    rw [Int.mul_neg]; omega
  · refine ⟨?_, by omega, by omega⟩
    rw [Int.mul_neg, Int.mul_add]; omega

/-- The quotient's size: as it is, or one more. -/
def dq (b : Bool) (A D : Int) : Int := if b && decide (A % D ≠ 0) then A / D + 1 else A / D
def dr (b : Bool) (A D : Int) : Int := if b && decide (A % D ≠ 0) then D - A % D else A % D

theorem absU_neg {n : Int} (h : n < 0) : absU n = -n := by unfold absU; rw [if_pos h]
theorem absU_pos {n : Int} (h : 0 ≤ n) : absU n = n := by unfold absU; rw [if_neg (by omega)]

theorem fq_dq {a d : Int} (hd : d ≠ 0) : fq a d = sgn (!decide (a < 0) == decide (d < 0)) (dq (!decide (a < 0) == decide (d < 0)) (absU a) (absU d)) ∧
    fr a d = sgn (decide (d < 0)) (dr (!decide (a < 0) == decide (d < 0)) (absU a) (absU d)) := by
  unfold fq fr
  by_cases ha : a < 0 <;> by_cases hd0 : d < 0
  · rw [if_neg (by omega), if_neg (by omega), absU_neg ha, absU_neg hd0]
    simp [ha, hd0, sgn, dq, dr]
  · rw [if_pos (by omega), if_pos (by omega), absU_neg ha, absU_pos (by omega)]
    obtain ⟨e1, e2⟩ := neg_div (A := -a) (D := d) (by omega) (by omega)
    rw [Int.neg_neg] at e1 e2
    simp only [ha, hd0, sgn, dq, dr]
    rw [e1, e2]
    by_cases h0 : -a % d = 0 <;> simp [h0]
  · rw [if_neg (by omega), if_neg (by omega), absU_pos (by omega), absU_neg hd0]
    obtain ⟨e1, e2⟩ := neg_div (A := a) (D := -d) (by omega) (by omega)
    simp only [ha, hd0, sgn, dq, dr]
    rw [e1, e2]
    generalize -d = D at *
    by_cases h0 : a % D = 0 <;> simp [h0]
  · rw [if_pos (by omega), if_pos (by omega), absU_pos (by omega), absU_pos (by omega)]
    simp [ha, hd0, sgn, dq, dr]

theorem divOk_of {a d : Int} {b : Bool} (hd : d ≠ 0) (h : InWb (fq a d) = b) : divOk a d = b := by unfold divOk; simp [hd, h]
theorem divOk_zero (a : Int) : divOk a 0 = false := by unfold divOk; simp
theorem divQ_ok {a d : Int} (h : divOk a d = true) : divQ a d = fq a d := by unfold divQ; rw [if_pos h]
theorem divR_ok {a d : Int} (h : divOk a d = true) : divR a d = fr a d := by unfold divR; rw [if_pos h]
theorem divQ_not {a d : Int} (h : divOk a d = false) : divQ a d = 0 := by unfold divQ; rw [if_neg (by simp [h])]
theorem divR_not {a d : Int} (h : divOk a d = false) : divR a d = 0 := by unfold divR; rw [if_neg (by simp [h])]
theorem divQ_in (a d : Int) : InW (divQ a d) := by
  cases h : divOk a d
  · rw [divQ_not h]; unfold InW; omega
  · rw [divQ_ok h]; unfold divOk at h; simp at h; exact InWb_iff.1 h.2

/-- Two digits of 64 bits by one. -/
theorem two_digits {A D : Int} (h0 : 0 ≤ A) (hD : 0 < D) (hD2 : D < 18446744073709551616) :
    wHi A / D = wHi (A / D) ∧ ((wHi A % D) * 18446744073709551616 + wLo A) / D = wLo (A / D) ∧ ((wHi A % D) * 18446744073709551616 + wLo A) % D = A % D := by
  have e1 := Int.mul_ediv_add_emod (wHi A) D
  have e2 := Int.emod_nonneg (wHi A) (Int.ne_of_gt hD)
  have e3 := Int.emod_lt_of_pos (wHi A) hD
  have l := wLo_U A
  have s := w_split A
  have k1 : A = (wHi A % D) * 18446744073709551616 + wLo A + (wHi A / D * 18446744073709551616) * D := by
    have : (wHi A / D * 18446744073709551616) * D = (D * (wHi A / D)) * 18446744073709551616 := by grind
    rw [this]; omega
  have k2 : A / D = ((wHi A % D) * 18446744073709551616 + wLo A) / D + wHi A / D * 18446744073709551616 := by
    rw [← Int.add_mul_ediv_right _ _ (Int.ne_of_gt hD), ← k1]
  have k3 : A % D = ((wHi A % D) * 18446744073709551616 + wLo A) % D := by
    have := Int.add_mul_emod_self_right ((wHi A % D) * 18446744073709551616 + wLo A) (wHi A / D * 18446744073709551616) D
    rw [← k1] at this
    exact this
  have k4 : 0 ≤ ((wHi A % D) * 18446744073709551616 + wLo A) / D := Int.ediv_nonneg (by have := l.1; omega) (by omega)
  have k5 : ((wHi A % D) * 18446744073709551616 + wLo A) / D < 18446744073709551616 := Int.ediv_lt_of_lt_mul hD (by have := l.2; omega)
  unfold wHi wLo at *
  refine ⟨by omega, by omega, k3.symm⟩

theorem absU_bound {a : Int} (h : InW a) : 0 ≤ absU a ∧ absU a ≤ 170141183460469231731687303715884105728 := by unfold InW absU at *; omega
theorem absU_U2 {a : Int} (h : InW a) : InU2 (absU a) := by have := absU_bound h; unfold InU2; omega
theorem dq_U2 {a d : Int} (b : Bool) (h : InW a) (hd : d ≠ 0) : InU2 (dq b (absU a) (absU d)) := by
  have h1 := absU_bound h
  have h2 : 0 < absU d := by unfold absU; omega
  have h3 := Int.ediv_nonneg h1.1 (show 0 ≤ absU d by omega)
  have h4 := Int.ediv_le_self (absU d) h1.1
  unfold dq InU2
  split <;> omega

end Go.Proofs.Ytognbeejobfpfaa

namespace Go.Proofs.Ytognbeejobfpfaa
open Go.RowKit
set_option linter.unusedVariables false
set_option linter.unusedSimpArgs false

/-- The nearest int64. -/
def clampI (x : Int) : Int := if x < -9223372036854775808 then -9223372036854775808 else if 9223372036854775807 < x then 9223372036854775807 else x
def mdN (a b c : Int) : Int := if c = 0 then 0 else clampI (fq (a * b) c)
theorem clampI_in {x : Int} (h : InI x) : clampI x = x := by unfold InI at h; unfold clampI; rw [if_neg (by omega), if_neg (by omega)]
theorem clampI_I (x : Int) : InI (clampI x) := by unfold clampI InI; split <;> (try split) <;> omega
theorem clampI_lo {x : Int} (h : ¬ InI x) (h2 : x < 0) : clampI x = -9223372036854775808 := by unfold InI at h; unfold clampI; rw [if_pos (by omega)]
theorem clampI_hi {x : Int} (h : ¬ InI x) (h2 : ¬ x < 0) : clampI x = 9223372036854775807 := by unfold InI at h; unfold clampI; rw [if_neg (by omega), if_pos (by omega)]
theorem fq_small {x d : Int} (hd : d ≠ 0) (h : -85070591730234615865843651857942052864 ≤ x ∧ x ≤ 85070591730234615865843651857942052864) : InW (fq x d) := by
  have key : ∀ y e : Int, 0 < e → -85070591730234615865843651857942052864 ≤ y → y ≤ 85070591730234615865843651857942052864 → InW (y / e) := by
    intro y e he h1 h2
    have e1 := Int.mul_ediv_add_emod y e
    have e2 := Int.emod_nonneg y (Int.ne_of_gt he)
    have e3 := Int.emod_lt_of_pos y he
    unfold InW
    constructor
    · rw [Int.le_ediv_iff_mul_le he]
      have := Int.mul_le_mul_of_nonneg_left (show 1 ≤ e by omega) (show (0 : Int) ≤ 170141183460469231731687303715884105728 by omega)
      omega
    · rw [Int.ediv_lt_iff_lt_mul he]
      have := Int.mul_le_mul_of_nonneg_left (show 1 ≤ e by omega) (show (0 : Int) ≤ 170141183460469231731687303715884105728 by omega)
      omega
  unfold fq
  split
  · exact key _ _ (by assumption) h.1 h.2
  · exact key _ _ (by omega) (by omega) (by omega)
theorem divOk_mul {a b c : Int} (ha : InI a) (hb : InI b) (hc : c ≠ 0) : divOk (a * b) c = true := by
  have h := mul_bound ha hb
  exact divOk_of hc (InWb_true (fq_small hc h))

end Go.Proofs.Ytognbeejobfpfaa

namespace Go.Proofs.Ytognbeejobfpfaa
open Go.RowKit
set_option linter.unusedVariables false
set_option linter.unusedSimpArgs false

def sqLoop (x : Int) : Nat → Int → Int
  | 0, r => r
  | n + 1, r => sqLoop x n (if (r + 2 ^ n) * (r + 2 ^ n) ≤ x then r + 2 ^ n else r)
/-- The root, rounded down; 0 of what is below 0. -/
def sqN (x : Int) : Int := if x < 0 then 0 else sqLoop x 64 0

theorem sqLoop_yes {x r : Int} {n : Nat} (h : (r + 2 ^ n) * (r + 2 ^ n) ≤ x) : sqLoop x (n + 1) r = sqLoop x n (r + 2 ^ n) := by
  show sqLoop x n _ = _; rw [if_pos h]
theorem sqLoop_no {x r : Int} {n : Nat} (h : ¬ (r + 2 ^ n) * (r + 2 ^ n) ≤ x) : sqLoop x (n + 1) r = sqLoop x n r := by
  show sqLoop x n _ = _; rw [if_neg h]

theorem sqLoop_spec (x : Int) : ∀ (n : Nat) (r : Int), 0 ≤ r → r * r ≤ x → x < (r + 2 ^ n) * (r + 2 ^ n) → r ≤ sqLoop x n r ∧ sqLoop x n r < r + 2 ^ n ∧ sqLoop x n r * sqLoop x n r ≤ x ∧ x < (sqLoop x n r + 1) * (sqLoop x n r + 1)
  | 0, r, h0, h1, h2 => by
    have e : (2 : Int) ^ 0 = 1 := rfl
    rw [e] at h2 ⊢
    exact ⟨Int.le_refl _, by show r < r + 1; omega, h1, h2⟩
  | n + 1, r, h0, h1, h2 => by
    have hp := pow_pos' n
    have e : (2 : Int) ^ (n + 1) = 2 ^ n + 2 ^ n := by rw [Int.pow_succ]; omega
    rw [e] at h2 ⊢
    by_cases hc : (r + 2 ^ n) * (r + 2 ^ n) ≤ x
    · rw [sqLoop_yes hc]
      obtain ⟨a, b, c, d⟩ := sqLoop_spec x n (r + 2 ^ n) (by omega) hc (by rw [Int.add_assoc]; exact h2)
      exact ⟨by omega, by omega, c, d⟩
    · rw [sqLoop_no hc]
      obtain ⟨a, b, c, d⟩ := sqLoop_spec x n r h0 h1 (by omega)
      exact ⟨a, by omega, c, d⟩

/-- A number is the root. -/
def IsRoot (x r : Int) : Prop := 0 ≤ r ∧ r * r ≤ x ∧ x < (r + 1) * (r + 1)
theorem sq_mono {a b : Int} (h0 : 0 ≤ a) (h : a ≤ b) : a * a ≤ b * b := Int.mul_le_mul h h h0 (by omega)
theorem IsRoot.uniq {x r s : Int} (h : IsRoot x r) (k : IsRoot x s) : r = s := by
  obtain ⟨a, b, c⟩ := h
  obtain ⟨d, e, f⟩ := k
  rcases Int.lt_trichotomy r s with g | g | g
  · have := sq_mono (a := r + 1) (b := s) (by omega) (by omega); omega
  · exact g
  · have := sq_mono (a := s + 1) (b := r) (by omega) (by omega); omega
theorem sqN_root {x : Int} (h0 : 0 ≤ x) (h1 : x < 340282366920938463463374607431768211456) : IsRoot x (sqN x) ∧ sqN x < 18446744073709551616 := by
  have e : (2 : Int) ^ 64 = 18446744073709551616 := rfl
  obtain ⟨a, b, c, d⟩ := sqLoop_spec x 64 0 (by omega) (by omega) (by rw [e]; omega)
  unfold sqN
  rw [if_neg (by omega)]
  rw [e] at b
  exact ⟨⟨a, c, d⟩, by omega⟩
theorem sqN_neg {x : Int} (h : x < 0) : sqN x = 0 := by unfold sqN; rw [if_pos h]

/-- Between two rounds. -/
def SqInv (x r : Int) (k : Nat) : Prop := 0 ≤ r ∧ r + 2 ^ (64 - k) ≤ 18446744073709551616 ∧ (∃ m, r = 2 ^ (64 - k) * m ∧ 0 ≤ m) ∧ sqLoop x (64 - k) r = sqLoop x 64 0
theorem SqInv.start (x : Int) : SqInv x 0 0 := ⟨by omega, by show (0 : Int) + 2 ^ 64 ≤ _; decide, ⟨0, by simp, by omega⟩, rfl⟩
theorem pow_half (k : Nat) (h : k < 64) : (2 : Int) ^ (64 - k) = 2 ^ (63 - k) + 2 ^ (63 - k) := by
  rw [show 64 - k = (63 - k) + 1 by omega, Int.pow_succ]; omega
theorem SqInv.or_ {x r : Int} {k : Nat} (h : SqInv x r k) (hk : k < 64) : bits BinOp.or IntKind.u64 r (2 ^ (63 - k)) = r + 2 ^ (63 - k) := by
  obtain ⟨a, b, ⟨m, c, d⟩, -⟩ := h
  have hp := pow_pos' (63 - k)
  have e := pow_half k hk
  have g : bits BinOp.or IntKind.u64 r (2 ^ (63 - k)) = bits BinOp.or IntKind.u64 (2 ^ (63 - k)) r := by
    rw [u64_or r _ a (by omega) (by omega) (by omega), u64_or _ r (by omega) (by omega) a (by omega), Nat.or_comm]
  rw [g, c, or_add (64 - k) _ _ (by omega) (by omega) d (by omega) (by omega)]
  omega
theorem SqInv.bound {x r : Int} {k : Nat} (h : SqInv x r k) (hk : k < 64) : 0 ≤ r + 2 ^ (63 - k) ∧ r + 2 ^ (63 - k) < 18446744073709551616 := by
  obtain ⟨a, b, -, -⟩ := h
  have hp := pow_pos' (63 - k)
  have e := pow_half k hk
  omega
theorem SqInv.yes {x r : Int} {k : Nat} (h : SqInv x r k) (hk : k < 64) (hc : (r + 2 ^ (63 - k)) * (r + 2 ^ (63 - k)) ≤ x) : SqInv x (r + 2 ^ (63 - k)) (k + 1) := by
  obtain ⟨a, b, ⟨m, c, d⟩, f⟩ := h
  have hp := pow_pos' (63 - k)
  have e := pow_half k hk
  have g : 64 - (k + 1) = 63 - k := by omega
  refine ⟨by omega, by rw [g]; omega, ⟨2 * m + 1, ?_, by omega⟩, ?_⟩
  · rw [g, c, e]; grind
  · rw [g, ← f, show 64 - k = (63 - k) + 1 by omega, sqLoop_yes hc]
theorem SqInv.no {x r : Int} {k : Nat} (h : SqInv x r k) (hk : k < 64) (hc : ¬ (r + 2 ^ (63 - k)) * (r + 2 ^ (63 - k)) ≤ x) : SqInv x r (k + 1) := by
  obtain ⟨a, b, ⟨m, c, d⟩, f⟩ := h
  have hp := pow_pos' (63 - k)
  have e := pow_half k hk
  have g : 64 - (k + 1) = 63 - k := by omega
  refine ⟨by omega, by rw [g]; omega, ⟨2 * m, ?_, by omega⟩, ?_⟩
  · rw [g, c, e]; grind
  · rw [g, ← f, show 64 - k = (63 - k) + 1 by omega, sqLoop_no hc]
theorem SqInv.done {x r : Int} (h : SqInv x r 64) : r = sqLoop x 64 0 := h.2.2.2
theorem w_le {x y : Int} : x ≤ y ↔ wHi x < wHi y ∨ (wHi x = wHi y ∧ wLo x ≤ wLo y) := by
  unfold wHi wLo
  omega

end Go.Proofs.Ytognbeejobfpfaa
