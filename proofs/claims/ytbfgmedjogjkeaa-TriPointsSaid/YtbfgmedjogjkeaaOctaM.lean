/- Plain numbers: directions on the octahedron. -/
import Derived.Test.YtbfgmedjogjkeaaVecM
namespace Go.Proofs.Ytbfgmedjogjkeaa
open Go.RowKit
set_option linter.unusedVariables false
set_option linter.unusedSimpArgs false

theorem u32_mask (m : Nat) (hm : m ≤ 31) (n : Int) : bits .and .u32 n ((2 ^ m - 1 : Nat) : Int) = n % ((2 ^ m : Nat) : Int) := by
  have hp : 2 ^ m ≤ 2 ^ 31 := Nat.pow_le_pow_right (by decide) hm
  have h0 : 0 < 2 ^ m := Nat.two_pow_pos m
  have hmask : (BitVec.ofInt 32 ((2 ^ m - 1 : Nat) : Int)).toNat = 2 ^ m - 1 := by
    rw [BitVec.toNat_ofInt, ← Int.natCast_emod, Int.toNat_natCast, Nat.mod_eq_of_lt (by omega)]
  have key : (BitVec.ofInt 32 n &&& BitVec.ofInt 32 ((2 ^ m - 1 : Nat) : Int)).toNat = (n % ((2 ^ 32 : Nat) : Int)).toNat % 2 ^ m := by
    rw [BitVec.toNat_and, BitVec.toNat_ofInt, hmask, Nat.and_two_pow_sub_one_eq_mod]
  show IntKind.u32.wrap ((BitVec.ofInt 32 n &&& BitVec.ofInt 32 ((2 ^ m - 1 : Nat) : Int)).toNat : Nat) = n % ((2 ^ m : Nat) : Int)
  rw [key, IntKind.wrap_u32]
  have e1 : (((n % ((2 ^ 32 : Nat) : Int)).toNat % 2 ^ m : Nat) : Int) = n % ((2 ^ m : Nat) : Int) := by
    rw [Int.natCast_emod, Int.toNat_of_nonneg (Int.emod_nonneg _ (by decide))]
    apply Int.emod_emod_of_dvd
    exact Int.natCast_dvd_natCast.2 (Nat.pow_dvd_pow 2 (by omega))
  rw [e1]
  have e2 := Int.emod_nonneg n (show ((2 ^ m : Nat) : Int) ≠ 0 by omega)
  have e3 := Int.emod_lt_of_pos n (show (0 : Int) < ((2 ^ m : Nat) : Int) by omega)
  omega
theorem u32_low16 (n : Int) : bits BinOp.and IntKind.u32 n 65535 = n % 65536 := u32_mask 16 (by decide) n
theorem u32_or16 (a b : Int) (ha : 0 ≤ a) (ha2 : a < 65536) (hb : 0 ≤ b) (hb2 : b < 65536) : bits BinOp.or IntKind.u32 (b * 65536) a = b * 65536 + a := by
  obtain ⟨A, rfl⟩ := Int.eq_ofNat_of_zero_le ha
  obtain ⟨B, rfl⟩ := Int.eq_ofNat_of_zero_le hb
  have h1 : (BitVec.ofInt 32 ((B : Int) * 65536)).toNat = 2 ^ 16 * B := by
    rw [show (B : Int) * 65536 = ((2 ^ 16 * B : Nat) : Int) by omega, BitVec.toNat_ofInt, ← Int.natCast_emod, Int.toNat_natCast, Nat.mod_eq_of_lt (by omega)]
  have h2 : (BitVec.ofInt 32 (A : Int)).toNat = A := by
    rw [BitVec.toNat_ofInt, ← Int.natCast_emod, Int.toNat_natCast, Nat.mod_eq_of_lt (by omega)]
  show IntKind.u32.wrap ((BitVec.ofInt 32 ((B : Int) * 65536) ||| BitVec.ofInt 32 (A : Int)).toNat : Nat) = (B : Int) * 65536 + A
  rw [BitVec.toNat_or, h1, h2, ← Nat.two_pow_add_eq_or_of_lt (by omega) B, IntKind.wrap_u32]
  omega

def oabs (n : Int) : Int := if n < 0 then -n else n
theorem oabs_neg {n : Int} (h : n < 0) : oabs n = -n := if_pos h
theorem oabs_pos {n : Int} (h : ¬ n < 0) : oabs n = n := if_neg h
theorem oabs_bd {n b : Int} (h : -b ≤ n ∧ n ≤ b) : 0 ≤ oabs n ∧ oabs n ≤ b := by unfold oabs; split <;> omega
def osg (b n : Int) : Int := if b < 0 then -n else n
/-- A code's direction. -/
def decA (c : Int) : Int := min (c / 65536) 32768 - 16384
def decB (c : Int) : Int := min (c % 65536) 32768 - 16384
def decP (a b : Int) : T3 := if 16384 - oabs a - oabs b < 0 then (osg a (16384 - oabs b), osg b (16384 - oabs a), 16384 - oabs a - oabs b) else (a, b, 16384 - oabs a - oabs b)
def dec (c : Int) : T3 := decP (decA c) (decB c)
/-- May it be a direction? -/
def mayB (p : T3) : Bool := decide (¬ (p.1 = 0 ∧ p.2.1 = 0 ∧ p.2.2 = 0)) && decide ((-16384 ≤ p.1 ∧ p.1 ≤ 16384) ∧ (-16384 ≤ p.2.1 ∧ p.2.1 ≤ 16384) ∧ (-16384 ≤ p.2.2 ∧ p.2.2 ≤ 16384))
/-- A direction's code. -/
def encL (p : T3) : Int := oabs p.1 + oabs p.2.1 + oabs p.2.2
def encQ (n l : Int) : Int := osg n (16384 * oabs n / l)
def encA (p : T3) : Int := if p.2.2 < 0 then osg p.1 (16384 - 16384 * oabs p.2.1 / encL p) else encQ p.1 (encL p)
def encB (p : T3) : Int := if p.2.2 < 0 then osg p.2.1 (16384 - 16384 * oabs p.1 / encL p) else encQ p.2.1 (encL p)
def enc (p : T3) : Int := (encA p + 16384) * 65536 + (encB p + 16384)
theorem encL_bd {p : T3} (h : mayB p = true) : 1 ≤ encL p ∧ encL p ≤ 49152 ∧ (0 ≤ oabs p.1 ∧ oabs p.1 ≤ 16384) ∧ (0 ≤ oabs p.2.1 ∧ oabs p.2.1 ≤ 16384) ∧ (0 ≤ oabs p.2.2 ∧ oabs p.2.2 ≤ 16384) := by
  unfold mayB at h
  simp only [Bool.and_eq_true, decide_eq_true_eq] at h
  unfold encL oabs
  split <;> split <;> split <;> omega
theorem quo_bd {n l : Int} (h0 : 0 ≤ n) (h1 : n ≤ l) (hl : 1 ≤ l) : 0 ≤ 16384 * n / l ∧ 16384 * n / l ≤ 16384 := by
  constructor
  · exact Int.ediv_nonneg (by omega) (by omega)
  · have : 16384 * n / l < 16385 := by
      rw [Int.ediv_lt_iff_lt_mul (by omega)]
      have := Int.mul_le_mul_of_nonneg_left h1 (show (0 : Int) ≤ 16384 by omega)
      omega
    omega
theorem enc_bd {p : T3} (h : mayB p = true) : (-16384 ≤ encA p ∧ encA p ≤ 16384) ∧ (-16384 ≤ encB p ∧ encB p ≤ 16384) := by
  obtain ⟨l1, l2, a, b, c⟩ := encL_bd h
  have q1 := quo_bd (l := encL p) a.1 (by unfold encL; omega) l1
  have q2 := quo_bd (l := encL p) b.1 (by unfold encL; omega) l1
  unfold encA encB encQ osg
  constructor <;> split <;> split <;> omega
/-- A drawn number's code. -/
def pick (x : Int) : Int := (x / 65536) * 32769 / 65536 * 65536 + x % 65536 * 32769 / 65536
def pdir (x : Int) : T3 := dec (pick x)
/-- A vector's direction. -/
def qpart (x m : Int) : Int := max (x * 16384 / m) (-16384)
def wdot (a b : T3) : Int := wrap64 (a.1 * b.1 + a.2.1 * b.2.1 + a.2.2 * b.2.2)
def wneg (n : Int) : Int := wrap64 (-n)
def face (d n : T3) : T3 := if 0 ≤ wdot d n then d else (wneg d.1, wneg d.2.1, wneg d.2.2)

end Go.Proofs.Ytbfgmedjogjkeaa
