/- Plain numbers, sixth part: roots, bit by bit. -/
import Derived.Test.YtenefncpokdmnaaMathC
namespace Go.Proofs.Ytenefncpokdmnaa
open Go.RowKit
set_option linter.unusedVariables false
set_option linter.unusedSimpArgs false

def sqLoop (x : Int) : Nat → Int → Int
  | 0, r => r
  | n + 1, r => sqLoop x n (if (r + 2 ^ n) * (r + 2 ^ n) ≤ x then r + 2 ^ n else r)
/-- The root, rounded down; 0 of what is below 0. -/
def sqN (x : Int) : Int := if x < 0 then 0 else sqLoop x 64 0

theorem sqLoop_yes {x r : Int} {n : Nat} (h : (r + 2 ^ n) * (r + 2 ^ n) ≤ x) : sqLoop x (n + 1) r = sqLoop x n (r + 2 ^ n) := by
  show sqLoop x n _ = _; rw [if_pos h]
theorem sqLoop_no {x r : Int} {n : Nat} (h : ¬ (r + 2 ^ n) * (r + 2 ^ n) ≤ x) : sqLoop x (n + 1) r = sqLoop x n r := by
  show sqLoop x n _ = _; rw [if_neg h]

theorem sqLoop_spec (x : Int) : ∀ (n : Nat) (r : Int), 0 ≤ r → r * r ≤ x → x < (r + 2 ^ n) * (r + 2 ^ n) → r ≤ sqLoop x n r ∧ sqLoop x n r < r + 2 ^ n ∧ sqLoop x n r * sqLoop x n r ≤ x ∧ x < (sqLoop x n r + 1) * (sqLoop x n r + 1)
  | 0, r, h0, h1, h2 => by
    have e : (2 : Int) ^ 0 = 1 := rfl
    rw [e] at h2 ⊢
    exact ⟨Int.le_refl _, by show r < r + 1; omega, h1, h2⟩
  | n + 1, r, h0, h1, h2 => by
    have hp := pow_pos' n
    have e : (2 : Int) ^ (n + 1) = 2 ^ n + 2 ^ n := by rw [Int.pow_succ]; omega
    rw [e] at h2 ⊢
    by_cases hc : (r + 2 ^ n) * (r + 2 ^ n) ≤ x
    · rw [sqLoop_yes hc]
      obtain ⟨a, b, c, d⟩ := sqLoop_spec x n (r + 2 ^ n) (by omega) hc (by rw [Int.add_assoc]; exact h2)
      exact ⟨by omega, by omega, c, d⟩
    · rw [sqLoop_no hc]
      obtain ⟨a, b, c, d⟩ := sqLoop_spec x n r h0 h1 (by omega)
      exact ⟨a, by omega, c, d⟩

/-- A number is the root. -/
def IsRoot (x r : Int) : Prop := 0 ≤ r ∧ r * r ≤ x ∧ x < (r + 1) * (r + 1)
theorem sq_mono {a b : Int} (h0 : 0 ≤ a) (h : a ≤ b) : a * a ≤ b * b := Int.mul_le_mul h h h0 (by omega)
theorem IsRoot.uniq {x r s : Int} (h : IsRoot x r) (k : IsRoot x s) : r = s := by
  obtain ⟨a, b, c⟩ := h
  obtain ⟨d, e, f⟩ := k
  rcases Int.lt_trichotomy r s with g | g | g
  · have := sq_mono (a := r + 1) (b := s) (by omega) (by omega); omega
  · exact g
  · have := sq_mono (a := s + 1) (b := r) (by omega) (by omega); omega
theorem sqN_root {x : Int} (h0 : 0 ≤ x) (h1 : x < 340282366920938463463374607431768211456) : IsRoot x (sqN x) ∧ sqN x < 18446744073709551616 := by
  have e : (2 : Int) ^ 64 = 18446744073709551616 := rfl
  obtain ⟨a, b, c, d⟩ := sqLoop_spec x 64 0 (by omega) (by omega) (by rw [e]; omega)
  unfold sqN
  rw [if_neg (by omega)]
  rw [e] at b
  exact ⟨⟨a, c, d⟩, by omega⟩
theorem sqN_neg {x : Int} (h : x < 0) : sqN x = 0 := by unfold sqN; rw [if_pos h]

/-- Between two rounds. -/
def SqInv (x r : Int) (k : Nat) : Prop := 0 ≤ r ∧ r + 2 ^ (64 - k) ≤ 18446744073709551616 ∧ (∃ m, r = 2 ^ (64 - k) * m ∧ 0 ≤ m) ∧ sqLoop x (64 - k) r = sqLoop x 64 0
theorem SqInv.start (x : Int) : SqInv x 0 0 := ⟨by omega, by show (0 : Int) + 2 ^ 64 ≤ _; decide, ⟨0, by simp, by omega⟩, rfl⟩
theorem pow_half (k : Nat) (h : k < 64) : (2 : Int) ^ (64 - k) = 2 ^ (63 - k) + 2 ^ (63 - k) := by
  rw [show 64 - k = (63 - k) + 1 by omega, Int.pow_succ]; omega
theorem SqInv.or_ {x r : Int} {k : Nat} (h : SqInv x r k) (hk : k < 64) : bits BinOp.or IntKind.u64 r (2 ^ (63 - k)) = r + 2 ^ (63 - k) := by
  obtain ⟨a, b, ⟨m, c, d⟩, -⟩ := h
  have hp := pow_pos' (63 - k)
  have e := pow_half k hk
  have g : bits BinOp.or IntKind.u64 r (2 ^ (63 - k)) = bits BinOp.or IntKind.u64 (2 ^ (63 - k)) r := by
    rw [u64_or r _ a (by omega) (by omega) (by omega), u64_or _ r (by omega) (by omega) a (by omega), Nat.or_comm]
  rw [g, c, or_add (64 - k) _ _ (by omega) (by omega) d (by omega) (by omega)]
  omega
theorem SqInv.bound {x r : Int} {k : Nat} (h : SqInv x r k) (hk : k < 64) : 0 ≤ r + 2 ^ (63 - k) ∧ r + 2 ^ (63 - k) < 18446744073709551616 := by
  obtain ⟨a, b, -, -⟩ := h
  have hp := pow_pos' (63 - k)
  have e := pow_half k hk
  omega
theorem SqInv.yes {x r : Int} {k : Nat} (h : SqInv x r k) (hk : k < 64) (hc : (r + 2 ^ (63 - k)) * (r + 2 ^ (63 - k)) ≤ x) : SqInv x (r + 2 ^ (63 - k)) (k + 1) := by
  obtain ⟨a, b, ⟨m, c, d⟩, f⟩ := h
  have hp := pow_pos' (63 - k)
  have e := pow_half k hk
  have g : 64 - (k + 1) = 63 - k := by omega
  refine ⟨by omega, by rw [g]; omega, ⟨2 * m + 1, ?_, by omega⟩, ?_⟩
  · rw [g, c, e]; grind
  · rw [g, ← f, show 64 - k = (63 - k) + 1 by omega, sqLoop_yes hc]
theorem SqInv.no {x r : Int} {k : Nat} (h : SqInv x r k) (hk : k < 64) (hc : ¬ (r + 2 ^ (63 - k)) * (r + 2 ^ (63 - k)) ≤ x) : SqInv x r (k + 1) := by
  obtain ⟨a, b, ⟨m, c, d⟩, f⟩ := h
  have hp := pow_pos' (63 - k)
  have e := pow_half k hk
  have g : 64 - (k + 1) = 63 - k := by omega
  refine ⟨by omega, by rw [g]; omega, ⟨2 * m, ?_, by omega⟩, ?_⟩
  · rw [g, c, e]; grind
  · rw [g, ← f, show 64 - k = (63 - k) + 1 by omega, sqLoop_no hc]
theorem SqInv.done {x r : Int} (h : SqInv x r 64) : r = sqLoop x 64 0 := h.2.2.2
theorem w_le {x y : Int} : x ≤ y ↔ wHi x < wHi y ∨ (wHi x = wHi y ∧ wLo x ≤ wLo y) := by
  unfold wHi wLo
  omega

end Go.Proofs.Ytenefncpokdmnaa
