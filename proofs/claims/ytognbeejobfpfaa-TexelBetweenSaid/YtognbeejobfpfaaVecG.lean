/- vec.Toward. -/
import Derived.Test.YtognbeejobfpfaaVecF
namespace Go.Proofs.Ytognbeejobfpfaa
open Go.RowKit Go.Sort
set_option linter.unusedVariables false
set_option linter.unusedSimpArgs false

def clip (n : Int) : Int := min (max n (-1073741824)) 1073741824
theorem clip_bd (n : Int) : -1073741824 ≤ clip n ∧ clip n ≤ 1073741824 := by unfold clip; omega
theorem clip_sq {n : Int} (h : -1073741824 ≤ n ∧ n ≤ 1073741824) : 0 ≤ n * n ∧ n * n ≤ 1152921504606846976 := by
  constructor
  · rcases Int.le_total 0 n with g | g
    · exact Int.mul_nonneg g g
    · exact Int.mul_nonneg_of_nonpos_of_nonpos g g
  · rcases Int.le_total 0 n with g | g
    · have := Int.mul_le_mul h.2 h.2 g (by omega); omega
    · have := Int.mul_le_mul (show -n ≤ 1073741824 by omega) (show -n ≤ 1073741824 by omega) (show 0 ≤ -n by omega) (by omega)
      rw [Int.neg_mul_neg] at this
      omega
/-- The root of a place's square, times 2^32. -/
def vroot (p : T3) : Int := sqN ((clip p.1 * clip p.1 + clip p.2.1 * clip p.2.1 + clip p.2.2 * clip p.2.2) * 18446744073709551616)
def vtow (p : T3) : T3 := if vroot p = 0 then zero3 else (clip p.1 * 18446744073709551616 / vroot p, clip p.2.1 * 18446744073709551616 / vroot p, clip p.2.2 * 18446744073709551616 / vroot p)
theorem root_ge {S n : Int} (h0 : n * n ≤ S) (hS : S ≤ 4611686018427387903) : -(sqN (S * 18446744073709551616)) ≤ n * 4294967296 ∧ n * 4294967296 ≤ sqN (S * 18446744073709551616) := by
  have hn : 0 ≤ n * n := by
    rcases Int.le_total 0 n with g | g
    · exact Int.mul_nonneg g g
    · exact Int.mul_nonneg_of_nonpos_of_nonpos g g
  obtain ⟨⟨r0, r1, r2⟩, -⟩ := sqN_root (x := S * 18446744073709551616) (by omega) (by omega)
  generalize sqN (S * 18446744073709551616) = R at *
  have e1 : (n * 4294967296) * (n * 4294967296) = n * n * 18446744073709551616 := by grind
  constructor
  · rcases Int.lt_or_le (n * 4294967296) (-R) with g | g
    · exfalso
      have := sq_mono (a := R + 1) (b := -(n * 4294967296)) (by omega) (by omega)
      rw [Int.neg_mul_neg, e1] at this
      omega
    · exact g
  · rcases Int.lt_or_le R (n * 4294967296) with g | g
    · exfalso
      have := sq_mono (a := R + 1) (b := n * 4294967296) (by omega) (by omega)
      rw [e1] at this
      omega
    · exact g
theorem tow_q {n R : Int} (hR : 0 < R) (h1 : -R ≤ n * 4294967296) (h2 : n * 4294967296 ≤ R) : -4294967296 ≤ n * 18446744073709551616 / R ∧ n * 18446744073709551616 / R ≤ 4294967296 := by
  constructor
  · rw [Int.le_ediv_iff_mul_le hR]
    omega
  · have : n * 18446744073709551616 / R < 4294967297 := by
      rw [Int.ediv_lt_iff_lt_mul hR]
      omega
    omega
theorem vroot_bd (p : T3) : 0 ≤ vroot p ∧ vroot p ≤ 9223372036854775807 := by
  have h0 := clip_sq (clip_bd p.1)
  have h1 := clip_sq (clip_bd p.2.1)
  have h2 := clip_sq (clip_bd p.2.2)
  exact sqN_small (by omega) (by omega)
theorem vtow_parts (p : T3) (h : vroot p ≠ 0) : ∀ n, n = clip p.1 ∨ n = clip p.2.1 ∨ n = clip p.2.2 → -4294967296 ≤ n * 18446744073709551616 / vroot p ∧ n * 18446744073709551616 / vroot p ≤ 4294967296 := by
  intro n hn
  have h0 := clip_sq (clip_bd p.1)
  have h1 := clip_sq (clip_bd p.2.1)
  have h2 := clip_sq (clip_bd p.2.2)
  have hb := vroot_bd p
  have := root_ge (S := clip p.1 * clip p.1 + clip p.2.1 * clip p.2.1 + clip p.2.2 * clip p.2.2) (n := n) (by rcases hn with e | e | e <;> rw [e] <;> omega) (by omega)
  exact tow_q (by omega) this.1 this.2
theorem vtow_bd (p : T3) : (-4294967296 ≤ (vtow p).1 ∧ (vtow p).1 ≤ 4294967296) ∧ (-4294967296 ≤ (vtow p).2.1 ∧ (vtow p).2.1 ≤ 4294967296) ∧ (-4294967296 ≤ (vtow p).2.2 ∧ (vtow p).2.2 ≤ 4294967296) := by
  unfold vtow
  split
  · simp [zero3]
  · rename_i h
    exact ⟨vtow_parts p h _ (.inl rfl), vtow_parts p h _ (.inr (.inl rfl)), vtow_parts p h _ (.inr (.inr rfl))⟩
theorem vtow_I (p : T3) : InV (vtow p) := by
  have := vtow_bd p
  unfold InV InI
  omega

end Go.Proofs.Ytognbeejobfpfaa
