/- umbraref03.Toward is vtow. -/
import Derived.Test.YtenefncpokdmnaaG3t
namespace Go.Proofs.Ytenefncpokdmnaa
open Go.RowKit Go.Sort
set_option linter.unusedVariables false
set_option linter.unusedSimpArgs false

theorem nearV_f {s : Int} (h : s < 9223372036854775808) : nearV s false false = s ∧ nearV s true false = -s := by
  unfold nearV
  simp
  omega
theorem tow3 (p : T3) (n : Int) (hn : n = clip p.1 ∨ n = clip p.2.1 ∨ n = clip p.2.2) (h : ¬ towR p = 0) :
    (n < 0 → (dvq (absU n) (towR p)).2 > 0 → nearV (IntKind.u64.wrap ((dvq (absU n) (towR p)).1 + 1)) true false = n * 18446744073709551616 / vroot p) ∧
    (n < 0 → ¬ (dvq (absU n) (towR p)).2 > 0 → nearV (dvq (absU n) (towR p)).1 true false = n * 18446744073709551616 / vroot p) ∧
    (¬ n < 0 → nearV (dvq (absU n) (towR p)).1 false false = n * 18446744073709551616 / vroot p) := by
  rw [towR_eq] at *
  have hb := vroot_bd p
  have hq := vtow_parts p h n hn
  have hR : 0 < vroot p := by omega
  generalize vroot p = R at *
  have key : n < 0 → (dvq (absU n) R).1 = (-n * 18446744073709551616) / R ∧ (dvq (absU n) R).2 = (-n * 18446744073709551616) % R := by
    intro hn0
    unfold dvq absU
    rw [if_pos hn0, Int.add_zero]
    exact ⟨rfl, rfl⟩
  have key2 : ¬ n < 0 → (dvq (absU n) R).1 = n * 18446744073709551616 / R := by
    intro hn0
    unfold dvq absU
    rw [if_neg hn0, Int.add_zero]
  have d1 := Int.emod_add_mul_ediv (n * 18446744073709551616) R
  have d2 := Int.emod_add_mul_ediv (-n * 18446744073709551616) R
  have e1 := Int.emod_nonneg (n * 18446744073709551616) (show R ≠ 0 by omega)
  have e2 := Int.emod_lt_of_pos (n * 18446744073709551616) hR
  have e3 := Int.emod_nonneg (-n * 18446744073709551616) (show R ≠ 0 by omega)
  have e4 := Int.emod_lt_of_pos (-n * 18446744073709551616) hR
  generalize n * 18446744073709551616 / R = Q at *
  generalize -n * 18446744073709551616 / R = Q' at *
  generalize n * 18446744073709551616 % R = m at *
  generalize -n * 18446744073709551616 % R = m' at *
  have hs : R * (Q + Q') = -(m + m') := by rw [Int.mul_add]; omega
  refine ⟨fun hn0 h2 => ?_, fun hn0 h2 => ?_, fun hn0 => ?_⟩
  · rw [(key hn0).1]
    rw [(key hn0).2] at h2
    have hk : Q + Q' = -1 := by
      have a1 : R * (Q + Q') < 0 := by omega
      have a2 : R * (Q + Q') > R * (-2) := by omega
      have a3 := Int.lt_of_mul_lt_mul_left a2 (by omega)
      have a4 : Q + Q' < 0 := Int.lt_of_mul_lt_mul_left (show R * (Q + Q') < R * 0 by omega) (by omega)
      omega
    have hQ : Q < 0 := Int.lt_of_mul_lt_mul_left (show R * Q < R * 0 by omega) (by omega)
    rw [IntKind.wrap_u64, show (Q' + 1) % 18446744073709551616 = -Q by omega, (nearV_f (by omega)).2]
    omega
  · rw [(key hn0).1]
    rw [(key hn0).2] at h2
    have hm : m' = 0 := by omega
    have hk : Q + Q' = 0 := by
      have a2 : R * (Q + Q') > R * (-1) := by omega
      have a3 := Int.lt_of_mul_lt_mul_left a2 (by omega)
      have a4 : Q + Q' < 1 := Int.lt_of_mul_lt_mul_left (show R * (Q + Q') < R * 1 by omega) (by omega)
      omega
    rw [(nearV_f (by omega)).2]
    omega
  · rw [key2 hn0, (nearV_f (by omega)).1]
theorem sToward_eq (p : T3) (hp : InV p) : s_umbraref03_Toward p = vtow p := by
  unfold s_umbraref03_Toward
  simp only [lt]
  have e : rootU (IntKind.u64.wrap (IntKind.i64.wrap (IntKind.i64.wrap (IntKind.i64.wrap (clip p.1 * clip p.1) + IntKind.i64.wrap (clip p.2.1 * clip p.2.1)) + IntKind.i64.wrap (clip p.2.2 * clip p.2.2)))) 0 = towR p := rfl
  simp only [e]
  by_cases h : towR p = 0
  · rw [if_pos h]
    unfold vtow
    rw [if_pos (by rw [← towR_eq]; exact h)]
    rfl
  · rw [if_neg h]
    obtain ⟨x1, x2, x3⟩ := tow3 p _ (.inl rfl) h
    obtain ⟨y1, y2, y3⟩ := tow3 p _ (.inr (.inl rfl)) h
    obtain ⟨z1, z2, z3⟩ := tow3 p _ (.inr (.inr rfl)) h
    have ev : vtow p = (clip p.1 * 18446744073709551616 / vroot p, clip p.2.1 * 18446744073709551616 / vroot p, clip p.2.2 * 18446744073709551616 / vroot p) := by
      unfold vtow
      rw [if_neg (by rw [← towR_eq]; exact h)]
    rw [ev]
    clear e hp ev h
    generalize clip p.1 * 18446744073709551616 / vroot p = X at *
    generalize clip p.2.1 * 18446744073709551616 / vroot p = Y at *
    generalize clip p.2.2 * 18446744073709551616 / vroot p = Z at *
    generalize dvq (absU (clip p.1)) (towR p) = d1 at *
    generalize dvq (absU (clip p.2.1)) (towR p) = d2 at *
    generalize dvq (absU (clip p.2.2)) (towR p) = d3 at *
    generalize clip p.1 = a at *
    generalize clip p.2.1 = b at *
    generalize clip p.2.2 = c at *
    repeat' split
    all_goals (simp only [not_false_eq_true, forall_const, *] at x1 x2 x3 y1 y2 y3 z1 z2 z3)
    all_goals (first | rw [x1] | rw [x2] | rw [x3])
    all_goals (first | rw [y1] | rw [y2] | rw [y3])
    all_goals (first | rw [z1] | rw [z2] | rw [z3])
theorem r3Toward (p : T3) (hp : InV p) (w : World) : Calls Try.prog 37 #[.agg #[.int .i64 p.1, .int .i64 p.2.1, .int .i64 p.2.2]] w (Ret (.agg #[.int .i64 (vtow p).1, .int .i64 (vtow p).2.1, .int .i64 (vtow p).2.2]) w) := by
  have h := w_umbraref03_Toward p hp w
  rw [sToward_eq p hp] at h
  exact h
end Go.Proofs.Ytenefncpokdmnaa
