/- Layer 20: the laws hold. -/
import Derived.Test.YtbfgmedjogjkeaaL20b
import Derived.Test.YtbfgmedjogjkeaaTriX
namespace Go.Proofs.Ytbfgmedjogjkeaa
open Go.RowKit Go.Sort
set_option linter.unusedVariables false
set_option linter.unusedSimpArgs false

theorem works20_true : s_umbralaw20_works = true := by kernel_rfl
theorem mless_iff {a b : M4} : mless a b = true ↔ 0 < a.2.1 ∧ 0 < b.2.1 ∧ a.1 * b.2.1 < b.1 * a.2.1 := by unfold mless; simp only [Bool.and_eq_true, decide_eq_true_eq]
theorem mless_asym {a b : M4} (h : mless a b = true) : mless b a = false := by
  obtain ⟨h1, h2, h3⟩ := mless_iff.1 h
  cases h4 : mless b a
  · rfl
  · obtain ⟨k1, k2, k3⟩ := mless_iff.1 h4
    omega
theorem mless_self (a : M4) : mless a a = false := by
  cases h4 : mless a a
  · rfl
  · obtain ⟨k1, k2, k3⟩ := mless_iff.1 h4
    omega
theorem mless_trans {a b c : M4} (h : mless a b = true) (k : mless b c = true) : mless a c = true := by
  obtain ⟨h1, h2, h3⟩ := mless_iff.1 h
  obtain ⟨k1, k2, k3⟩ := mless_iff.1 k
  refine mless_iff.2 ⟨h1, k2, ?_⟩
  have e1 : a.1 * b.2.1 * c.2.1 < b.1 * a.2.1 * c.2.1 := Int.mul_lt_mul_of_pos_right h3 k2
  have e2 : b.1 * c.2.1 * a.2.1 < c.1 * b.2.1 * a.2.1 := Int.mul_lt_mul_of_pos_right k3 h1
  have e3 : a.1 * c.2.1 * b.2.1 < c.1 * a.2.1 * b.2.1 := by
    have f1 : a.1 * c.2.1 * b.2.1 = a.1 * b.2.1 * c.2.1 := by grind
    have f2 : c.1 * a.2.1 * b.2.1 = c.1 * b.2.1 * a.2.1 := by grind
    have f3 : b.1 * a.2.1 * c.2.1 = b.1 * c.2.1 * a.2.1 := by grind
    omega
  exact Int.lt_of_mul_lt_mul_right e3 (by omega)
theorem mless_same {a b : M4} (h1 : a.1 = b.1) (h2 : a.2.1 = b.2.1) : mless a b = false := by
  cases h4 : mless a b
  · rfl
  · obtain ⟨k1, k2, k3⟩ := mless_iff.1 h4
    rw [h1, h2] at k3
    omega
theorem TriHits_true (o d : T3) (p : T3 × T3 × T3) : s_umbralaw20_TriHits o d p = true := by
  unfold s_umbralaw20_TriHits
  simp only [lt, works20_true, sMay_eq, sMay2_eq]
  cases (hitT o d p).2 <;> cases mayRay o d <;> simp
theorem TriMeets_true (a b : M4) (t : T3 × T3) : s_umbralaw20_TriMeets a b t = true := by
  unfold s_umbralaw20_TriMeets
  simp only [lt, works20_true]
  cases mless a b <;> simp
theorem TriOrder_true (a b c : M4) : s_umbralaw20_TriOrder a b c = true := by
  unfold s_umbralaw20_TriOrder
  simp only [lt, works20_true, mless_self]
  cases h1 : mless a b
  · simp
  · rw [mless_asym h1]
    cases h2 : mless b c
    · simp
    · rw [mless_trans h1 h2]; simp
theorem turn1 (o d : T3) (p : T3 × T3 × T3) : (hitT o d (p.2.1, p.2.2, p.1)).2 = (hitT o d p).2 ∧ mless (hitT o d p).1 (hitT o d (p.2.1, p.2.2, p.1)).1 = false ∧ mless (hitT o d (p.2.1, p.2.2, p.1)).1 (hitT o d p).1 = false := by
  obtain ⟨h1, h2, h3⟩ := hitRot o d p.1 p.2.1 p.2.2
  exact ⟨h1, mless_same h2.symm h3.symm, mless_same h2 h3⟩
theorem turn2 (o d : T3) (p : T3 × T3 × T3) : (hitT o d (p.2.2, p.1, p.2.1)).2 = (hitT o d p).2 ∧ mless (hitT o d p).1 (hitT o d (p.2.2, p.1, p.2.1)).1 = false ∧ mless (hitT o d (p.2.2, p.1, p.2.1)).1 (hitT o d p).1 = false := by
  obtain ⟨h1, h2, h3⟩ := hitRot o d p.1 p.2.1 p.2.2
  obtain ⟨k1, k2, k3⟩ := hitRot o d p.2.1 p.2.2 p.1
  exact ⟨k1.trans h1, mless_same (k2.trans h2).symm (k3.trans h3).symm, mless_same (k2.trans h2) (k3.trans h3)⟩
theorem turn3 (o d : T3) (p : T3 × T3 × T3) : (hitT o d (p.1, p.2.2, p.2.1)).2 = (hitT o d p).2 ∧ mless (hitT o d p).1 (hitT o d (p.1, p.2.2, p.2.1)).1 = false ∧ mless (hitT o d (p.1, p.2.2, p.2.1)).1 (hitT o d p).1 = false := by
  obtain ⟨h1, h2, h3⟩ := hitSwap o d p.1 p.2.1 p.2.2
  exact ⟨h1, mless_same h2.symm h3.symm, mless_same h2 h3⟩
theorem TriTurned_true (o d : T3) (p : T3 × T3 × T3) : s_umbralaw20_TriTurned o d p = true := by
  unfold s_umbralaw20_TriTurned
  simp only [lt, works20_true]
  obtain ⟨a1, a2, a3⟩ := turn1 o d p
  obtain ⟨b1, b2, b3⟩ := turn2 o d p
  obtain ⟨c1, c2, c3⟩ := turn3 o d p
  rw [a1, a2, a3, b1, b2, b3, c1, c2, c3]
  cases (hitT o d p).2 <;> simp

end Go.Proofs.Ytbfgmedjogjkeaa
