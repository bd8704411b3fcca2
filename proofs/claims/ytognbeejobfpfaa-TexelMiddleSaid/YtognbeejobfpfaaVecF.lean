/- vec.Length, vec.Unit. -/
import Derived.Test.YtognbeejobfpfaaVecE
import Derived.Test.YtognbeejobfpfaaRef2G
namespace Go.Proofs.Ytognbeejobfpfaa
open Go.RowKit Go.Sort
set_option linter.unusedVariables false
set_option linter.unusedSimpArgs false

def vT (a : T3) : Int := a.1 * a.1 + a.2.1 * a.2.1 + a.2.2 * a.2.2
def vlen (a : T3) : Int := if 85070591730234615865843651857942052864 ≤ vT a then 9223372036854775807 else sqN (vT a)
theorem sq_bd {x : Int} (h : InI x) : 0 ≤ x * x ∧ x * x ≤ 85070591730234615865843651857942052864 := by
  have := absU_mul_bound h h
  have e : absU x * absU x = x * x := absU_mul_pos (Iff.rfl)
  rw [e] at this
  exact this
theorem vT_bd {a : T3} (h : InV a) : 0 ≤ vT a ∧ vT a ≤ 255211775190703847597530955573826158592 := by
  have h0 := sq_bd h.1
  have h1 := sq_bd h.2.1
  have h2 := sq_bd h.2.2
  unfold vT
  omega
theorem sqN_small {T : Int} (h0 : 0 ≤ T) (h1 : T < 85070591730234615865843651857942052864) : 0 ≤ sqN T ∧ sqN T ≤ 9223372036854775807 := by
  obtain ⟨⟨r0, r1, r2⟩, h⟩ := sqN_root (x := T) h0 (by omega)
  refine ⟨r0, ?_⟩
  rcases ltge (sqN T) 9223372036854775808 with g | g
  · omega
  · have := sq_mono (a := 9223372036854775808) (by omega) g
    omega
theorem sqN_big {T : Int} (h0 : 85070591730234615865843651857942052864 ≤ T) (h1 : T < 340282366920938463463374607431768211456) : 9223372036854775808 ≤ sqN T ∧ sqN T ≤ 18446744073709551615 := by
  obtain ⟨⟨r0, r1, r2⟩, h⟩ := sqN_root (x := T) (by omega) (by omega)
  refine ⟨?_, by omega⟩
  rcases ltge (sqN T) 9223372036854775808 with g | g
  · have := sq_mono (a := sqN T + 1) (b := 9223372036854775808) (by omega) (by omega)
    omega
  · exact g
theorem vlen_I {a : T3} (h : InV a) : 0 ≤ vlen a ∧ vlen a ≤ 9223372036854775807 := by
  have hb := vT_bd h
  unfold vlen
  split
  · omega
  · exact sqN_small hb.1 (by omega)
theorem vlen_InI {a : T3} (h : InV a) : InI (vlen a) := by have := vlen_I h; unfold InI; omega

theorem sq_zero {x : Int} (h : x * x ≤ 0) : x = 0 := by
  rcases Int.lt_trichotomy x 0 with g | g | g
  · have := Int.mul_pos_of_neg_of_neg g g; omega
  · exact g
  · have := Int.mul_pos g g; omega
theorem vlen_zero {a : T3} (h : InV a) : vlen a = 0 ↔ a = zero3 := by
  have hb := vT_bd h
  have h0 := (sq_bd h.1).1
  have h1 := (sq_bd h.2.1).1
  have h2 := (sq_bd h.2.2).1
  constructor
  · intro e
    have eT : vT a = 0 := by
      unfold vlen at e
      split at e
      · omega
      · obtain ⟨⟨r0, r1, r2⟩, -⟩ := sqN_root (x := vT a) hb.1 (by omega)
        rw [e] at r2
        omega
    unfold vT at eT
    have e1 := sq_zero (x := a.1) (by omega)
    have e2 := sq_zero (x := a.2.1) (by omega)
    have e3 := sq_zero (x := a.2.2) (by omega)
    obtain ⟨x, y, z⟩ := a
    simp at e1 e2 e3
    subst e1 e2 e3
    rfl
  · intro e
    subst e
    have : vT zero3 = 0 := rfl
    unfold vlen
    rw [this, sqN_0]
    rfl

def vunit (a : T3) : T3 := (fdiv a.1 (vlen a), fdiv a.2.1 (vlen a), fdiv a.2.2 (vlen a))
theorem vunit_I (a : T3) : InV (vunit a) := ⟨fdiv_I _ _, fdiv_I _ _, fdiv_I _ _⟩
theorem vunit_zero : vunit zero3 = zero3 := by
  have e : vlen zero3 = 0 := (vlen_zero zero3_I).2 rfl
  unfold vunit
  rw [e]
  rfl

theorem vEachDiv (a : T3) (n : Int) (ha : InV a) (hn : InI n) (w : World) :
    Calls Try.prog 93 #[V3 a.1 a.2.1 a.2.2, V3 n n n, .func (.func 17) #[] #[]] w (Ret (V3 (fdiv a.1 n) (fdiv a.2.1 n) (fdiv a.2.2 n)) w) :=
  vEach 17 #[] fdiv a.1 a.2.1 a.2.2 n n n w (enters_of Try.func17 (by kernel_rfl) rfl)
    (fun w' _ => fDiv _ _ ha.1 hn w') (fun w' _ => fDiv _ _ ha.2.1 hn w') (fun w' _ => fDiv _ _ ha.2.2 hn w')

end Go.Proofs.Ytognbeejobfpfaa
