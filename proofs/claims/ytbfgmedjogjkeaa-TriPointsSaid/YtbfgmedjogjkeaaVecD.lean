/- Walks: vec.Sub, Scale, Lerp, Dot, Most. -/
import Derived.Test.YtbfgmedjogjkeaaVecC
namespace Go.Proofs.Ytbfgmedjogjkeaa
open Go.RowKit Go.Sort
set_option linter.unusedVariables false
set_option linter.unusedSimpArgs false

theorem sumT2 {a b : T3} (ha : InV a) : sumT [a, b] = vadd a b := by show vadd (vadd zero3 a) b = _; rw [vadd_zero ha]
theorem sumT3 {a b c : T3} (ha : InV a) : sumT [a, b, c] = vadd (vadd a b) c := by show vadd (vadd (vadd zero3 a) b) c = _; rw [vadd_zero ha]
theorem mulT2 {a b : T3} (ha : InV a) : mulT [a, b] = vmul a b := by show vmul (vmul one3 a) b = _; rw [vmul_one ha]

def vlerp (a b : T3) (t : Int) : T3 := (flerp a.1 b.1 t, flerp a.2.1 b.2.1 t, flerp a.2.2 b.2.2 t)

theorem flerp_I (a b t : Int) : InI (flerp a b t) := satAdd_I _ _
theorem vlerp_I (a b : T3) (t : Int) : InV (vlerp a b t) := ⟨flerp_I _ _ _, flerp_I _ _ _, flerp_I _ _ _⟩

def vdot (a b : T3) : Int := satAdd (satAdd (vmul a b).1 (vmul a b).2.1) (vmul a b).2.2

theorem imax (x y : Int) : (if x < y then y else x) = max x y := by omega
theorem imin (x y : Int) : (if y < x then y else x) = min x y := by omega
def vmost (a : T3) : Int := max (max (fabs a.1) (fabs a.2.1)) (fabs a.2.2)

set_option maxRecDepth 100000 in
set_option maxHeartbeats 1600000 in
theorem vMost (a : T3) (ha : InV a) (w : World) : Calls Try.prog 59 #[V3 a.1 a.2.1 a.2.2] w (Ret (.int .i64 (vmost a)) w) := by
  obtain ⟨h0, h1, h2⟩ := ha
  go_enter Try.func59, Try.ntmps59
  go_wp2_with fail
  have c0 := reg_cell (w := (w.alloc (.cells #[.int .i64 a.1, .int .i64 a.2.1, .int .i64 a.2.2] 39))) (a := ⟨w.heap.size, 0, none⟩) (v := .int .i64 a.1) (by first | go_cell | simp [go_sem])
  have c1 := reg_cell (w := (w.alloc (.cells #[.int .i64 a.1, .int .i64 a.2.1, .int .i64 a.2.2] 39))) (a := ⟨w.heap.size, 1, none⟩) (v := .int .i64 a.2.1) (by first | go_cell | simp [go_sem])
  have c2 := reg_cell (w := (w.alloc (.cells #[.int .i64 a.1, .int .i64 a.2.1, .int .i64 a.2.2] 39))) (a := ⟨w.heap.size, 2, none⟩) (v := .int .i64 a.2.2) (by first | go_cell | simp [go_sem])
  refine wp_region_quiet_below (by kernel_rfl) (by kernel_rfl) ?_
  repeat (quiet_step ((go_at_call 79; exact reg_same (fAbs _ (by assumption) _))))
  refine wpQuiet_nil ?_
  intro w3 hw3
  have hb3 := reg_below hw3
  clear hw3 c0 c1 c2
  have hB3 : Below w.heap.size w w3 := Below.next (by go_grown) hb3
  simp only [imax]
  go_wp2
  go_ret
  exact ret_of rfl hB3

end Go.Proofs.Ytbfgmedjogjkeaa
