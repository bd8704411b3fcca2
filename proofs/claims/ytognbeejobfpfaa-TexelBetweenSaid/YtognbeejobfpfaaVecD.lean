/- Walks: vec.Sub, Scale, Lerp, Dot, Most. -/
import Derived.Test.YtognbeejobfpfaaVecC
namespace Go.Proofs.Ytognbeejobfpfaa
open Go.RowKit Go.Sort
set_option linter.unusedVariables false
set_option linter.unusedSimpArgs false

theorem sumT2 {a b : T3} (ha : InV a) : sumT [a, b] = vadd a b := by show vadd (vadd zero3 a) b = _; rw [vadd_zero ha]
theorem sumT3 {a b c : T3} (ha : InV a) : sumT [a, b, c] = vadd (vadd a b) c := by show vadd (vadd (vadd zero3 a) b) c = _; rw [vadd_zero ha]
theorem mulT2 {a b : T3} (ha : InV a) : mulT [a, b] = vmul a b := by show vmul (vmul one3 a) b = _; rw [vmul_one ha]

theorem vTimes2 (a b : T3) (ha : InV a) (hb : InV b) (w : World) (B cap : Nat) (hc : CellsV w B 0 [a, b]) :
    Calls Try.prog 61 #[.slice (some ⟨B, 0, none⟩) 2 cap] w (Ret (V3 (vmul a b).1 (vmul a b).2.1 (vmul a b).2.2) w) := by
  have := vTimes_ne B 0 2 cap [a, b] rfl (by simp) (by simp; exact ⟨ha, hb⟩) w (hc.lt (by simp)) hc
  rw [mulT2 ha] at this
  exact this

theorem vAdd2 (a b : T3) (ha : InV a) (hb : InV b) (w : World) (B cap : Nat) (hc : CellsV w B 0 [a, b]) :
    Calls Try.prog 69 #[.slice (some ⟨B, 0, none⟩) 2 cap] w (Ret (V3 (vadd a b).1 (vadd a b).2.1 (vadd a b).2.2) w) := by
  have := vAdd_ne B 0 2 cap [a, b] rfl (by simp) (by simp; exact ⟨ha, hb⟩) w (hc.lt (by simp)) hc
  rw [sumT2 ha] at this
  exact this

theorem vEachSub (a b : T3) (ha : InV a) (hb : InV b) (w : World) :
    Calls Try.prog 93 #[V3 a.1 a.2.1 a.2.2, V3 b.1 b.2.1 b.2.2, .func (.func 68) #[] #[]] w (Ret (V3 (vsub a b).1 (vsub a b).2.1 (vsub a b).2.2) w) :=
  vEach 68 #[] satSub a.1 a.2.1 a.2.2 b.1 b.2.1 b.2.2 w (enters_of Try.func68 (by kernel_rfl) rfl)
    (fun w' _ => (fSub _ _ ha.1 hb.1 w').mono fun _ _ h => h.ret) (fun w' _ => (fSub _ _ ha.2.1 hb.2.1 w').mono fun _ _ h => h.ret) (fun w' _ => (fSub _ _ ha.2.2 hb.2.2 w').mono fun _ _ h => h.ret)

def vlerp (a b : T3) (t : Int) : T3 := (flerp a.1 b.1 t, flerp a.2.1 b.2.1 t, flerp a.2.2 b.2.2 t)

theorem flerp_I (a b t : Int) : InI (flerp a b t) := satAdd_I _ _
theorem vlerp_I (a b : T3) (t : Int) : InV (vlerp a b t) := ⟨flerp_I _ _ _, flerp_I _ _ _, flerp_I _ _ _⟩

set_option maxRecDepth 100000 in
set_option maxHeartbeats 1600000 in
theorem vSub (a b : T3) (ha : InV a) (hb : InV b) (w : World) : Calls Try.prog 72 #[V3 a.1 a.2.1 a.2.2, V3 b.1 b.2.1 b.2.2] w (Ret (V3 (vsub a b).1 (vsub a b).2.1 (vsub a b).2.2) w) := by
  go_enter Try.func72, Try.ntmps72
  go_wp2_with fail
  refine (vEachSub a b ha hb _).mono ?_; rintro e w1 ⟨rfl, hb1⟩
  have hB1 : Below w.heap.size w w1 := Below.next (by go_grown) hb1
  have g := (Holds3.new ((w.alloc _).alloc _) 0 0 0 _ (w.heap.size + 1 + 1) (by simp)).call hb1
  obtain ⟨r0, r1, r2, t0, t1, t2⟩ := g
  clear hb1
  go_wp2
  exact bodyPost_ret (v := V3 (vsub a b).1 (vsub a b).2.1 (vsub a b).2.2) (by simp (maxDischargeDepth := 9) [results, Try.results72, go_sem, r0, r1, r2]) rfl ⟨rfl, by go_grown⟩

set_option maxRecDepth 100000 in
set_option maxHeartbeats 1600000 in
theorem vScale (a : T3) (k : Int) (ha : InV a) (hk : InI k) (w : World) : Calls Try.prog 70 #[V3 a.1 a.2.1 a.2.2, .int .i64 k] w (Ret (V3 (vmul a (k, k, k)).1 (vmul a (k, k, k)).2.1 (vmul a (k, k, k)).2.2) w) := by
  go_enter Try.func70, Try.ntmps70
  go_wp2_with fail
  refine (vTimes2 a (k, k, k) ha ⟨hk, hk, hk⟩ _ _ _ (cellsV2 (by first | go_cell | simp [go_sem]) (by first | go_cell | simp [go_sem]) (by first | go_cell | simp [go_sem]) (by first | go_cell | simp [go_sem]) (by first | go_cell | simp [go_sem]) (by first | go_cell | simp [go_sem]))).mono ?_; rintro e w1 ⟨rfl, hb1⟩
  have hB1 : Below w.heap.size w w1 := Below.next (by go_grown) hb1
  have g := ((Holds3.new (w.alloc _) 0 0 0 _ (w.heap.size + 1) (by simp)).more _).call hb1
  obtain ⟨r0, r1, r2, t0, t1, t2⟩ := g
  clear hb1
  go_wp2
  exact bodyPost_ret (v := V3 (vmul a (k, k, k)).1 (vmul a (k, k, k)).2.1 (vmul a (k, k, k)).2.2) (by simp (maxDischargeDepth := 9) [results, Try.results70, go_sem, r0, r1, r2]) rfl ⟨rfl, by go_grown⟩

def vdot (a b : T3) : Int := satAdd (satAdd (vmul a b).1 (vmul a b).2.1) (vmul a b).2.2

theorem imax (x y : Int) : (if x < y then y else x) = max x y := by omega
theorem imin (x y : Int) : (if y < x then y else x) = min x y := by omega
def vmost (a : T3) : Int := max (max (fabs a.1) (fabs a.2.1)) (fabs a.2.2)

set_option maxRecDepth 100000 in
set_option maxHeartbeats 1600000 in
theorem vMost (a : T3) (ha : InV a) (w : World) : Calls Try.prog 101 #[V3 a.1 a.2.1 a.2.2] w (Ret (.int .i64 (vmost a)) w) := by
  obtain ⟨h0, h1, h2⟩ := ha
  go_enter Try.func101, Try.ntmps101
  go_wp2_with fail
  have c0 := reg_cell (w := (w.alloc (.cells #[.int .i64 a.1, .int .i64 a.2.1, .int .i64 a.2.2] 29))) (a := ⟨w.heap.size, 0, none⟩) (v := .int .i64 a.1) (by first | go_cell | simp [go_sem])
  have c1 := reg_cell (w := (w.alloc (.cells #[.int .i64 a.1, .int .i64 a.2.1, .int .i64 a.2.2] 29))) (a := ⟨w.heap.size, 1, none⟩) (v := .int .i64 a.2.1) (by first | go_cell | simp [go_sem])
  have c2 := reg_cell (w := (w.alloc (.cells #[.int .i64 a.1, .int .i64 a.2.1, .int .i64 a.2.2] 29))) (a := ⟨w.heap.size, 2, none⟩) (v := .int .i64 a.2.2) (by first | go_cell | simp [go_sem])
  refine wp_region_quiet_below (by kernel_rfl) (by kernel_rfl) ?_
  repeat (quiet_step ((go_at_call 107; exact reg_same (fAbs _ (by assumption) _))))
  refine wpQuiet_nil ?_
  intro w3 hw3
  have hb3 := reg_below hw3
  clear hw3 c0 c1 c2
  have hB3 : Below w.heap.size w w3 := Below.next (by go_grown) hb3
  simp only [imax]
  go_wp2
  go_ret
  exact ret_of rfl hB3

end Go.Proofs.Ytognbeejobfpfaa
