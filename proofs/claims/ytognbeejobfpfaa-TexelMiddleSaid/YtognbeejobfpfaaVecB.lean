/- Walks: vec.Of. -/
import Derived.Test.YtognbeejobfpfaaVecA
namespace Go.Proofs.Ytognbeejobfpfaa
open Go.RowKit Go.Sort
set_option linter.unusedVariables false
set_option linter.unusedSimpArgs false

set_option maxRecDepth 100000 in
set_option maxHeartbeats 1600000 in
theorem vOf (x y z : Int) (hx : InI x) (hy : InI y) (hz : InI z) (w : World) :
    Calls Try.prog 33 #[(.agg #[.int .i64 x, .int .i64 y, .int .i64 z])] w (Ret (.agg #[.int .i64 (fof x), .int .i64 (fof y), .int .i64 (fof z)]) w) := by
  go_enter Try.func33, Try.ntmps33
  go_wp2_with fail
  have hg : Below w.heap.size w ((w.alloc (.cells #[.int .i64 x, .int .i64 y, .int .i64 z] 69)).alloc (.cells #[.int .i64 0, .int .i64 0, .int .i64 0] 29)) := by go_grown
  have HG := Lib.hid (fun d os => (Below.step hg (below_regrown ((w.alloc (.cells #[.int .i64 x, .int .i64 y, .int .i64 z] 69)).alloc (.cells #[.int .i64 0, .int .i64 0, .int .i64 0] 29)) d os)).1)
  have c1 := reg_cell (w := ((w.alloc (.cells #[.int .i64 x, .int .i64 y, .int .i64 z] 69)).alloc (.cells #[.int .i64 0, .int .i64 0, .int .i64 0] 29))) (a := ⟨w.heap.size, 0, none⟩) (v := .int .i64 x) (by first | go_cell | simp [go_sem])
  have c2 := reg_cell (w := ((w.alloc (.cells #[.int .i64 x, .int .i64 y, .int .i64 z] 69)).alloc (.cells #[.int .i64 0, .int .i64 0, .int .i64 0] 29))) (a := ⟨w.heap.size, 1, none⟩) (v := .int .i64 y) (by first | go_cell | simp [go_sem])
  have c3 := reg_cell (w := ((w.alloc (.cells #[.int .i64 x, .int .i64 y, .int .i64 z] 69)).alloc (.cells #[.int .i64 0, .int .i64 0, .int .i64 0] 29))) (a := ⟨w.heap.size, 2, none⟩) (v := .int .i64 z) (by first | go_cell | simp [go_sem])
  refine wp_region_below_tail 10 (by kernel_rfl) (by kernel_rfl) ?_
  simp only [List.take_succ_cons, List.take_zero, List.drop_succ_cons, List.drop_zero]
  repeat (quiet_step (first
    | (go_at_call 18; exact reg_ret (fOf _ (by assumption) _))))
  refine wpQuiet_nil ?_
  intro w3 hw3
  have hb3 := reg_below hw3
  clear hw3 c1 c2 c3
  have hB3 : Below w.heap.size w w3 := (Below.step hg hb3).1
  have r0 : w3.cell? ⟨w.heap.size + 1, 0, none⟩ = some (.int .i64 0) := (hb3.cell (p := ⟨w.heap.size + 1, 0, none⟩) (by simp)).trans (by first | go_cell | simp [go_sem])
  have f0 : w3.frozen? ⟨w.heap.size + 1, 0, none⟩ = false := (hb3.frozen (p := ⟨w.heap.size + 1, 0, none⟩) (by simp)).trans (by simp [go_sem])
  have r1 : w3.cell? ⟨w.heap.size + 1, 1, none⟩ = some (.int .i64 0) := (hb3.cell (p := ⟨w.heap.size + 1, 1, none⟩) (by simp)).trans (by first | go_cell | simp [go_sem])
  have f1 : w3.frozen? ⟨w.heap.size + 1, 1, none⟩ = false := (hb3.frozen (p := ⟨w.heap.size + 1, 1, none⟩) (by simp)).trans (by simp [go_sem])
  have r2 : w3.cell? ⟨w.heap.size + 1, 2, none⟩ = some (.int .i64 0) := (hb3.cell (p := ⟨w.heap.size + 1, 2, none⟩) (by simp)).trans (by first | go_cell | simp [go_sem])
  have f2 : w3.frozen? ⟨w.heap.size + 1, 2, none⟩ = false := (hb3.frozen (p := ⟨w.heap.size + 1, 2, none⟩) (by simp)).trans (by simp [go_sem])
  clear hb3 hg
  go_wp2
  exact bodyPost_ret (v := (.agg #[.int .i64 (fof x), .int .i64 (fof y), .int .i64 (fof z)])) (by simp (maxDischargeDepth := 9) [results, Try.results33, go_sem, r0, r1, r2]) rfl ⟨rfl, by go_grown⟩

end Go.Proofs.Ytognbeejobfpfaa
