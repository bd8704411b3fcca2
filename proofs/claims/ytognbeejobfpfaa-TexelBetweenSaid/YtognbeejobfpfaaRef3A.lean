/- Walks: the document's answer for layer 3: vectors made part by part. -/
import Derived.Test.YtognbeejobfpfaaVecA
import Derived.Test.YtognbeejobfpfaaRef2
namespace Go.Proofs.Ytognbeejobfpfaa
open Go.RowKit Go.Sort
set_option linter.unusedVariables false
set_option linter.unusedSimpArgs false

set_option maxRecDepth 100000 in
set_option maxHeartbeats 1600000 in
theorem r3Both (ax ay az bx b_y bz : Int) (hax : InI ax) (hay : InI ay) (haz : InI az) (hbx : InI bx) (hby : InI b_y) (hbz : InI bz) (w : World) :
    Calls Try.prog 62 #[(.agg #[.int .i64 ax, .int .i64 ay, .int .i64 az]), (.agg #[.int .i64 bx, .int .i64 b_y, .int .i64 bz])] w (Ret (.agg #[.int .i64 (fmul ax bx), .int .i64 (fmul ay b_y), .int .i64 (fmul az bz)]) w) := by
  go_enter Try.func62, Try.ntmps62
  go_wp2_with fail
  have hg : Below w.heap.size w (((w.alloc (.cells #[.int .i64 ax, .int .i64 ay, .int .i64 az] 29)).alloc (.cells #[.int .i64 bx, .int .i64 b_y, .int .i64 bz] 29)).alloc (.cells #[.int .i64 0, .int .i64 0, .int .i64 0] 29)) := by go_grown
  have HG := Lib.hid (fun d os => (Below.step hg (below_regrown (((w.alloc (.cells #[.int .i64 ax, .int .i64 ay, .int .i64 az] 29)).alloc (.cells #[.int .i64 bx, .int .i64 b_y, .int .i64 bz] 29)).alloc (.cells #[.int .i64 0, .int .i64 0, .int .i64 0] 29)) d os)).1)
  have c1 := reg_cell (w := (((w.alloc (.cells #[.int .i64 ax, .int .i64 ay, .int .i64 az] 29)).alloc (.cells #[.int .i64 bx, .int .i64 b_y, .int .i64 bz] 29)).alloc (.cells #[.int .i64 0, .int .i64 0, .int .i64 0] 29))) (a := ⟨w.heap.size, 0, none⟩) (v := .int .i64 ax) (by first | go_cell | simp [go_sem])
  have c2 := reg_cell (w := (((w.alloc (.cells #[.int .i64 ax, .int .i64 ay, .int .i64 az] 29)).alloc (.cells #[.int .i64 bx, .int .i64 b_y, .int .i64 bz] 29)).alloc (.cells #[.int .i64 0, .int .i64 0, .int .i64 0] 29))) (a := ⟨w.heap.size, 1, none⟩) (v := .int .i64 ay) (by first | go_cell | simp [go_sem])
  have c3 := reg_cell (w := (((w.alloc (.cells #[.int .i64 ax, .int .i64 ay, .int .i64 az] 29)).alloc (.cells #[.int .i64 bx, .int .i64 b_y, .int .i64 bz] 29)).alloc (.cells #[.int .i64 0, .int .i64 0, .int .i64 0] 29))) (a := ⟨w.heap.size, 2, none⟩) (v := .int .i64 az) (by first | go_cell | simp [go_sem])
  have c4 := reg_cell (w := (((w.alloc (.cells #[.int .i64 ax, .int .i64 ay, .int .i64 az] 29)).alloc (.cells #[.int .i64 bx, .int .i64 b_y, .int .i64 bz] 29)).alloc (.cells #[.int .i64 0, .int .i64 0, .int .i64 0] 29))) (a := ⟨w.heap.size + 1, 0, none⟩) (v := .int .i64 bx) (by first | go_cell | simp [go_sem])
  have c5 := reg_cell (w := (((w.alloc (.cells #[.int .i64 ax, .int .i64 ay, .int .i64 az] 29)).alloc (.cells #[.int .i64 bx, .int .i64 b_y, .int .i64 bz] 29)).alloc (.cells #[.int .i64 0, .int .i64 0, .int .i64 0] 29))) (a := ⟨w.heap.size + 1, 1, none⟩) (v := .int .i64 b_y) (by first | go_cell | simp [go_sem])
  have c6 := reg_cell (w := (((w.alloc (.cells #[.int .i64 ax, .int .i64 ay, .int .i64 az] 29)).alloc (.cells #[.int .i64 bx, .int .i64 b_y, .int .i64 bz] 29)).alloc (.cells #[.int .i64 0, .int .i64 0, .int .i64 0] 29))) (a := ⟨w.heap.size + 1, 2, none⟩) (v := .int .i64 bz) (by first | go_cell | simp [go_sem])
  refine wp_region_below_tail 16 (by kernel_rfl) (by kernel_rfl) ?_
  simp only [List.take_succ_cons, List.take_zero, List.drop_succ_cons, List.drop_zero]
  repeat (quiet_step (first
    | (go_at_call 96; exact reg_same (rTimes _ _ (by assumption) (by assumption) _))))
  refine wpQuiet_nil ?_
  intro w3 hw3
  have hb3 := reg_below hw3
  clear hw3 c1 c2 c3 c4 c5 c6
  have hB3 : Below w.heap.size w w3 := (Below.step hg hb3).1
  have r0 : w3.cell? ⟨w.heap.size + 1 + 1, 0, none⟩ = some (.int .i64 0) := (hb3.cell (p := ⟨w.heap.size + 1 + 1, 0, none⟩) (by simp)).trans (by first | go_cell | simp [go_sem])
  have f0 : w3.frozen? ⟨w.heap.size + 1 + 1, 0, none⟩ = false := (hb3.frozen (p := ⟨w.heap.size + 1 + 1, 0, none⟩) (by simp)).trans (by simp [go_sem])
  have r1 : w3.cell? ⟨w.heap.size + 1 + 1, 1, none⟩ = some (.int .i64 0) := (hb3.cell (p := ⟨w.heap.size + 1 + 1, 1, none⟩) (by simp)).trans (by first | go_cell | simp [go_sem])
  have f1 : w3.frozen? ⟨w.heap.size + 1 + 1, 1, none⟩ = false := (hb3.frozen (p := ⟨w.heap.size + 1 + 1, 1, none⟩) (by simp)).trans (by simp [go_sem])
  have r2 : w3.cell? ⟨w.heap.size + 1 + 1, 2, none⟩ = some (.int .i64 0) := (hb3.cell (p := ⟨w.heap.size + 1 + 1, 2, none⟩) (by simp)).trans (by first | go_cell | simp [go_sem])
  have f2 : w3.frozen? ⟨w.heap.size + 1 + 1, 2, none⟩ = false := (hb3.frozen (p := ⟨w.heap.size + 1 + 1, 2, none⟩) (by simp)).trans (by simp [go_sem])
  clear hb3 hg
  go_wp2
  exact bodyPost_ret (v := (.agg #[.int .i64 (fmul ax bx), .int .i64 (fmul ay b_y), .int .i64 (fmul az bz)])) (by simp (maxDischargeDepth := 9) [results, Try.results62, go_sem, r0, r1, r2]) rfl ⟨rfl, by go_grown⟩

end Go.Proofs.Ytognbeejobfpfaa
