/- Walks: vec.each. -/
import Derived.Test.YtognbeejobfpfaaQuietT
import Derived.Test.YtognbeejobfpfaaVecM
import Derived.Test.YtognbeejobfpfaaLaw2
namespace Go.Proofs.Ytognbeejobfpfaa
open Go.RowKit Go.Sort
set_option linter.unusedVariables false
set_option linter.unusedSimpArgs false

/-- A vector. -/
abbrev V3 (x y z : Int) : Value := .agg #[.int .i64 x, .int .i64 y, .int .i64 z]
/-- Its cells. -/
abbrev C3 (x y z : Int) : Obj := .cells #[.int .i64 x, .int .i64 y, .int .i64 z] 29

set_option maxRecDepth 100000 in
set_option maxHeartbeats 800000 in
theorem vEach (k : FuncId) (cap : Array Value) (f : Int → Int → Int) (ax ay az bx b_y bz : Int) (w : World) (he : ∀ args w, (callFunc k args).run Try.prog w = .ok (.enter k args) w)
    (H1 : ∀ w', Below w.heap.size w w' → Calls Try.prog k (#[.int .i64 ax, .int .i64 bx] ++ cap) w' (Ret (.int .i64 (f ax bx)) w'))
    (H2 : ∀ w', Below w.heap.size w w' → Calls Try.prog k (#[.int .i64 ay, .int .i64 b_y] ++ cap) w' (Ret (.int .i64 (f ay b_y)) w'))
    (H3 : ∀ w', Below w.heap.size w w' → Calls Try.prog k (#[.int .i64 az, .int .i64 bz] ++ cap) w' (Ret (.int .i64 (f az bz)) w')) :
    Calls Try.prog 93 #[V3 ax ay az, V3 bx b_y bz, .func (.func k) #[] cap] w (Ret (V3 (f ax bx) (f ay b_y) (f az bz)) w) := by
  have K1 := Lib.hid H1
  have K2 := Lib.hid H2
  have K3 := Lib.hid H3
  clear H1 H2 H3
  go_enter Try.func93, Try.ntmps93
  go_wp2_with fail
  have c1 := reg_cell (w := ((w.alloc (C3 ax ay az)).alloc (C3 bx b_y bz)).alloc (C3 0 0 0)) (a := ⟨w.heap.size, 0, none⟩) (v := .int .i64 ax) (by first | go_cell | simp [go_sem])
  have c2 := reg_cell (w := ((w.alloc (C3 ax ay az)).alloc (C3 bx b_y bz)).alloc (C3 0 0 0)) (a := ⟨w.heap.size, 1, none⟩) (v := .int .i64 ay) (by first | go_cell | simp [go_sem])
  have c3 := reg_cell (w := ((w.alloc (C3 ax ay az)).alloc (C3 bx b_y bz)).alloc (C3 0 0 0)) (a := ⟨w.heap.size, 2, none⟩) (v := .int .i64 az) (by first | go_cell | simp [go_sem])
  have c4 := reg_cell (w := ((w.alloc (C3 ax ay az)).alloc (C3 bx b_y bz)).alloc (C3 0 0 0)) (a := ⟨w.heap.size + 1, 0, none⟩) (v := .int .i64 bx) (by first | go_cell | simp [go_sem])
  have c5 := reg_cell (w := ((w.alloc (C3 ax ay az)).alloc (C3 bx b_y bz)).alloc (C3 0 0 0)) (a := ⟨w.heap.size + 1, 1, none⟩) (v := .int .i64 b_y) (by first | go_cell | simp [go_sem])
  have c6 := reg_cell (w := ((w.alloc (C3 ax ay az)).alloc (C3 bx b_y bz)).alloc (C3 0 0 0)) (a := ⟨w.heap.size + 1, 2, none⟩) (v := .int .i64 bz) (by first | go_cell | simp [go_sem])
  have hg : Below w.heap.size w (((w.alloc (C3 ax ay az)).alloc (C3 bx b_y bz)).alloc (C3 0 0 0)) := by go_grown
  have KG := Lib.hid hg
  clear hg
  refine wp_region_below_tail 19 (by kernel_rfl) (by kernel_rfl) ?_
  simp only [List.take_succ_cons, List.take_zero, List.drop_succ_cons, List.drop_zero]
  repeat (quiet_step (first | exact reg_ret (K1.out _ (Below.step KG.out (reg_below ⟨⟨_, _⟩, rfl⟩)).1) | exact reg_ret (K2.out _ (Below.step KG.out (reg_below ⟨⟨_, _⟩, rfl⟩)).1) | exact reg_ret (K3.out _ (Below.step KG.out (reg_below ⟨⟨_, _⟩, rfl⟩)).1)))
  refine wpQuiet_nil ?_
  intro w3 hw3
  have hb3 := reg_below hw3
  clear hw3 c1 c2 c3 c4 c5 c6
  obtain ⟨hB3, hS3⟩ : Below w.heap.size w w3 ∧ w.heap.size ≤ w3.heap.size := Below.step KG.out hb3
  have r0 : w3.cell? ⟨w.heap.size + 1 + 1, 0, none⟩ = some (.int .i64 0) := (hb3.cell (p := ⟨w.heap.size + 1 + 1, 0, none⟩) (by simp)).trans (by first | go_cell | simp [go_sem])
  have f0 : w3.frozen? ⟨w.heap.size + 1 + 1, 0, none⟩ = false := (hb3.frozen (p := ⟨w.heap.size + 1 + 1, 0, none⟩) (by simp)).trans (by simp [go_sem])
  have r1 : w3.cell? ⟨w.heap.size + 1 + 1, 1, none⟩ = some (.int .i64 0) := (hb3.cell (p := ⟨w.heap.size + 1 + 1, 1, none⟩) (by simp)).trans (by first | go_cell | simp [go_sem])
  have f1 : w3.frozen? ⟨w.heap.size + 1 + 1, 1, none⟩ = false := (hb3.frozen (p := ⟨w.heap.size + 1 + 1, 1, none⟩) (by simp)).trans (by simp [go_sem])
  have r2 : w3.cell? ⟨w.heap.size + 1 + 1, 2, none⟩ = some (.int .i64 0) := (hb3.cell (p := ⟨w.heap.size + 1 + 1, 2, none⟩) (by simp)).trans (by first | go_cell | simp [go_sem])
  have f2 : w3.frozen? ⟨w.heap.size + 1 + 1, 2, none⟩ = false := (hb3.frozen (p := ⟨w.heap.size + 1 + 1, 2, none⟩) (by simp)).trans (by simp [go_sem])
  clear hb3
  go_wp2
  exact bodyPost_ret (v := V3 (f ax bx) (f ay b_y) (f az bz)) (by simp (maxDischargeDepth := 9) [results, Try.results93, go_sem, r0, r1, r2]) rfl ⟨rfl, by go_grown⟩

end Go.Proofs.Ytognbeejobfpfaa
