/- Walk: the law VecProducts. -/
import Derived.Test.YtenefncpokdmnaaLaw3
import Derived.Test.YtenefncpokdmnaaRef3C
import Derived.Test.YtenefncpokdmnaaVecH
import Derived.Test.YtenefncpokdmnaaFrameV
namespace Go.Proofs.Ytenefncpokdmnaa
open Go.RowKit Go.Sort
set_option linter.unusedVariables false
set_option linter.unusedSimpArgs false

set_option maxRecDepth 100000 in
set_option maxHeartbeats 1600000 in
theorem walkVecProducts (a b c : T3) (d m : Int) (K1 : Hid (∀ w, Calls Try.prog 64 #[V3 a.1 a.2.1 a.2.2, V3 b.1 b.2.1 b.2.2] w (Ret (.int .i64 d) w))) (K2 : Hid (∀ w, Calls Try.prog 65 #[V3 a.1 a.2.1 a.2.2, V3 b.1 b.2.1 b.2.2] w (Ret (.int .i64 d) w))) (K3 : Hid (∀ w, Calls Try.prog 66 #[V3 a.1 a.2.1 a.2.2, V3 b.1 b.2.1 b.2.2] w (Ret (V3 c.1 c.2.1 c.2.2) w))) (K4 : Hid (∀ w, Calls Try.prog 67 #[V3 a.1 a.2.1 a.2.2, V3 b.1 b.2.1 b.2.2] w (Ret (V3 c.1 c.2.1 c.2.2) w))) (K5 : Hid (∀ w, Calls Try.prog 38 #[V3 a.1 a.2.1 a.2.2] w (Ret (.int .i64 m) w))) (K6 : Hid (∀ w, Calls Try.prog 68 #[V3 a.1 a.2.1 a.2.2] w (Ret (.int .i64 m) w))) (w : World) :
    Calls Try.prog 15 #[V3 a.1 a.2.1 a.2.2, V3 b.1 b.2.1 b.2.2] w (Ret (.bool true) w) := by
  go_enter Try.func15, Try.ntmps15
  go_wp2_with fail
  have c0 := reg_cell (w := ((w.alloc (.cells #[.int .i64 a.1, .int .i64 a.2.1, .int .i64 a.2.2] 26)).alloc (.cells #[.int .i64 b.1, .int .i64 b.2.1, .int .i64 b.2.2] 26))) (a := ⟨w.heap.size, 0, none⟩) (v := .int .i64 a.1) (by first | go_cell | simp [go_sem])
  have c1 := reg_cell (w := ((w.alloc (.cells #[.int .i64 a.1, .int .i64 a.2.1, .int .i64 a.2.2] 26)).alloc (.cells #[.int .i64 b.1, .int .i64 b.2.1, .int .i64 b.2.2] 26))) (a := ⟨w.heap.size, 1, none⟩) (v := .int .i64 a.2.1) (by first | go_cell | simp [go_sem])
  have c2 := reg_cell (w := ((w.alloc (.cells #[.int .i64 a.1, .int .i64 a.2.1, .int .i64 a.2.2] 26)).alloc (.cells #[.int .i64 b.1, .int .i64 b.2.1, .int .i64 b.2.2] 26))) (a := ⟨w.heap.size, 2, none⟩) (v := .int .i64 a.2.2) (by first | go_cell | simp [go_sem])
  have c3 := reg_cell (w := ((w.alloc (.cells #[.int .i64 a.1, .int .i64 a.2.1, .int .i64 a.2.2] 26)).alloc (.cells #[.int .i64 b.1, .int .i64 b.2.1, .int .i64 b.2.2] 26))) (a := ⟨w.heap.size + 1, 0, none⟩) (v := .int .i64 b.1) (by first | go_cell | simp [go_sem])
  have c4 := reg_cell (w := ((w.alloc (.cells #[.int .i64 a.1, .int .i64 a.2.1, .int .i64 a.2.2] 26)).alloc (.cells #[.int .i64 b.1, .int .i64 b.2.1, .int .i64 b.2.2] 26))) (a := ⟨w.heap.size + 1, 1, none⟩) (v := .int .i64 b.2.1) (by first | go_cell | simp [go_sem])
  have c5 := reg_cell (w := ((w.alloc (.cells #[.int .i64 a.1, .int .i64 a.2.1, .int .i64 a.2.2] 26)).alloc (.cells #[.int .i64 b.1, .int .i64 b.2.1, .int .i64 b.2.2] 26))) (a := ⟨w.heap.size + 1, 2, none⟩) (v := .int .i64 b.2.2) (by first | go_cell | simp [go_sem])
  have hB0 : Below w.heap.size w ((w.alloc (.cells #[.int .i64 a.1, .int .i64 a.2.1, .int .i64 a.2.2] 26)).alloc (.cells #[.int .i64 b.1, .int .i64 b.2.1, .int .i64 b.2.2] 26)) := by go_grown
  refine wp_region_quiet_below (by kernel_rfl) (by kernel_rfl) ?_
  repeat (quiet_step (first
    | (go_at_call 64; exact reg_ret (K1.out _))
    | (go_at_call 65; exact reg_ret (K2.out _))
    | (go_at_call 66; exact reg_ret (K3.out _))
    | (go_at_call 67; exact reg_ret (K4.out _))
    | (go_at_call 38; exact reg_ret (K5.out _))
    | (go_at_call 68; exact reg_ret (K6.out _))
    | (go_at_call 18; exact reg_ret (works3 _))))
  refine wpQuiet_nil ?_
  intro w3 hw3
  have hb3 := reg_below hw3
  clear hw3 c0 c1 c2 c3 c4 c5
  have hB3 : Below w.heap.size w w3 := Below.next hB0 hb3
  clear hb3 hB0
  go_wp2
  go_ret
  exact ret_of rfl hB3

theorem lawVecProducts (ns0 : List Int) (h0 : Al2 Fits [.i64, .i64, .i64] ns0) (ns1 : List Int) (h1 : Al2 Fits [.i64, .i64, .i64] ns1) (w : World) :
    Calls Try.prog 15 #[.agg (vals [.i64, .i64, .i64] ns0).toArray, .agg (vals [.i64, .i64, .i64] ns1).toArray] w (Ret (.bool true) w) := by
  obtain ⟨a, ha, e0⟩ := three_in h0
  obtain ⟨b, hb, e1⟩ := three_in h1
  rw [e0, e1]
  exact walkVecProducts a b (vcross a b) (vdot a b) (vmost a) (Lib.hid (vDot a b ha hb)) (Lib.hid (r3Dot a b ha hb)) (Lib.hid (vCross a b ha hb)) (Lib.hid (r3Cross a b ha hb)) (Lib.hid (vMost a ha)) (Lib.hid (r3Most a ha)) w

end Go.Proofs.Ytenefncpokdmnaa
