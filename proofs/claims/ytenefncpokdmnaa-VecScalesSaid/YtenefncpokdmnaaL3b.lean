/- Walk: the law VecScales. -/
import Derived.Test.YtenefncpokdmnaaLaw3
import Derived.Test.YtenefncpokdmnaaRef3A
import Derived.Test.YtenefncpokdmnaaFrameV
namespace Go.Proofs.Ytenefncpokdmnaa
open Go.RowKit Go.Sort
set_option linter.unusedVariables false
set_option linter.unusedSimpArgs false

set_option maxRecDepth 100000 in
set_option maxHeartbeats 1600000 in
theorem walkVecScales (a b s l o : T3) (k : Int) (ha : InV a) (hb : InV b) (hk : InI k)
    (K1 : Hid (∀ w, Calls Try.prog 52 #[V3 a.1 a.2.1 a.2.2, .int .i64 k] w (Ret (V3 s.1 s.2.1 s.2.2) w))) (K2 : Hid (∀ w, Calls Try.prog 53 #[V3 a.1 a.2.1 a.2.2, .int .i64 k] w (Ret (V3 s.1 s.2.1 s.2.2) w)))
    (K3 : Hid (∀ w, Calls Try.prog 54 #[V3 a.1 a.2.1 a.2.2, V3 b.1 b.2.1 b.2.2, .int .i64 k] w (Ret (V3 l.1 l.2.1 l.2.2) w))) (K4 : Hid (∀ w, Calls Try.prog 55 #[V3 a.1 a.2.1 a.2.2, V3 b.1 b.2.1 b.2.2, .int .i64 k] w (Ret (V3 l.1 l.2.1 l.2.2) w)))
    (K5 : Hid (∀ w, Calls Try.prog 56 #[V3 a.1 a.2.1 a.2.2] w (Ret (V3 o.1 o.2.1 o.2.2) w))) (K6 : Hid (∀ w, Calls Try.prog 57 #[V3 a.1 a.2.1 a.2.2] w (Ret (V3 o.1 o.2.1 o.2.2) w))) (w : World) :
    Calls Try.prog 13 #[V3 a.1 a.2.1 a.2.2, V3 b.1 b.2.1 b.2.2, .int .i64 k] w (Ret (.bool true) w) := by
  go_enter Try.func13, Try.ntmps13
  go_wp2_with fail
  have c0 := reg_cell (w := (((w.alloc (.cells #[.int .i64 a.1, .int .i64 a.2.1, .int .i64 a.2.2] 26)).alloc (.cells #[.int .i64 b.1, .int .i64 b.2.1, .int .i64 b.2.2] 26)).alloc (.cells #[.int .i64 a.1, .int .i64 a.2.1, .int .i64 a.2.2] 23))) (a := ⟨w.heap.size, 0, none⟩) (v := .int .i64 a.1) (by first | go_cell | simp [go_sem])
  have c1 := reg_cell (w := (((w.alloc (.cells #[.int .i64 a.1, .int .i64 a.2.1, .int .i64 a.2.2] 26)).alloc (.cells #[.int .i64 b.1, .int .i64 b.2.1, .int .i64 b.2.2] 26)).alloc (.cells #[.int .i64 a.1, .int .i64 a.2.1, .int .i64 a.2.2] 23))) (a := ⟨w.heap.size, 1, none⟩) (v := .int .i64 a.2.1) (by first | go_cell | simp [go_sem])
  have c2 := reg_cell (w := (((w.alloc (.cells #[.int .i64 a.1, .int .i64 a.2.1, .int .i64 a.2.2] 26)).alloc (.cells #[.int .i64 b.1, .int .i64 b.2.1, .int .i64 b.2.2] 26)).alloc (.cells #[.int .i64 a.1, .int .i64 a.2.1, .int .i64 a.2.2] 23))) (a := ⟨w.heap.size, 2, none⟩) (v := .int .i64 a.2.2) (by first | go_cell | simp [go_sem])
  have c3 := reg_cell (w := (((w.alloc (.cells #[.int .i64 a.1, .int .i64 a.2.1, .int .i64 a.2.2] 26)).alloc (.cells #[.int .i64 b.1, .int .i64 b.2.1, .int .i64 b.2.2] 26)).alloc (.cells #[.int .i64 a.1, .int .i64 a.2.1, .int .i64 a.2.2] 23))) (a := ⟨w.heap.size + 1, 0, none⟩) (v := .int .i64 b.1) (by first | go_cell | simp [go_sem])
  have c4 := reg_cell (w := (((w.alloc (.cells #[.int .i64 a.1, .int .i64 a.2.1, .int .i64 a.2.2] 26)).alloc (.cells #[.int .i64 b.1, .int .i64 b.2.1, .int .i64 b.2.2] 26)).alloc (.cells #[.int .i64 a.1, .int .i64 a.2.1, .int .i64 a.2.2] 23))) (a := ⟨w.heap.size + 1, 1, none⟩) (v := .int .i64 b.2.1) (by first | go_cell | simp [go_sem])
  have c5 := reg_cell (w := (((w.alloc (.cells #[.int .i64 a.1, .int .i64 a.2.1, .int .i64 a.2.2] 26)).alloc (.cells #[.int .i64 b.1, .int .i64 b.2.1, .int .i64 b.2.2] 26)).alloc (.cells #[.int .i64 a.1, .int .i64 a.2.1, .int .i64 a.2.2] 23))) (a := ⟨w.heap.size + 1, 2, none⟩) (v := .int .i64 b.2.2) (by first | go_cell | simp [go_sem])
  have c6 := reg_cell (w := (((w.alloc (.cells #[.int .i64 a.1, .int .i64 a.2.1, .int .i64 a.2.2] 26)).alloc (.cells #[.int .i64 b.1, .int .i64 b.2.1, .int .i64 b.2.2] 26)).alloc (.cells #[.int .i64 a.1, .int .i64 a.2.1, .int .i64 a.2.2] 23))) (a := ⟨w.heap.size + 1 + 1, 0, none⟩) (v := .int .i64 a.1) (by first | go_cell | simp [go_sem])
  have c7 := reg_cell (w := (((w.alloc (.cells #[.int .i64 a.1, .int .i64 a.2.1, .int .i64 a.2.2] 26)).alloc (.cells #[.int .i64 b.1, .int .i64 b.2.1, .int .i64 b.2.2] 26)).alloc (.cells #[.int .i64 a.1, .int .i64 a.2.1, .int .i64 a.2.2] 23))) (a := ⟨w.heap.size + 1 + 1, 1, none⟩) (v := .int .i64 a.2.1) (by first | go_cell | simp [go_sem])
  have c8 := reg_cell (w := (((w.alloc (.cells #[.int .i64 a.1, .int .i64 a.2.1, .int .i64 a.2.2] 26)).alloc (.cells #[.int .i64 b.1, .int .i64 b.2.1, .int .i64 b.2.2] 26)).alloc (.cells #[.int .i64 a.1, .int .i64 a.2.1, .int .i64 a.2.2] 23))) (a := ⟨w.heap.size + 1 + 1, 2, none⟩) (v := .int .i64 a.2.2) (by first | go_cell | simp [go_sem])
  have hB0 : Below w.heap.size w (((w.alloc (.cells #[.int .i64 a.1, .int .i64 a.2.1, .int .i64 a.2.2] 26)).alloc (.cells #[.int .i64 b.1, .int .i64 b.2.1, .int .i64 b.2.2] 26)).alloc (.cells #[.int .i64 a.1, .int .i64 a.2.1, .int .i64 a.2.2] 23)) := by go_grown
  refine wp_region_quiet_below (by kernel_rfl) (by kernel_rfl) ?_
  repeat (quiet_step (first
    | (go_at_call 52; exact reg_ret (K1.out _))
    | (go_at_call 53; exact reg_ret (K2.out _))
    | (go_at_call 54; exact reg_ret (K3.out _))
    | (go_at_call 55; exact reg_ret (K4.out _))
    | (go_at_call 56; exact reg_ret (K5.out _))
    | (go_at_call 57; exact reg_ret (K6.out _))
    | (go_at_call 18; exact reg_ret (works3 _))))
  refine wpQuiet_nil ?_
  intro w3 hw3
  have hb3 := reg_below hw3
  clear hw3 c0 c1 c2 c3 c4 c5 c6 c7 c8
  have hB3 : Below w.heap.size w w3 := Below.next hB0 hb3
  clear hb3 hB0
  go_wp2
  go_ret
  exact ret_of rfl hB3

theorem lawVecScales (ns0 : List Int) (h0 : Al2 Fits [.i64, .i64, .i64] ns0) (ns1 : List Int) (h1 : Al2 Fits [.i64, .i64, .i64] ns1) (k : Int) (wk : (Lit.int .i64 k).wf = true) (w : World) :
    Calls Try.prog 13 #[.agg (vals [.i64, .i64, .i64] ns0).toArray, .agg (vals [.i64, .i64, .i64] ns1).toArray, .int .i64 k] w (Ret (.bool true) w) := by
  obtain ⟨a, ha, e0⟩ := three_in h0
  obtain ⟨b, hb, e1⟩ := three_in h1
  have hk : InI k := bounds_i64 wk
  rw [e0, e1]
  exact walkVecScales a b (vmul a (k, k, k)) (vlerp a b k) (fof a.1, fof a.2.1, fof a.2.2) k ha hb hk (Lib.hid (vScale a k ha hk)) (Lib.hid (r3Scale _ _ _ k ha.1 ha.2.1 ha.2.2 hk)) (Lib.hid (vLerp a b k ha hb hk))
    (Lib.hid (r3Lerp _ _ _ _ _ _ k ha.1 ha.2.1 ha.2.2 hb.1 hb.2.1 hb.2.2 hk)) (Lib.hid (vOf _ _ _ ha.1 ha.2.1 ha.2.2)) (Lib.hid (r3Of _ _ _ ha.1 ha.2.1 ha.2.2)) w

end Go.Proofs.Ytenefncpokdmnaa
