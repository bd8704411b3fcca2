/- Walk: the law VecSums. -/
import Derived.Test.YtenefncpokdmnaaLaw3
import Derived.Test.YtenefncpokdmnaaRef3B
import Derived.Test.YtenefncpokdmnaaFrameV
namespace Go.Proofs.Ytenefncpokdmnaa
open Go.RowKit Go.Sort
set_option linter.unusedVariables false
set_option linter.unusedSimpArgs false

set_option maxRecDepth 100000 in
set_option maxHeartbeats 1600000 in
theorem walkVecSums (w : World) (a b s t u : T3) (A : Option Addr) (n cap m : Nat) (ha : InV a) (hb : InV b) (hcap : n ≤ cap) (hcap2 : cap ≤ 9223372036854775807) (hm : (min (n : Int) 6).toNat = m) (hmn : m ≤ n)
    (K1 : Hid (∀ w', Below w.heap.size w w' → Calls Try.prog 58 #[.slice A m cap] w' (Ret (V3 s.1 s.2.1 s.2.2) w'))) (K2 : Hid (∀ w', Below w.heap.size w w' → Calls Try.prog 59 #[.slice A m cap] w' (Ret (V3 s.1 s.2.1 s.2.2) w')))
    (K3 : Hid (∀ w', Below w.heap.size w w' → Calls Try.prog 60 #[.slice A m cap] w' (Ret (V3 t.1 t.2.1 t.2.2) w'))) (K4 : Hid (∀ w', Below w.heap.size w w' → Calls Try.prog 61 #[.slice A m cap] w' (Ret (V3 t.1 t.2.1 t.2.2) w')))
    (K5 : Hid (∀ w, Calls Try.prog 62 #[V3 a.1 a.2.1 a.2.2, V3 b.1 b.2.1 b.2.2] w (Ret (V3 u.1 u.2.1 u.2.2) w))) (K6 : Hid (∀ w, Calls Try.prog 63 #[V3 a.1 a.2.1 a.2.2, V3 b.1 b.2.1 b.2.2] w (Ret (V3 u.1 u.2.1 u.2.2) w))) :
    Calls Try.prog 14 #[.slice A n cap, V3 a.1 a.2.1 a.2.2, V3 b.1 b.2.1 b.2.2] w (Ret (.bool true) w) := by
  go_enter Try.func14, Try.ntmps14
  go_wp2_with fail
  have c0 := reg_cell (w := ((w.alloc (.cells #[.int .i64 a.1, .int .i64 a.2.1, .int .i64 a.2.2] 26)).alloc (.cells #[.int .i64 b.1, .int .i64 b.2.1, .int .i64 b.2.2] 26))) (a := ⟨w.heap.size, 0, none⟩) (v := .int .i64 a.1) (by first | go_cell | simp [go_sem])
  have c1 := reg_cell (w := ((w.alloc (.cells #[.int .i64 a.1, .int .i64 a.2.1, .int .i64 a.2.2] 26)).alloc (.cells #[.int .i64 b.1, .int .i64 b.2.1, .int .i64 b.2.2] 26))) (a := ⟨w.heap.size, 1, none⟩) (v := .int .i64 a.2.1) (by first | go_cell | simp [go_sem])
  have c2 := reg_cell (w := ((w.alloc (.cells #[.int .i64 a.1, .int .i64 a.2.1, .int .i64 a.2.2] 26)).alloc (.cells #[.int .i64 b.1, .int .i64 b.2.1, .int .i64 b.2.2] 26))) (a := ⟨w.heap.size, 2, none⟩) (v := .int .i64 a.2.2) (by first | go_cell | simp [go_sem])
  have c3 := reg_cell (w := ((w.alloc (.cells #[.int .i64 a.1, .int .i64 a.2.1, .int .i64 a.2.2] 26)).alloc (.cells #[.int .i64 b.1, .int .i64 b.2.1, .int .i64 b.2.2] 26))) (a := ⟨w.heap.size + 1, 0, none⟩) (v := .int .i64 b.1) (by first | go_cell | simp [go_sem])
  have c4 := reg_cell (w := ((w.alloc (.cells #[.int .i64 a.1, .int .i64 a.2.1, .int .i64 a.2.2] 26)).alloc (.cells #[.int .i64 b.1, .int .i64 b.2.1, .int .i64 b.2.2] 26))) (a := ⟨w.heap.size + 1, 1, none⟩) (v := .int .i64 b.2.1) (by first | go_cell | simp [go_sem])
  have c5 := reg_cell (w := ((w.alloc (.cells #[.int .i64 a.1, .int .i64 a.2.1, .int .i64 a.2.2] 26)).alloc (.cells #[.int .i64 b.1, .int .i64 b.2.1, .int .i64 b.2.2] 26))) (a := ⟨w.heap.size + 1, 2, none⟩) (v := .int .i64 b.2.2) (by first | go_cell | simp [go_sem])
  have hB0 : Below w.heap.size w ((w.alloc (.cells #[.int .i64 a.1, .int .i64 a.2.1, .int .i64 a.2.2] 26)).alloc (.cells #[.int .i64 b.1, .int .i64 b.2.1, .int .i64 b.2.2] 26)) := by go_grown
  have HG := Lib.hid (fun d os => (Below.step hB0 (below_regrown ((w.alloc (.cells #[.int .i64 a.1, .int .i64 a.2.1, .int .i64 a.2.2] 26)).alloc (.cells #[.int .i64 b.1, .int .i64 b.2.1, .int .i64 b.2.2] 26)) d os)).1)
  refine wp_region_quiet_below (by kernel_rfl) (by kernel_rfl) ?_
  repeat (quiet_step (first
    | (go_at_call 58; exact reg_ret (K1.out _ (HG.out _ _)))
    | (go_at_call 59; exact reg_ret (K2.out _ (HG.out _ _)))
    | (go_at_call 60; exact reg_ret (K3.out _ (HG.out _ _)))
    | (go_at_call 61; exact reg_ret (K4.out _ (HG.out _ _)))
    | (go_at_call 62; exact reg_ret (K5.out _))
    | (go_at_call 63; exact reg_ret (K6.out _))
    | (go_at_call 18; exact reg_ret (works3 _))))
  refine wpQuiet_nil ?_
  intro w3 hw3
  have hb3 := reg_below hw3
  clear hw3 c0 c1 c2 c3 c4 c5
  have hB3 : Below w.heap.size w w3 := Below.next hB0 hb3
  clear hb3 hB0
  go_wp2
  go_ret
  exact ret_of rfl hB3

theorem lawVecSums (w : World) (A : Option Addr) (n cap : Nat) (l : List T3) (hn : n ≤ cap) (hcap : cap ≤ maxLen) (hr : RdV w A n l) (hI : ∀ x ∈ l, InV x) (ns0 : List Int) (h0 : Al2 Fits [.i64, .i64, .i64] ns0) (ns1 : List Int) (h1 : Al2 Fits [.i64, .i64, .i64] ns1) :
    Calls Try.prog 14 #[.slice A n cap, .agg (vals [.i64, .i64, .i64] ns0).toArray, .agg (vals [.i64, .i64, .i64] ns1).toArray] w (Ret (.bool true) w) := by
  obtain ⟨a, ha, e0⟩ := three_in h0
  obtain ⟨b, hb, e1⟩ := three_in h1
  rw [e0, e1]
  unfold maxLen at hcap
  have hc := hr.cut (min n 6) (by omega)
  have hl : (l.take (min n 6)).length ≤ 1000000 := by rw [List.length_take]; omega
  have hI' : ∀ x ∈ l.take (min n 6), InV x := fun x hx => hI x (List.mem_of_mem_take hx)
  exact walkVecSums w a b _ _ (vsub a b) A n cap (min n 6) ha hb hn (by omega) (by omega) (by omega) (Lib.hid (fun w' h => vAdd A _ cap _ w' (hc.call h) hl hI')) (Lib.hid (fun w' h => r3Add A _ cap _ w' (hc.call h) hl hI'))
    (Lib.hid (fun w' h => vTimes A _ cap _ w' (hc.call h) hl hI')) (Lib.hid (fun w' h => r3Times A _ cap _ w' (hc.call h) hl hI')) (Lib.hid (vSub a b ha hb)) (Lib.hid (r3Sub _ _ _ _ _ _ ha.1 ha.2.1 ha.2.2 hb.1 hb.2.1 hb.2.2))

end Go.Proofs.Ytenefncpokdmnaa
