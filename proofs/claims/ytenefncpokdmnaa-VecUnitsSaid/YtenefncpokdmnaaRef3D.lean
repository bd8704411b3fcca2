/- Walks: the document's answer for layer 3: Length, Unit. -/
import Derived.Test.YtenefncpokdmnaaVecF
import Derived.Test.YtenefncpokdmnaaRef3C
import Derived.Test.YtenefncpokdmnaaRef2F
namespace Go.Proofs.Ytenefncpokdmnaa
open Go.RowKit Go.Sort
set_option linter.unusedVariables false
set_option linter.unusedSimpArgs false

set_option maxRecDepth 100000 in
set_option maxHeartbeats 1600000 in
theorem r3Length_any (a : T3) (T X Y Z : Int) (ha : InV a) (HX : Hid (absU a.1 = X)) (HY : Hid (absU a.2.1 = Y)) (HZ : Hid (absU a.2.2 = Z)) (K : ∀ w, Calls Try.prog 82 #[.int .u64 X, .int .u64 Y, .int .u64 Z] w (Same (.tuple #[.int .u64 (wHi T), .int .u64 (wLo T), .bool false]) w))
    (r R : Int) (KR : ∀ w, Calls Try.prog 81 #[.int .u64 (wHi T), .int .u64 (wLo T)] w (Same (.int .u64 R) w)) (hb : (4611686018427387904 ≤ wHi T ∧ r = 9223372036854775807) ∨ (¬ 4611686018427387904 ≤ wHi T ∧ 0 ≤ R ∧ R ≤ 9223372036854775807 ∧ r = R)) (w : World) :
    Calls Try.prog 34 #[V3 a.1 a.2.1 a.2.2] w (Ret (.int .i64 r) w) := by
  have KK := Lib.hid K
  have KT := Lib.hid KR
  have KS1 := fun (w : World) => by have := rSize a.1 ha.1 w; rw [HX.out] at this; exact this
  have KS2 := fun (w : World) => by have := rSize a.2.1 ha.2.1 w; rw [HY.out] at this; exact this
  have KS3 := fun (w : World) => by have := rSize a.2.2 ha.2.2 w; rw [HZ.out] at this; exact this
  have K1 := Lib.hid KS1
  have K2 := Lib.hid KS2
  have K3 := Lib.hid KS3
  clear K KR KS1 KS2 KS3
  have HB := Lib.hid hb
  clear hb
  go_enter Try.func34, Try.ntmps34
  go_wp2_with fail
  have c0 := reg_cell (w := (w.alloc (.cells #[.int .i64 a.1, .int .i64 a.2.1, .int .i64 a.2.2] 26))) (a := ⟨w.heap.size, 0, none⟩) (v := .int .i64 a.1) (by first | go_cell | simp [go_sem])
  have c1 := reg_cell (w := (w.alloc (.cells #[.int .i64 a.1, .int .i64 a.2.1, .int .i64 a.2.2] 26))) (a := ⟨w.heap.size, 1, none⟩) (v := .int .i64 a.2.1) (by first | go_cell | simp [go_sem])
  have c2 := reg_cell (w := (w.alloc (.cells #[.int .i64 a.1, .int .i64 a.2.1, .int .i64 a.2.2] 26))) (a := ⟨w.heap.size, 2, none⟩) (v := .int .i64 a.2.2) (by first | go_cell | simp [go_sem])
  refine wp_region_quiet_below (by kernel_rfl) (by kernel_rfl) ?_
  repeat (quiet_step (first
    | (go_at_call 78; first | (with_reducible exact reg_same (K1.out _)) | (with_reducible exact reg_same (K2.out _)) | (with_reducible exact reg_same (K3.out _)))
    | (go_at_call 82; exact reg_same (KK.out _))))
  refine wpQuiet_nil ?_
  intro w3 hw3
  have hb3 := reg_below hw3
  clear hw3 c0 c1 c2
  have hB3 : Below w.heap.size w w3 := Below.next (by go_grown) hb3
  clear hb3
  rcases HB.out with ⟨h1, h2⟩ | ⟨h1, h2, h3, h4⟩
  · subst h2
    go_wp2_with fail
    go_ret
    exact ret_of rfl hB3
  · subst h4
    go_wp2_with fail
    refine (KT.out _).mono ?_; rintro e u1 ⟨rfl, rfl⟩
    go_wp2_with fail
    go_ret
    exact ret_of rfl hB3

theorem r3Length (a : T3) (ha : InV a) (w : World) : Calls Try.prog 34 #[V3 a.1 a.2.1 a.2.2] w (Ret (.int .i64 (vlen a)) w) := by
  have hT := vT_bd ha
  have e : ∀ x : Int, absU x * absU x = x * x := fun x => absU_mul_pos Iff.rfl
  have K := r3squares (absU a.1) (absU a.2.1) (absU a.2.2) (absU_InU ha.1) (absU_InU ha.2.1) (absU_InU ha.2.2)
  rw [e a.1, e a.2.1, e a.2.2, show a.1 * a.1 + a.2.1 * a.2.1 + a.2.2 * a.2.2 = vT a from rfl, Int.emod_eq_of_lt hT.1 (by omega), decide_eq_false (by omega)] at K
  refine r3Length_any a (vT a) _ _ _ ha (Lib.hid rfl) (Lib.hid rfl) (Lib.hid rfl) K (vlen a) (sqN (vT a)) (rRoot (vT a) hT.1 (by omega)) ?_ w
  unfold vlen
  split
  · left
    exact ⟨by unfold wHi; omega, rfl⟩
  · right
    have := sqN_small (T := vT a) hT.1 (by omega)
    exact ⟨by unfold wHi; omega, this.1, this.2, rfl⟩

set_option maxRecDepth 100000 in
set_option maxHeartbeats 1600000 in
theorem r3Unit_0  (w : World) : Calls Try.prog 36 #[V3 0 0 0] w (Ret (V3 0 0 0) w) := by
  have HN : Hid (vlen (0, 0, 0) = 0) := Lib.hid ((vlen_zero zero3_I).2 rfl)
  go_enter Try.func36, Try.ntmps36
  go_wp2_with fail
  refine (r3Length (0, 0, 0) zero3_I _).mono ?_; rintro e w1 ⟨rfl, hb1⟩
  rw [HN.out]
  have hB1 : Below w.heap.size w w1 := Below.next (by go_grown) hb1
  have c := Cells3.call (v := (0, 0, 0)) (b := w.heap.size) (by unfold Cells3; simp [go_sem]) hb1
  have g := (Holds3.new (w.alloc _) 0 0 0 _ (w.heap.size + 1) (by simp)).call hb1
  obtain ⟨p0, p1, p2⟩ := c
  obtain ⟨r0, r1, r2, t0, t1, t2⟩ := g
  clear hb1
  go_wp2_with fail
  exact bodyPost_ret (v := V3 0 0 0) (by simp (maxDischargeDepth := 9) [results, Try.results36, go_sem, r0, r1, r2]) rfl ⟨rfl, by go_grown⟩

set_option maxRecDepth 100000 in
set_option maxHeartbeats 1600000 in
theorem r3Unit_nz (a : T3) (n : Int) (ha : InV a) (HN : Hid (vlen a = n)) (hn : InI n) (h0 : n ≠ 0) (w : World) : Calls Try.prog 36 #[V3 a.1 a.2.1 a.2.2] w (Ret (V3 (fdiv a.1 n) (fdiv a.2.1 n) (fdiv a.2.2 n)) w) := by
  have e0 : (n == 0) = false := by rw [beq_eq_false_iff_ne]; exact h0
  clear h0
  go_enter Try.func36, Try.ntmps36
  go_wp2_with fail
  refine (r3Length a ha _).mono ?_; rintro e w1 ⟨rfl, hb1⟩
  rw [HN.out]
  have hB1 : Below w.heap.size w w1 := Below.next (by go_grown) hb1
  have c := Cells3.call (v := a) (b := w.heap.size) (by unfold Cells3; simp [go_sem]) hb1
  have GR := Lib.hid ((Holds3.new (w.alloc _) 0 0 0 _ (w.heap.size + 1) (by simp)).call hb1)
  obtain ⟨p0, p1, p2⟩ := c
  have c0 := reg_cell p0
  have c1 := reg_cell p1
  have c2 := reg_cell p2
  obtain ⟨h0, h1, h2⟩ := ha
  clear hb1 p0 p1 p2
  go_wp2_with fail
  refine wp_region_below_tail 13 (by kernel_rfl) (by kernel_rfl) ?_
  simp only [List.take_succ_cons, List.take_zero, List.drop_succ_cons, List.drop_zero]
  repeat (quiet_step ((go_at_call 23; exact reg_ret (rDiv _ _ (by assumption) (by assumption) _))))
  refine wpQuiet_nil ?_
  intro w3 hw3
  have hb3 := reg_below hw3
  clear hw3 c0 c1 c2
  have hB3 : Below w.heap.size w w3 := Below.next hB1 hb3
  have g := GR.out.call hb3
  obtain ⟨r0, r1, r2, t0, t1, t2⟩ := g
  clear hb3
  go_wp2
  exact bodyPost_ret (v := V3 (fdiv a.1 n) (fdiv a.2.1 n) (fdiv a.2.2 n)) (by simp (maxDischargeDepth := 9) [results, Try.results36, go_sem, r0, r1, r2]) rfl ⟨rfl, by go_grown⟩

theorem r3Unit (a : T3) (ha : InV a) (w : World) : Calls Try.prog 36 #[V3 a.1 a.2.1 a.2.2] w (Ret (V3 (vunit a).1 (vunit a).2.1 (vunit a).2.2) w) := by
  by_cases h : vlen a = 0
  · have e := (vlen_zero ha).1 h
    subst e
    rw [vunit_zero]
    exact r3Unit_0 w
  · exact r3Unit_nz a _ ha (Lib.hid rfl) (vlen_InI ha) h w

end Go.Proofs.Ytenefncpokdmnaa
