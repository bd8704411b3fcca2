/- Walk: wide.Div, one way through. Walk: wide.Div, one way through. Walk: wide.Div, one way through. -/
import Derived.Test.YtognbeejobfpfaaWalkF
namespace Go.Proofs.Ytognbeejobfpfaa
open Go.RowKit
set_option linter.unusedVariables false
set_option linter.unusedSimpArgs false

set_option maxHeartbeats 800000 in
theorem wDiv_pn0 (a d A D Q L R : Int) (h : InW a) (hd : InI d) (ha : 0 ≤ a) (hd0 : d < 0) (eA : absU a = A) (eD : absU d = D) (eQ : A / D = Q) (eL : A % D = L) (hl : ¬ 0 < L) (HOk : Hid (InWb (fq a d) = true)) (HQ : Hid (fq a d = -Q)) (HR : Hid (fr a d = R)) (w : World) :
    Calls Try.prog 41 #[W a, .int .i64 d] w (Ret (.tuple #[W (divQ a d), .int .i64 (divR a d), .bool (divOk a d)]) w) := by
  have e0 : (d == 0) = false := by rw [beq_eq_false_iff_ne]; omega
  have hU : InU2 A := by rw [← eA]; exact absU_U2 h
  have hD : 0 < D ∧ D ≤ 9223372036854775808 := by have := absU_le hd; rw [eD] at this; have e := eD; unfold absU at e; split at e <;> omega
  obtain ⟨hD0, hD1⟩ := hD
  have hL0 : 0 ≤ L := by rw [← eL]; exact Int.emod_nonneg _ (by omega)
  have hL1 : L < D := by rw [← eL]; exact Int.emod_lt_of_pos _ hD0
  have hQU : InU2 (Q) := by
    have h1 := dq_U2 (d := d) true h (by omega)
    rw [eA, eD] at h1
    unfold dq at h1; rw [eL, eQ, if_neg (by simp; omega)] at h1; exact h1
  have HD := Lib.hid eD
  have HOk' := Lib.hid (divOk_of (by omega : d ≠ 0) HOk.out)
  have HQ' := Lib.hid ((divQ_ok HOk'.out).trans HQ.out)
  have HR' := Lib.hid ((divR_ok HOk'.out).trans HR.out)
  have HW : Hid (wrap128 (-Q) = -Q) := Lib.hid (wrap128_in (by rw [← HQ.out]; exact InWb_iff.1 HOk.out))
  have e1 : ¬ wHi a < 0 := by unfold wHi; omega
  have e2 : IntKind.u64.wrap (wHi a) = wHi A := by rw [IntKind.wrap_u64, ← eA, absU_pos ha]; unfold wHi; unfold InW at h; omega
  have e3 : wLo a = wLo A := by rw [← eA, absU_pos ha]
  have e4 : wrap64 (IntKind.u64.wrap (-L)) = R := by
    have h1 := HR.out
    rw [(fq_dq (by omega : d ≠ 0)).2, eA, eD] at h1
    rw [← h1, IntKind.wrap_u64]
    unfold dr wrap64; rw [eL]; simp [show ¬ a < 0 by omega, hd0, sgn]
    first | omega | (split <;> omega)
  have hdb : decide (d < 0) = true := by simp; omega
  have hab : decide (wHi a < 0) = false := by simp; omega
  have H5 : Hid (-L = R) := Lib.hid (by have h := e4; rw [IntKind.wrap_u64] at h; unfold wrap64 at h; omega)
  have H4 := Lib.hid e4
  clear e4 eA eD
  go_enter Try.func41, Try.ntmps41
  go_wp2_with fail
  go_region
  go_wp2_with fail
  refine (wsize d hd _).mono ?_; rintro e w1 ⟨rfl, rfl⟩
  rw [HD.out]
  go_wp2_with fail
  refine (div64a A D hU hD0 (by omega) _).mono ?_; rintro e w1 ⟨rfl, hb1⟩
  obtain ⟨hc1, hf1, hs1⟩ := bcell hb1
  obtain ⟨hz1, hz1'⟩ : w.heap.size < w1.heap.size ∧ w.heap.size + 1 < w1.heap.size := by simp at hs1; omega
  have hB1 : Below w.heap.size w w1 := Below.next (by go_grown) hb1
  go_wp2_with fail
  refine (div64b A D hU hD0 (by omega) _).mono ?_; rintro e w2 ⟨rfl, hb2⟩
  obtain ⟨hc2, hf2, hs2⟩ := bcell hb2
  obtain ⟨hz2, hz2'⟩ : w.heap.size < w2.heap.size ∧ w.heap.size + 1 < w2.heap.size := by omega
  have hB2 : Below w.heap.size w w2 := Below.next hB1 hb2
  go_wp2_with fail
  refine (wsigned_neg (Q) hQU _).mono ?_; rintro e w3 ⟨rfl, hb3⟩
  rw [HW.out, ← HQ.out, HOk.out]
  obtain ⟨hc3, hf3, hs3⟩ := bcell hb3
  obtain ⟨hz3, hz3'⟩ : w.heap.size < w3.heap.size ∧ w.heap.size + 1 < w3.heap.size := by omega
  have hB3 : Below w.heap.size w w3 := Below.next hB2 hb3
  have q0 : w3.cell? ⟨w.heap.size + 1, 0, none⟩ = some (.int .i64 0) := by rw [hc3 _ _ hz2', hc2 _ _ hz1', hc1 _ _ (by simp)]; simp [go_sem]
  have q1 : w3.cell? ⟨w.heap.size + 1, 1, none⟩ = some (.int .u64 0) := by rw [hc3 _ _ hz2', hc2 _ _ hz1', hc1 _ _ (by simp)]; simp [go_sem]
  have e4 := H5.out
  go_wp2_with fail
  refine bodyPost_ret (v := .tuple #[W (fq a d), .int .i64 R, .bool true]) (by simp (maxDischargeDepth := 9) [results, Try.results41, go_sem, q0, q1, e4]) rfl (ret_of (by rw [HQ'.out, HQ.out, HR'.out, HOk'.out]) (by go_grown))

end Go.Proofs.Ytognbeejobfpfaa

namespace Go.Proofs.Ytognbeejobfpfaa
open Go.RowKit
set_option linter.unusedVariables false
set_option linter.unusedSimpArgs false

set_option maxHeartbeats 800000 in
theorem wDiv_pn1 (a d A D Q L R : Int) (h : InW a) (hd : InI d) (ha : 0 ≤ a) (hd0 : d < 0) (eA : absU a = A) (eD : absU d = D) (eQ : A / D = Q) (eL : A % D = L) (hl : 0 < L) (HOk : Hid (InWb (fq a d) = true)) (HQ : Hid (fq a d = -(Q + 1))) (HR : Hid (fr a d = R)) (w : World) :
    Calls Try.prog 41 #[W a, .int .i64 d] w (Ret (.tuple #[W (divQ a d), .int .i64 (divR a d), .bool (divOk a d)]) w) := by
  have e0 : (d == 0) = false := by rw [beq_eq_false_iff_ne]; omega
  have hU : InU2 A := by rw [← eA]; exact absU_U2 h
  have hD : 0 < D ∧ D ≤ 9223372036854775808 := by have := absU_le hd; rw [eD] at this; have e := eD; unfold absU at e; split at e <;> omega
  obtain ⟨hD0, hD1⟩ := hD
  have hL0 : 0 ≤ L := by rw [← eL]; exact Int.emod_nonneg _ (by omega)
  have hL1 : L < D := by rw [← eL]; exact Int.emod_lt_of_pos _ hD0
  have hQU : InU2 (Q + 1) := by
    have h1 := dq_U2 (d := d) true h (by omega)
    rw [eA, eD] at h1
    unfold dq at h1; rw [eL, eQ, if_pos (by simp; omega)] at h1; exact h1
  have HD := Lib.hid eD
  have HOk' := Lib.hid (divOk_of (by omega : d ≠ 0) HOk.out)
  have HQ' := Lib.hid ((divQ_ok HOk'.out).trans HQ.out)
  have HR' := Lib.hid ((divR_ok HOk'.out).trans HR.out)
  have HW : Hid (wrap128 (-(Q + 1)) = -(Q + 1)) := Lib.hid (wrap128_in (by rw [← HQ.out]; exact InWb_iff.1 HOk.out))
  have e1 : ¬ wHi a < 0 := by unfold wHi; omega
  have e2 : IntKind.u64.wrap (wHi a) = wHi A := by rw [IntKind.wrap_u64, ← eA, absU_pos ha]; unfold wHi; unfold InW at h; omega
  have e3 : wLo a = wLo A := by rw [← eA, absU_pos ha]
  have e4 : wrap64 (IntKind.u64.wrap (-(D - L))) = R := by
    have h1 := HR.out
    rw [(fq_dq (by omega : d ≠ 0)).2, eA, eD] at h1
    rw [← h1, IntKind.wrap_u64]
    unfold dr wrap64; rw [eL]; simp [show ¬ a < 0 by omega, hd0, sgn]
    first | omega | (split <;> omega)
  have hdb : decide (d < 0) = true := by simp; omega
  have hab : decide (wHi a < 0) = false := by simp; omega
  have H4 := Lib.hid e4
  clear e4 eA eD
  go_enter Try.func41, Try.ntmps41
  go_wp2_with fail
  go_region
  go_wp2_with fail
  refine (wsize d hd _).mono ?_; rintro e w1 ⟨rfl, rfl⟩
  rw [HD.out]
  go_wp2_with fail
  refine (div64a A D hU hD0 (by omega) _).mono ?_; rintro e w1 ⟨rfl, hb1⟩
  obtain ⟨hc1, hf1, hs1⟩ := bcell hb1
  obtain ⟨hz1, hz1'⟩ : w.heap.size < w1.heap.size ∧ w.heap.size + 1 < w1.heap.size := by simp at hs1; omega
  have hB1 : Below w.heap.size w w1 := Below.next (by go_grown) hb1
  go_wp2_with fail
  refine (div64b A D hU hD0 (by omega) _).mono ?_; rintro e w2 ⟨rfl, hb2⟩
  obtain ⟨hc2, hf2, hs2⟩ := bcell hb2
  obtain ⟨hz2, hz2'⟩ : w.heap.size < w2.heap.size ∧ w.heap.size + 1 < w2.heap.size := by omega
  have hB2 : Below w.heap.size w w2 := Below.next hB1 hb2
  obtain ⟨c, hc0, hc1', s1, s2⟩ := up_one Q hQU w
  obtain ⟨hq0, hq1⟩ := wHi_U hQU
  go_wp2_with fail
  refine (wsigned_neg (Q + 1) hQU _).mono ?_; rintro e w3 ⟨rfl, hb3⟩
  rw [HW.out, ← HQ.out, HOk.out]
  obtain ⟨hc3, hf3, hs3⟩ := bcell hb3
  obtain ⟨hz3, hz3'⟩ : w.heap.size < w3.heap.size ∧ w.heap.size + 1 < w3.heap.size := by omega
  have hB3 : Below w.heap.size w w3 := Below.next hB2 hb3
  have q0 : w3.cell? ⟨w.heap.size + 1, 0, none⟩ = some (.int .i64 0) := by rw [hc3 _ _ hz2', hc2 _ _ hz1', hc1 _ _ (by simp)]; simp [go_sem]
  have q1 : w3.cell? ⟨w.heap.size + 1, 1, none⟩ = some (.int .u64 0) := by rw [hc3 _ _ hz2', hc2 _ _ hz1', hc1 _ _ (by simp)]; simp [go_sem]
  have e4 := H4.out
  go_wp2_with fail
  refine bodyPost_ret (v := .tuple #[W (fq a d), .int .i64 R, .bool true]) (by simp (maxDischargeDepth := 9) [results, Try.results41, go_sem, q0, q1, e4]) rfl (ret_of (by rw [HQ'.out, HQ.out, HR'.out, HOk'.out]) (by go_grown))

end Go.Proofs.Ytognbeejobfpfaa

namespace Go.Proofs.Ytognbeejobfpfaa
open Go.RowKit
set_option linter.unusedVariables false
set_option linter.unusedSimpArgs false

set_option maxHeartbeats 800000 in
theorem wDiv_pp (a d A D Q L R : Int) (h : InW a) (hd : InI d) (ha : 0 ≤ a) (hd0 : 0 < d) (eA : absU a = A) (eD : absU d = D) (eQ : A / D = Q) (eL : A % D = L) (HOk : Hid (InWb (fq a d) = true)) (HQ : Hid (fq a d = Q)) (HR : Hid (fr a d = R)) (w : World) :
    Calls Try.prog 41 #[W a, .int .i64 d] w (Ret (.tuple #[W (divQ a d), .int .i64 (divR a d), .bool (divOk a d)]) w) := by
  have e0 : (d == 0) = false := by rw [beq_eq_false_iff_ne]; omega
  have hU : InU2 A := by rw [← eA]; exact absU_U2 h
  have hD : 0 < D ∧ D ≤ 9223372036854775808 := by have := absU_le hd; rw [eD] at this; have e := eD; unfold absU at e; split at e <;> omega
  obtain ⟨hD0, hD1⟩ := hD
  have hL0 : 0 ≤ L := by rw [← eL]; exact Int.emod_nonneg _ (by omega)
  have hL1 : L < D := by rw [← eL]; exact Int.emod_lt_of_pos _ hD0
  have hQU : InU2 (Q) := by
    have h1 := dq_U2 (d := d) false h (by omega)
    rw [eA, eD] at h1
    unfold dq at h1; simp at h1; rw [eQ] at h1; exact h1
  have HD := Lib.hid eD
  have HOk' := Lib.hid (divOk_of (by omega : d ≠ 0) HOk.out)
  have HQ' := Lib.hid ((divQ_ok HOk'.out).trans HQ.out)
  have HR' := Lib.hid ((divR_ok HOk'.out).trans HR.out)
  have HW : Hid (wrap128 (Q) = Q) := Lib.hid (wrap128_in (by rw [← HQ.out]; exact InWb_iff.1 HOk.out))
  have e1 : ¬ wHi a < 0 := by unfold wHi; omega
  have e2 : IntKind.u64.wrap (wHi a) = wHi A := by rw [IntKind.wrap_u64, ← eA, absU_pos ha]; unfold wHi; unfold InW at h; omega
  have e3 : wLo a = wLo A := by rw [← eA, absU_pos ha]
  have e4 : L = R := by
    have h1 := HR.out
    rw [(fq_dq (by omega : d ≠ 0)).2, eA, eD] at h1
    rw [← h1]
    unfold dr; rw [eL]; simp [show ¬ a < 0 by omega, show ¬ d < 0 by omega, sgn]
  have hdb : decide (d < 0) = false := by simp; omega
  have hab : decide (wHi a < 0) = false := by simp; omega
  have H4 := Lib.hid e4
  clear e4 eA eD
  go_enter Try.func41, Try.ntmps41
  go_wp2_with fail
  go_region
  go_wp2_with fail
  refine (wsize d hd _).mono ?_; rintro e w1 ⟨rfl, rfl⟩
  rw [HD.out]
  go_wp2_with fail
  refine (div64a A D hU hD0 (by omega) _).mono ?_; rintro e w1 ⟨rfl, hb1⟩
  obtain ⟨hc1, hf1, hs1⟩ := bcell hb1
  obtain ⟨hz1, hz1'⟩ : w.heap.size < w1.heap.size ∧ w.heap.size + 1 < w1.heap.size := by simp at hs1; omega
  have hB1 : Below w.heap.size w w1 := Below.next (by go_grown) hb1
  go_wp2_with fail
  refine (div64b A D hU hD0 (by omega) _).mono ?_; rintro e w2 ⟨rfl, hb2⟩
  obtain ⟨hc2, hf2, hs2⟩ := bcell hb2
  obtain ⟨hz2, hz2'⟩ : w.heap.size < w2.heap.size ∧ w.heap.size + 1 < w2.heap.size := by omega
  have hB2 : Below w.heap.size w w2 := Below.next hB1 hb2
  go_wp2_with fail
  refine (wsigned_pos (Q) hQU _).mono ?_; rintro e w3 ⟨rfl, hb3⟩
  rw [HW.out, ← HQ.out, HOk.out]
  obtain ⟨hc3, hf3, hs3⟩ := bcell hb3
  obtain ⟨hz3, hz3'⟩ : w.heap.size < w3.heap.size ∧ w.heap.size + 1 < w3.heap.size := by omega
  have hB3 : Below w.heap.size w w3 := Below.next hB2 hb3
  have q0 : w3.cell? ⟨w.heap.size + 1, 0, none⟩ = some (.int .i64 0) := by rw [hc3 _ _ hz2', hc2 _ _ hz1', hc1 _ _ (by simp)]; simp [go_sem]
  have q1 : w3.cell? ⟨w.heap.size + 1, 1, none⟩ = some (.int .u64 0) := by rw [hc3 _ _ hz2', hc2 _ _ hz1', hc1 _ _ (by simp)]; simp [go_sem]
  have e4 := H4.out
  go_wp2_with fail
  refine bodyPost_ret (v := .tuple #[W (fq a d), .int .i64 R, .bool true]) (by simp (maxDischargeDepth := 9) [results, Try.results41, go_sem, q0, q1, e4]) rfl (ret_of (by rw [HQ'.out, HQ.out, HR'.out, HOk'.out]) (by go_grown))

end Go.Proofs.Ytognbeejobfpfaa
