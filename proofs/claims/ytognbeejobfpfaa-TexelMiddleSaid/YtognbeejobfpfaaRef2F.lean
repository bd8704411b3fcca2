/- Walk: the document's answer for layer 2: Div. -/
import Derived.Test.YtognbeejobfpfaaRef2
import Derived.Test.YtognbeejobfpfaaMathA
namespace Go.Proofs.Ytognbeejobfpfaa
open Go.RowKit
set_option linter.unusedVariables false
set_option linter.unusedSimpArgs false

theorem divlo {X : Int} (h0 : 0 ≤ X) (h1 : X ≤ 9223372036854775808) : X / 4294967296 * 18446744073709551616 + IntKind.u64.wrap (X * 4294967296) = X * 4294967296 := by rw [IntKind.wrap_u64]; omega
theorem fdiv_sgn {a b X Y : Int} {sa sb : Bool} (hb : b ≠ 0) (hX : absU a = X) (hY : absU b = Y) (ha : decide (a < 0) = sa) (hs : decide (b < 0) = sb) : fdiv a b = clampI (sgn (!sa == sb) (dq (!sa == sb) (X * 4294967296) Y)) := by
  have e1 : decide (a * 4294967296 < 0) = sa := by rw [← ha]; congr 1; apply propext; omega
  have e2 : absU (a * 4294967296) = X * 4294967296 := by rw [← hX]; unfold absU; split <;> split <;> omega
  unfold fdiv
  rw [if_neg hb, (fq_dq hb).1, e1, e2, hY, hs]
theorem rdiv_p {P Y : Int} (h0 : 0 ≤ P / Y) : nearV (P / Y) false false = clampI (sgn false (dq false P Y)) := by
  have := nearV_clamp (S := P / Y) (s := P / Y) (below := false) (big := false) h0 (fun _ => rfl) (fun h => by cases h)
  rw [this]; rfl
theorem rdiv_z {P Y : Int} (h0 : 0 ≤ P / Y) (hr : P % Y = 0) : nearV (P / Y) true false = clampI (sgn true (dq true P Y)) := by
  have := nearV_clamp (S := P / Y) (s := P / Y) (below := true) (big := false) h0 (fun _ => rfl) (fun h => by cases h)
  rw [this]; unfold dq; rw [hr]; rfl
theorem rdiv_n {P Y s1 : Int} (h0 : 0 ≤ P / Y) (h1 : P / Y < 18446744073709551616) (hr : 0 < P % Y) (hs : IntKind.u64.wrap (P / Y + 1) = s1) : nearV s1 true (s1 == 0) = clampI (sgn true (dq true P Y)) := by
  rw [IntKind.wrap_u64] at hs
  have e : dq true P Y = P / Y + 1 := by unfold dq; rw [if_pos]; simp; omega
  rw [e]
  exact nearV_clamp (by omega) (by intro h; have h := beq_eq_false_iff_ne.1 h; omega) (by intro h; have h := beq_iff_eq.1 h; omega)
theorem rdiv_b {P Y : Int} (b : Bool) (h : 18446744073709551616 ≤ P / Y) : nearV 0 b true = clampI (sgn b (dq b P Y)) := by
  have e : P / Y ≤ dq b P Y := by unfold dq; split <;> omega
  exact nearV_clamp (by omega) (fun h => by cases h) (fun _ => by omega)

theorem rDiv_01 (a X : Int) (ha : InI a) (s1 : a < 0) (HX : Hid (absU a = X)) (HK : Hid (nearV 0 true true = fdiv a 0)) (w : World) :
    Calls Try.prog 49 #[.int .i64 a, .int .i64 0] w (Same (.int .i64 (fdiv a 0)) w) := by
  have sb1 : decide (a < 0) = true := by simp; omega
  have e0 : (a == 0) = false := by rw [beq_eq_false_iff_ne]; omega
  have hb : InI 0 := by unfold InI; omega
  go_enter Try.func49, Try.ntmps49
  go_wp2_with fail
  refine (rSize a ha _).mono ?_; rintro e w1 ⟨rfl, rfl⟩
  rw [HX.out]
  go_wp2_with fail
  refine (rSize 0 hb _).mono ?_; rintro e w1 ⟨rfl, rfl⟩
  go_wp2_with fail
  refine (rNear 0 true true (by omega) (by omega) _).mono ?_; rintro e w1 ⟨rfl, rfl⟩
  rw [HK.out]
  go_wp2_with fail
  go_ret
  exact same_of rfl

theorem rDiv_0p (a X : Int) (ha : InI a) (s1 : 0 < a) (HX : Hid (absU a = X)) (HK : Hid (nearV 0 false true = fdiv a 0)) (w : World) :
    Calls Try.prog 49 #[.int .i64 a, .int .i64 0] w (Same (.int .i64 (fdiv a 0)) w) := by
  have sb1 : decide (a < 0) = false := by simp; omega
  have e0 : (a == 0) = false := by rw [beq_eq_false_iff_ne]; omega
  have hb : InI 0 := by unfold InI; omega
  go_enter Try.func49, Try.ntmps49
  go_wp2_with fail
  refine (rSize a ha _).mono ?_; rintro e w1 ⟨rfl, rfl⟩
  rw [HX.out]
  go_wp2_with fail
  refine (rSize 0 hb _).mono ?_; rintro e w1 ⟨rfl, rfl⟩
  go_wp2_with fail
  refine (rNear 0 false true (by omega) (by omega) _).mono ?_; rintro e w1 ⟨rfl, rfl⟩
  rw [HK.out]
  go_wp2_with fail
  go_ret
  exact same_of rfl

theorem rDiv_00 (w : World) : Calls Try.prog 49 #[.int .i64 0, .int .i64 0] w (Same (.int .i64 (fdiv 0 0)) w) := by
  go_enter Try.func49, Try.ntmps49
  go_wp2_with fail
  go_ret
  exact same_of rfl

set_option maxHeartbeats 800000 in
theorem rDiv_11g (a b X Y Q R s1 : Int) (ha : InI a) (hb : InI b) (s1' : a < 0) (s2' : b < 0) (HX : Hid (absU a = X)) (HY : Hid (absU b = Y)) (hX0 : 0 ≤ X) (hX1 : X ≤ 9223372036854775808) (hY0 : 0 < Y) (hY1 : Y ≤ 9223372036854775808)
    (hg : Y ≤ X / 4294967296) (HK : Hid (nearV 0 false true = fdiv a b)) (w : World) :
    Calls Try.prog 49 #[.int .i64 a, .int .i64 b] w (Ret (.int .i64 (fdiv a b)) w) := by
  have sb1 : decide (a < 0) = true := by simp; omega
  have sb2 : decide (b < 0) = true := by simp; omega
  have e0 : (b == 0) = false := by rw [beq_eq_false_iff_ne]; intro h; subst h; have := HY.out; unfold absU at this; simp at this; omega
  go_enter Try.func49, Try.ntmps49
  go_wp2_with fail
  refine (rSize a ha _).mono ?_; rintro e w1 ⟨rfl, rfl⟩
  rw [HX.out]
  go_wp2_with fail
  refine (rSize b hb _).mono ?_; rintro e w1 ⟨rfl, rfl⟩
  rw [HY.out]
  go_wp2_with fail
  refine (rNear 0 false true (by omega) (by omega) _).mono ?_; rintro e w1 ⟨rfl, rfl⟩
  rw [HK.out]
  go_wp2_with fail
  go_ret
  exact ret_of rfl (by go_grown)

set_option maxHeartbeats 800000 in
theorem rDiv_11p (a b X Y Q R s1 : Int) (ha : InI a) (hb : InI b) (s1' : a < 0) (s2' : b < 0) (HX : Hid (absU a = X)) (HY : Hid (absU b = Y)) (hX0 : 0 ≤ X) (hX1 : X ≤ 9223372036854775808) (hY0 : 0 < Y) (hY1 : Y ≤ 9223372036854775808)
    (hg : ¬ Y ≤ X / 4294967296) (hQ0 : 0 ≤ Q) (hQ1 : Q ≤ 18446744073709551615) (HQ : Hid ((X / 4294967296 * 18446744073709551616 + IntKind.u64.wrap (X * 4294967296)) / Y = Q)) (HR : Hid ((X / 4294967296 * 18446744073709551616 + IntKind.u64.wrap (X * 4294967296)) % Y = R)) (HK : Hid (nearV Q false false = fdiv a b)) (w : World) :
    Calls Try.prog 49 #[.int .i64 a, .int .i64 b] w (Ret (.int .i64 (fdiv a b)) w) := by
  have sb1 : decide (a < 0) = true := by simp; omega
  have sb2 : decide (b < 0) = true := by simp; omega
  have e0 : (b == 0) = false := by rw [beq_eq_false_iff_ne]; intro h; subst h; have := HY.out; unfold absU at this; simp at this; omega
  go_enter Try.func49, Try.ntmps49
  go_wp2_with fail
  refine (rSize a ha _).mono ?_; rintro e w1 ⟨rfl, rfl⟩
  rw [HX.out]
  go_wp2_with fail
  refine (rSize b hb _).mono ?_; rintro e w1 ⟨rfl, rfl⟩
  rw [HY.out]
  go_wp2_with fail
  refine (div64 (X / 4294967296) (IntKind.u64.wrap (X * 4294967296)) Y (by omega) (by omega) (by omega) (by rw [IntKind.wrap_u64]; omega) (by rw [IntKind.wrap_u64]; omega) _).mono ?_; rintro e w1 ⟨rfl, hb1⟩
  rw [HQ.out, HR.out]
  obtain ⟨hB1, hS1⟩ : Below w.heap.size w w1 ∧ w.heap.size ≤ w1.heap.size := Below.step (by go_grown) hb1
  go_wp2_with fail
  refine (rNear Q false false hQ0 hQ1 _).mono ?_; rintro e w2 ⟨rfl, rfl⟩
  rw [HK.out]
  go_wp2_with fail
  go_ret
  exact ret_of rfl hB1

set_option maxHeartbeats 800000 in
theorem rDiv_10g (a b X Y Q R s1 : Int) (ha : InI a) (hb : InI b) (s1' : a < 0) (s2' : ¬ b < 0) (HX : Hid (absU a = X)) (HY : Hid (absU b = Y)) (hX0 : 0 ≤ X) (hX1 : X ≤ 9223372036854775808) (hY0 : 0 < Y) (hY1 : Y ≤ 9223372036854775808)
    (hg : Y ≤ X / 4294967296) (HK : Hid (nearV 0 true true = fdiv a b)) (w : World) :
    Calls Try.prog 49 #[.int .i64 a, .int .i64 b] w (Ret (.int .i64 (fdiv a b)) w) := by
  have sb1 : decide (a < 0) = true := by simp; omega
  have sb2 : decide (b < 0) = false := by simp; omega
  have e0 : (b == 0) = false := by rw [beq_eq_false_iff_ne]; intro h; subst h; have := HY.out; unfold absU at this; simp at this; omega
  go_enter Try.func49, Try.ntmps49
  go_wp2_with fail
  refine (rSize a ha _).mono ?_; rintro e w1 ⟨rfl, rfl⟩
  rw [HX.out]
  go_wp2_with fail
  refine (rSize b hb _).mono ?_; rintro e w1 ⟨rfl, rfl⟩
  rw [HY.out]
  go_wp2_with fail
  refine (rNear 0 true true (by omega) (by omega) _).mono ?_; rintro e w1 ⟨rfl, rfl⟩
  rw [HK.out]
  go_wp2_with fail
  go_ret
  exact ret_of rfl (by go_grown)

set_option maxHeartbeats 800000 in
theorem rDiv_10z (a b X Y Q R s1 : Int) (ha : InI a) (hb : InI b) (s1' : a < 0) (s2' : ¬ b < 0) (HX : Hid (absU a = X)) (HY : Hid (absU b = Y)) (hX0 : 0 ≤ X) (hX1 : X ≤ 9223372036854775808) (hY0 : 0 < Y) (hY1 : Y ≤ 9223372036854775808)
    (hg : ¬ Y ≤ X / 4294967296) (hQ0 : 0 ≤ Q) (hQ1 : Q ≤ 18446744073709551615) (HQ : Hid ((X / 4294967296 * 18446744073709551616 + IntKind.u64.wrap (X * 4294967296)) / Y = Q)) (HR : Hid ((X / 4294967296 * 18446744073709551616 + IntKind.u64.wrap (X * 4294967296)) % Y = R)) (hR : ¬ 0 < R) (HK : Hid (nearV Q true false = fdiv a b)) (w : World) :
    Calls Try.prog 49 #[.int .i64 a, .int .i64 b] w (Ret (.int .i64 (fdiv a b)) w) := by
  have sb1 : decide (a < 0) = true := by simp; omega
  have sb2 : decide (b < 0) = false := by simp; omega
  have e0 : (b == 0) = false := by rw [beq_eq_false_iff_ne]; intro h; subst h; have := HY.out; unfold absU at this; simp at this; omega
  have sm : decide (0 < R) = false := by simp; omega
  go_enter Try.func49, Try.ntmps49
  go_wp2_with fail
  refine (rSize a ha _).mono ?_; rintro e w1 ⟨rfl, rfl⟩
  rw [HX.out]
  go_wp2_with fail
  refine (rSize b hb _).mono ?_; rintro e w1 ⟨rfl, rfl⟩
  rw [HY.out]
  go_wp2_with fail
  refine (div64 (X / 4294967296) (IntKind.u64.wrap (X * 4294967296)) Y (by omega) (by omega) (by omega) (by rw [IntKind.wrap_u64]; omega) (by rw [IntKind.wrap_u64]; omega) _).mono ?_; rintro e w1 ⟨rfl, hb1⟩
  rw [HQ.out, HR.out]
  obtain ⟨hB1, hS1⟩ : Below w.heap.size w w1 ∧ w.heap.size ≤ w1.heap.size := Below.step (by go_grown) hb1
  go_wp2_with fail
  refine (rNear Q true false hQ0 hQ1 _).mono ?_; rintro e w2 ⟨rfl, rfl⟩
  rw [HK.out]
  go_wp2_with fail
  go_ret
  exact ret_of rfl hB1

set_option maxHeartbeats 800000 in
theorem rDiv_10n (a b X Y Q R s1 : Int) (ha : InI a) (hb : InI b) (s1' : a < 0) (s2' : ¬ b < 0) (HX : Hid (absU a = X)) (HY : Hid (absU b = Y)) (hX0 : 0 ≤ X) (hX1 : X ≤ 9223372036854775808) (hY0 : 0 < Y) (hY1 : Y ≤ 9223372036854775808)
    (hg : ¬ Y ≤ X / 4294967296) (hQ0 : 0 ≤ Q) (hQ1 : Q ≤ 18446744073709551615) (HQ : Hid ((X / 4294967296 * 18446744073709551616 + IntKind.u64.wrap (X * 4294967296)) / Y = Q)) (HR : Hid ((X / 4294967296 * 18446744073709551616 + IntKind.u64.wrap (X * 4294967296)) % Y = R)) (hR : 0 < R) (hw : IntKind.u64.wrap (Q + 1) = s1) (h10 : 0 ≤ s1) (h11 : s1 ≤ 18446744073709551615) (HK : Hid (nearV s1 true (s1 == 0) = fdiv a b)) (w : World) :
    Calls Try.prog 49 #[.int .i64 a, .int .i64 b] w (Ret (.int .i64 (fdiv a b)) w) := by
  have sb1 : decide (a < 0) = true := by simp; omega
  have sb2 : decide (b < 0) = false := by simp; omega
  have e0 : (b == 0) = false := by rw [beq_eq_false_iff_ne]; intro h; subst h; have := HY.out; unfold absU at this; simp at this; omega
  have sm : decide (0 < R) = true := by simp; omega
  go_enter Try.func49, Try.ntmps49
  go_wp2_with fail
  refine (rSize a ha _).mono ?_; rintro e w1 ⟨rfl, rfl⟩
  rw [HX.out]
  go_wp2_with fail
  refine (rSize b hb _).mono ?_; rintro e w1 ⟨rfl, rfl⟩
  rw [HY.out]
  go_wp2_with fail
  refine (div64 (X / 4294967296) (IntKind.u64.wrap (X * 4294967296)) Y (by omega) (by omega) (by omega) (by rw [IntKind.wrap_u64]; omega) (by rw [IntKind.wrap_u64]; omega) _).mono ?_; rintro e w1 ⟨rfl, hb1⟩
  rw [HQ.out, HR.out]
  obtain ⟨hB1, hS1⟩ : Below w.heap.size w w1 ∧ w.heap.size ≤ w1.heap.size := Below.step (by go_grown) hb1
  go_wp2_with fail
  refine (rNear s1 true (s1 == 0) h10 h11 _).mono ?_; rintro e w2 ⟨rfl, rfl⟩
  rw [HK.out]
  go_wp2_with fail
  go_ret
  exact ret_of rfl hB1

set_option maxHeartbeats 800000 in
theorem rDiv_01g (a b X Y Q R s1 : Int) (ha : InI a) (hb : InI b) (s1' : ¬ a < 0) (s2' : b < 0) (HX : Hid (absU a = X)) (HY : Hid (absU b = Y)) (hX0 : 0 ≤ X) (hX1 : X ≤ 9223372036854775808) (hY0 : 0 < Y) (hY1 : Y ≤ 9223372036854775808)
    (hg : Y ≤ X / 4294967296) (HK : Hid (nearV 0 true true = fdiv a b)) (w : World) :
    Calls Try.prog 49 #[.int .i64 a, .int .i64 b] w (Ret (.int .i64 (fdiv a b)) w) := by
  have sb1 : decide (a < 0) = false := by simp; omega
  have sb2 : decide (b < 0) = true := by simp; omega
  have e0 : (b == 0) = false := by rw [beq_eq_false_iff_ne]; intro h; subst h; have := HY.out; unfold absU at this; simp at this; omega
  go_enter Try.func49, Try.ntmps49
  go_wp2_with fail
  refine (rSize a ha _).mono ?_; rintro e w1 ⟨rfl, rfl⟩
  rw [HX.out]
  go_wp2_with fail
  refine (rSize b hb _).mono ?_; rintro e w1 ⟨rfl, rfl⟩
  rw [HY.out]
  go_wp2_with fail
  refine (rNear 0 true true (by omega) (by omega) _).mono ?_; rintro e w1 ⟨rfl, rfl⟩
  rw [HK.out]
  go_wp2_with fail
  go_ret
  exact ret_of rfl (by go_grown)

set_option maxHeartbeats 800000 in
theorem rDiv_01z (a b X Y Q R s1 : Int) (ha : InI a) (hb : InI b) (s1' : ¬ a < 0) (s2' : b < 0) (HX : Hid (absU a = X)) (HY : Hid (absU b = Y)) (hX0 : 0 ≤ X) (hX1 : X ≤ 9223372036854775808) (hY0 : 0 < Y) (hY1 : Y ≤ 9223372036854775808)
    (hg : ¬ Y ≤ X / 4294967296) (hQ0 : 0 ≤ Q) (hQ1 : Q ≤ 18446744073709551615) (HQ : Hid ((X / 4294967296 * 18446744073709551616 + IntKind.u64.wrap (X * 4294967296)) / Y = Q)) (HR : Hid ((X / 4294967296 * 18446744073709551616 + IntKind.u64.wrap (X * 4294967296)) % Y = R)) (hR : ¬ 0 < R) (HK : Hid (nearV Q true false = fdiv a b)) (w : World) :
    Calls Try.prog 49 #[.int .i64 a, .int .i64 b] w (Ret (.int .i64 (fdiv a b)) w) := by
  have sb1 : decide (a < 0) = false := by simp; omega
  have sb2 : decide (b < 0) = true := by simp; omega
  have e0 : (b == 0) = false := by rw [beq_eq_false_iff_ne]; intro h; subst h; have := HY.out; unfold absU at this; simp at this; omega
  have sm : decide (0 < R) = false := by simp; omega
  go_enter Try.func49, Try.ntmps49
  go_wp2_with fail
  refine (rSize a ha _).mono ?_; rintro e w1 ⟨rfl, rfl⟩
  rw [HX.out]
  go_wp2_with fail
  refine (rSize b hb _).mono ?_; rintro e w1 ⟨rfl, rfl⟩
  rw [HY.out]
  go_wp2_with fail
  refine (div64 (X / 4294967296) (IntKind.u64.wrap (X * 4294967296)) Y (by omega) (by omega) (by omega) (by rw [IntKind.wrap_u64]; omega) (by rw [IntKind.wrap_u64]; omega) _).mono ?_; rintro e w1 ⟨rfl, hb1⟩
  rw [HQ.out, HR.out]
  obtain ⟨hB1, hS1⟩ : Below w.heap.size w w1 ∧ w.heap.size ≤ w1.heap.size := Below.step (by go_grown) hb1
  go_wp2_with fail
  refine (rNear Q true false hQ0 hQ1 _).mono ?_; rintro e w2 ⟨rfl, rfl⟩
  rw [HK.out]
  go_wp2_with fail
  go_ret
  exact ret_of rfl hB1

set_option maxHeartbeats 800000 in
theorem rDiv_01n (a b X Y Q R s1 : Int) (ha : InI a) (hb : InI b) (s1' : ¬ a < 0) (s2' : b < 0) (HX : Hid (absU a = X)) (HY : Hid (absU b = Y)) (hX0 : 0 ≤ X) (hX1 : X ≤ 9223372036854775808) (hY0 : 0 < Y) (hY1 : Y ≤ 9223372036854775808)
    (hg : ¬ Y ≤ X / 4294967296) (hQ0 : 0 ≤ Q) (hQ1 : Q ≤ 18446744073709551615) (HQ : Hid ((X / 4294967296 * 18446744073709551616 + IntKind.u64.wrap (X * 4294967296)) / Y = Q)) (HR : Hid ((X / 4294967296 * 18446744073709551616 + IntKind.u64.wrap (X * 4294967296)) % Y = R)) (hR : 0 < R) (hw : IntKind.u64.wrap (Q + 1) = s1) (h10 : 0 ≤ s1) (h11 : s1 ≤ 18446744073709551615) (HK : Hid (nearV s1 true (s1 == 0) = fdiv a b)) (w : World) :
    Calls Try.prog 49 #[.int .i64 a, .int .i64 b] w (Ret (.int .i64 (fdiv a b)) w) := by
  have sb1 : decide (a < 0) = false := by simp; omega
  have sb2 : decide (b < 0) = true := by simp; omega
  have e0 : (b == 0) = false := by rw [beq_eq_false_iff_ne]; intro h; subst h; have := HY.out; unfold absU at this; simp at this; omega
  have sm : decide (0 < R) = true := by simp; omega
  go_enter Try.func49, Try.ntmps49
  go_wp2_with fail
  refine (rSize a ha _).mono ?_; rintro e w1 ⟨rfl, rfl⟩
  rw [HX.out]
  go_wp2_with fail
  refine (rSize b hb _).mono ?_; rintro e w1 ⟨rfl, rfl⟩
  rw [HY.out]
  go_wp2_with fail
  refine (div64 (X / 4294967296) (IntKind.u64.wrap (X * 4294967296)) Y (by omega) (by omega) (by omega) (by rw [IntKind.wrap_u64]; omega) (by rw [IntKind.wrap_u64]; omega) _).mono ?_; rintro e w1 ⟨rfl, hb1⟩
  rw [HQ.out, HR.out]
  obtain ⟨hB1, hS1⟩ : Below w.heap.size w w1 ∧ w.heap.size ≤ w1.heap.size := Below.step (by go_grown) hb1
  go_wp2_with fail
  refine (rNear s1 true (s1 == 0) h10 h11 _).mono ?_; rintro e w2 ⟨rfl, rfl⟩
  rw [HK.out]
  go_wp2_with fail
  go_ret
  exact ret_of rfl hB1

set_option maxHeartbeats 800000 in
theorem rDiv_00g (a b X Y Q R s1 : Int) (ha : InI a) (hb : InI b) (s1' : ¬ a < 0) (s2' : ¬ b < 0) (HX : Hid (absU a = X)) (HY : Hid (absU b = Y)) (hX0 : 0 ≤ X) (hX1 : X ≤ 9223372036854775808) (hY0 : 0 < Y) (hY1 : Y ≤ 9223372036854775808)
    (hg : Y ≤ X / 4294967296) (HK : Hid (nearV 0 false true = fdiv a b)) (w : World) :
    Calls Try.prog 49 #[.int .i64 a, .int .i64 b] w (Ret (.int .i64 (fdiv a b)) w) := by
  have sb1 : decide (a < 0) = false := by simp; omega
  have sb2 : decide (b < 0) = false := by simp; omega
  have e0 : (b == 0) = false := by rw [beq_eq_false_iff_ne]; intro h; subst h; have := HY.out; unfold absU at this; simp at this; omega
  go_enter Try.func49, Try.ntmps49
  go_wp2_with fail
  refine (rSize a ha _).mono ?_; rintro e w1 ⟨rfl, rfl⟩
  rw [HX.out]
  go_wp2_with fail
  refine (rSize b hb _).mono ?_; rintro e w1 ⟨rfl, rfl⟩
  rw [HY.out]
  go_wp2_with fail
  refine (rNear 0 false true (by omega) (by omega) _).mono ?_; rintro e w1 ⟨rfl, rfl⟩
  rw [HK.out]
  go_wp2_with fail
  go_ret
  exact ret_of rfl (by go_grown)

set_option maxHeartbeats 800000 in
theorem rDiv_00p (a b X Y Q R s1 : Int) (ha : InI a) (hb : InI b) (s1' : ¬ a < 0) (s2' : ¬ b < 0) (HX : Hid (absU a = X)) (HY : Hid (absU b = Y)) (hX0 : 0 ≤ X) (hX1 : X ≤ 9223372036854775808) (hY0 : 0 < Y) (hY1 : Y ≤ 9223372036854775808)
    (hg : ¬ Y ≤ X / 4294967296) (hQ0 : 0 ≤ Q) (hQ1 : Q ≤ 18446744073709551615) (HQ : Hid ((X / 4294967296 * 18446744073709551616 + IntKind.u64.wrap (X * 4294967296)) / Y = Q)) (HR : Hid ((X / 4294967296 * 18446744073709551616 + IntKind.u64.wrap (X * 4294967296)) % Y = R)) (HK : Hid (nearV Q false false = fdiv a b)) (w : World) :
    Calls Try.prog 49 #[.int .i64 a, .int .i64 b] w (Ret (.int .i64 (fdiv a b)) w) := by
  have sb1 : decide (a < 0) = false := by simp; omega
  have sb2 : decide (b < 0) = false := by simp; omega
  have e0 : (b == 0) = false := by rw [beq_eq_false_iff_ne]; intro h; subst h; have := HY.out; unfold absU at this; simp at this; omega
  go_enter Try.func49, Try.ntmps49
  go_wp2_with fail
  refine (rSize a ha _).mono ?_; rintro e w1 ⟨rfl, rfl⟩
  rw [HX.out]
  go_wp2_with fail
  refine (rSize b hb _).mono ?_; rintro e w1 ⟨rfl, rfl⟩
  rw [HY.out]
  go_wp2_with fail
  refine (div64 (X / 4294967296) (IntKind.u64.wrap (X * 4294967296)) Y (by omega) (by omega) (by omega) (by rw [IntKind.wrap_u64]; omega) (by rw [IntKind.wrap_u64]; omega) _).mono ?_; rintro e w1 ⟨rfl, hb1⟩
  rw [HQ.out, HR.out]
  obtain ⟨hB1, hS1⟩ : Below w.heap.size w w1 ∧ w.heap.size ≤ w1.heap.size := Below.step (by go_grown) hb1
  go_wp2_with fail
  refine (rNear Q false false hQ0 hQ1 _).mono ?_; rintro e w2 ⟨rfl, rfl⟩
  rw [HK.out]
  go_wp2_with fail
  go_ret
  exact ret_of rfl hB1

theorem rDiv (a b : Int) (ha : InI a) (hb : InI b) (w : World) : Calls Try.prog 49 #[.int .i64 a, .int .i64 b] w (Ret (.int .i64 (fdiv a b)) w) := by
  have hA := absU_le ha
  have hB := absU_le hb
  by_cases h0 : b = 0
  · subst h0
    rcases Int.lt_trichotomy a 0 with g | g | g
    · exact (rDiv_01 a _ ha g rfl (Lib.hid (by unfold fdiv; rw [if_pos rfl, if_neg (by omega), if_pos g]; rfl)) w).mono fun _ _ h => h.ret
    · subst g; exact (rDiv_00 w).mono fun _ _ h => h.ret
    · exact (rDiv_0p a _ ha g rfl (Lib.hid (by unfold fdiv; rw [if_pos rfl, if_pos g]; rfl)) w).mono fun _ _ h => h.ret
  · have hY : 0 < absU b := by unfold absU; split <;> omega
    have hlo := divlo (X := absU a) (by omega) (by omega)
    by_cases hg : absU b ≤ absU a / 4294967296
    · have hq : 18446744073709551616 ≤ absU a * 4294967296 / absU b := by
        rw [Int.le_ediv_iff_mul_le hY]; omega
      by_cases s1 : a < 0 <;> by_cases s2 : b < 0
      · exact rDiv_11g a b _ _ 0 0 0 ha hb s1 s2 rfl rfl (by omega) (by omega) hY (by omega) hg ((rdiv_b false hq).trans (fdiv_sgn h0 rfl rfl (sa := true) (sb := true) (by simp [s1]) (by simp [s2])).symm) w
      · exact rDiv_10g a b _ _ 0 0 0 ha hb s1 s2 rfl rfl (by omega) (by omega) hY (by omega) hg ((rdiv_b true hq).trans (fdiv_sgn h0 rfl rfl (sa := true) (sb := false) (by simp [s1]) (by simp [s2])).symm) w
      · exact rDiv_01g a b _ _ 0 0 0 ha hb s1 s2 rfl rfl (by omega) (by omega) hY (by omega) hg ((rdiv_b true hq).trans (fdiv_sgn h0 rfl rfl (sa := false) (sb := true) (by simp [s1]) (by simp [s2])).symm) w
      · exact rDiv_00g a b _ _ 0 0 0 ha hb s1 s2 rfl rfl (by omega) (by omega) hY (by omega) hg ((rdiv_b false hq).trans (fdiv_sgn h0 rfl rfl (sa := false) (sb := false) (by simp [s1]) (by simp [s2])).symm) w
    · have hq0 : 0 ≤ absU a * 4294967296 / absU b := Int.ediv_nonneg (by omega) (by omega)
      have hq1 : absU a * 4294967296 / absU b < 18446744073709551616 := by rw [Int.ediv_lt_iff_lt_mul hY]; omega
      have hr0 := Int.emod_nonneg (absU a * 4294967296) (show absU b ≠ 0 by omega)
      have eQ := congrArg (· / absU b) hlo
      have eR := congrArg (· % absU b) hlo
      by_cases s1 : a < 0 <;> by_cases s2 : b < 0
      · exact rDiv_11p a b _ _ _ _ 0 ha hb s1 s2 rfl rfl (by omega) (by omega) hY (by omega) hg hq0 (by omega) eQ eR ((rdiv_p hq0).trans (fdiv_sgn h0 rfl rfl (sa := true) (sb := true) (by simp [s1]) (by simp [s2])).symm) w
      · by_cases hm : 0 < absU a * 4294967296 % absU b
        · exact rDiv_10n a b _ _ _ _ _ ha hb s1 s2 rfl rfl (by omega) (by omega) hY (by omega) hg hq0 (by omega) eQ eR hm rfl (by rw [IntKind.wrap_u64]; omega) (by rw [IntKind.wrap_u64]; omega) ((rdiv_n hq0 hq1 hm rfl).trans (fdiv_sgn h0 rfl rfl (sa := true) (sb := false) (by simp [s1]) (by simp [s2])).symm) w
        · exact rDiv_10z a b _ _ _ _ 0 ha hb s1 s2 rfl rfl (by omega) (by omega) hY (by omega) hg hq0 (by omega) eQ eR hm ((rdiv_z hq0 (by omega)).trans (fdiv_sgn h0 rfl rfl (sa := true) (sb := false) (by simp [s1]) (by simp [s2])).symm) w
      · by_cases hm : 0 < absU a * 4294967296 % absU b
        · exact rDiv_01n a b _ _ _ _ _ ha hb s1 s2 rfl rfl (by omega) (by omega) hY (by omega) hg hq0 (by omega) eQ eR hm rfl (by rw [IntKind.wrap_u64]; omega) (by rw [IntKind.wrap_u64]; omega) ((rdiv_n hq0 hq1 hm rfl).trans (fdiv_sgn h0 rfl rfl (sa := false) (sb := true) (by simp [s1]) (by simp [s2])).symm) w
        · exact rDiv_01z a b _ _ _ _ 0 ha hb s1 s2 rfl rfl (by omega) (by omega) hY (by omega) hg hq0 (by omega) eQ eR hm ((rdiv_z hq0 (by omega)).trans (fdiv_sgn h0 rfl rfl (sa := false) (sb := true) (by simp [s1]) (by simp [s2])).symm) w
      · exact rDiv_00p a b _ _ _ _ 0 ha hb s1 s2 rfl rfl (by omega) (by omega) hY (by omega) hg hq0 (by omega) eQ eR ((rdiv_p hq0).trans (fdiv_sgn h0 rfl rfl (sa := false) (sb := false) (by simp [s1]) (by simp [s2])).symm) w

end Go.Proofs.Ytognbeejobfpfaa
