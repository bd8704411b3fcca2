/- vec.Toward. -/
import Derived.Test.YtjhnkpapbjkbcaaVecF
namespace Go.Proofs.Ytjhnkpapbjkbcaa
open Go.RowKit Go.Sort
set_option linter.unusedVariables false
set_option linter.unusedSimpArgs false

def clip (n : Int) : Int := min (max n (-1073741824)) 1073741824
theorem clip_bd (n : Int) : -1073741824 ≤ clip n ∧ clip n ≤ 1073741824 := by unfold clip; omega
theorem clip_sq {n : Int} (h : -1073741824 ≤ n ∧ n ≤ 1073741824) : 0 ≤ n * n ∧ n * n ≤ 1152921504606846976 := by
  constructor
  · rcases Int.le_total 0 n with g | g
    · exact Int.mul_nonneg g g
    · exact Int.mul_nonneg_of_nonpos_of_nonpos g g
  · rcases Int.le_total 0 n with g | g
    · have := Int.mul_le_mul h.2 h.2 g (by omega); omega
    · have := Int.mul_le_mul (show -n ≤ 1073741824 by omega) (show -n ≤ 1073741824 by omega) (show 0 ≤ -n by omega) (by omega)
      rw [Int.neg_mul_neg] at this
      omega
/-- The root of a place's square, times 2^32. -/
def vroot (p : T3) : Int := sqN ((clip p.1 * clip p.1 + clip p.2.1 * clip p.2.1 + clip p.2.2 * clip p.2.2) * 18446744073709551616)
def vtow (p : T3) : T3 := if vroot p = 0 then zero3 else (clip p.1 * 18446744073709551616 / vroot p, clip p.2.1 * 18446744073709551616 / vroot p, clip p.2.2 * 18446744073709551616 / vroot p)
theorem root_ge {S n : Int} (h0 : n * n ≤ S) (hS : S ≤ 4611686018427387903) : -(sqN (S * 18446744073709551616)) ≤ n * 4294967296 ∧ n * 4294967296 ≤ sqN (S * 18446744073709551616) := by
  have hn : 0 ≤ n * n := by
    rcases Int.le_total 0 n with g | g
    · exact Int.mul_nonneg g g
    · exact Int.mul_nonneg_of_nonpos_of_nonpos g g
  obtain ⟨⟨r0, r1, r2⟩, -⟩ := sqN_root (x := S * 18446744073709551616) (by omega) (by omega)
  generalize sqN (S * 18446744073709551616) = R at *
  have e1 : (n * 4294967296) * (n * 4294967296) = n * n * 18446744073709551616 := by grind
  constructor
  · rcases Int.lt_or_le (n * 4294967296) (-R) with g | g
    · exfalso
      have := sq_mono (a := R + 1) (b := -(n * 4294967296)) (by omega) (by omega)
      rw [Int.neg_mul_neg, e1] at this
      omega
    · exact g
  · rcases Int.lt_or_le R (n * 4294967296) with g | g
    · exfalso
      have := sq_mono (a := R + 1) (b := n * 4294967296) (by omega) (by omega)
      rw [e1] at this
      omega
    · exact g
theorem tow_q {n R : Int} (hR : 0 < R) (h1 : -R ≤ n * 4294967296) (h2 : n * 4294967296 ≤ R) : -4294967296 ≤ n * 18446744073709551616 / R ∧ n * 18446744073709551616 / R ≤ 4294967296 := by
  constructor
  · rw [Int.le_ediv_iff_mul_le hR]
    omega
  · have : n * 18446744073709551616 / R < 4294967297 := by
      rw [Int.ediv_lt_iff_lt_mul hR]
      omega
    omega
theorem vroot_bd (p : T3) : 0 ≤ vroot p ∧ vroot p ≤ 9223372036854775807 := by
  have h0 := clip_sq (clip_bd p.1)
  have h1 := clip_sq (clip_bd p.2.1)
  have h2 := clip_sq (clip_bd p.2.2)
  exact sqN_small (by omega) (by omega)
theorem vtow_parts (p : T3) (h : vroot p ≠ 0) : ∀ n, n = clip p.1 ∨ n = clip p.2.1 ∨ n = clip p.2.2 → -4294967296 ≤ n * 18446744073709551616 / vroot p ∧ n * 18446744073709551616 / vroot p ≤ 4294967296 := by
  intro n hn
  have h0 := clip_sq (clip_bd p.1)
  have h1 := clip_sq (clip_bd p.2.1)
  have h2 := clip_sq (clip_bd p.2.2)
  have hb := vroot_bd p
  have := root_ge (S := clip p.1 * clip p.1 + clip p.2.1 * clip p.2.1 + clip p.2.2 * clip p.2.2) (n := n) (by rcases hn with e | e | e <;> rw [e] <;> omega) (by omega)
  exact tow_q (by omega) this.1 this.2
theorem vtow_bd (p : T3) : (-4294967296 ≤ (vtow p).1 ∧ (vtow p).1 ≤ 4294967296) ∧ (-4294967296 ≤ (vtow p).2.1 ∧ (vtow p).2.1 ≤ 4294967296) ∧ (-4294967296 ≤ (vtow p).2.2 ∧ (vtow p).2.2 ≤ 4294967296) := by
  unfold vtow
  split
  · simp [zero3]
  · rename_i h
    exact ⟨vtow_parts p h _ (.inl rfl), vtow_parts p h _ (.inr (.inl rfl)), vtow_parts p h _ (.inr (.inr rfl))⟩
theorem vtow_I (p : T3) : InV (vtow p) := by
  have := vtow_bd p
  unfold InV InI
  omega

theorem vPart (n : Int) (hn : InI n) (w : World) : Calls Try.prog 40 #[.int .i64 n] w (Same (.int .i64 (clip n)) w) := by
  go_enter Try.func40, Try.ntmps40
  go_wp2_with fail
  go_ret
  exact same_of rfl

theorem vBy (n R : Int) (hn : -1073741824 ≤ n ∧ n ≤ 1073741824) (hR : 0 < R) (hR1 : R ≤ 9223372036854775807) (hq : InI (n * 18446744073709551616 / R)) (B : Nat) (w : World) (hc : w.cell? ⟨B, 0, none⟩ = some (.int .i64 R)) :
    Calls Try.prog 42 #[.int .i64 n, .pointer (some ⟨B, 0, none⟩)] w (Ret (.int .i64 (n * 18446744073709551616 / R)) w) := by
  obtain ⟨Q, hQ⟩ : ∃ Q, n * 18446744073709551616 / R = Q := ⟨_, rfl⟩
  have hw : InW (n * 18446744073709551616) := by unfold InW; omega
  have hfq : fq (n * 18446744073709551616) R = Q := by unfold fq; rw [if_pos hR, hQ]
  have hok : divOk (n * 18446744073709551616) R = true := divOk_of (by omega) (InWb_true (by rw [hfq]; rw [hQ] at hq; unfold InI at hq; unfold InW; omega))
  have hdQ : divQ (n * 18446744073709551616) R = Q := (divQ_ok hok).trans hfq
  have eW : W (n * 18446744073709551616) = .agg #[.int .i64 n, .int .u64 0] := by
    have e1 : wHi (n * 18446744073709551616) = n := by unfold wHi; omega
    have e2 : wLo (n * 18446744073709551616) = 0 := by unfold wLo; omega
    show Value.agg #[.int .i64 (wHi _), .int .u64 (wLo _)] = _
    rw [e1, e2]
  have K := fun w => wDiv (n * 18446744073709551616) R hw (show InI R by unfold InI; omega) w
  rw [eW, hok, hdQ] at K
  rw [hQ] at hq ⊢
  have KK := Lib.hid K
  have HF := Lib.hid (fits_true hq)
  have HN := Lib.hid (intN_fits HF.out)
  have hQW := InW_of_I hq
  clear K eW hdQ hok hfq hQ hw
  go_enter Try.func42, Try.ntmps42
  go_wp2_with fail
  refine (KK.out _).mono ?_; rintro e w1 ⟨rfl, hb1⟩
  obtain ⟨hB1, hS1⟩ : Below w.heap.size w w1 ∧ w.heap.size ≤ w1.heap.size := Below.step (by go_grown) hb1
  go_wp2_with fail
  refine (wInt Q hQW _).mono ?_; rintro e w2 ⟨rfl, hb2⟩
  rw [HF.out, HN.out]
  obtain ⟨hB2, hS2⟩ : Below w.heap.size w w2 ∧ w.heap.size ≤ w2.heap.size := Below.step (by go_grown) hb2
  go_wp2_with fail
  go_ret
  exact ret_of rfl hB2

set_option maxRecDepth 100000 in
set_option maxHeartbeats 1600000 in
theorem vToward_any (p : T3) (x y z A B C S R : Int) (v : T3) (hp : InV p) (HX : Hid (clip p.1 = x)) (HY : Hid (clip p.2.1 = y)) (HZ : Hid (clip p.2.2 = z))
    (hA : x * x = A) (hB : y * y = B) (hC : z * z = C) (a0 : 0 ≤ A) (a1 : A ≤ 1152921504606846976) (b0 : 0 ≤ B) (b1 : B ≤ 1152921504606846976) (c0 : 0 ≤ C) (c1 : C ≤ 1152921504606846976)
    (KS : Hid (∀ w, Calls Try.prog 41 #[.agg #[.int .i64 (A + B + C), .int .u64 0]] w (Ret (.int .u64 R) w))) (r0 : 0 ≤ R) (r1 : R ≤ 9223372036854775807)
    (hz : R = 0 → v = zero3) (hnz : R ≠ 0 → ∀ (G : Nat) w, w.cell? ⟨G, 0, none⟩ = some (.int .i64 R) →
      Calls Try.prog 42 #[.int .i64 x, .pointer (some ⟨G, 0, none⟩)] w (Ret (.int .i64 v.1) w) ∧ Calls Try.prog 42 #[.int .i64 y, .pointer (some ⟨G, 0, none⟩)] w (Ret (.int .i64 v.2.1) w) ∧ Calls Try.prog 42 #[.int .i64 z, .pointer (some ⟨G, 0, none⟩)] w (Ret (.int .i64 v.2.2) w)) (w : World) :
    Calls Try.prog 13 #[V3 p.1 p.2.1 p.2.2] w (Ret (V3 v.1 v.2.1 v.2.2) w) := by
  obtain ⟨p0, p1, p2⟩ := hp
  have K1 := Lib.hid (fun (w : World) => by have := vPart p.1 p0 w; rw [HX.out] at this; exact this)
  have K2 := Lib.hid (fun (w : World) => by have := vPart p.2.1 p1 w; rw [HY.out] at this; exact this)
  have K3 := Lib.hid (fun (w : World) => by have := vPart p.2.2 p2 w; rw [HZ.out] at this; exact this)
  have HZ0 := Lib.hid hz
  have HNZ := Lib.hid hnz
  have HA := Lib.hid hA
  have HB := Lib.hid hB
  have HC := Lib.hid hC
  clear hz hnz hA hB hC
  have hmf : ∀ (fn : Fn) (first cap : Array Value) (w : World), (Instr.makeFunc fn first cap).run Try.prog w = .ok (.func fn first cap) w := fun _ _ _ _ => rfl
  go_enter Try.func13, Try.ntmps13
  go_wp2_with fail
  have c3 := reg_cell (w := ((w.alloc (.cells #[.int .i64 p.1, .int .i64 p.2.1, .int .i64 p.2.2] 23)).alloc (.cells #[.int .i64 0, .int .i64 0, .int .i64 0] 26))) (a := ⟨w.heap.size, 0, none⟩) (v := .int .i64 p.1) (by first | go_cell | simp [go_sem])
  have c4 := reg_cell (w := ((w.alloc (.cells #[.int .i64 p.1, .int .i64 p.2.1, .int .i64 p.2.2] 23)).alloc (.cells #[.int .i64 0, .int .i64 0, .int .i64 0] 26))) (a := ⟨w.heap.size, 1, none⟩) (v := .int .i64 p.2.1) (by first | go_cell | simp [go_sem])
  have c5 := reg_cell (w := ((w.alloc (.cells #[.int .i64 p.1, .int .i64 p.2.1, .int .i64 p.2.2] 23)).alloc (.cells #[.int .i64 0, .int .i64 0, .int .i64 0] 26))) (a := ⟨w.heap.size, 2, none⟩) (v := .int .i64 p.2.2) (by first | go_cell | simp [go_sem])
  have GR0 : Hid (Holds3 ((w.alloc (.cells #[.int .i64 p.1, .int .i64 p.2.1, .int .i64 p.2.2] 23)).alloc (.cells #[.int .i64 0, .int .i64 0, .int .i64 0] 26)) (w.heap.size + 1) zero3) := Lib.hid (Holds3.new (w.alloc _) 0 0 0 _ _ (by simp))
  have hB0 : Below w.heap.size w ((w.alloc (.cells #[.int .i64 p.1, .int .i64 p.2.1, .int .i64 p.2.2] 23)).alloc (.cells #[.int .i64 0, .int .i64 0, .int .i64 0] 26)) := by go_grown
  refine wp_region_quiet_below (by kernel_rfl) (by kernel_rfl) ?_
  repeat (quiet_step ((go_at_call 40; first | (with_reducible exact reg_same (K1.out _)) | (with_reducible exact reg_same (K2.out _)) | (with_reducible exact reg_same (K3.out _)))))
  refine wpQuiet_nil ?_
  intro w3 hw3
  have hb3 := reg_below hw3
  clear hw3 c3 c4 c5
  have hB3 : Below w.heap.size w w3 := Below.next hB0 hb3
  have GR3 := Lib.hid (GR0.out.call hb3)
  clear hb3 hB0
  have hA := HA.out
  have hB := HB.out
  have hC := HC.out
  go_wp2_with fail
  refine (KS.out _).mono ?_; rintro e w4 ⟨rfl, hb4⟩
  have hB4 : Below w.heap.size w w4 := Below.next hB3 hb4
  have GR4 := Lib.hid (GR3.out.call hb4)
  clear hb4 hA hB hC
  by_cases h0 : R = 0
  · have e := HZ0.out h0
    subst e
    subst h0
    have g := GR4.out.more (.cells #[.int .i64 0] 2)
    obtain ⟨s0, s1, s2, t0, t1, t2⟩ := g
    have hS4 := hB4.size
    go_wp2
    exact bodyPost_ret (v := V3 0 0 0) (by simp (maxDischargeDepth := 9) [results, Try.results13, go_sem, s0, s1, s2]) rfl ⟨rfl, by go_grown⟩
  · have e0 : (R == 0) = false := by rw [beq_eq_false_iff_ne]; exact h0
    have HN := Lib.hid (HNZ.out h0)
    clear h0
    go_wp2_with fail
    have hS4 := hB4.size
    have q4 : (w4.alloc (.cells #[.int .i64 R] 2)).cell? ⟨w4.heap.size, 0, none⟩ = some (.int .i64 R) := by simp
    refine ((HN.out _ _ q4).1).mono ?_; rintro e w5 ⟨rfl, hb5⟩
    have hB5 : Below w.heap.size w w5 := Below.next (by go_grown) hb5
    have q5 := cell_call hb5 q4
    have GR5 := Lib.hid ((GR4.out.more _).call hb5)
    clear hb5
    go_wp2_with fail
    refine ((HN.out _ _ q5).2.1).mono ?_; rintro e w6 ⟨rfl, hb6⟩
    have hB6 : Below w.heap.size w w6 := Below.next hB5 hb6
    have q6 := cell_call hb6 q5
    have GR6 := Lib.hid (GR5.out.call hb6)
    clear hb6
    go_wp2_with fail
    refine ((HN.out _ _ q6).2.2).mono ?_; rintro e w7 ⟨rfl, hb7⟩
    have hB7 : Below w.heap.size w w7 := Below.next hB6 hb7
    have g := GR6.out.call hb7
    obtain ⟨s0, s1, s2, t0, t1, t2⟩ := g
    clear hb7 q4 q5 q6
    go_wp2
    exact bodyPost_ret (v := V3 v.1 v.2.1 v.2.2) (by simp (maxDischargeDepth := 9) [results, Try.results13, go_sem, s0, s1, s2]) rfl ⟨rfl, by go_grown⟩

theorem vToward (p : T3) (hp : InV p) (w : World) : Calls Try.prog 13 #[V3 p.1 p.2.1 p.2.2] w (Ret (V3 (vtow p).1 (vtow p).2.1 (vtow p).2.2) w) := by
  have h0 := clip_sq (clip_bd p.1)
  have h1 := clip_sq (clip_bd p.2.1)
  have h2 := clip_sq (clip_bd p.2.2)
  have hb := vroot_bd p
  obtain ⟨S, hS⟩ : ∃ S, clip p.1 * clip p.1 + clip p.2.1 * clip p.2.1 + clip p.2.2 * clip p.2.2 = S := ⟨_, rfl⟩
  have eR : sqN (S * 18446744073709551616) = vroot p := by rw [← hS]; rfl
  have K := fun w => wSqrt (S * 18446744073709551616) (by unfold InW; omega) w
  have eW : W (S * 18446744073709551616) = .agg #[.int .i64 S, .int .u64 0] := by
    have e1 : wHi (S * 18446744073709551616) = S := by unfold wHi; omega
    have e2 : wLo (S * 18446744073709551616) = 0 := by unfold wLo; omega
    show Value.agg #[.int .i64 (wHi _), .int .u64 (wLo _)] = _
    rw [e1, e2]
  rw [eW, eR, ← hS] at K
  have hI : ∀ {q : Int}, -4294967296 ≤ q ∧ q ≤ 4294967296 → InI q := fun h => by unfold InI; omega
  refine vToward_any p _ _ _ _ _ _ S (vroot p) (vtow p) hp (Lib.hid rfl) (Lib.hid rfl) (Lib.hid rfl) rfl rfl rfl h0.1 h0.2 h1.1 h1.2 h2.1 h2.2 (Lib.hid K) hb.1 hb.2 (fun h => by unfold vtow; rw [if_pos h]) (fun h G w hc => ?_) w
  have hp := vtow_parts p h
  unfold vtow
  rw [if_neg h]
  exact ⟨vBy _ _ (clip_bd _) (by omega) hb.2 (hI (hp _ (.inl rfl))) G w hc, vBy _ _ (clip_bd _) (by omega) hb.2 (hI (hp _ (.inr (.inl rfl)))) G w hc, vBy _ _ (clip_bd _) (by omega) hb.2 (hI (hp _ (.inr (.inr rfl)))) G w hc⟩

end Go.Proofs.Ytjhnkpapbjkbcaa
