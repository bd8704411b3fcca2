/- Walk: umbraref05.Quant. -/
import Derived.Deep.LoopGhost
import Derived.Test.YtjhnkpapbjkbcaaOctaC
import Derived.Test.YtjhnkpapbjkbcaaOwn
import Derived.Test.YtjhnkpapbjkbcaaRef3C
import Derived.Test.YtjhnkpapbjkbcaaWalkE
import Derived.Test.YtjhnkpapbjkbcaaRef2
namespace Go.Proofs.Ytjhnkpapbjkbcaa
open Go.RowKit Go.Sort
set_option linter.unusedVariables false
set_option linter.unusedSimpArgs false

theorem Tryinfo_i64 : (Try.prog.info? 3).map (fun i => (i.zero, i.size, i.bytes)) = some (some (.int .i64 0), 1, 8) := by kernel_rfl
theorem oneCell (n : Int) : ∀ u ∈ [Value.int .i64 n], u.oneCell' = true := by intro u hu; simp at hu; subst hu; rfl
theorem fabs_bd2 {x m : Int} (hx : InI x) (h : fabs x ≤ m) (hm2 : m ≤ 9223372036854775807) : -m ≤ x ∨ m = 9223372036854775807 := by
  rw [fabs_val hx] at h
  split at h <;> (try split at h) <;> omega
theorem vmost_bd2 {v : T3} {m : Int} (hv : InV v) (h : vmost v = m) (hm2 : m ≤ 9223372036854775807) : (-m ≤ v.1 ∨ m = 9223372036854775807) ∧ (-m ≤ v.2.1 ∨ m = 9223372036854775807) ∧ (-m ≤ v.2.2 ∨ m = 9223372036854775807) := by
  unfold vmost at h
  exact ⟨fabs_bd2 hv.1 (by omega) hm2, fabs_bd2 hv.2.1 (by omega) hm2, fabs_bd2 hv.2.2 (by omega) hm2⟩
def qin (v : T3) (k : Nat) : Int := if k = 0 then v.1 else if k = 1 then v.2.1 else v.2.2
def qvals (v : T3) (m : Int) : List Value := [.int .i64 (qpart v.1 m), .int .i64 (qpart v.2.1 m), .int .i64 (qpart v.2.2 m)]
theorem qvals_step (v : T3) (m : Int) (k : Nat) (hk : k < 3) : (qvals v m).take (k + 1) = (qvals v m).take k ++ [.int .i64 (qpart (qin v k) m)] := by
  match k, hk with
  | 0, _ => rfl
  | 1, _ => rfl
  | 2, _ => rfl
theorem qround (v : T3) (m : Int) (hv : InV v) (HM : vmost v = m) (hm : 1 ≤ m) (hm2 : m ≤ 9223372036854775807) (k : Nat) (hk : k < 3) : ∃ x y a h l q r : Int, qin v k = x ∧ qpart (qin v k) m = y ∧ InI x ∧
    Hid (∀ w, Calls Try.prog 100 #[.int .i64 x] w (Same (.int .u64 a) w)) ∧ Hid (∀ w, Calls Try.prog 85 #[.int .u64 a, .int .u64 16384] w (Same (.tuple #[.int .u64 h, .int .u64 l]) w)) ∧
    Hid (∀ w, Calls Try.prog 87 #[.int .u64 h, .int .u64 l, .int .u64 m] w (Ret (.tuple #[.int .u64 q, .int .u64 r]) w)) ∧ (0 ≤ q ∧ q ≤ 32769) ∧ (0 ≤ r ∧ r < m) ∧
    (0 ≤ x → q = y) ∧ (x < 0 → ¬ 0 < r → -q = y ∧ -16384 ≤ -q) ∧ (x < 0 → 0 < r → ¬ -q - 1 < -16384 → -q - 1 = y) ∧ (x < 0 → 0 < r → -q - 1 < -16384 → -16384 = y) := by
  have hb := vmost_bd hv
  rw [HM] at hb
  have hxI : InI (qin v k) := by unfold qin; split; exact hv.1; split; exact hv.2.1; exact hv.2.2
  have hx : -m - 1 ≤ qin v k ∧ qin v k ≤ m := by unfold qin; split; exact hb.2.2.1; split; exact hb.2.2.2.1; exact hb.2.2.2.2
  have hx3 : -m ≤ qin v k ∨ m = 9223372036854775807 := by
    have hb2 := vmost_bd2 hv HM hm2
    unfold qin; split; exact hb2.1; split; exact hb2.2.1; exact hb2.2.2
  generalize qin v k = x at *
  have ha : 0 ≤ absU x ∧ absU x ≤ m + 1 := by unfold absU; split <;> omega
  have hp : 0 ≤ absU x * 16384 ∧ absU x * 16384 ≤ 16384 * m + 16384 := by omega
  have e := w_split (absU x * 16384)
  have hh : wHi (absU x * 16384) < m := by
    have h2 := wLo_U (absU x * 16384)
    unfold InU at h2
    omega
  have h0 : 0 ≤ wHi (absU x * 16384) := by unfold wHi; omega
  have h1 := wLo_U (absU x * 16384)
  have q0 : 0 ≤ absU x * 16384 / m := Int.ediv_nonneg hp.1 (by omega)
  have q1 : absU x * 16384 / m ≤ 32769 := by
    have : absU x * 16384 / m < 32770 := by rw [Int.ediv_lt_iff_lt_mul (by omega)]; omega
    omega
  have r0 := Int.emod_nonneg (absU x * 16384) (show m ≠ 0 by omega)
  have r1 := Int.emod_lt_of_pos (absU x * 16384) (show 0 < m by omega)
  have dm := Int.mul_ediv_add_emod (absU x * 16384) m
  refine ⟨x, qpart x m, absU x, wHi (absU x * 16384), wLo (absU x * 16384), absU x * 16384 / m, absU x * 16384 % m, rfl, rfl, hxI, Lib.hid (rSize x hxI), Lib.hid (mul64 (absU x) 16384 (by unfold InU; omega) (by unfold InU; omega)), Lib.hid fun w => ?_, ⟨q0, q1⟩, ⟨r0, r1⟩, ?_, ?_, ?_, ?_⟩
  · have := div64 (wHi (absU x * 16384)) (wLo (absU x * 16384)) m h0 hh (by omega) h1.1 (by have := h1.2; omega) w
    rw [← e] at this
    exact this
  · intro hx0
    have : absU x = x := by unfold absU; rw [if_neg (by omega)]
    rw [this] at q0 ⊢
    unfold qpart
    omega
  all_goals
    intro s
    have ea : absU x * 16384 = -x * 16384 := by unfold absU; rw [if_pos s]
    have eq : x * 16384 = -(-x * 16384) := by omega
    have hx2 := hx.1
    rw [ea] at r0 r1 dm q0 q1 ⊢
    clear h0 h1 hh e hp ha ea hxI hb HM hv
    have hpb : -x * 16384 ≤ 16384 * m + 16384 := by omega
    have hpc : -x * 16384 ≤ 16384 * m ∨ m = 9223372036854775807 := by omega
    generalize -x * 16384 = p at *
  · intro hr
    have hr0 : p % m = 0 := by omega
    have e1 : x * 16384 / m = -(p / m) := by
      rw [eq, Int.neg_ediv_of_dvd (Int.dvd_of_emod_eq_zero hr0)]
    have e2 : p / m ≤ 16384 := by
      rcases Int.lt_or_le 16384 (p / m) with g | g
      · exfalso
        have := Int.mul_le_mul_of_nonneg_left (show 16385 ≤ p / m by omega) (show 0 ≤ m by omega)
        omega
      · exact g
    unfold qpart
    rw [e1]
    omega
  all_goals
    intro hr s3
    have e1 : x * 16384 / m = -(p / m) - 1 := by
      rw [eq]
      have h3 : (-(p / m) - 1) * m = -(m * (p / m)) - m := by rw [Int.sub_mul, Int.neg_mul, Int.mul_comm (p / m) m, Int.one_mul]
      have : -p = (m - p % m) + (-(p / m) - 1) * m := by rw [h3]; omega
      rw [this, Int.add_mul_ediv_right _ _ (by omega), Int.ediv_eq_zero_of_lt (by omega) (by omega), Int.zero_add]
    unfold qpart
    rw [e1]
    omega

set_option maxRecDepth 100000 in
set_option maxHeartbeats 1600000 in
theorem r5Quant_0 (v : T3) (hv : InV v) (HM : Hid (vmost v = 0)) (w : World) : Calls Try.prog 109 #[V3 v.1 v.2.1 v.2.2] w (Ret (.tuple #[V3 0 0 0, .int .i64 2]) w) := by
  go_enter Try.func109, Try.ntmps109
  go_wp2_with fail
  refine (r3Most v hv _).mono ?_; rintro e w1 ⟨rfl, hb1⟩
  have hB1 : Below w.heap.size w w1 := Below.next (by go_grown) hb1
  have d1_0 : w1.cell? ⟨w.heap.size, 0, none⟩ = some (.int .i64 v.1) := cell_call hb1 (by first | assumption | go_cell | simp [go_sem])
  have d1_1 : w1.cell? ⟨w.heap.size, 1, none⟩ = some (.int .i64 v.2.1) := cell_call hb1 (by first | assumption | go_cell | simp [go_sem])
  have d1_2 : w1.cell? ⟨w.heap.size, 2, none⟩ = some (.int .i64 v.2.2) := cell_call hb1 (by first | assumption | go_cell | simp [go_sem])
  have d1_3 : w1.cell? ⟨w.heap.size + 1, 0, none⟩ = some (.int .i64 0) := cell_call hb1 (by first | assumption | go_cell | simp [go_sem])
  have t1_3 : w1.frozen? ⟨w.heap.size + 1, 0, none⟩ = false := (hb1.frozen (p := ⟨w.heap.size + 1, 0, none⟩) (World.block_lt_of_cell? _ _ (show World.cell? _ ⟨w.heap.size + 1, 0, none⟩ = some (.int .i64 0) from by first | assumption | go_cell | simp [go_sem]))).trans (by first | assumption | simp [go_sem])
  have d1_4 : w1.cell? ⟨w.heap.size + 1, 1, none⟩ = some (.int .i64 0) := cell_call hb1 (by first | assumption | go_cell | simp [go_sem])
  have t1_4 : w1.frozen? ⟨w.heap.size + 1, 1, none⟩ = false := (hb1.frozen (p := ⟨w.heap.size + 1, 1, none⟩) (World.block_lt_of_cell? _ _ (show World.cell? _ ⟨w.heap.size + 1, 1, none⟩ = some (.int .i64 0) from by first | assumption | go_cell | simp [go_sem]))).trans (by first | assumption | simp [go_sem])
  have d1_5 : w1.cell? ⟨w.heap.size + 1, 2, none⟩ = some (.int .i64 0) := cell_call hb1 (by first | assumption | go_cell | simp [go_sem])
  have t1_5 : w1.frozen? ⟨w.heap.size + 1, 2, none⟩ = false := (hb1.frozen (p := ⟨w.heap.size + 1, 2, none⟩) (World.block_lt_of_cell? _ _ (show World.cell? _ ⟨w.heap.size + 1, 2, none⟩ = some (.int .i64 0) from by first | assumption | go_cell | simp [go_sem]))).trans (by first | assumption | simp [go_sem])
  have l1_0 := World.block_lt_of_cell? w1 _ d1_0
  have l1_3 := World.block_lt_of_cell? w1 _ d1_3
  have hS1 := hB1.size
  clear hb1
  rw [HM.out]
  go_wp2_with fail
  exact bodyPost_ret (v := .tuple #[V3 0 0 0, .int .i64 2]) (by simp (maxDischargeDepth := 9) [results, Try.results109, go_sem, d1_0, l1_0, Nat.ne_of_lt l1_0, Nat.ne_of_gt l1_0, d1_1, d1_2, d1_3, l1_3, Nat.ne_of_lt l1_3, Nat.ne_of_gt l1_3, d1_4, d1_5]) rfl ⟨rfl, by go_grown⟩

set_option maxRecDepth 100000 in
set_option maxHeartbeats 1600000 in
theorem r5Quant_1 (v : T3) (m : Int) (hv : InV v) (HM : Hid (vmost v = m)) (hm : 1 ≤ m) (hm2 : m ≤ 9223372036854775807) (w : World) :
    Calls Try.prog 109 #[V3 v.1 v.2.1 v.2.2] w (Ret (.tuple #[V3 (qpart v.1 m) (qpart v.2.1 m) (qpart v.2.2 m), .int .i64 0]) w) := by
  have hV := Lib.hid hv
  have e0 : (m == 0) = false := beq_eq_false_iff_ne.2 (by omega)
  go_enter Try.func109, Try.ntmps109
  go_wp2_with fail
  refine (r3Most v hV.out _).mono ?_; rintro e w1 ⟨rfl, hb1⟩
  have hB1 : Below w.heap.size w w1 := Below.next (by go_grown) hb1
  have d1_0 : w1.cell? ⟨w.heap.size, 0, none⟩ = some (.int .i64 v.1) := cell_call hb1 (by first | assumption | go_cell | simp [go_sem])
  have d1_1 : w1.cell? ⟨w.heap.size, 1, none⟩ = some (.int .i64 v.2.1) := cell_call hb1 (by first | assumption | go_cell | simp [go_sem])
  have d1_2 : w1.cell? ⟨w.heap.size, 2, none⟩ = some (.int .i64 v.2.2) := cell_call hb1 (by first | assumption | go_cell | simp [go_sem])
  have d1_3 : w1.cell? ⟨w.heap.size + 1, 0, none⟩ = some (.int .i64 0) := cell_call hb1 (by first | assumption | go_cell | simp [go_sem])
  have t1_3 : w1.frozen? ⟨w.heap.size + 1, 0, none⟩ = false := (hb1.frozen (p := ⟨w.heap.size + 1, 0, none⟩) (World.block_lt_of_cell? _ _ (show World.cell? _ ⟨w.heap.size + 1, 0, none⟩ = some (.int .i64 0) from by first | assumption | go_cell | simp [go_sem]))).trans (by first | assumption | simp [go_sem])
  have d1_4 : w1.cell? ⟨w.heap.size + 1, 1, none⟩ = some (.int .i64 0) := cell_call hb1 (by first | assumption | go_cell | simp [go_sem])
  have t1_4 : w1.frozen? ⟨w.heap.size + 1, 1, none⟩ = false := (hb1.frozen (p := ⟨w.heap.size + 1, 1, none⟩) (World.block_lt_of_cell? _ _ (show World.cell? _ ⟨w.heap.size + 1, 1, none⟩ = some (.int .i64 0) from by first | assumption | go_cell | simp [go_sem]))).trans (by first | assumption | simp [go_sem])
  have d1_5 : w1.cell? ⟨w.heap.size + 1, 2, none⟩ = some (.int .i64 0) := cell_call hb1 (by first | assumption | go_cell | simp [go_sem])
  have t1_5 : w1.frozen? ⟨w.heap.size + 1, 2, none⟩ = false := (hb1.frozen (p := ⟨w.heap.size + 1, 2, none⟩) (World.block_lt_of_cell? _ _ (show World.cell? _ ⟨w.heap.size + 1, 2, none⟩ = some (.int .i64 0) from by first | assumption | go_cell | simp [go_sem]))).trans (by first | assumption | simp [go_sem])
  have l1_0 := World.block_lt_of_cell? w1 _ d1_0
  have l1_3 := World.block_lt_of_cell? w1 _ d1_3
  have hS1 := hB1.size
  clear hb1
  rw [HM.out]
  go_wp2_with fail
  generalize hW0 : w1.alloc (.cells #[.int .i64 v.1, .int .i64 v.2.1, .int .i64 v.2.2] 24) = W0
  have c0 : W0.cell? ⟨w1.heap.size, 0, none⟩ = some (.int .i64 v.1) := by rw [← hW0]; first | go_cell | simp [go_sem]
  have c1 : W0.cell? ⟨w1.heap.size, 1, none⟩ = some (.int .i64 v.2.1) := by rw [← hW0]; first | go_cell | simp [go_sem]
  have c2 : W0.cell? ⟨w1.heap.size, 2, none⟩ = some (.int .i64 v.2.2) := by rw [← hW0]; first | go_cell | simp [go_sem]
  have r0 : W0.cell? ⟨w.heap.size + 1, 0, none⟩ = some (.int .i64 0) := by rw [← hW0]; exact cell_more d1_3 _
  have r1 : W0.cell? ⟨w.heap.size + 1, 1, none⟩ = some (.int .i64 0) := by rw [← hW0]; exact cell_more d1_4 _
  have r2 : W0.cell? ⟨w.heap.size + 1, 2, none⟩ = some (.int .i64 0) := by rw [← hW0]; exact cell_more d1_5 _
  have u0 : W0.frozen? ⟨w.heap.size + 1, 0, none⟩ = false := by rw [← hW0]; exact (((Below.refl w1.heap.size w1).alloc (Nat.le_refl _) _).frozen (p := ⟨w.heap.size + 1, 0, none⟩) l1_3).trans t1_3
  have u1 : W0.frozen? ⟨w.heap.size + 1, 1, none⟩ = false := by rw [← hW0]; exact (((Below.refl w1.heap.size w1).alloc (Nat.le_refl _) _).frozen (p := ⟨w.heap.size + 1, 1, none⟩) l1_3).trans t1_4
  have u2 : W0.frozen? ⟨w.heap.size + 1, 2, none⟩ = false := by rw [← hW0]; exact (((Below.refl w1.heap.size w1).alloc (Nat.le_refl _) _).frozen (p := ⟨w.heap.size + 1, 2, none⟩) l1_3).trans t1_5
  have hB0 : Below w.heap.size w W0 := by rw [← hW0]; go_grown
  clear hW0 d1_0 d1_1 d1_2 d1_3 d1_4 d1_5 t1_3 t1_4 t1_5 l1_0 l1_3 hB1 hS1
  have kl : w1.heap.size < W0.heap.size := World.block_lt_of_cell? W0 _ c0
  have kr : w.heap.size + 1 < W0.heap.size := World.block_lt_of_cell? W0 _ r0
  have hS0 := hB0.size
  have C := Lib.hid (show ∀ k, k < 3 → W0.cell? ⟨w1.heap.size, k, none⟩ = some (.int .i64 (qin v k)) from fun k hk => by match k, hk with | 0, _ => exact c0 | 1, _ => exact c1 | 2, _ => exact c2)
  clear c0 c1 c2
  obtain ⟨i0, hi, hz0, hz1, hz2⟩ := info_parts Tryinfo_i64
  go_loopw [6, 7] (fun out i wr => ∃ k : Nat, k ≤ 3 ∧ i = .int .i64 k ∧ wr.ownsRow W0.heap.size 3 1 out k ((qvals v m).take k) ∧ Below W0.heap.size W0 wr) (fun _ i _ => 3 - (intOf i).toNat)
  case atStart => exact ⟨0, by omega, rfl, World.ownsRow_nil _ _ _ _, Below.refl _ _⟩
  case round =>
    obtain ⟨k, hk, rfl, hown, hbw⟩ := hrel
    have hsw := hbw.size
    by_cases hlt : k < 3
    · obtain ⟨x, y, a, h, l, q, r, hx, hy, hxI, KS, KM, KD, hq, hr, p1, p2, p3, p4⟩ := qround v m hV.out HM.out hm hm2 k hlt
      have hc : wr.cell? ⟨w1.heap.size, k, none⟩ = some (.int .i64 x) := by rw [← hx]; exact (hbw.cell (p := ⟨w1.heap.size, k, none⟩) kl).trans (C.out k hlt)
      have klr : w1.heap.size < wr.heap.size := by omega
      have HY := Lib.hid hy
      clear hx hy
      by_cases s : x < 0
      · by_cases s2 : 0 < r
        · by_cases s3 : -q - 1 < -16384
          · have HP := Lib.hid (p4 s s2 s3)
            clear p1 p2 p3 p4
            go_wp2_with fail
            refine (KS.out _).mono ?_; rintro e w9 ⟨rfl, rfl⟩
            go_wp2_with fail
            refine (KM.out _).mono ?_; rintro e w9 ⟨rfl, rfl⟩
            go_wp2_with fail
            refine (KD.out _).mono ?_; rintro e w3 ⟨rfl, hb3⟩
            have hbw3 : Below W0.heap.size W0 w3 := Below.next hbw hb3
            have hown3 := owns_call hown hb3
            have hc3 : w3.cell? ⟨w1.heap.size, k, none⟩ = some (.int .i64 x) := cell_call hb3 hc
            have kl3 := World.block_lt_of_cell? w3 _ hc3
            clear hb3 hc hown hbw
            go_wp2_with (at_builtin; refine wpList_append_own _ rfl _ _ 119 rfl W0.heap.size 3 i0 (.int .i64 0) 1 8 Try.underlying119 hi hz0 hz1 hz2 rfl (by decide) _ _ _ rfl (hown3.alloc _) ⟨w3.heap.size, 0, none⟩ 1 1 [.int .i64 y] rfl rfl ?_ (oneCell _) (by unfold maxLen; omega) (by omega) (by have := hbw3.size; simp; omega) ?_)
            · intro j u hu
              match j, hu with
              | 0, hu => simp at hu; subst hu; simp [Addr.add, HP.out]
            · intro v' w4 hown4 hgrow _
              have hbw4 := own_below (hbw3.alloc hbw3.size _) (hown3.alloc _) hgrow
              clear hgrow
              go_wp2
              go_roundw
              case rel => exact ⟨k + 1, by omega, by go_num, by rw [qvals_step v m k hlt, HY.out]; exact hown4, hbw4⟩
              case measure => simp [intOf]; omega
          · have HP := Lib.hid (p3 s s2 s3)
            clear p1 p2 p3 p4
            go_wp2_with fail
            refine (KS.out _).mono ?_; rintro e w9 ⟨rfl, rfl⟩
            go_wp2_with fail
            refine (KM.out _).mono ?_; rintro e w9 ⟨rfl, rfl⟩
            go_wp2_with fail
            refine (KD.out _).mono ?_; rintro e w3 ⟨rfl, hb3⟩
            have hbw3 : Below W0.heap.size W0 w3 := Below.next hbw hb3
            have hown3 := owns_call hown hb3
            have hc3 : w3.cell? ⟨w1.heap.size, k, none⟩ = some (.int .i64 x) := cell_call hb3 hc
            have kl3 := World.block_lt_of_cell? w3 _ hc3
            clear hb3 hc hown hbw
            go_wp2_with (at_builtin; refine wpList_append_own _ rfl _ _ 119 rfl W0.heap.size 3 i0 (.int .i64 0) 1 8 Try.underlying119 hi hz0 hz1 hz2 rfl (by decide) _ _ _ rfl (hown3.alloc _) ⟨w3.heap.size, 0, none⟩ 1 1 [.int .i64 y] rfl rfl ?_ (oneCell _) (by unfold maxLen; omega) (by omega) (by have := hbw3.size; simp; omega) ?_)
            · intro j u hu
              match j, hu with
              | 0, hu => simp at hu; subst hu; simp [Addr.add, HP.out]
            · intro v' w4 hown4 hgrow _
              have hbw4 := own_below (hbw3.alloc hbw3.size _) (hown3.alloc _) hgrow
              clear hgrow
              go_wp2
              go_roundw
              case rel => exact ⟨k + 1, by omega, by go_num, by rw [qvals_step v m k hlt, HY.out]; exact hown4, hbw4⟩
              case measure => simp [intOf]; omega
        · have HP := Lib.hid (p2 s s2)
          have s3 : ¬ -q < -16384 := by have := (p2 s s2).2; omega
          clear p1 p2 p3 p4
          go_wp2_with fail
          refine (KS.out _).mono ?_; rintro e w9 ⟨rfl, rfl⟩
          go_wp2_with fail
          refine (KM.out _).mono ?_; rintro e w9 ⟨rfl, rfl⟩
          go_wp2_with fail
          refine (KD.out _).mono ?_; rintro e w3 ⟨rfl, hb3⟩
          have hbw3 : Below W0.heap.size W0 w3 := Below.next hbw hb3
          have hown3 := owns_call hown hb3
          have hc3 : w3.cell? ⟨w1.heap.size, k, none⟩ = some (.int .i64 x) := cell_call hb3 hc
          have kl3 := World.block_lt_of_cell? w3 _ hc3
          clear hb3 hc hown hbw
          go_wp2_with (at_builtin; refine wpList_append_own _ rfl _ _ 119 rfl W0.heap.size 3 i0 (.int .i64 0) 1 8 Try.underlying119 hi hz0 hz1 hz2 rfl (by decide) _ _ _ rfl (hown3.alloc _) ⟨w3.heap.size, 0, none⟩ 1 1 [.int .i64 y] rfl rfl ?_ (oneCell _) (by unfold maxLen; omega) (by omega) (by have := hbw3.size; simp; omega) ?_)
          · intro j u hu
            match j, hu with
            | 0, hu => simp at hu; subst hu; simp [Addr.add, HP.out.1]
          · intro v' w4 hown4 hgrow _
            have hbw4 := own_below (hbw3.alloc hbw3.size _) (hown3.alloc _) hgrow
            clear hgrow
            go_wp2
            go_roundw
            case rel => exact ⟨k + 1, by omega, by go_num, by rw [qvals_step v m k hlt, HY.out]; exact hown4, hbw4⟩
            case measure => simp [intOf]; omega
      · have HP := Lib.hid (p1 (by omega))
        have s3 : ¬ q < -16384 := by omega
        clear p1 p2 p3 p4
        go_wp2_with fail
        refine (KS.out _).mono ?_; rintro e w9 ⟨rfl, rfl⟩
        go_wp2_with fail
        refine (KM.out _).mono ?_; rintro e w9 ⟨rfl, rfl⟩
        go_wp2_with fail
        refine (KD.out _).mono ?_; rintro e w3 ⟨rfl, hb3⟩
        have hbw3 : Below W0.heap.size W0 w3 := Below.next hbw hb3
        have hown3 := owns_call hown hb3
        have hc3 : w3.cell? ⟨w1.heap.size, k, none⟩ = some (.int .i64 x) := cell_call hb3 hc
        have kl3 := World.block_lt_of_cell? w3 _ hc3
        clear hb3 hc hown hbw
        go_wp2_with (at_builtin; refine wpList_append_own _ rfl _ _ 119 rfl W0.heap.size 3 i0 (.int .i64 0) 1 8 Try.underlying119 hi hz0 hz1 hz2 rfl (by decide) _ _ _ rfl (hown3.alloc _) ⟨w3.heap.size, 0, none⟩ 1 1 [.int .i64 y] rfl rfl ?_ (oneCell _) (by unfold maxLen; omega) (by omega) (by have := hbw3.size; simp; omega) ?_)
        · intro j u hu
          match j, hu with
          | 0, hu => simp at hu; subst hu; simp [Addr.add, HP.out]
        · intro v' w4 hown4 hgrow _
          have hbw4 := own_below (hbw3.alloc hbw3.size _) (hown3.alloc _) hgrow
          clear hgrow
          go_wp2
          go_roundw
          case rel => exact ⟨k + 1, by omega, by go_num, by rw [qvals_step v m k hlt, HY.out]; exact hown4, hbw4⟩
          case measure => simp [intOf]; omega
    · obtain rfl : k = 3 := by omega
      obtain ⟨g, cap, rfl, hg, hgl, hcap, hcap2, hcells⟩ := owns_cells hown (by decide)
      have g0 : wr.cell? ⟨g, 0, none⟩ = some (.int .i64 (qpart v.1 m)) := hcells 0 _ rfl
      have g1 : wr.cell? ⟨g, 1, none⟩ = some (.int .i64 (qpart v.2.1 m)) := hcells 1 _ rfl
      have g2 : wr.cell? ⟨g, 2, none⟩ = some (.int .i64 (qpart v.2.2 m)) := hcells 2 _ rfl
      have r0' : wr.cell? ⟨w.heap.size + 1, 0, none⟩ = some (.int .i64 0) := (hbw.cell (p := ⟨w.heap.size + 1, 0, none⟩) kr).trans r0
      have r1' : wr.cell? ⟨w.heap.size + 1, 1, none⟩ = some (.int .i64 0) := (hbw.cell (p := ⟨w.heap.size + 1, 1, none⟩) kr).trans r1
      have r2' : wr.cell? ⟨w.heap.size + 1, 2, none⟩ = some (.int .i64 0) := (hbw.cell (p := ⟨w.heap.size + 1, 2, none⟩) kr).trans r2
      have u0' : wr.frozen? ⟨w.heap.size + 1, 0, none⟩ = false := (hbw.frozen (p := ⟨w.heap.size + 1, 0, none⟩) kr).trans u0
      have u1' : wr.frozen? ⟨w.heap.size + 1, 1, none⟩ = false := (hbw.frozen (p := ⟨w.heap.size + 1, 1, none⟩) kr).trans u1
      have u2' : wr.frozen? ⟨w.heap.size + 1, 2, none⟩ = false := (hbw.frozen (p := ⟨w.heap.size + 1, 2, none⟩) kr).trans u2
      have hB3 : Below w.heap.size w wr := Below.next hB0 hbw
      clear hcells hown hbw r0 r1 r2 u0 u1 u2 hB0
      unfold maxLen at hcap2
      go_wp2_with fail
      refine wp_region_fresh_gen 10 (by kernel_rfl) (by kernel_rfl) (fun W5 HW5 => ?_)
      intro F5_0 U5_0
      have hA5 : Below w.heap.size w W5 := by rw [HW5]; go_grown
      have c5_0 : W5.cell? ⟨g, 0, none⟩ = some (.int .i64 (qpart v.1 m)) := by rw [HW5]; first | assumption | go_cell | simp [go_sem, *]
      have c5_1 : W5.cell? ⟨g, 1, none⟩ = some (.int .i64 (qpart v.2.1 m)) := by rw [HW5]; first | assumption | go_cell | simp [go_sem, *]
      have c5_2 : W5.cell? ⟨g, 2, none⟩ = some (.int .i64 (qpart v.2.2 m)) := by rw [HW5]; first | assumption | go_cell | simp [go_sem, *]
      have c5_3 : W5.cell? ⟨w.heap.size + 1, 0, none⟩ = some (.int .i64 0) := by rw [HW5]; first | assumption | go_cell | simp [go_sem, *]
      have u5_3 : W5.frozen? ⟨w.heap.size + 1, 0, none⟩ = false := by rw [HW5]; first | assumption | simp [go_sem, *]
      have c5_4 : W5.cell? ⟨w.heap.size + 1, 1, none⟩ = some (.int .i64 0) := by rw [HW5]; first | assumption | go_cell | simp [go_sem, *]
      have u5_4 : W5.frozen? ⟨w.heap.size + 1, 1, none⟩ = false := by rw [HW5]; first | assumption | simp [go_sem, *]
      have c5_5 : W5.cell? ⟨w.heap.size + 1, 2, none⟩ = some (.int .i64 0) := by rw [HW5]; first | assumption | go_cell | simp [go_sem, *]
      have u5_5 : W5.frozen? ⟨w.heap.size + 1, 2, none⟩ = false := by rw [HW5]; first | assumption | simp [go_sem, *]
      clear HW5
      have r5_0 := reg_cell c5_0
      have r5_1 := reg_cell c5_1
      have r5_2 := reg_cell c5_2
      have r5_3 := reg_cell c5_3
      have r5_4 := reg_cell c5_4
      have r5_5 := reg_cell c5_5
      simp only [List.take_succ_cons, List.take_zero, List.drop_succ_cons, List.drop_zero]
      iterate 10 (refine WL_plain (fun K hK => ?_); go_simp; refine hK _ ?_; clear hK K)
      refine WL_nil (fun w5 hb5 hf5 => ?_)
      have hB5 : Below w.heap.size w w5 := Below.next hA5 hb5
      have d5_0 := cell_call hb5 c5_0
      have d5_1 := cell_call hb5 c5_1
      have d5_2 := cell_call hb5 c5_2
      have d5_3 := cell_call hb5 c5_3
      have t5_3 := (hb5.frozen (p := ⟨w.heap.size + 1, 0, none⟩) (World.block_lt_of_cell? _ _ c5_3)).trans u5_3
      have d5_4 := cell_call hb5 c5_4
      have t5_4 := (hb5.frozen (p := ⟨w.heap.size + 1, 1, none⟩) (World.block_lt_of_cell? _ _ c5_4)).trans u5_4
      have d5_5 := cell_call hb5 c5_5
      have t5_5 := (hb5.frozen (p := ⟨w.heap.size + 1, 2, none⟩) (World.block_lt_of_cell? _ _ c5_5)).trans u5_5
      clear r5_0 c5_0 r5_1 c5_1 r5_2 c5_2 r5_3 c5_3 u5_3 r5_4 c5_4 u5_4 r5_5 c5_5 u5_5
      have l5_0 := World.block_lt_of_cell? w5 _ d5_0
      have l5_3 := World.block_lt_of_cell? w5 _ d5_3
      have hS5 := hB5.size
      go_wp2_with fail
      exact bodyPost_ret (v := .tuple #[V3 (qpart v.1 m) (qpart v.2.1 m) (qpart v.2.2 m), .int .i64 0]) (by simp (maxDischargeDepth := 9) [results, Try.results109, go_sem, d5_0, l5_0, Nat.ne_of_lt l5_0, Nat.ne_of_gt l5_0, d5_1, d5_2, d5_3, l5_3, Nat.ne_of_lt l5_3, Nat.ne_of_gt l5_3, d5_4, d5_5]) rfl ⟨rfl, by go_grown⟩

end Go.Proofs.Ytjhnkpapbjkbcaa
