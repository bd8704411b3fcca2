/- Walks by value: Clamp, Quotient. -/
import Derived.Test.YtognbeejobfpfaaN7
import Derived.Test.YtognbeejobfpfaaMathA
namespace Go.Proofs.Ytognbeejobfpfaa
open Go.RowKit Go.Sort
set_option linter.unusedVariables false
set_option linter.unusedSimpArgs false

theorem clamp_t {x n : Int} (h : toI x = (n, true)) : n = clampI x := by
  unfold toI at h
  split at h
  · rename_i hx
    have := congrArg Prod.fst h
    have e : x = n := this
    rw [clampI_in (by unfold InI; omega)]
    exact e.symm
  · have := congrArg Prod.snd h
    cases this
theorem clamp_f {x n : Int} (h : toI x = (n, false)) : (x < 0 → -9223372036854775808 = clampI x) ∧ (¬ x < 0 → 9223372036854775807 = clampI x) := by
  unfold toI at h
  split at h
  · have := congrArg Prod.snd h
    cases this
  · rename_i hx
    unfold clampI
    constructor
    · intro h0
      rw [if_pos (by omega)]
    · intro h0
      rw [if_neg (by omega), if_pos (by omega)]
theorem pow_n {ay top n : Int} (h : top = ay * 2 ^ Int.toNat n) (ha : 1 ≤ ay) (ht : top ≤ 3618502788666131106986593281521497120414687020801267626233049500247285301248) : n ≤ 251 := by
  by_cases hn : n ≤ 251
  · exact hn
  · exfalso
    have h1 : (2 : Int) ^ 252 ≤ 2 ^ Int.toNat n := by
      have : (2 : Nat) ^ 252 ≤ 2 ^ Int.toNat n := Nat.pow_le_pow_right (by decide) (by omega)
      have h2 := Int.ofNat_le.2 this
      rw [Int.natCast_pow, Int.natCast_pow] at h2
      exact h2
    have h2 : (3618502788666131106986593281521497120414687020801267626233049500247285301248 : Int) < 2 ^ 252 := by decide +kernel
    generalize (2 : Int) ^ Int.toNat n = P at *
    generalize (2 : Int) ^ 252 = Q at *
    have := Int.mul_le_mul_of_nonneg_right ha (show 0 ≤ P by omega)
    omega
theorem q_dbl {ay top n x n' : Int} (h : top = ay * 2 ^ Int.toNat n) (hn : 0 ≤ n ∧ n ≤ 1000) (hx : top + top = x) (h' : IntKind.i64.wrap (n + 1) = n') : x = ay * 2 ^ Int.toNat n' := by
  rw [wrI, w64' (by omega)] at h'
  subst h' hx
  rw [show Int.toNat (n + 1) = Int.toNat n + 1 by omega, Int.pow_succ, h]
  generalize (2 : Int) ^ Int.toNat n = P
  grind
theorem q_half {ay n i i' top x1 : Int} (hi : 0 ≤ i ∧ i < n) (h2 : top = ay * 2 ^ Int.toNat (n - i)) (h0 : 0 ≤ top) (e1 : absI top / 2 = x1) (ei : i' = i + 1) : x1 = ay * 2 ^ Int.toNat (n - i') ∧ top = 2 * x1 := by
  rw [absI_pos h0] at e1
  have e : Int.toNat (n - i) = Int.toNat (n - i') + 1 := by omega
  rw [e, Int.pow_succ] at h2
  generalize (2 : Int) ^ Int.toNat (n - i') = P at *
  have h3 : top = 2 * (ay * P) := by rw [h2]; grind
  generalize ay * P = Z at *
  omega
theorem q_le {q x left X : Int} (h : X = q * x + left) (hx : 1 ≤ x) (hq : 0 ≤ q) (hl : 0 ≤ left) : q ≤ X := by
  have := Int.mul_le_mul_of_nonneg_left hx hq
  omega
theorem q_left {q x left X : Int} (h : X = q * x + left) (hq : 0 ≤ q) (hx : 1 ≤ x) : left ≤ X := by
  have := Int.mul_nonneg hq (show 0 ≤ x by omega)
  omega
theorem q_no {ay n i i' top x1 q q2 left X : Int} (hi : 0 ≤ i ∧ i < n) (hn : n ≤ 1000) (h2 : top = ay * 2 ^ Int.toNat (n - i)) (h5 : 1 ≤ top) (h3 : X = q * top + left) (h4 : 0 ≤ left ∧ left < top ∧ 0 ≤ q ∧ q ≤ X)
    (e1 : absI top / 2 = x1) (e2 : q + q = q2) (ei : IntKind.i64.wrap (i + 1) = i') (c : ¬ absI left - absI x1 ≥ 0) : (0 ≤ i' ∧ i' ≤ n) ∧ x1 = ay * 2 ^ Int.toNat (n - i') ∧ X = q2 * x1 + left ∧ (0 ≤ left ∧ left < x1 ∧ 0 ≤ q2 ∧ q2 ≤ X) ∧ 1 ≤ x1 ∧ top = 2 * x1 := by
  rw [wrI, w64' (by omega)] at ei
  obtain ⟨a1, a2⟩ := q_half hi h2 (by omega) e1 ei.symm
  have hx : 0 ≤ x1 := by omega
  rw [absI_pos hx, absI_pos h4.1] at c
  have h3' : X = q2 * x1 + left := by rw [h3, a2, ← e2]; grind
  exact ⟨by omega, a1, h3', ⟨h4.1, by omega, by omega, q_le h3' (by omega) (by omega) h4.1⟩, by omega, a2⟩
theorem q_yes {ay n i i' top x1 q q2 q3 left x4 l2 X : Int} (hi : 0 ≤ i ∧ i < n) (hn : n ≤ 1000) (h2 : top = ay * 2 ^ Int.toNat (n - i)) (h5 : 1 ≤ top) (hay : 1 ≤ ay) (h3 : X = q * top + left) (h4 : 0 ≤ left ∧ left < top ∧ 0 ≤ q ∧ q ≤ X)
    (e1 : absI top / 2 = x1) (e2 : q + q = q2) (ei : IntKind.i64.wrap (i + 1) = i') (c : absI left - absI x1 ≥ 0) (e3 : -x1 = x4) (e4 : left + x4 = l2) (e5 : q2 + 1 = q3) : (0 ≤ i' ∧ i' ≤ n) ∧ x1 = ay * 2 ^ Int.toNat (n - i') ∧ X = q3 * x1 + l2 ∧ (0 ≤ l2 ∧ l2 < x1 ∧ 0 ≤ q3 ∧ q3 ≤ X) ∧ 1 ≤ x1 ∧ top = 2 * x1 := by
  rw [wrI, w64' (by omega)] at ei
  obtain ⟨a1, a2⟩ := q_half hi h2 (by omega) e1 ei.symm
  have hx : 1 ≤ x1 := by omega
  rw [absI_pos (show 0 ≤ x1 by omega), absI_pos h4.1] at c
  have h3' : X = q3 * x1 + l2 := by rw [h3, a2, ← e5, ← e4, ← e3, ← e2]; grind
  exact ⟨by omega, a1, h3', ⟨by omega, by omega, by omega, q_le h3' (by omega) (by omega) (by omega)⟩, by omega, a2⟩
theorem fqfr (x d : Int) (hd : d ≠ 0) : fq x d * d + fr x d = x := by
  unfold fq fr
  split
  · have := Int.mul_ediv_add_emod x d
    rw [Int.mul_comm]; exact this
  · have := Int.mul_ediv_add_emod (-x) (-d)
    have e : (-x) / (-d) * d = -(-d * ((-x) / (-d))) := by rw [Int.neg_mul, Int.neg_neg, Int.mul_comm]
    rw [e]; omega
theorem fq_uniq {x y q r : Int} (h : x = q * y + r) (hr : (0 ≤ r ∧ r < y) ∨ (y < r ∧ r ≤ 0)) : fq x y = q ∧ fr x y = r := by
  have hq : fq x y = q := by
    unfold fq
    rcases hr with hr | hr
    · rw [if_pos (by omega), h, Int.add_comm, Int.add_mul_ediv_right _ _ (by omega), Int.ediv_eq_zero_of_lt hr.1 hr.2]
      omega
    · rw [if_neg (by omega)]
      have e : -x = -r + q * -y := by rw [h]; grind
      rw [e, Int.add_mul_ediv_right _ _ (by omega), Int.ediv_eq_zero_of_lt (by omega) (by omega)]
      omega
  refine ⟨hq, ?_⟩
  have e := fqfr x y (by omega)
  rw [hq] at e
  omega
theorem quo_end {x y q left : Int} (hy : y ≠ 0) (h3 : absI x = q * absI y + left) (h4 : 0 ≤ left ∧ left < absI y) :
    (x < 0 → y < 0 → fq x y = q ∧ fr x y = -left) ∧ (¬ x < 0 → ¬ y < 0 → fq x y = q ∧ fr x y = left) ∧ (x < 0 → ¬ y < 0 → left = 0 → fq x y = -q ∧ fr x y = 0) ∧ (x < 0 → ¬ y < 0 → left ≠ 0 → fq x y = -q + -1 ∧ fr x y = -left + y) ∧
    (¬ x < 0 → y < 0 → left = 0 → fq x y = -q ∧ fr x y = 0) ∧ (¬ x < 0 → y < 0 → left ≠ 0 → fq x y = -q + -1 ∧ fr x y = left + y) := by
  have ax := absI_eq x
  have ay := absI_eq y
  refine ⟨fun a b => ?_, fun a b => ?_, fun a b c => ?_, fun a b c => ?_, fun a b c => ?_, fun a b c => ?_⟩
  · refine fq_uniq ?_ (by omega)
    have e : absI y = -y := by omega
    rw [e] at h3
    have e2 : absI x = -x := by omega
    rw [e2] at h3
    grind
  · refine fq_uniq ?_ (by omega)
    rw [absI_pos (show 0 ≤ y by omega), absI_pos (show 0 ≤ x by omega)] at h3
    exact h3
  · refine fq_uniq ?_ (by omega)
    have e : absI y = y := by omega
    rw [e] at h3
    have e2 : absI x = -x := by omega
    rw [e2] at h3
    grind
  · refine fq_uniq ?_ (by omega)
    have e : absI y = y := by omega
    rw [e] at h3
    have e2 : absI x = -x := by omega
    rw [e2] at h3
    grind
  · refine fq_uniq ?_ (by omega)
    have e : absI y = -y := by omega
    rw [e] at h3
    have e2 : absI x = x := by omega
    rw [e2] at h3
    grind
  · refine fq_uniq ?_ (by omega)
    have e : absI y = -y := by omega
    rw [e] at h3
    have e2 : absI x = x := by omega
    rw [e2] at h3
    grind
theorem nc_same {b b' : Bool} {l l' : List Int} {x y : Int} (h : NC b l x) (h' : NC b' l' y) (e : b = b') : (x < 0 ↔ y < 0) := by rw [← nc_b h, ← nc_b h', e]
theorem nc_diff {b b' : Bool} {l l' : List Int} {x y : Int} (h : NC b l x) (h' : NC b' l' y) (e : ¬ b = b') : ¬ (x < 0 ↔ y < 0) := by
  rw [← nc_b h, ← nc_b h']
  intro q
  apply e
  cases b <;> cases b' <;> simp at q ⊢

def e_umbraref01_Clamp (r : Int) : Value := .int .i64 r
set_option maxRecDepth 100000 in
set_option maxHeartbeats 4000000 in
theorem k_Clamp (bP : Bool) (lP : List Int) (xP : Int) (hNP : NC bP lP xP) (AP : Option Addr) (nP cP : Nat) (hnP : nP = List.length lP) (hcP : nP ≤ cP) (hbP : -1809251394333065553493296640760748560207343510400633813116524750123642650624 ≤ xP ∧ xP ≤ 1809251394333065553493296640760748560207343510400633813116524750123642650624) (w : World) (hAP : Ent w (AP, nv lP)) : Calls Try.prog 60 #[.agg #[.bool bP, .slice AP nP cP]] w (Ret (e_umbraref01_Clamp (clampI xP)) w) := by
  subst hnP
  have hM0 := St.startN (w := w) [(AP, nv lP)] (ents hAP ents0)
  refine calls_run Try.func60 rfl ?_
  refine R_seq (R_region (S_fresh none #[.bool bP, .slice AP (List.length lP) cP] 113 hM0 (by kernel_rfl) (fun g1 w2 hM3 => S_val (.int .i64 0) (by kernel_rfl) (S_nil (R_seq (R_region (S_load 0 0 (.agg #[.bool bP, .slice AP (List.length lP) cP]) hM3 (by kernel_rfl) (S_call (toI xP) (fun r : Int × Bool => .tuple #[.int .i64 r.1, .bool r.2]) hM3 (k_ToInt bP lP xP hNP AP (List.length lP) cP rfl hcP (by omega) w2 (hM3.ent 1 rfl)) (by kernel_rfl) (fun r4 h5 w6 hM7 => ?_)))))))))
  obtain ⟨r8, b10⟩ := r4
  cases b10
  · refine S_val (.tuple #[.int .i64 r8, .bool false]) (by kernel_rfl) (S_val (.int .i64 r8) (by kernel_rfl) (S_val (.bool false) (by kernel_rfl) (S_val (.int .i64 r8) (by kernel_rfl) (S_val (.bool false) (by kernel_rfl) (S_nil (R_seq (R_seq (R_region (S_val (.bool false) (by kernel_rfl) (S_nil (R_no (by kernel_rfl) (?_))))))))))))
    refine R_skip (R_seq (R_seq (R_region (S_val (.pointer (some ⟨g1, 0, none⟩)) (by kernel_rfl) (S_load 0 0 (.bool bP) hM7 (by kernel_rfl) (S_nil (?_)))))))
    refine R_if bP (by kernel_rfl) (fun c11 => ?_) (fun c11 => ?_)
    · refine R_seq (R_region (S_val (.int .i64 (-9223372036854775808)) (by kernel_rfl) (S_nil (?_))))
      refine R_ret hM7 rfl (.cons (.tmp _ (.int .i64 (-9223372036854775808)) (by kernel_rfl)) .nil) rfl ?_
      have e_c11 := (nc_b hNP).1 c11
      exact ⟨congrArg (fun r => Ending.returned (e_umbraref01_Clamp r)) (show (-9223372036854775808) = clampI xP from (by have hq := clamp_f h5; omega)), hM7.below⟩
    · refine R_skip (R_seq (R_region (S_val (.int .i64 9223372036854775807) (by kernel_rfl) (S_nil (?_)))))
      refine R_ret hM7 rfl (.cons (.tmp _ (.int .i64 9223372036854775807) (by kernel_rfl)) .nil) rfl ?_
      have e_c11 := nc_bf hNP c11
      exact ⟨congrArg (fun r => Ending.returned (e_umbraref01_Clamp r)) (show 9223372036854775807 = clampI xP from (by have hq := clamp_f h5; omega)), hM7.below⟩
  · refine S_val (.tuple #[.int .i64 r8, .bool true]) (by kernel_rfl) (S_val (.int .i64 r8) (by kernel_rfl) (S_val (.bool true) (by kernel_rfl) (S_val (.int .i64 r8) (by kernel_rfl) (S_val (.bool true) (by kernel_rfl) (S_nil (R_seq (R_seq (R_region (S_val (.bool true) (by kernel_rfl) (S_nil (R_yes (by kernel_rfl) (?_))))))))))))
    refine R_seq (R_region (S_val (.int .i64 r8) (by kernel_rfl) (S_val (.int .i64 r8) (by kernel_rfl) (S_nil (?_)))))
    refine R_ret hM7 rfl (.cons (.tmp _ (.int .i64 r8) (by kernel_rfl)) .nil) rfl ?_
    exact ⟨congrArg (fun r => Ending.returned (e_umbraref01_Clamp r)) (show r8 = clampI xP from (clamp_t h5)), hM7.below⟩

set_option maxRecDepth 100000 in
set_option maxHeartbeats 4000000 in
theorem k_Quotient (bP : Bool) (lP : List Int) (xP : Int) (bQ : Bool) (lQ : List Int) (xQ : Int) (hNP : NC bP lP xP) (hNQ : NC bQ lQ xQ) (AP : Option Addr) (nP cP : Nat) (AQ : Option Addr) (nQ cQ : Nat) (hnP : nP = List.length lP) (hcP : nP ≤ cP) (hnQ : nQ = List.length lQ) (hcQ : nQ ≤ cQ) (hbP : -1809251394333065553493296640760748560207343510400633813116524750123642650624 ≤ xP ∧ xP ≤ 1809251394333065553493296640760748560207343510400633813116524750123642650624) (hbQ : -1809251394333065553493296640760748560207343510400633813116524750123642650624 ≤ xQ ∧ xQ ≤ 1809251394333065553493296640760748560207343510400633813116524750123642650624) (hy : xQ ≠ 0) (w : World) (hAP : Ent w (AP, nv lP)) (hAQ : Ent w (AQ, nv lQ)) : Calls Try.prog 59 #[.agg #[.bool bP, .slice AP nP cP], .agg #[.bool bQ, .slice AQ nQ cQ]] w (RetNN w [(AP, nv lP), (AQ, nv lQ)] (nm (fq xP xQ), nm (fr xP xQ))) := by
  subst hnP
  subst hnQ
  have hM0 := St.startN (w := w) [(AP, nv lP), (AQ, nv lQ)] (ents hAP (ents hAQ ents0))
  refine calls_run Try.func59 rfl ?_
  have aP := absI_eq xP
  have aQ := absI_eq xQ
  refine R_seq (R_region (S_fresh none #[.bool bP, .slice AP (List.length lP) cP] 113 hM0 (by kernel_rfl) (fun g1 w2 hM3 => S_fresh none #[.bool bQ, .slice AQ (List.length lQ) cQ] 113 hM3 (by kernel_rfl) (fun g4 w5 hM6 => S_fresh none #[.bool false, .slice none 0 0] 113 hM6 (by kernel_rfl) (fun g7 w8 hM9 => S_fresh none #[.bool false, .slice none 0 0] 113 hM9 (by kernel_rfl) (fun g10 w11 hM12 => S_nil (R_seq (R_region (S_val (.pointer (some ⟨g4, 1, none⟩)) (by kernel_rfl) (S_load 2 1 (.slice AQ (List.length lQ) cQ) hM12 (by kernel_rfl) (S_val (.agg #[.bool false, .slice AQ (List.length lQ) cQ]) (by kernel_rfl) (?_))))))))))))
  refine S_fresh none #[.bool false, .slice none 0 0] 113 hM12 (by kernel_rfl) (fun g13 w14 hM15 => S_store 0 0 #[.bool false, .slice AQ (List.length lQ) cQ] hM15 (by kernel_rfl) (fun w16 hM17 => S_nil (R_seq (R_region (S_val (.int .i64 0) (by kernel_rfl) (S_nil (R_seq (R_block (?_)))))))))
  have hM312 := hM17.pick [(AQ, nv lQ), (none, nv ([])), (AP, nv lP), (AQ, nv lQ)] (subc 2 rfl (subc 0 rfl (subc 1 rfl (subc 2 rfl sub0))))
  refine R_fuel (fun m19 a20 w21 => ∃ (n : Int) (top : Int) (b24 : Bool) (l25 : List Int) (A26 : Option Addr) (cap27 : Nat) (u1 : List Value), a20 = { tmps := #[.agg #[.bool bP, .slice AP (List.length lP) cP], .agg #[.bool bQ, .slice AQ (List.length lQ) cQ], .pointer (some ⟨g1, 0, none⟩), .pointer (some ⟨g4, 0, none⟩), .pointer (some ⟨g7, 0, none⟩), .pointer (some ⟨g10, 0, none⟩), .pointer (some ⟨g13, 0, none⟩), .int .i64 n, undef, undef, undef, .pointer (some ⟨g4, 1, none⟩), .slice AQ (List.length lQ) cQ, .agg #[.bool false, .slice AQ (List.length lQ) cQ], (gv u1 0), (gv u1 1), (gv u1 2), (gv u1 3), (gv u1 4), (gv u1 5), (gv u1 6), (gv u1 7), (gv u1 8), undef, undef, undef, undef, undef, undef, undef, undef, undef, undef, undef, undef, undef, undef, undef, undef, undef, undef, undef, undef, undef, undef, undef, undef, undef, undef, undef, undef, undef, undef, undef, undef, undef, undef, undef, undef, undef, undef, undef, undef, undef, undef, undef, undef, undef, undef, undef, undef, undef, undef, undef, undef, undef, undef, undef], defers := [] } ∧ St ⟨w, [(AP, nv lP), (AQ, nv lQ)], [(A26, nv l25), (none, nv ([])), (AP, nv lP), (AQ, nv lQ)]⟩ [⟨g13, #[.bool b24, .slice A26 (List.length l25) cap27], 113, (0, 0), true⟩, ⟨g10, #[.bool false, .slice none 0 0], 113, (0, 0), true⟩, ⟨g7, #[.bool false, .slice none 0 0], 113, (0, 0), true⟩, ⟨g4, #[.bool bQ, .slice AQ (List.length lQ) cQ], 113, (0, 0), true⟩, ⟨g1, #[.bool bP, .slice AP (List.length lP) cP], 113, (0, 0), true⟩] w21 ∧ 3618502788666131106986593281521497120414687020801267626233049500247285301248 - top < (m19 : Int) ∧ (NC b24 l25 top) ∧ (List.length l25 ≤ cap27) ∧ ((0 ≤ n ∧ n ≤ 252)) ∧ (top = absI xQ * 2 ^ Int.toNat n) ∧ ((1 ≤ top ∧ top ≤ 3618502788666131106986593281521497120414687020801267626233049500247285301248)) ∧ True) (Int.toNat (3618502788666131106986593281521497120414687020801267626233049500247285301248 - (absI xQ)) + 1) ⟨0, (absI xQ), false, lQ, AQ, cQ, [undef, undef, undef, undef, undef, undef, undef, undef, undef], by kernel_rfl, hM312, by omega, (nc_abs hNQ), hcQ, (by omega), (by rw [show Int.toNat 0 = 0 by rfl, Int.pow_zero, Int.mul_one]), (by omega), trivial⟩ ?_
  rintro m19 a20 w21 ⟨n, top, b24, l25, A26, cap27, u1, rfl, hM22, hmu1, hb28, hc29, h1_1, h2_1, h3_1, hT_⟩ hnext23
  obtain ⟨f18, rfl⟩ : ∃ f, m19 = f + 1 := ⟨m19 - 1, by omega⟩
  have at1_ := absI_eq top
  refine R_seq (R_seq (R_region (S_load 0 0 (.agg #[.bool b24, .slice A26 (List.length l25) cap27]) hM22 (by kernel_rfl) (S_load 4 0 (.agg #[.bool bP, .slice AP (List.length lP) cP]) hM22 (by kernel_rfl) (S_call (sg (absI top - absI xP)) (fun r : Int => .int .i64 r) hM22 (k_size b24 l25 top bP lP xP (nv_nb hb28 (by omega)) (nv_nb hNP (by omega)) A26 (List.length l25) cap27 AP (List.length lP) cP rfl hc29 rfl hcP w21 (hM22.ent 0 rfl) (hM22.ent 2 rfl)) (by kernel_rfl) (fun r30 h31 w32 hM33 => ?_))))))
  refine S_dec (r30 ≤ 0) (by kernel_rfl) (fun c34 => ?_) (fun c34 => ?_)
  · refine S_nil (R_yes (by kernel_rfl) (R_skip (R_block (R_seq (R_region (S_load 0 0 (.agg #[.bool b24, .slice A26 (List.length l25) cap27]) hM33 (by kernel_rfl) (S_load 0 0 (.agg #[.bool b24, .slice A26 (List.length l25) cap27]) hM33 (by kernel_rfl) (?_))))))))
    have s_c34 : (absI top - absI xP) ≤ 0 := sg_le.1 (h31.symm ▸ c34)
    refine S_callB (top + top) [(A26, nv l25), (A26, nv l25)] hM33 (k_Sum b24 l25 top b24 l25 top (nv_nb hb28 (by omega)) (nv_nb hb28 (by omega)) A26 (List.length l25) cap27 A26 (List.length l25) cap27 rfl hc29 rfl hc29 w32 (hM33.ent 0 rfl) (hM33.ent 0 rfl)) (subc 0 rfl (subc 0 rfl sub0)) (by kernel_rfl) (fun x35 h36 b37 l38 hn39 A40 cap41 hc42 w43 hM44 => ?_)
    have a_x35 := absI_eq x35
    refine S_store 0 0 #[.bool b37, .slice A40 (List.length l38) cap41] hM44 (by kernel_rfl) (fun w45 hM46 => S_nil (R_region (S_val (.int .i64 n) (by kernel_rfl) (S_int (IntKind.i64.wrap (n + 1)) .i64 (by kernel_rfl) (fun x47 h48 => S_val (.int .i64 x47) (by kernel_rfl) (S_nil (R_inBlock (?_))))))))
    have s_c34 : (absI top - absI xP) ≤ 0 := sg_le.1 (h31.symm ▸ c34)
    have at_ := absI_eq top
    have hp_ := pow_n h2_1 (by omega) (show top ≤ 3618502788666131106986593281521497120414687020801267626233049500247285301248 by omega)
    have hw_x47 := h48; rw [wrI] at hw_x47; unfold wrap64 at hw_x47
    have hM49 := hM46.pick [(A40, nv l38), (none, nv ([])), (AP, nv lP), (AQ, nv lQ)] (subc 0 rfl (subc 2 rfl (subc 3 rfl (subc 4 rfl sub0))))
    exact hnext23 f18 _ _ (Nat.lt_succ_self _) ⟨x47, x35, b37, l38, A40, cap41, [.agg #[.bool b24, .slice A26 (List.length l25) cap27], .agg #[.bool bP, .slice AP (List.length lP) cP], .int .i64 r30, .bool true, .agg #[.bool b24, .slice A26 (List.length l25) cap27], .agg #[.bool b24, .slice A26 (List.length l25) cap27], .agg #[.bool b37, .slice A40 (List.length l38) cap41], .int .i64 n, .int .i64 x47], by kernel_rfl, hM49, by omega, hn39, hc42, (by omega), (q_dbl h2_1 (by omega) h36 h48), (by omega), trivial⟩
  · refine S_nil (R_no (by kernel_rfl) (R_exit rfl (R_seq (R_region (S_val (.pointer (some ⟨g1, 1, none⟩)) (by kernel_rfl) (S_load 4 1 (.slice AP (List.length lP) cP) hM33 (by kernel_rfl) (S_val (.agg #[.bool false, .slice AP (List.length lP) cP]) (by kernel_rfl) (S_fresh none #[.bool false, .slice none 0 0] 113 hM33 (by kernel_rfl) (fun g50 w51 hM52 => S_store 0 0 #[.bool false, .slice AP (List.length lP) cP] hM52 (by kernel_rfl) (fun w53 hM54 => S_nil (R_seq (?_))))))))))))
    refine R_region (S_val (.agg #[.bool false, .slice none 0 0]) (by kernel_rfl) (S_fresh none #[.bool false, .slice none 0 0] 113 hM54 (by kernel_rfl) (fun g55 w56 hM57 => S_store 0 0 #[.bool false, .slice none 0 0] hM57 (by kernel_rfl) (fun w58 hM59 => S_nil (R_seq (R_seq (R_region (S_val (.int .i64 0) (by kernel_rfl) (S_nil (R_block (?_)))))))))))
    have s_c34 : ¬ ((absI top - absI xP) ≤ 0) := fun q => c34 (h31 ▸ sg_le.2 q)
    have at_ := absI_eq top
    have hM311 := hM59.pick [(A26, nv l25), (none, nv ([])), (AP, nv lP), (A26, nv l25), (none, nv ([])), (AP, nv lP), (AQ, nv lQ)] (subc 0 rfl (subc 1 rfl (subc 2 rfl (subc 0 rfl (subc 1 rfl (subc 2 rfl (subc 3 rfl sub0)))))))
    refine R_fuel (fun m61 a62 w63 => ∃ (i : Int) (top2 : Int) (q : Int) (left : Int) (b66 : Bool) (l67 : List Int) (A68 : Option Addr) (cap69 : Nat) (b72 : Bool) (l73 : List Int) (A74 : Option Addr) (cap75 : Nat) (b78 : Bool) (l79 : List Int) (A80 : Option Addr) (cap81 : Nat) (u2 : List Value), a62 = { tmps := #[.agg #[.bool bP, .slice AP (List.length lP) cP], .agg #[.bool bQ, .slice AQ (List.length lQ) cQ], .pointer (some ⟨g1, 0, none⟩), .pointer (some ⟨g4, 0, none⟩), .pointer (some ⟨g7, 0, none⟩), .pointer (some ⟨g10, 0, none⟩), .pointer (some ⟨g13, 0, none⟩), .int .i64 n, .pointer (some ⟨g50, 0, none⟩), .pointer (some ⟨g55, 0, none⟩), .int .i64 i, .pointer (some ⟨g4, 1, none⟩), .slice AQ (List.length lQ) cQ, .agg #[.bool false, .slice AQ (List.length lQ) cQ], .agg #[.bool b24, .slice A26 (List.length l25) cap27], .agg #[.bool bP, .slice AP (List.length lP) cP], .int .i64 r30, .bool false, (gv u1 4), (gv u1 5), (gv u1 6), (gv u1 7), (gv u1 8), .pointer (some ⟨g1, 1, none⟩), .slice AP (List.length lP) cP, .agg #[.bool false, .slice AP (List.length lP) cP], .agg #[.bool false, .slice none 0 0], (gv u2 0), (gv u2 1), (gv u2 2), (gv u2 3), (gv u2 4), (gv u2 5), (gv u2 6), (gv u2 7), (gv u2 8), (gv u2 9), (gv u2 10), (gv u2 11), (gv u2 12), (gv u2 13), (gv u2 14), (gv u2 15), (gv u2 16), (gv u2 17), (gv u2 18), (gv u2 19), (gv u2 20), (gv u2 21), undef, undef, undef, undef, undef, undef, undef, undef, undef, undef, undef, undef, undef, undef, undef, undef, undef, undef, undef, undef, undef, undef, undef, undef, undef, undef, undef, undef, undef], defers := [] } ∧ St ⟨w, [(AP, nv lP), (AQ, nv lQ)], [(A68, nv l67), (A74, nv l73), (A80, nv l79), (A26, nv l25), (none, nv ([])), (AP, nv lP), (AQ, nv lQ)]⟩ [⟨g55, #[.bool b72, .slice A74 (List.length l73) cap75], 113, (0, 0), true⟩, ⟨g50, #[.bool b78, .slice A80 (List.length l79) cap81], 113, (0, 0), true⟩, ⟨g13, #[.bool b66, .slice A68 (List.length l67) cap69], 113, (0, 0), true⟩, ⟨g10, #[.bool false, .slice none 0 0], 113, (0, 0), true⟩, ⟨g7, #[.bool false, .slice none 0 0], 113, (0, 0), true⟩, ⟨g4, #[.bool bQ, .slice AQ (List.length lQ) cQ], 113, (0, 0), true⟩, ⟨g1, #[.bool bP, .slice AP (List.length lP) cP], 113, (0, 0), true⟩] w63 ∧ n - i < (m61 : Int) ∧ (NC b66 l67 top2) ∧ (List.length l67 ≤ cap69) ∧ (NC b72 l73 q) ∧ (List.length l73 ≤ cap75) ∧ (NC b78 l79 left) ∧ (List.length l79 ≤ cap81) ∧ ((0 ≤ i ∧ i ≤ n)) ∧ (top2 = absI xQ * 2 ^ Int.toNat (n - i)) ∧ (absI xP = q * top2 + left) ∧ ((0 ≤ left ∧ left < top2 ∧ 0 ≤ q ∧ q ≤ absI xP)) ∧ ((1 ≤ top2 ∧ top2 ≤ 7237005577332262213973186563042994240829374041602535252466099000494570602496)) ∧ (left ≤ absI xP) ∧ True) (Int.toNat (n - 0) + 1) ⟨0, top, 0, (absI xP), b24, l25, A26, cap27, false, ([]), none, 0, false, lP, AP, cP, [undef, undef, undef, undef, undef, undef, undef, undef, undef, undef, undef, undef, undef, undef, undef, undef, undef, undef, undef, undef, undef, undef], by kernel_rfl, hM311, by omega, hb28, hc29, nc_0, (Nat.le_refl _), (nc_abs hNP), hcP, (by omega), (by rw [Int.sub_zero]; exact h2_1), (by omega), (by omega), (by omega), (by omega), trivial⟩ ?_
    rintro m61 a62 w63 ⟨i, top2, q, left, b66, l67, A68, cap69, b72, l73, A74, cap75, b78, l79, A80, cap81, u2, rfl, hM64, hmu2, hb70, hc71, hb76, hc77, hb82, hc83, k1_2, k2_2, k3_2, k4_2, k5_2, k6_2, hT_⟩ hnext65
    obtain ⟨f60, rfl⟩ : ∃ f, m61 = f + 1 := ⟨m61 - 1, by omega⟩
    have at2_ := absI_eq top2
    have aq2_ := absI_eq q
    have al2_ := absI_eq left
    refine R_seq (R_seq (R_region (S_val (.int .i64 i) (by kernel_rfl) (S_val (.int .i64 n) (by kernel_rfl) (?_)))))
    refine S_dec (i < n) (by kernel_rfl) (fun c84 => ?_) (fun c84 => ?_)
    · refine S_nil (R_yes (by kernel_rfl) (R_skip (R_seq (R_block (R_seq (R_region (S_load 2 0 (.agg #[.bool b66, .slice A68 (List.length l67) cap69]) hM64 (by kernel_rfl) (?_))))))))
      have s_c34 : ¬ ((absI top - absI xP) ≤ 0) := fun q => c34 (h31 ▸ sg_le.2 q)
      refine S_callB (absI top2 / 2) [(A68, nv l67)] hM64 (k_half b66 l67 top2 (nv_nb hb70 (by omega)) A68 (List.length l67) cap69 rfl hc71 w63 (hM64.ent 0 rfl)) (subc 0 rfl sub0) (by kernel_rfl) (fun x85 h86 b87 l88 hn89 A90 cap91 hc92 w93 hM94 => ?_)
      have a_x85 := absI_eq x85
      refine S_store 2 0 #[.bool b87, .slice A90 (List.length l88) cap91] hM94 (by kernel_rfl) (fun w95 hM96 => S_nil (R_seq (R_region (S_load 0 0 (.agg #[.bool b72, .slice A74 (List.length l73) cap75]) hM96 (by kernel_rfl) (S_load 0 0 (.agg #[.bool b72, .slice A74 (List.length l73) cap75]) hM96 (by kernel_rfl) (?_))))))
      have s_c34 : ¬ ((absI top - absI xP) ≤ 0) := fun q => c34 (h31 ▸ sg_le.2 q)
      refine S_callB (q + q) [(A74, nv l73), (A74, nv l73)] hM96 (k_Sum b72 l73 q b72 l73 q (nv_nb hb76 (by omega)) (nv_nb hb76 (by omega)) A74 (List.length l73) cap75 A74 (List.length l73) cap75 rfl hc77 rfl hc77 w95 (hM96.ent 2 rfl) (hM96.ent 2 rfl)) (subc 2 rfl (subc 2 rfl sub0)) (by kernel_rfl) (fun x97 h98 b99 l100 hn101 A102 cap103 hc104 w105 hM106 => ?_)
      have a_x97 := absI_eq x97
      refine S_store 0 0 #[.bool b99, .slice A102 (List.length l100) cap103] hM106 (by kernel_rfl) (fun w107 hM108 => S_nil (R_seq (R_region (S_load 1 0 (.agg #[.bool b78, .slice A80 (List.length l79) cap81]) hM108 (by kernel_rfl) (S_load 2 0 (.agg #[.bool b87, .slice A90 (List.length l88) cap91]) hM108 (by kernel_rfl) (?_))))))
      have s_c34 : ¬ ((absI top - absI xP) ≤ 0) := fun q => c34 (h31 ▸ sg_le.2 q)
      refine S_call (sg (absI left - absI x85)) (fun r : Int => .int .i64 r) hM108 (k_size b78 l79 left b87 l88 x85 (nv_nb hb82 (by omega)) (nv_nb hn89 (by omega)) A80 (List.length l79) cap81 A90 (List.length l88) cap91 rfl hc83 rfl hc92 w107 (hM108.ent 4 rfl) (hM108.ent 1 rfl)) (by kernel_rfl) (fun r109 h110 w111 hM112 => ?_)
      refine S_dec (r109 ≥ 0) (by kernel_rfl) (fun c113 => ?_) (fun c113 => ?_)
      · refine S_nil (R_yes (by kernel_rfl) (R_seq (R_drawH ⟨w, [(AP, nv lP), (AQ, nv lQ)], [(A102, nv l100), (A90, nv l88), (A68, nv l67), (A74, nv l73), (A80, nv l79), (A26, nv l25), (none, nv ([])), (AP, nv lP), (AQ, nv lQ)]⟩ 4 (by kernel_rfl) (fun F114 U115 hL116 => H_load 1 0 (.agg #[.bool b78, .slice A80 (List.length l79) cap81]) hM112 (by kernel_rfl) (H_load 2 0 (.agg #[.bool b87, .slice A90 (List.length l88) cap91]) hM112 (by kernel_rfl) (?_))))))
        have s_c34 : ¬ ((absI top - absI xP) ≤ 0) := fun q => c34 (h31 ▸ sg_le.2 q)
        have s_c113 : (absI left - absI x85) ≥ 0 := sg_ge.1 (h110.symm ▸ c113)
        refine H_callB (-x85) [(A90, nv l88)] hM112 hL116 (fun w' hM' => k_Minus b87 l88 x85 hn89 A90 (List.length l88) cap91 rfl hc92 (by omega) w' (hM'.ent 1 rfl)) (subc 1 rfl sub0) (by kernel_rfl) (fun _ => by kernel_rfl) (fun x117 h118 b119 l120 hn121 A122 cap123 hc124 F125 U126 hL127 => ?_)
        have a_x117 := absI_eq x117
        have s_c34 : ¬ ((absI top - absI xP) ≤ 0) := fun q => c34 (h31 ▸ sg_le.2 q)
        have s_c113 : (absI left - absI x85) ≥ 0 := sg_ge.1 (h110.symm ▸ c113)
        refine H_callB (left + x117) [(A80, nv l79), (A122, nv l120)] hM112 hL127 (fun w' hM' => k_Sum b78 l79 left b119 l120 x117 (nv_nb hb82 (by omega)) (nv_nb hn121 (by omega)) A80 (List.length l79) cap81 A122 (List.length l120) cap123 rfl hc83 rfl hc124 w' (hM'.ent 5 rfl) (hM'.ent 0 rfl)) (subc 5 rfl (subc 0 rfl sub0)) (by kernel_rfl) (fun _ => by kernel_rfl) (fun x128 h129 b130 l131 hn132 A133 cap134 hc135 F136 U137 hL138 => ?_)
        have a_x128 := absI_eq x128
        refine H_nil hM112 hL138 (fun w139 hM140 => S_store 1 0 #[.bool b130, .slice A133 (List.length l131) cap134] hM140 (by kernel_rfl) (fun w141 hM142 => S_nil (R_region (S_load 0 0 (.agg #[.bool b99, .slice A102 (List.length l100) cap103]) hM142 (by kernel_rfl) (S_fresh (some 1) #[.int .i64 1] 3 hM142 (by kernel_rfl) (fun g143 w144 hM145 => S_val (.agg #[.bool false, .slice (some ⟨g143, 0, none⟩) 1 1]) (by kernel_rfl) (?_)))))))
        have hM146 := hM145.freeze 0 ([1]) [] (by kernel_rfl)
        have s_c34 : ¬ ((absI top - absI xP) ≤ 0) := fun q => c34 (h31 ▸ sg_le.2 q)
        have s_c113 : (absI left - absI x85) ≥ 0 := sg_ge.1 (h110.symm ▸ c113)
        refine S_callB (x97 + 1) [(A102, nv l100), ((some ⟨g143, 0, none⟩), nv ([1]))] hM146 (k_Sum b99 l100 x97 false ([1]) 1 (nv_nb hn101 (by omega)) (nv_nb nc_1 (by omega)) A102 (List.length l100) cap103 (some ⟨g143, 0, none⟩) 1 1 rfl hc104 rfl (by decide) w144 (hM146.ent 3 rfl) (hM146.ent 0 rfl)) (subc 3 rfl (subc 0 rfl sub0)) (by kernel_rfl) (fun x147 h148 b149 l150 hn151 A152 cap153 hc154 w155 hM156 => ?_)
        have a_x147 := absI_eq x147
        refine S_store 0 0 #[.bool b149, .slice A152 (List.length l150) cap153] hM156 (by kernel_rfl) (fun w157 hM158 => S_nil (R_inBlock (R_region (S_val (.int .i64 i) (by kernel_rfl) (S_int (IntKind.i64.wrap (i + 1)) .i64 (by kernel_rfl) (fun x159 h160 => S_val (.int .i64 x159) (by kernel_rfl) (S_nil (?_))))))))
        have s_c34 : ¬ ((absI top - absI xP) ≤ 0) := fun q => c34 (h31 ▸ sg_le.2 q)
        have s_c113 : (absI left - absI x85) ≥ 0 := sg_ge.1 (h110.symm ▸ c113)
        obtain ⟨w1, w2, w3, w4, w5, w6⟩ := q_yes (by omega) (by omega) k2_2 k5_2.1 (by omega) k3_2 k4_2 h86 h98 h160 s_c113 h118 h129 h148
        have hw_x159 := h160; rw [wrI] at hw_x159; unfold wrap64 at hw_x159
        have hM161 := hM158.pick [(A90, nv l88), (A152, nv l150), (A133, nv l131), (A26, nv l25), (none, nv ([])), (AP, nv lP), (AQ, nv lQ)] (subc 5 rfl (subc 0 rfl (subc 2 rfl (subc 9 rfl (subc 10 rfl (subc 11 rfl (subc 12 rfl sub0)))))))
        exact hnext65 f60 _ _ (Nat.lt_succ_self _) ⟨x159, x85, x147, x128, b87, l88, A90, cap91, b149, l150, A152, cap153, b130, l131, A133, cap134, [.int .i64 i, .int .i64 n, .bool true, .int .i64 i, .int .i64 x159, .agg #[.bool b66, .slice A68 (List.length l67) cap69], .agg #[.bool b87, .slice A90 (List.length l88) cap91], .agg #[.bool b72, .slice A74 (List.length l73) cap75], .agg #[.bool b72, .slice A74 (List.length l73) cap75], .agg #[.bool b99, .slice A102 (List.length l100) cap103], .agg #[.bool b78, .slice A80 (List.length l79) cap81], .agg #[.bool b87, .slice A90 (List.length l88) cap91], .int .i64 r109, .bool true, .agg #[.bool b78, .slice A80 (List.length l79) cap81], .agg #[.bool b87, .slice A90 (List.length l88) cap91], .agg #[.bool b119, .slice A122 (List.length l120) cap123], .agg #[.bool b130, .slice A133 (List.length l131) cap134], .agg #[.bool b99, .slice A102 (List.length l100) cap103], .slice (some ⟨g143, 0, none⟩) 1 1, .agg #[.bool false, .slice (some ⟨g143, 0, none⟩) 1 1], .agg #[.bool b149, .slice A152 (List.length l150) cap153]], by kernel_rfl, hM161, by omega, hn89, hc92, hn151, hc154, hn132, hc135, w1, w2, w3, w4, (by omega), (q_left w3 w4.2.2.1 w5), trivial⟩
      · refine S_nil (R_no (by kernel_rfl) (R_skip (R_inBlock (R_region (S_val (.int .i64 i) (by kernel_rfl) (S_int (IntKind.i64.wrap (i + 1)) .i64 (by kernel_rfl) (fun x162 h163 => S_val (.int .i64 x162) (by kernel_rfl) (S_nil (?_)))))))))
        have s_c34 : ¬ ((absI top - absI xP) ≤ 0) := fun q => c34 (h31 ▸ sg_le.2 q)
        have s_c113 : ¬ ((absI left - absI x85) ≥ 0) := fun q => c113 (h110 ▸ sg_ge.2 q)
        obtain ⟨w1, w2, w3, w4, w5, w6⟩ := q_no (by omega) (by omega) k2_2 k5_2.1 k3_2 k4_2 h86 h98 h163 s_c113
        have hw_x162 := h163; rw [wrI] at hw_x162; unfold wrap64 at hw_x162
        have hM164 := hM112.pick [(A90, nv l88), (A102, nv l100), (A80, nv l79), (A26, nv l25), (none, nv ([])), (AP, nv lP), (AQ, nv lQ)] (subc 1 rfl (subc 0 rfl (subc 4 rfl (subc 5 rfl (subc 6 rfl (subc 7 rfl (subc 8 rfl sub0)))))))
        exact hnext65 f60 _ _ (Nat.lt_succ_self _) ⟨x162, x85, x97, left, b87, l88, A90, cap91, b99, l100, A102, cap103, b78, l79, A80, cap81, [.int .i64 i, .int .i64 n, .bool true, .int .i64 i, .int .i64 x162, .agg #[.bool b66, .slice A68 (List.length l67) cap69], .agg #[.bool b87, .slice A90 (List.length l88) cap91], .agg #[.bool b72, .slice A74 (List.length l73) cap75], .agg #[.bool b72, .slice A74 (List.length l73) cap75], .agg #[.bool b99, .slice A102 (List.length l100) cap103], .agg #[.bool b78, .slice A80 (List.length l79) cap81], .agg #[.bool b87, .slice A90 (List.length l88) cap91], .int .i64 r109, .bool false, (gv u2 14), (gv u2 15), (gv u2 16), (gv u2 17), (gv u2 18), (gv u2 19), (gv u2 20), (gv u2 21)], by kernel_rfl, hM164, by omega, hn89, hc92, hn101, hc104, hb82, hc83, w1, w2, w3, w4, (by omega), (q_left w3 w4.2.2.1 w5), trivial⟩
    · refine S_nil (R_no (by kernel_rfl) (R_exit rfl (R_seq (R_region (S_val (.pointer (some ⟨g1, 0, none⟩)) (by kernel_rfl) (S_load 6 0 (.bool bP) hM64 (by kernel_rfl) (?_)))))))
      refine S_bool bP (by kernel_rfl) (fun c165 => ?_) (fun c165 => ?_)
      · refine S_val (.pointer (some ⟨g50, 1, none⟩)) (by kernel_rfl) (S_load 1 1 (.slice A80 (List.length l79) cap81) hM64 (by kernel_rfl) (S_val (.int .i64 (List.length l79 : Int)) (by kernel_rfl) (?_)))
        refine S_dec ((List.length l79 : Int) > 0) (by kernel_rfl) (fun c166 => ?_) (fun c166 => ?_)
        · refine S_val (.bool true) (by kernel_rfl) (S_val (.pointer (some ⟨g50, 0, none⟩)) (by kernel_rfl) (S_store 1 0 #[.bool true, .slice A80 (List.length l79) cap81] hM64 (by kernel_rfl) (fun w167 hM168 => S_nil (R_seq (R_seq (R_region (S_val (.pointer (some ⟨g1, 0, none⟩)) (by kernel_rfl) (S_load 6 0 (.bool bP) hM168 (by kernel_rfl) (S_val (.pointer (some ⟨g4, 0, none⟩)) (by kernel_rfl) (S_load 5 0 (.bool bQ) hM168 (by kernel_rfl) (?_)))))))))))
          refine S_decn (bP = bQ) (by kernel_rfl) (fun c169 => ?_) (fun c169 => ?_)
          · refine S_nil (R_yes (by kernel_rfl) (R_seq (R_region (S_load 0 0 (.agg #[.bool b72, .slice A74 (List.length l73) cap75]) hM168 (by kernel_rfl) (?_)))))
            have e_c165 := (nc_b hNP).1 c165
            have e_c166 := (nc_lenp hb82).1 c166
            have s_c34 : ¬ ((absI top - absI xP) ≤ 0) := fun q => c34 (h31 ▸ sg_le.2 q)
            refine S_callB (-q) [(A74, nv l73)] hM168 (k_Minus b72 l73 q hb76 A74 (List.length l73) cap75 rfl hc77 (by omega) w167 (hM168.ent 1 rfl)) (subc 1 rfl sub0) (by kernel_rfl) (fun x170 h171 b172 l173 hn174 A175 cap176 hc177 w178 hM179 => ?_)
            have a_x170 := absI_eq x170
            refine S_store 0 0 #[.bool b172, .slice A175 (List.length l173) cap176] hM179 (by kernel_rfl) (fun w180 hM181 => S_nil (R_seq (R_region (S_val (.pointer (some ⟨g50, 1, none⟩)) (by kernel_rfl) (S_load 1 1 (.slice A80 (List.length l79) cap81) hM181 (by kernel_rfl) (S_val (.int .i64 (List.length l79 : Int)) (by kernel_rfl) (S_val (.bool true) (kdT' c166 (by kernel_rfl)) (S_nil (R_yes (by kernel_rfl) (R_seq (R_region (?_))))))))))))
            refine S_load 0 0 (.agg #[.bool b172, .slice A175 (List.length l173) cap176]) hM181 (by kernel_rfl) (S_fresh (some 1) #[.int .i64 1] 3 hM181 (by kernel_rfl) (fun g182 w183 hM184 => S_val (.agg #[.bool true, .slice (some ⟨g182, 0, none⟩) 1 1]) (by kernel_rfl) (?_)))
            have hM185 := hM184.freeze 0 ([1]) [] (by kernel_rfl)
            have e_c165 := (nc_b hNP).1 c165
            have e_c166 := (nc_lenp hb82).1 c166
            have s_c34 : ¬ ((absI top - absI xP) ≤ 0) := fun q => c34 (h31 ▸ sg_le.2 q)
            refine S_callB (x170 + (-1)) [(A175, nv l173), ((some ⟨g182, 0, none⟩), nv ([1]))] hM185 (k_Sum b172 l173 x170 true ([1]) (-1) (nv_nb hn174 (by omega)) (nv_nb nc_m1 (by omega)) A175 (List.length l173) cap176 (some ⟨g182, 0, none⟩) 1 1 rfl hc177 rfl (by decide) w183 (hM185.ent 1 rfl) (hM185.ent 0 rfl)) (subc 1 rfl (subc 0 rfl sub0)) (by kernel_rfl) (fun x186 h187 b188 l189 hn190 A191 cap192 hc193 w194 hM195 => ?_)
            have a_x186 := absI_eq x186
            refine S_store 0 0 #[.bool b188, .slice A191 (List.length l189) cap192] hM195 (by kernel_rfl) (fun w196 hM197 => S_nil (R_region (S_load 1 0 (.agg #[.bool true, .slice A80 (List.length l79) cap81]) hM197 (by kernel_rfl) (S_load 5 0 (.agg #[.bool bQ, .slice AQ (List.length lQ) cQ]) hM197 (by kernel_rfl) (?_)))))
            have e_c165 := (nc_b hNP).1 c165
            have e_c166 := (nc_lenp hb82).1 c166
            have s_c34 : ¬ ((absI top - absI xP) ≤ 0) := fun q => c34 (h31 ▸ sg_le.2 q)
            refine S_callB ((-absI left) + xQ) [(A80, nv l79), (AQ, nv lQ)] hM197 (k_Sum true l79 (-absI left) bQ lQ xQ (nv_nb (nc_neg hb82 (by omega)) (by omega)) (nv_nb hNQ (by omega)) A80 (List.length l79) cap81 AQ (List.length lQ) cQ rfl hc83 rfl hcQ w196 (hM197.ent 5 rfl) (hM197.ent 9 rfl)) (subc 5 rfl (subc 9 rfl sub0)) (by kernel_rfl) (fun x198 h199 b200 l201 hn202 A203 cap204 hc205 w206 hM207 => ?_)
            have a_x198 := absI_eq x198
            refine S_store 1 0 #[.bool b200, .slice A203 (List.length l201) cap204] hM207 (by kernel_rfl) (fun w208 hM209 => S_nil (R_seq (R_drawE [[0, 1, 2, 3], [0, 2, 1, 3], [1, 0, 2, 3]] hM209 (by kernel_rfl) (fun w210 hM211 => ?_))))
            refine ⟨?_, ?_, ?_, trivial⟩
            · refine S_load 0 0 (.agg #[.bool b188, .slice A191 (List.length l189) cap192]) hM211 (by kernel_rfl) (S_load 1 0 (.agg #[.bool b200, .slice A203 (List.length l201) cap204]) hM211 (by kernel_rfl) (S_store 4 0 #[.bool b188, .slice A191 (List.length l189) cap192] hM211 (by kernel_rfl) (fun w212 hM213 => S_store 3 0 #[.bool b200, .slice A203 (List.length l201) cap204] hM213 (by kernel_rfl) (fun w214 hM215 => S_nil (?_)))))
              refine R_ret hM215 rfl (.cons (.cell _ _ 4 0 (.agg #[.bool b188, .slice A191 (List.length l189) cap192]) (by kernel_rfl)) (.cons (.cell _ _ 3 0 (.agg #[.bool b200, .slice A203 (List.length l201) cap204]) (by kernel_rfl)) .nil)) rfl ?_
              have e_c165 := (nc_b hNP).1 c165
              have e_c166 := (nc_lenp hb82).1 c166
              have i_c169 := nc_diff hNP hNQ c169
              have hi_ : i = n := by omega
              have ht_ : top2 = absI xQ := by rw [k2_2, hi_, Int.sub_self]; exact Int.mul_one _
              rw [ht_] at k3_2 k4_2
              have hend := quo_end hy k3_2 ⟨k4_2.1, k4_2.2.1⟩
              have al_ := absI_eq left
              exact hM215.retNN 1 0 rfl rfl hc193 rfl rfl hc205 (nc_2 hn190 (by omega) hn202 (by omega))
            · refine S_load 0 0 (.agg #[.bool b188, .slice A191 (List.length l189) cap192]) hM211 (by kernel_rfl) (S_store 4 0 #[.bool b188, .slice A191 (List.length l189) cap192] hM211 (by kernel_rfl) (fun w212 hM213 => S_load 1 0 (.agg #[.bool b200, .slice A203 (List.length l201) cap204]) hM213 (by kernel_rfl) (S_store 3 0 #[.bool b200, .slice A203 (List.length l201) cap204] hM213 (by kernel_rfl) (fun w214 hM215 => S_nil (?_)))))
              refine R_ret hM215 rfl (.cons (.cell _ _ 4 0 (.agg #[.bool b188, .slice A191 (List.length l189) cap192]) (by kernel_rfl)) (.cons (.cell _ _ 3 0 (.agg #[.bool b200, .slice A203 (List.length l201) cap204]) (by kernel_rfl)) .nil)) rfl ?_
              have e_c165 := (nc_b hNP).1 c165
              have e_c166 := (nc_lenp hb82).1 c166
              have i_c169 := nc_diff hNP hNQ c169
              have hi_ : i = n := by omega
              have ht_ : top2 = absI xQ := by rw [k2_2, hi_, Int.sub_self]; exact Int.mul_one _
              rw [ht_] at k3_2 k4_2
              have hend := quo_end hy k3_2 ⟨k4_2.1, k4_2.2.1⟩
              have al_ := absI_eq left
              exact hM215.retNN 1 0 rfl rfl hc193 rfl rfl hc205 (nc_2 hn190 (by omega) hn202 (by omega))
            · refine S_load 1 0 (.agg #[.bool b200, .slice A203 (List.length l201) cap204]) hM211 (by kernel_rfl) (S_load 0 0 (.agg #[.bool b188, .slice A191 (List.length l189) cap192]) hM211 (by kernel_rfl) (S_store 4 0 #[.bool b188, .slice A191 (List.length l189) cap192] hM211 (by kernel_rfl) (fun w212 hM213 => S_store 3 0 #[.bool b200, .slice A203 (List.length l201) cap204] hM213 (by kernel_rfl) (fun w214 hM215 => S_nil (?_)))))
              refine R_ret hM215 rfl (.cons (.cell _ _ 4 0 (.agg #[.bool b188, .slice A191 (List.length l189) cap192]) (by kernel_rfl)) (.cons (.cell _ _ 3 0 (.agg #[.bool b200, .slice A203 (List.length l201) cap204]) (by kernel_rfl)) .nil)) rfl ?_
              have e_c165 := (nc_b hNP).1 c165
              have e_c166 := (nc_lenp hb82).1 c166
              have i_c169 := nc_diff hNP hNQ c169
              have hi_ : i = n := by omega
              have ht_ : top2 = absI xQ := by rw [k2_2, hi_, Int.sub_self]; exact Int.mul_one _
              rw [ht_] at k3_2 k4_2
              have hend := quo_end hy k3_2 ⟨k4_2.1, k4_2.2.1⟩
              have al_ := absI_eq left
              exact hM215.retNN 1 0 rfl rfl hc193 rfl rfl hc205 (nc_2 hn190 (by omega) hn202 (by omega))
          · refine S_nil (R_no (by kernel_rfl) (R_skip (R_seq (R_drawE [[0, 1, 2, 3], [0, 2, 1, 3], [1, 0, 2, 3]] hM168 (by kernel_rfl) (fun w216 hM217 => ?_)))))
            refine ⟨?_, ?_, ?_, trivial⟩
            · refine S_load 0 0 (.agg #[.bool b72, .slice A74 (List.length l73) cap75]) hM217 (by kernel_rfl) (S_load 1 0 (.agg #[.bool true, .slice A80 (List.length l79) cap81]) hM217 (by kernel_rfl) (S_store 4 0 #[.bool b72, .slice A74 (List.length l73) cap75] hM217 (by kernel_rfl) (fun w218 hM219 => S_store 3 0 #[.bool true, .slice A80 (List.length l79) cap81] hM219 (by kernel_rfl) (fun w220 hM221 => S_nil (?_)))))
              refine R_ret hM221 rfl (.cons (.cell _ _ 4 0 (.agg #[.bool b72, .slice A74 (List.length l73) cap75]) (by kernel_rfl)) (.cons (.cell _ _ 3 0 (.agg #[.bool true, .slice A80 (List.length l79) cap81]) (by kernel_rfl)) .nil)) rfl ?_
              have e_c165 := (nc_b hNP).1 c165
              have e_c166 := (nc_lenp hb82).1 c166
              have i_c169 := nc_same hNP hNQ c169
              have hi_ : i = n := by omega
              have ht_ : top2 = absI xQ := by rw [k2_2, hi_, Int.sub_self]; exact Int.mul_one _
              rw [ht_] at k3_2 k4_2
              have hend := quo_end hy k3_2 ⟨k4_2.1, k4_2.2.1⟩
              have al_ := absI_eq left
              exact hM221.retNN 1 2 rfl rfl hc77 rfl rfl hc83 (nc_2 hb76 (by omega) (nc_neg hb82 (by omega)) (by omega))
            · refine S_load 0 0 (.agg #[.bool b72, .slice A74 (List.length l73) cap75]) hM217 (by kernel_rfl) (S_store 4 0 #[.bool b72, .slice A74 (List.length l73) cap75] hM217 (by kernel_rfl) (fun w218 hM219 => S_load 1 0 (.agg #[.bool true, .slice A80 (List.length l79) cap81]) hM219 (by kernel_rfl) (S_store 3 0 #[.bool true, .slice A80 (List.length l79) cap81] hM219 (by kernel_rfl) (fun w220 hM221 => S_nil (?_)))))
              refine R_ret hM221 rfl (.cons (.cell _ _ 4 0 (.agg #[.bool b72, .slice A74 (List.length l73) cap75]) (by kernel_rfl)) (.cons (.cell _ _ 3 0 (.agg #[.bool true, .slice A80 (List.length l79) cap81]) (by kernel_rfl)) .nil)) rfl ?_
              have e_c165 := (nc_b hNP).1 c165
              have e_c166 := (nc_lenp hb82).1 c166
              have i_c169 := nc_same hNP hNQ c169
              have hi_ : i = n := by omega
              have ht_ : top2 = absI xQ := by rw [k2_2, hi_, Int.sub_self]; exact Int.mul_one _
              rw [ht_] at k3_2 k4_2
              have hend := quo_end hy k3_2 ⟨k4_2.1, k4_2.2.1⟩
              have al_ := absI_eq left
              exact hM221.retNN 1 2 rfl rfl hc77 rfl rfl hc83 (nc_2 hb76 (by omega) (nc_neg hb82 (by omega)) (by omega))
            · refine S_load 1 0 (.agg #[.bool true, .slice A80 (List.length l79) cap81]) hM217 (by kernel_rfl) (S_load 0 0 (.agg #[.bool b72, .slice A74 (List.length l73) cap75]) hM217 (by kernel_rfl) (S_store 4 0 #[.bool b72, .slice A74 (List.length l73) cap75] hM217 (by kernel_rfl) (fun w218 hM219 => S_store 3 0 #[.bool true, .slice A80 (List.length l79) cap81] hM219 (by kernel_rfl) (fun w220 hM221 => S_nil (?_)))))
              refine R_ret hM221 rfl (.cons (.cell _ _ 4 0 (.agg #[.bool b72, .slice A74 (List.length l73) cap75]) (by kernel_rfl)) (.cons (.cell _ _ 3 0 (.agg #[.bool true, .slice A80 (List.length l79) cap81]) (by kernel_rfl)) .nil)) rfl ?_
              have e_c165 := (nc_b hNP).1 c165
              have e_c166 := (nc_lenp hb82).1 c166
              have i_c169 := nc_same hNP hNQ c169
              have hi_ : i = n := by omega
              have ht_ : top2 = absI xQ := by rw [k2_2, hi_, Int.sub_self]; exact Int.mul_one _
              rw [ht_] at k3_2 k4_2
              have hend := quo_end hy k3_2 ⟨k4_2.1, k4_2.2.1⟩
              have al_ := absI_eq left
              exact hM221.retNN 1 2 rfl rfl hc77 rfl rfl hc83 (nc_2 hb76 (by omega) (nc_neg hb82 (by omega)) (by omega))
        · refine S_val (.bool false) (by kernel_rfl) (S_val (.pointer (some ⟨g50, 0, none⟩)) (by kernel_rfl) (S_store 1 0 #[.bool false, .slice A80 (List.length l79) cap81] hM64 (by kernel_rfl) (fun w222 hM223 => S_nil (R_seq (R_seq (R_region (S_val (.pointer (some ⟨g1, 0, none⟩)) (by kernel_rfl) (S_load 6 0 (.bool bP) hM223 (by kernel_rfl) (S_val (.pointer (some ⟨g4, 0, none⟩)) (by kernel_rfl) (S_load 5 0 (.bool bQ) hM223 (by kernel_rfl) (?_)))))))))))
          refine S_decn (bP = bQ) (by kernel_rfl) (fun c224 => ?_) (fun c224 => ?_)
          · refine S_nil (R_yes (by kernel_rfl) (R_seq (R_region (S_load 0 0 (.agg #[.bool b72, .slice A74 (List.length l73) cap75]) hM223 (by kernel_rfl) (?_)))))
            have e_c165 := (nc_b hNP).1 c165
            have e_c166 : ¬ (left ≠ 0) := fun q => c166 ((nc_lenp hb82).2 q)
            have s_c34 : ¬ ((absI top - absI xP) ≤ 0) := fun q => c34 (h31 ▸ sg_le.2 q)
            refine S_callB (-q) [(A74, nv l73)] hM223 (k_Minus b72 l73 q hb76 A74 (List.length l73) cap75 rfl hc77 (by omega) w222 (hM223.ent 1 rfl)) (subc 1 rfl sub0) (by kernel_rfl) (fun x225 h226 b227 l228 hn229 A230 cap231 hc232 w233 hM234 => ?_)
            have a_x225 := absI_eq x225
            refine S_store 0 0 #[.bool b227, .slice A230 (List.length l228) cap231] hM234 (by kernel_rfl) (fun w235 hM236 => S_nil (R_seq (R_region (S_val (.pointer (some ⟨g50, 1, none⟩)) (by kernel_rfl) (S_load 1 1 (.slice A80 (List.length l79) cap81) hM236 (by kernel_rfl) (S_val (.int .i64 (List.length l79 : Int)) (by kernel_rfl) (S_val (.bool false) (kdF' c166 (by kernel_rfl)) (S_nil (R_no (by kernel_rfl) (R_skip (R_seq (?_))))))))))))
            refine R_drawE [[0, 1, 2, 3], [0, 2, 1, 3], [1, 0, 2, 3]] hM236 (by kernel_rfl) (fun w237 hM238 => ?_)
            refine ⟨?_, ?_, ?_, trivial⟩
            · refine S_load 0 0 (.agg #[.bool b227, .slice A230 (List.length l228) cap231]) hM238 (by kernel_rfl) (S_load 1 0 (.agg #[.bool false, .slice A80 (List.length l79) cap81]) hM238 (by kernel_rfl) (S_store 4 0 #[.bool b227, .slice A230 (List.length l228) cap231] hM238 (by kernel_rfl) (fun w239 hM240 => S_store 3 0 #[.bool false, .slice A80 (List.length l79) cap81] hM240 (by kernel_rfl) (fun w241 hM242 => S_nil (?_)))))
              refine R_ret hM242 rfl (.cons (.cell _ _ 4 0 (.agg #[.bool b227, .slice A230 (List.length l228) cap231]) (by kernel_rfl)) (.cons (.cell _ _ 3 0 (.agg #[.bool false, .slice A80 (List.length l79) cap81]) (by kernel_rfl)) .nil)) rfl ?_
              have e_c165 := (nc_b hNP).1 c165
              have e_c166 : ¬ (left ≠ 0) := fun q => c166 ((nc_lenp hb82).2 q)
              have i_c224 := nc_diff hNP hNQ c224
              have hi_ : i = n := by omega
              have ht_ : top2 = absI xQ := by rw [k2_2, hi_, Int.sub_self]; exact Int.mul_one _
              rw [ht_] at k3_2 k4_2
              have hend := quo_end hy k3_2 ⟨k4_2.1, k4_2.2.1⟩
              have al_ := absI_eq left
              exact hM242.retNN 0 3 rfl rfl hc232 rfl rfl hc83 (nc_2 hn229 (by omega) (nc_abs hb82) (by omega))
            · refine S_load 0 0 (.agg #[.bool b227, .slice A230 (List.length l228) cap231]) hM238 (by kernel_rfl) (S_store 4 0 #[.bool b227, .slice A230 (List.length l228) cap231] hM238 (by kernel_rfl) (fun w239 hM240 => S_load 1 0 (.agg #[.bool false, .slice A80 (List.length l79) cap81]) hM240 (by kernel_rfl) (S_store 3 0 #[.bool false, .slice A80 (List.length l79) cap81] hM240 (by kernel_rfl) (fun w241 hM242 => S_nil (?_)))))
              refine R_ret hM242 rfl (.cons (.cell _ _ 4 0 (.agg #[.bool b227, .slice A230 (List.length l228) cap231]) (by kernel_rfl)) (.cons (.cell _ _ 3 0 (.agg #[.bool false, .slice A80 (List.length l79) cap81]) (by kernel_rfl)) .nil)) rfl ?_
              have e_c165 := (nc_b hNP).1 c165
              have e_c166 : ¬ (left ≠ 0) := fun q => c166 ((nc_lenp hb82).2 q)
              have i_c224 := nc_diff hNP hNQ c224
              have hi_ : i = n := by omega
              have ht_ : top2 = absI xQ := by rw [k2_2, hi_, Int.sub_self]; exact Int.mul_one _
              rw [ht_] at k3_2 k4_2
              have hend := quo_end hy k3_2 ⟨k4_2.1, k4_2.2.1⟩
              have al_ := absI_eq left
              exact hM242.retNN 0 3 rfl rfl hc232 rfl rfl hc83 (nc_2 hn229 (by omega) (nc_abs hb82) (by omega))
            · refine S_load 1 0 (.agg #[.bool false, .slice A80 (List.length l79) cap81]) hM238 (by kernel_rfl) (S_load 0 0 (.agg #[.bool b227, .slice A230 (List.length l228) cap231]) hM238 (by kernel_rfl) (S_store 4 0 #[.bool b227, .slice A230 (List.length l228) cap231] hM238 (by kernel_rfl) (fun w239 hM240 => S_store 3 0 #[.bool false, .slice A80 (List.length l79) cap81] hM240 (by kernel_rfl) (fun w241 hM242 => S_nil (?_)))))
              refine R_ret hM242 rfl (.cons (.cell _ _ 4 0 (.agg #[.bool b227, .slice A230 (List.length l228) cap231]) (by kernel_rfl)) (.cons (.cell _ _ 3 0 (.agg #[.bool false, .slice A80 (List.length l79) cap81]) (by kernel_rfl)) .nil)) rfl ?_
              have e_c165 := (nc_b hNP).1 c165
              have e_c166 : ¬ (left ≠ 0) := fun q => c166 ((nc_lenp hb82).2 q)
              have i_c224 := nc_diff hNP hNQ c224
              have hi_ : i = n := by omega
              have ht_ : top2 = absI xQ := by rw [k2_2, hi_, Int.sub_self]; exact Int.mul_one _
              rw [ht_] at k3_2 k4_2
              have hend := quo_end hy k3_2 ⟨k4_2.1, k4_2.2.1⟩
              have al_ := absI_eq left
              exact hM242.retNN 0 3 rfl rfl hc232 rfl rfl hc83 (nc_2 hn229 (by omega) (nc_abs hb82) (by omega))
          · refine S_nil (R_no (by kernel_rfl) (R_skip (R_seq (R_drawE [[0, 1, 2, 3], [0, 2, 1, 3], [1, 0, 2, 3]] hM223 (by kernel_rfl) (fun w243 hM244 => ?_)))))
            refine ⟨?_, ?_, ?_, trivial⟩
            · refine S_load 0 0 (.agg #[.bool b72, .slice A74 (List.length l73) cap75]) hM244 (by kernel_rfl) (S_load 1 0 (.agg #[.bool false, .slice A80 (List.length l79) cap81]) hM244 (by kernel_rfl) (S_store 4 0 #[.bool b72, .slice A74 (List.length l73) cap75] hM244 (by kernel_rfl) (fun w245 hM246 => S_store 3 0 #[.bool false, .slice A80 (List.length l79) cap81] hM246 (by kernel_rfl) (fun w247 hM248 => S_nil (?_)))))
              refine R_ret hM248 rfl (.cons (.cell _ _ 4 0 (.agg #[.bool b72, .slice A74 (List.length l73) cap75]) (by kernel_rfl)) (.cons (.cell _ _ 3 0 (.agg #[.bool false, .slice A80 (List.length l79) cap81]) (by kernel_rfl)) .nil)) rfl ?_
              have e_c165 := (nc_b hNP).1 c165
              have e_c166 : ¬ (left ≠ 0) := fun q => c166 ((nc_lenp hb82).2 q)
              have i_c224 := nc_same hNP hNQ c224
              have hi_ : i = n := by omega
              have ht_ : top2 = absI xQ := by rw [k2_2, hi_, Int.sub_self]; exact Int.mul_one _
              rw [ht_] at k3_2 k4_2
              have hend := quo_end hy k3_2 ⟨k4_2.1, k4_2.2.1⟩
              have al_ := absI_eq left
              exact hM248.retNN 1 2 rfl rfl hc77 rfl rfl hc83 (nc_2 hb76 (by omega) (nc_abs hb82) (by omega))
            · refine S_load 0 0 (.agg #[.bool b72, .slice A74 (List.length l73) cap75]) hM244 (by kernel_rfl) (S_store 4 0 #[.bool b72, .slice A74 (List.length l73) cap75] hM244 (by kernel_rfl) (fun w245 hM246 => S_load 1 0 (.agg #[.bool false, .slice A80 (List.length l79) cap81]) hM246 (by kernel_rfl) (S_store 3 0 #[.bool false, .slice A80 (List.length l79) cap81] hM246 (by kernel_rfl) (fun w247 hM248 => S_nil (?_)))))
              refine R_ret hM248 rfl (.cons (.cell _ _ 4 0 (.agg #[.bool b72, .slice A74 (List.length l73) cap75]) (by kernel_rfl)) (.cons (.cell _ _ 3 0 (.agg #[.bool false, .slice A80 (List.length l79) cap81]) (by kernel_rfl)) .nil)) rfl ?_
              have e_c165 := (nc_b hNP).1 c165
              have e_c166 : ¬ (left ≠ 0) := fun q => c166 ((nc_lenp hb82).2 q)
              have i_c224 := nc_same hNP hNQ c224
              have hi_ : i = n := by omega
              have ht_ : top2 = absI xQ := by rw [k2_2, hi_, Int.sub_self]; exact Int.mul_one _
              rw [ht_] at k3_2 k4_2
              have hend := quo_end hy k3_2 ⟨k4_2.1, k4_2.2.1⟩
              have al_ := absI_eq left
              exact hM248.retNN 1 2 rfl rfl hc77 rfl rfl hc83 (nc_2 hb76 (by omega) (nc_abs hb82) (by omega))
            · refine S_load 1 0 (.agg #[.bool false, .slice A80 (List.length l79) cap81]) hM244 (by kernel_rfl) (S_load 0 0 (.agg #[.bool b72, .slice A74 (List.length l73) cap75]) hM244 (by kernel_rfl) (S_store 4 0 #[.bool b72, .slice A74 (List.length l73) cap75] hM244 (by kernel_rfl) (fun w245 hM246 => S_store 3 0 #[.bool false, .slice A80 (List.length l79) cap81] hM246 (by kernel_rfl) (fun w247 hM248 => S_nil (?_)))))
              refine R_ret hM248 rfl (.cons (.cell _ _ 4 0 (.agg #[.bool b72, .slice A74 (List.length l73) cap75]) (by kernel_rfl)) (.cons (.cell _ _ 3 0 (.agg #[.bool false, .slice A80 (List.length l79) cap81]) (by kernel_rfl)) .nil)) rfl ?_
              have e_c165 := (nc_b hNP).1 c165
              have e_c166 : ¬ (left ≠ 0) := fun q => c166 ((nc_lenp hb82).2 q)
              have i_c224 := nc_same hNP hNQ c224
              have hi_ : i = n := by omega
              have ht_ : top2 = absI xQ := by rw [k2_2, hi_, Int.sub_self]; exact Int.mul_one _
              rw [ht_] at k3_2 k4_2
              have hend := quo_end hy k3_2 ⟨k4_2.1, k4_2.2.1⟩
              have al_ := absI_eq left
              exact hM248.retNN 1 2 rfl rfl hc77 rfl rfl hc83 (nc_2 hb76 (by omega) (nc_abs hb82) (by omega))
      · refine S_skip (by kernel_rfl) (S_skip (by kernel_rfl) (S_skip (by kernel_rfl) (S_skip (by kernel_rfl) (S_val (.bool false) (by kernel_rfl) (S_val (.pointer (some ⟨g50, 0, none⟩)) (by kernel_rfl) (S_store 1 0 #[.bool false, .slice A80 (List.length l79) cap81] hM64 (by kernel_rfl) (fun w249 hM250 => S_nil (R_seq (R_seq (R_region (S_val (.pointer (some ⟨g1, 0, none⟩)) (by kernel_rfl) (?_))))))))))))
        refine S_load 6 0 (.bool bP) hM250 (by kernel_rfl) (S_val (.pointer (some ⟨g4, 0, none⟩)) (by kernel_rfl) (S_load 5 0 (.bool bQ) hM250 (by kernel_rfl) (?_)))
        refine S_decn (bP = bQ) (by kernel_rfl) (fun c251 => ?_) (fun c251 => ?_)
        · refine S_nil (R_yes (by kernel_rfl) (R_seq (R_region (S_load 0 0 (.agg #[.bool b72, .slice A74 (List.length l73) cap75]) hM250 (by kernel_rfl) (?_)))))
          have e_c165 := nc_bf hNP c165
          have s_c34 : ¬ ((absI top - absI xP) ≤ 0) := fun q => c34 (h31 ▸ sg_le.2 q)
          refine S_callB (-q) [(A74, nv l73)] hM250 (k_Minus b72 l73 q hb76 A74 (List.length l73) cap75 rfl hc77 (by omega) w249 (hM250.ent 1 rfl)) (subc 1 rfl sub0) (by kernel_rfl) (fun x252 h253 b254 l255 hn256 A257 cap258 hc259 w260 hM261 => ?_)
          have a_x252 := absI_eq x252
          refine S_store 0 0 #[.bool b254, .slice A257 (List.length l255) cap258] hM261 (by kernel_rfl) (fun w262 hM263 => S_nil (R_seq (R_region (S_val (.pointer (some ⟨g50, 1, none⟩)) (by kernel_rfl) (S_load 1 1 (.slice A80 (List.length l79) cap81) hM263 (by kernel_rfl) (S_val (.int .i64 (List.length l79 : Int)) (by kernel_rfl) (?_)))))))
          refine S_dec ((List.length l79 : Int) > 0) (by kernel_rfl) (fun c264 => ?_) (fun c264 => ?_)
          · refine S_nil (R_yes (by kernel_rfl) (R_seq (R_region (S_load 0 0 (.agg #[.bool b254, .slice A257 (List.length l255) cap258]) hM263 (by kernel_rfl) (S_fresh (some 1) #[.int .i64 1] 3 hM263 (by kernel_rfl) (fun g265 w266 hM267 => S_val (.agg #[.bool true, .slice (some ⟨g265, 0, none⟩) 1 1]) (by kernel_rfl) (?_)))))))
            have hM268 := hM267.freeze 0 ([1]) [] (by kernel_rfl)
            have e_c165 := nc_bf hNP c165
            have e_c264 := (nc_lenp hb82).1 c264
            have s_c34 : ¬ ((absI top - absI xP) ≤ 0) := fun q => c34 (h31 ▸ sg_le.2 q)
            refine S_callB (x252 + (-1)) [(A257, nv l255), ((some ⟨g265, 0, none⟩), nv ([1]))] hM268 (k_Sum b254 l255 x252 true ([1]) (-1) (nv_nb hn256 (by omega)) (nv_nb nc_m1 (by omega)) A257 (List.length l255) cap258 (some ⟨g265, 0, none⟩) 1 1 rfl hc259 rfl (by decide) w266 (hM268.ent 1 rfl) (hM268.ent 0 rfl)) (subc 1 rfl (subc 0 rfl sub0)) (by kernel_rfl) (fun x269 h270 b271 l272 hn273 A274 cap275 hc276 w277 hM278 => ?_)
            have a_x269 := absI_eq x269
            refine S_store 0 0 #[.bool b271, .slice A274 (List.length l272) cap275] hM278 (by kernel_rfl) (fun w279 hM280 => S_nil (R_region (S_load 1 0 (.agg #[.bool false, .slice A80 (List.length l79) cap81]) hM280 (by kernel_rfl) (S_load 5 0 (.agg #[.bool bQ, .slice AQ (List.length lQ) cQ]) hM280 (by kernel_rfl) (?_)))))
            have e_c165 := nc_bf hNP c165
            have e_c264 := (nc_lenp hb82).1 c264
            have s_c34 : ¬ ((absI top - absI xP) ≤ 0) := fun q => c34 (h31 ▸ sg_le.2 q)
            refine S_callB ((absI left) + xQ) [(A80, nv l79), (AQ, nv lQ)] hM280 (k_Sum false l79 (absI left) bQ lQ xQ (nv_nb (nc_abs hb82) (by omega)) (nv_nb hNQ (by omega)) A80 (List.length l79) cap81 AQ (List.length lQ) cQ rfl hc83 rfl hcQ w279 (hM280.ent 5 rfl) (hM280.ent 9 rfl)) (subc 5 rfl (subc 9 rfl sub0)) (by kernel_rfl) (fun x281 h282 b283 l284 hn285 A286 cap287 hc288 w289 hM290 => ?_)
            have a_x281 := absI_eq x281
            refine S_store 1 0 #[.bool b283, .slice A286 (List.length l284) cap287] hM290 (by kernel_rfl) (fun w291 hM292 => S_nil (R_seq (R_drawE [[0, 1, 2, 3], [0, 2, 1, 3], [1, 0, 2, 3]] hM292 (by kernel_rfl) (fun w293 hM294 => ?_))))
            refine ⟨?_, ?_, ?_, trivial⟩
            · refine S_load 0 0 (.agg #[.bool b271, .slice A274 (List.length l272) cap275]) hM294 (by kernel_rfl) (S_load 1 0 (.agg #[.bool b283, .slice A286 (List.length l284) cap287]) hM294 (by kernel_rfl) (S_store 4 0 #[.bool b271, .slice A274 (List.length l272) cap275] hM294 (by kernel_rfl) (fun w295 hM296 => S_store 3 0 #[.bool b283, .slice A286 (List.length l284) cap287] hM296 (by kernel_rfl) (fun w297 hM298 => S_nil (?_)))))
              refine R_ret hM298 rfl (.cons (.cell _ _ 4 0 (.agg #[.bool b271, .slice A274 (List.length l272) cap275]) (by kernel_rfl)) (.cons (.cell _ _ 3 0 (.agg #[.bool b283, .slice A286 (List.length l284) cap287]) (by kernel_rfl)) .nil)) rfl ?_
              have e_c165 := nc_bf hNP c165
              have e_c264 := (nc_lenp hb82).1 c264
              have i_c251 := nc_diff hNP hNQ c251
              have hi_ : i = n := by omega
              have ht_ : top2 = absI xQ := by rw [k2_2, hi_, Int.sub_self]; exact Int.mul_one _
              rw [ht_] at k3_2 k4_2
              have hend := quo_end hy k3_2 ⟨k4_2.1, k4_2.2.1⟩
              have al_ := absI_eq left
              exact hM298.retNN 1 0 rfl rfl hc276 rfl rfl hc288 (nc_2 hn273 (by omega) hn285 (by omega))
            · refine S_load 0 0 (.agg #[.bool b271, .slice A274 (List.length l272) cap275]) hM294 (by kernel_rfl) (S_store 4 0 #[.bool b271, .slice A274 (List.length l272) cap275] hM294 (by kernel_rfl) (fun w295 hM296 => S_load 1 0 (.agg #[.bool b283, .slice A286 (List.length l284) cap287]) hM296 (by kernel_rfl) (S_store 3 0 #[.bool b283, .slice A286 (List.length l284) cap287] hM296 (by kernel_rfl) (fun w297 hM298 => S_nil (?_)))))
              refine R_ret hM298 rfl (.cons (.cell _ _ 4 0 (.agg #[.bool b271, .slice A274 (List.length l272) cap275]) (by kernel_rfl)) (.cons (.cell _ _ 3 0 (.agg #[.bool b283, .slice A286 (List.length l284) cap287]) (by kernel_rfl)) .nil)) rfl ?_
              have e_c165 := nc_bf hNP c165
              have e_c264 := (nc_lenp hb82).1 c264
              have i_c251 := nc_diff hNP hNQ c251
              have hi_ : i = n := by omega
              have ht_ : top2 = absI xQ := by rw [k2_2, hi_, Int.sub_self]; exact Int.mul_one _
              rw [ht_] at k3_2 k4_2
              have hend := quo_end hy k3_2 ⟨k4_2.1, k4_2.2.1⟩
              have al_ := absI_eq left
              exact hM298.retNN 1 0 rfl rfl hc276 rfl rfl hc288 (nc_2 hn273 (by omega) hn285 (by omega))
            · refine S_load 1 0 (.agg #[.bool b283, .slice A286 (List.length l284) cap287]) hM294 (by kernel_rfl) (S_load 0 0 (.agg #[.bool b271, .slice A274 (List.length l272) cap275]) hM294 (by kernel_rfl) (S_store 4 0 #[.bool b271, .slice A274 (List.length l272) cap275] hM294 (by kernel_rfl) (fun w295 hM296 => S_store 3 0 #[.bool b283, .slice A286 (List.length l284) cap287] hM296 (by kernel_rfl) (fun w297 hM298 => S_nil (?_)))))
              refine R_ret hM298 rfl (.cons (.cell _ _ 4 0 (.agg #[.bool b271, .slice A274 (List.length l272) cap275]) (by kernel_rfl)) (.cons (.cell _ _ 3 0 (.agg #[.bool b283, .slice A286 (List.length l284) cap287]) (by kernel_rfl)) .nil)) rfl ?_
              have e_c165 := nc_bf hNP c165
              have e_c264 := (nc_lenp hb82).1 c264
              have i_c251 := nc_diff hNP hNQ c251
              have hi_ : i = n := by omega
              have ht_ : top2 = absI xQ := by rw [k2_2, hi_, Int.sub_self]; exact Int.mul_one _
              rw [ht_] at k3_2 k4_2
              have hend := quo_end hy k3_2 ⟨k4_2.1, k4_2.2.1⟩
              have al_ := absI_eq left
              exact hM298.retNN 1 0 rfl rfl hc276 rfl rfl hc288 (nc_2 hn273 (by omega) hn285 (by omega))
          · refine S_nil (R_no (by kernel_rfl) (R_skip (R_seq (R_drawE [[0, 1, 2, 3], [0, 2, 1, 3], [1, 0, 2, 3]] hM263 (by kernel_rfl) (fun w299 hM300 => ?_)))))
            refine ⟨?_, ?_, ?_, trivial⟩
            · refine S_load 0 0 (.agg #[.bool b254, .slice A257 (List.length l255) cap258]) hM300 (by kernel_rfl) (S_load 1 0 (.agg #[.bool false, .slice A80 (List.length l79) cap81]) hM300 (by kernel_rfl) (S_store 4 0 #[.bool b254, .slice A257 (List.length l255) cap258] hM300 (by kernel_rfl) (fun w301 hM302 => S_store 3 0 #[.bool false, .slice A80 (List.length l79) cap81] hM302 (by kernel_rfl) (fun w303 hM304 => S_nil (?_)))))
              refine R_ret hM304 rfl (.cons (.cell _ _ 4 0 (.agg #[.bool b254, .slice A257 (List.length l255) cap258]) (by kernel_rfl)) (.cons (.cell _ _ 3 0 (.agg #[.bool false, .slice A80 (List.length l79) cap81]) (by kernel_rfl)) .nil)) rfl ?_
              have e_c165 := nc_bf hNP c165
              have e_c264 : ¬ (left ≠ 0) := fun q => c264 ((nc_lenp hb82).2 q)
              have i_c251 := nc_diff hNP hNQ c251
              have hi_ : i = n := by omega
              have ht_ : top2 = absI xQ := by rw [k2_2, hi_, Int.sub_self]; exact Int.mul_one _
              rw [ht_] at k3_2 k4_2
              have hend := quo_end hy k3_2 ⟨k4_2.1, k4_2.2.1⟩
              have al_ := absI_eq left
              exact hM304.retNN 0 3 rfl rfl hc259 rfl rfl hc83 (nc_2 hn256 (by omega) (nc_abs hb82) (by omega))
            · refine S_load 0 0 (.agg #[.bool b254, .slice A257 (List.length l255) cap258]) hM300 (by kernel_rfl) (S_store 4 0 #[.bool b254, .slice A257 (List.length l255) cap258] hM300 (by kernel_rfl) (fun w301 hM302 => S_load 1 0 (.agg #[.bool false, .slice A80 (List.length l79) cap81]) hM302 (by kernel_rfl) (S_store 3 0 #[.bool false, .slice A80 (List.length l79) cap81] hM302 (by kernel_rfl) (fun w303 hM304 => S_nil (?_)))))
              refine R_ret hM304 rfl (.cons (.cell _ _ 4 0 (.agg #[.bool b254, .slice A257 (List.length l255) cap258]) (by kernel_rfl)) (.cons (.cell _ _ 3 0 (.agg #[.bool false, .slice A80 (List.length l79) cap81]) (by kernel_rfl)) .nil)) rfl ?_
              have e_c165 := nc_bf hNP c165
              have e_c264 : ¬ (left ≠ 0) := fun q => c264 ((nc_lenp hb82).2 q)
              have i_c251 := nc_diff hNP hNQ c251
              have hi_ : i = n := by omega
              have ht_ : top2 = absI xQ := by rw [k2_2, hi_, Int.sub_self]; exact Int.mul_one _
              rw [ht_] at k3_2 k4_2
              have hend := quo_end hy k3_2 ⟨k4_2.1, k4_2.2.1⟩
              have al_ := absI_eq left
              exact hM304.retNN 0 3 rfl rfl hc259 rfl rfl hc83 (nc_2 hn256 (by omega) (nc_abs hb82) (by omega))
            · refine S_load 1 0 (.agg #[.bool false, .slice A80 (List.length l79) cap81]) hM300 (by kernel_rfl) (S_load 0 0 (.agg #[.bool b254, .slice A257 (List.length l255) cap258]) hM300 (by kernel_rfl) (S_store 4 0 #[.bool b254, .slice A257 (List.length l255) cap258] hM300 (by kernel_rfl) (fun w301 hM302 => S_store 3 0 #[.bool false, .slice A80 (List.length l79) cap81] hM302 (by kernel_rfl) (fun w303 hM304 => S_nil (?_)))))
              refine R_ret hM304 rfl (.cons (.cell _ _ 4 0 (.agg #[.bool b254, .slice A257 (List.length l255) cap258]) (by kernel_rfl)) (.cons (.cell _ _ 3 0 (.agg #[.bool false, .slice A80 (List.length l79) cap81]) (by kernel_rfl)) .nil)) rfl ?_
              have e_c165 := nc_bf hNP c165
              have e_c264 : ¬ (left ≠ 0) := fun q => c264 ((nc_lenp hb82).2 q)
              have i_c251 := nc_diff hNP hNQ c251
              have hi_ : i = n := by omega
              have ht_ : top2 = absI xQ := by rw [k2_2, hi_, Int.sub_self]; exact Int.mul_one _
              rw [ht_] at k3_2 k4_2
              have hend := quo_end hy k3_2 ⟨k4_2.1, k4_2.2.1⟩
              have al_ := absI_eq left
              exact hM304.retNN 0 3 rfl rfl hc259 rfl rfl hc83 (nc_2 hn256 (by omega) (nc_abs hb82) (by omega))
        · refine S_nil (R_no (by kernel_rfl) (R_skip (R_seq (R_drawE [[0, 1, 2, 3], [0, 2, 1, 3], [1, 0, 2, 3]] hM250 (by kernel_rfl) (fun w305 hM306 => ?_)))))
          refine ⟨?_, ?_, ?_, trivial⟩
          · refine S_load 0 0 (.agg #[.bool b72, .slice A74 (List.length l73) cap75]) hM306 (by kernel_rfl) (S_load 1 0 (.agg #[.bool false, .slice A80 (List.length l79) cap81]) hM306 (by kernel_rfl) (S_store 4 0 #[.bool b72, .slice A74 (List.length l73) cap75] hM306 (by kernel_rfl) (fun w307 hM308 => S_store 3 0 #[.bool false, .slice A80 (List.length l79) cap81] hM308 (by kernel_rfl) (fun w309 hM310 => S_nil (?_)))))
            refine R_ret hM310 rfl (.cons (.cell _ _ 4 0 (.agg #[.bool b72, .slice A74 (List.length l73) cap75]) (by kernel_rfl)) (.cons (.cell _ _ 3 0 (.agg #[.bool false, .slice A80 (List.length l79) cap81]) (by kernel_rfl)) .nil)) rfl ?_
            have e_c165 := nc_bf hNP c165
            have i_c251 := nc_same hNP hNQ c251
            have hi_ : i = n := by omega
            have ht_ : top2 = absI xQ := by rw [k2_2, hi_, Int.sub_self]; exact Int.mul_one _
            rw [ht_] at k3_2 k4_2
            have hend := quo_end hy k3_2 ⟨k4_2.1, k4_2.2.1⟩
            have al_ := absI_eq left
            exact hM310.retNN 1 2 rfl rfl hc77 rfl rfl hc83 (nc_2 hb76 (by omega) (nc_abs hb82) (by omega))
          · refine S_load 0 0 (.agg #[.bool b72, .slice A74 (List.length l73) cap75]) hM306 (by kernel_rfl) (S_store 4 0 #[.bool b72, .slice A74 (List.length l73) cap75] hM306 (by kernel_rfl) (fun w307 hM308 => S_load 1 0 (.agg #[.bool false, .slice A80 (List.length l79) cap81]) hM308 (by kernel_rfl) (S_store 3 0 #[.bool false, .slice A80 (List.length l79) cap81] hM308 (by kernel_rfl) (fun w309 hM310 => S_nil (?_)))))
            refine R_ret hM310 rfl (.cons (.cell _ _ 4 0 (.agg #[.bool b72, .slice A74 (List.length l73) cap75]) (by kernel_rfl)) (.cons (.cell _ _ 3 0 (.agg #[.bool false, .slice A80 (List.length l79) cap81]) (by kernel_rfl)) .nil)) rfl ?_
            have e_c165 := nc_bf hNP c165
            have i_c251 := nc_same hNP hNQ c251
            have hi_ : i = n := by omega
            have ht_ : top2 = absI xQ := by rw [k2_2, hi_, Int.sub_self]; exact Int.mul_one _
            rw [ht_] at k3_2 k4_2
            have hend := quo_end hy k3_2 ⟨k4_2.1, k4_2.2.1⟩
            have al_ := absI_eq left
            exact hM310.retNN 1 2 rfl rfl hc77 rfl rfl hc83 (nc_2 hb76 (by omega) (nc_abs hb82) (by omega))
          · refine S_load 1 0 (.agg #[.bool false, .slice A80 (List.length l79) cap81]) hM306 (by kernel_rfl) (S_load 0 0 (.agg #[.bool b72, .slice A74 (List.length l73) cap75]) hM306 (by kernel_rfl) (S_store 4 0 #[.bool b72, .slice A74 (List.length l73) cap75] hM306 (by kernel_rfl) (fun w307 hM308 => S_store 3 0 #[.bool false, .slice A80 (List.length l79) cap81] hM308 (by kernel_rfl) (fun w309 hM310 => S_nil (?_)))))
            refine R_ret hM310 rfl (.cons (.cell _ _ 4 0 (.agg #[.bool b72, .slice A74 (List.length l73) cap75]) (by kernel_rfl)) (.cons (.cell _ _ 3 0 (.agg #[.bool false, .slice A80 (List.length l79) cap81]) (by kernel_rfl)) .nil)) rfl ?_
            have e_c165 := nc_bf hNP c165
            have i_c251 := nc_same hNP hNQ c251
            have hi_ : i = n := by omega
            have ht_ : top2 = absI xQ := by rw [k2_2, hi_, Int.sub_self]; exact Int.mul_one _
            rw [ht_] at k3_2 k4_2
            have hend := quo_end hy k3_2 ⟨k4_2.1, k4_2.2.1⟩
            have al_ := absI_eq left
            exact hM310.retNN 1 2 rfl rfl hc77 rfl rfl hc83 (nc_2 hb76 (by omega) (nc_abs hb82) (by omega))

end Go.Proofs.Ytognbeejobfpfaa
