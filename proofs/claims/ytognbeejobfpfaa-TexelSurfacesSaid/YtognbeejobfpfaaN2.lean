/- Walks: the document's numbers in digits: Sum as it stands, Power, half, Times. -/
import Derived.Test.YtognbeejobfpfaaN1
namespace Go.Proofs.Ytognbeejobfpfaa
open Go.RowKit Go.Sort
set_option linter.unusedVariables false
set_option linter.unusedSimpArgs false

theorem size_anti_L (bP : Bool) (lP : List Int) (bQ : Bool) (lQ : List Int) : ∀ (f : Nat) (k : Int), L2_umbraref01_size bP lP bQ lQ f k < 0 → ¬ L2_umbraref01_size bQ lQ bP lP f k < 0
  | 0, k => fun h => absurd (show (0 : Int) < 0 from h) (by omega)
  | f + 1, k => by
    rw [L2_umbraref01_size, L2_umbraref01_size]
    simp only [lt]
    intro h
    split at h
    · rename_i hk
      rw [if_pos hk]
      split at h
      · rename_i h1
        rw [if_neg (by omega), if_pos (by omega)]
        omega
      · split at h
        · omega
        · rename_i h1 h2
          rw [if_neg (by omega), if_neg (by omega)]
          exact size_anti_L bP lP bQ lQ f _ h
    · omega
theorem size_anti {bP bQ : Bool} {lP lQ : List Int} (h : s_umbraref01_size bP lP bQ lQ < 0) : ¬ s_umbraref01_size bQ lQ bP lP < 0 := by
  unfold s_umbraref01_size at h ⊢
  simp only [lt, gmax_eq] at h ⊢
  rw [show max (List.length lQ : Int) (List.length lP : Int) = max (List.length lP : Int) (List.length lQ : Int) by omega]
  exact size_anti_L _ _ _ _ _ _ h

def e_umbraref01_Sum_2 (r : Bool × List Int) : Bool × List Int := r
def s_umbraref01_Sum_2 (bP : Bool) (lP : List (Int)) (bQ : Bool) (lQ : List (Int)) : Bool × List Int :=
  if bP = bQ then
    default
  else
    lt (s_umbraref01_size bP lP bQ lQ) fun r13 =>
    if r13 < 0 then
      lt (s_umbraref01_Sum_1 bQ lQ bP lP) fun r18 =>
      (r18.1, r18.2)
    else
      default
set_option maxRecDepth 100000 in
set_option maxHeartbeats 4000000 in
theorem w_umbraref01_Sum_2 (bP : Bool) (lP : List (Int)) (bQ : Bool) (lQ : List (Int))  (AP : Option Addr) (nP cP : Nat) (AQ : Option Addr) (nQ cQ : Nat) (hnP : nP = List.length lP) (hcP : nP ≤ cP) (hnQ : nQ = List.length lQ) (hcQ : nQ ≤ cQ) (hl : List.length lP ≤ 1000) (hm : List.length lQ ≤ 1000) (hsz : ¬ bP = bQ ∧ s_umbraref01_size bP lP bQ lQ < 0) (w : World) (hAP : Ent w (AP, nv lP)) (hAQ : Ent w (AQ, nv lQ)) : Calls Try.prog 55 #[.agg #[.bool bP, .slice AP nP cP], .agg #[.bool bQ, .slice AQ nQ cQ]] w (RetN w [(AP, nv lP), (AQ, nv lQ)] (e_umbraref01_Sum_2 (s_umbraref01_Sum_2 bP lP bQ lQ))) := by
  subst hnP
  subst hnQ
  obtain ⟨R, HR⟩ : ∃ R, e_umbraref01_Sum_2 (s_umbraref01_Sum_2 bP lP bQ lQ) = R := ⟨_, rfl⟩
  rw [HR]
  unfold s_umbraref01_Sum_2 at HR
  have hM0 := St.startN (w := w) [(AP, nv lP), (AQ, nv lQ)] (ents hAP (ents hAQ ents0))
  refine calls_run Try.func55 rfl ?_
  refine R_seq (R_region (S_fresh none #[.bool bP, .slice AP (List.length lP) cP] 113 hM0 (by kernel_rfl) (fun g1 w2 hM3 => S_fresh none #[.bool bQ, .slice AQ (List.length lQ) cQ] 113 hM3 (by kernel_rfl) (fun g4 w5 hM6 => S_fresh none #[.bool false, .slice none 0 0] 113 hM6 (by kernel_rfl) (fun g7 w8 hM9 => S_nil (R_seq (R_seq (R_region (S_val (.pointer (some ⟨g1, 0, none⟩)) (by kernel_rfl) (S_load 2 0 (.bool bP) hM9 (by kernel_rfl) (S_val (.pointer (some ⟨g4, 0, none⟩)) (by kernel_rfl) (?_))))))))))))
  refine S_load 1 0 (.bool bQ) hM9 (by kernel_rfl) (?_)
  refine S_decn (bP = bQ) (by kernel_rfl) (fun c10 => ?_) (fun c10 => ?_)
  · refine S_val (.bool true) (by kernel_rfl) (S_load 2 0 (.agg #[.bool bP, .slice AP (List.length lP) cP]) hM9 (by kernel_rfl) (S_load 1 0 (.agg #[.bool bQ, .slice AQ (List.length lQ) cQ]) hM9 (by kernel_rfl) (S_call (s_umbraref01_size bP lP bQ lQ) (fun r : Int => .int .i64 r) hM9 (w_umbraref01_size bP lP bQ lQ AP (List.length lP) cP AQ (List.length lQ) cQ rfl hcP rfl hcQ (by omega) (by omega) w8 (hM9.ent 1 rfl) (hM9.ent 2 rfl)) (by kernel_rfl) (fun r13 h14 w15 hM16 => ?_))))
    have HR := hr_neg HR c10
    have HR := hr_lt HR h14
    refine S_dec (r13 < 0) (by kernel_rfl) (fun c17 => ?_) (fun c17 => ?_)
    · refine S_val (.bool true) (by kernel_rfl) (S_nil (R_yes (by kernel_rfl) (R_seq (R_region (S_load 1 0 (.agg #[.bool bQ, .slice AQ (List.length lQ) cQ]) hM16 (by kernel_rfl) (S_load 2 0 (.agg #[.bool bP, .slice AP (List.length lP) cP]) hM16 (by kernel_rfl) (S_callN (s_umbraref01_Sum_1 bQ lQ bP lP) [(AQ, nv lQ), (AP, nv lP)] hM16 (w_umbraref01_Sum_1 bQ lQ bP lP AQ (List.length lQ) cQ AP (List.length lP) cP rfl hcQ rfl hcP (by first | omega | simp) (by first | omega | simp) (fun q => size_anti hsz.2 q.2) w15 (hM16.ent 2 rfl) (hM16.ent 1 rfl)) (subc 2 rfl (subc 1 rfl sub0)) (by kernel_rfl) (fun r18 h19 A20 cap21 hc22 w23 hM24 => S_store 0 0 #[.bool r18.1, .slice A20 (List.length r18.2) cap21] hM24 (by kernel_rfl) (fun w25 hM26 => S_nil (?_))))))))))
      have HR := hr_pos HR c17
      have HR := hr_lt HR h19
      refine R_ret hM26 rfl (.cons (.cell _ _ 0 0 (.agg #[.bool r18.1, .slice A20 (List.length r18.2) cap21]) (by kernel_rfl)) .nil) rfl ?_
      exact hM26.retN 0 rfl rfl hc22 HR
    · exact absurd (by have h_ := hsz.2; rw [h14] at h_; exact h_) c17
  · exact absurd c10 hsz.1

def e_umbraref01_Sum (r : Bool × List Int) : Bool × List Int := r
def s_umbraref01_Sum (bP : Bool) (lP : List Int) (bQ : Bool) (lQ : List Int) : Bool × List Int :=
  if ¬ bP = bQ ∧ s_umbraref01_size bP lP bQ lQ < 0 then s_umbraref01_Sum_1 bQ lQ bP lP else s_umbraref01_Sum_1 bP lP bQ lQ
theorem w_umbraref01_Sum (bP : Bool) (lP : List Int) (bQ : Bool) (lQ : List Int) (AP : Option Addr) (nP cP : Nat) (AQ : Option Addr) (nQ cQ : Nat) (hnP : nP = List.length lP) (hcP : nP ≤ cP) (hnQ : nQ = List.length lQ) (hcQ : nQ ≤ cQ) (hl : List.length lP ≤ 1000) (hm : List.length lQ ≤ 1000) (w : World) (hAP : Ent w (AP, nv lP)) (hAQ : Ent w (AQ, nv lQ)) :
    Calls Try.prog 55 #[.agg #[.bool bP, .slice AP nP cP], .agg #[.bool bQ, .slice AQ nQ cQ]] w (RetN w [(AP, nv lP), (AQ, nv lQ)] (e_umbraref01_Sum (s_umbraref01_Sum bP lP bQ lQ))) := by
  unfold e_umbraref01_Sum s_umbraref01_Sum
  by_cases h : ¬ bP = bQ ∧ s_umbraref01_size bP lP bQ lQ < 0
  · have hw := w_umbraref01_Sum_2 bP lP bQ lQ AP nP cP AQ nQ cQ hnP hcP hnQ hcQ hl hm h w hAP hAQ
    unfold e_umbraref01_Sum_2 s_umbraref01_Sum_2 at hw
    simp only [lt] at hw
    rw [if_neg h.1, if_pos h.2] at hw
    rw [if_pos h]
    exact hw
  · rw [if_neg h]
    exact w_umbraref01_Sum_1 bP lP bQ lQ AP nP cP AQ nQ cQ hnP hcP hnQ hcQ hl hm h w hAP hAQ

def e_umbraref01_Power (r : Bool × List Int) : Bool × List Int := r
def s_umbraref01_Power (n : Int) : Bool × List Int :=
  lt (IntKind.i64.wrap (Int.tdiv n 16)) fun x4 =>
  lt (IntKind.i64.wrap (x4 + 1)) fun x6 =>
  lt (List.replicate (Int.toNat x6) (0 : Int)) fun l9 =>
  lt (IntKind.i64.wrap (Int.tdiv n 16)) fun x13 =>
  lt (Int.tmod n 16) fun x15 =>
  lt ((2 : Int) ^ Int.toNat x15) fun x17 =>
  lt (List.set l9 (Int.toNat x13) x17) fun l19 =>
  (false, l19)
set_option maxRecDepth 100000 in
set_option maxHeartbeats 4000000 in
theorem w_umbraref01_Power (n : Int)    (hi : 0 ≤ n ∧ n ≤ 1000) (w : World)  : Calls Try.prog 89 #[.int .i64 n] w (RetN w [] (e_umbraref01_Power (s_umbraref01_Power n))) := by
  obtain ⟨R, HR⟩ : ∃ R, e_umbraref01_Power (s_umbraref01_Power n) = R := ⟨_, rfl⟩
  rw [HR]
  unfold s_umbraref01_Power at HR
  have hM0 := St.startN (w := w) [] ents0
  refine calls_run Try.func89 rfl ?_
  have ht1 : Int.tdiv n 16 = n / 16 := Int.tdiv_eq_ediv_of_nonneg hi.1
  have ht2 : Int.tmod n 16 = n % 16 := Int.tmod_eq_emod_of_nonneg hi.1
  refine R_seq (R_region (S_fresh none #[.bool false, .slice none 0 0] 113 hM0 (by kernel_rfl) (fun g1 w2 hM3 => S_nil (R_seq (R_region (S_val (.int .i64 n) (by kernel_rfl) (S_int (IntKind.i64.wrap (Int.tdiv n 16)) .i64 (by kernel_rfl) (fun x4 h5 => S_int (IntKind.i64.wrap (x4 + 1)) .i64 (by kernel_rfl) (fun x6 h7 => ?_)))))))))
  have HR := hr_lt HR h5
  have HR := hr_lt HR h7
  have hw_x6 := h7; rw [wrI] at hw_x6; unfold wrap64 at hw_x6
  have hw_x4 := h5; rw [wrI] at hw_x4; unfold wrap64 at hw_x4
  refine S_make 3 x6 hM3 (by omega) (by kernel_rfl) (fun g8 l9 h10 w11 hM12 => ?_)
  have hlen_l9 : List.length l9 = Int.toNat x6 := by rw [← h10]; simp
  have HR := hr_lt HR h10
  refine S_val (.slice (some ⟨g8, 0, none⟩) (Int.toNat x6) (Int.toNat x6)) (by kernel_rfl) (S_nil (R_seq (R_region (S_val (.slice (some ⟨g8, 0, none⟩) (Int.toNat x6) (Int.toNat x6)) (by kernel_rfl) (S_val (.int .i64 n) (by kernel_rfl) (S_int (IntKind.i64.wrap (Int.tdiv n 16)) .i64 (by kernel_rfl) (fun x13 h14 => S_val (.int .i64 n) (by kernel_rfl) (S_int (Int.tmod n 16) .i64 (by kernel_rfl) (fun x15 h16 => ?_)))))))))
  have HR := hr_lt HR h14
  have HR := hr_lt HR h16
  refine S_shl x15 (by omega) (by kernel_rfl) (fun x17 h18 => ?_)
  have HR := hr_lt HR h18
  have hw_x13 := h14; rw [wrI] at hw_x13; unfold wrap64 at hw_x13
  refine S_idx 3 1 g8 0 (Int.toNat x6) (Int.toNat x6) x13 (by omega) (by kernel_rfl) (?_)
  have hw_x13 := h14; rw [wrI] at hw_x13; unfold wrap64 at hw_x13
  refine S_storeO 0 x13 l9 [] x17 hM12 (by omega) (by kernel_rfl) (fun l19 h20 w21 hM22 => ?_)
  have hlen_l19 : List.length l19 = List.length l9 := by rw [← h20]; simp
  have HR := hr_lt HR h20
  refine S_nil (R_seq (R_region (S_val (.slice (some ⟨g8, 0, none⟩) (Int.toNat x6) (Int.toNat x6)) (by kernel_rfl) (S_val (.agg #[.bool false, .slice (some ⟨g8, 0, none⟩) (Int.toNat x6) (Int.toNat x6)]) (by kernel_rfl) (S_store 1 0 #[.bool false, .slice (some ⟨g8, 0, none⟩) (Int.toNat x6) (Int.toNat x6)] hM22 (by kernel_rfl) (fun w23 hM24 => S_nil (?_)))))))
  have hM25 := hM24.freeze 0 l19 [] (by kernel_rfl)
  refine R_ret hM25 rfl (.cons (.cell _ _ 0 0 (.agg #[.bool false, .slice (some ⟨g8, 0, none⟩) (Int.toNat x6) (Int.toNat x6)]) (by kernel_rfl)) .nil) rfl ?_
  exact hM25.retN 0 rfl (by omega) (Nat.le_refl _) HR

def e_umbraref01_half (r : Bool × List Int) : Bool × List Int := r
def L3_umbraref01_half (bP : Bool) (lP : List (Int)) : Nat → (Int) → (List Int) → (Int × List Int)
  | 0, _, _ => default
  | f12 + 1, k, o =>
    if k < (Int.toNat (List.length lP : Int) : Int) then
      lt (Int.fdiv (gd 0 lP k) (2 ^ 1)) fun x26 =>
      lt (IntKind.i64.wrap (k + 1)) fun x28 =>
      lt (s_umbraref01_digit bP lP x28) fun r32 =>
      lt (bits .and .i64 r32 1) fun x34 =>
      lt (IntKind.i64.wrap (x34 * 2 ^ 15)) fun x36 =>
      lt (bits .or .i64 x26 x36) fun x38 =>
      lt (List.set o (Int.toNat k) x38) fun l42 =>
      lt (IntKind.i64.wrap (k + 1)) fun x46 =>
      L3_umbraref01_half bP lP f12 x46 l42
    else
      (k, o)
def s_umbraref01_half (bP : Bool) (lP : List (Int)) : Bool × List Int :=
  lt (List.replicate (Int.toNat (List.length lP : Int)) (0 : Int)) fun l8 =>
  lt (L3_umbraref01_half bP lP (Int.toNat ((List.length lP : Int) - 0) + 1) 0 l8) fun E18 =>
  lt (s_umbraref01_trim false E18.2) fun r49 =>
  (r49.1, r49.2)
set_option maxRecDepth 100000 in
set_option maxHeartbeats 4000000 in
theorem w_umbraref01_half (bP : Bool) (lP : List (Int))  (AP : Option Addr) (nP cP : Nat) (hnP : nP = List.length lP) (hcP : nP ≤ cP) (hl : List.length lP ≤ 1000) (w : World) (hAP : Ent w (AP, nv lP)) : Calls Try.prog 91 #[.agg #[.bool bP, .slice AP nP cP]] w (RetN w [(AP, nv lP)] (e_umbraref01_half (s_umbraref01_half bP lP))) := by
  subst hnP
  obtain ⟨R, HR⟩ : ∃ R, e_umbraref01_half (s_umbraref01_half bP lP) = R := ⟨_, rfl⟩
  rw [HR]
  unfold s_umbraref01_half at HR
  have hM0 := St.startN (w := w) [(AP, nv lP)] (ents hAP ents0)
  refine calls_run Try.func91 rfl ?_
  refine R_seq (R_region (S_fresh none #[.bool bP, .slice AP (List.length lP) cP] 113 hM0 (by kernel_rfl) (fun g1 w2 hM3 => S_fresh none #[.bool false, .slice none 0 0] 113 hM3 (by kernel_rfl) (fun g4 w5 hM6 => S_nil (R_seq (R_region (S_val (.pointer (some ⟨g1, 1, none⟩)) (by kernel_rfl) (S_load 1 1 (.slice AP (List.length lP) cP) hM6 (by kernel_rfl) (S_val (.int .i64 (List.length lP : Int)) (by kernel_rfl) (?_))))))))))
  refine S_make 3 (List.length lP : Int) hM6 (by omega) (by kernel_rfl) (fun g7 l8 h9 w10 hM11 => ?_)
  have hlen_l8 : List.length l8 = Int.toNat (List.length lP : Int) := by rw [← h9]; simp
  have HR := hr_lt HR h9
  refine S_val (.slice (some ⟨g7, 0, none⟩) (Int.toNat (List.length lP : Int)) (Int.toNat (List.length lP : Int))) (by kernel_rfl) (S_nil (R_seq (R_seq (R_region (S_val (.int .i64 0) (by kernel_rfl) (S_nil (R_block (?_))))))))
  obtain ⟨E18, HE19⟩ : ∃ E, L3_umbraref01_half bP lP (Int.toNat ((List.length lP : Int) - 0) + 1) 0 l8 = E := ⟨_, rfl⟩
  have HR := hr_lt HR HE19
  refine R_fuel (fun m13 a14 w15 => ∃ (k : Int) (o : List Int) (u1 : List Value), a14 = { tmps := #[.agg #[.bool bP, .slice AP (List.length lP) cP], .pointer (some ⟨g1, 0, none⟩), .pointer (some ⟨g4, 0, none⟩), .slice (some ⟨g7, 0, none⟩) (Int.toNat (List.length lP : Int)) (Int.toNat (List.length lP : Int)), .int .i64 k, .pointer (some ⟨g1, 1, none⟩), .slice AP (List.length lP) cP, .int .i64 (List.length lP : Int), .slice (some ⟨g7, 0, none⟩) (Int.toNat (List.length lP : Int)) (Int.toNat (List.length lP : Int)), (gv u1 0), (gv u1 1), (gv u1 2), (gv u1 3), (gv u1 4), (gv u1 5), (gv u1 6), (gv u1 7), (gv u1 8), (gv u1 9), (gv u1 10), (gv u1 11), (gv u1 12), (gv u1 13), (gv u1 14), (gv u1 15), (gv u1 16), (gv u1 17), (gv u1 18), (gv u1 19), (gv u1 20), (gv u1 21), undef, undef, undef], defers := [] } ∧ St ⟨w, [(AP, nv lP)], [(none, nv ([])), (AP, nv lP)]⟩ [⟨g7, ⟨nv o ++ []⟩, 3, (0, 0), true⟩, ⟨g4, #[.bool false, .slice none 0 0], 113, (0, 0), true⟩, ⟨g1, #[.bool bP, .slice AP (List.length lP) cP], 113, (0, 0), true⟩] w15 ∧ (List.length lP : Int) - k < (m13 : Int) ∧ ((0 ≤ k ∧ k ≤ (List.length lP : Int) ∧ List.length o = List.length lP)) ∧ L3_umbraref01_half bP lP m13 k o = E18) (Int.toNat ((List.length lP : Int) - 0) + 1) ⟨0, l8, [undef, undef, undef, undef, undef, undef, undef, undef, undef, undef, undef, undef, undef, undef, undef, undef, undef, undef, undef, undef, undef, undef], by kernel_rfl, hM11, by omega, (by omega), HE19⟩ ?_
  rintro m13 a14 w15 ⟨k, o, u1, rfl, hM16, hmu1, hk_1, HE19⟩ hnext17
  obtain ⟨f12, rfl⟩ : ∃ f, m13 = f + 1 := ⟨m13 - 1, by omega⟩
  rw [L3_umbraref01_half] at HE19
  refine R_seq (R_seq (R_region (S_val (.int .i64 k) (by kernel_rfl) (S_val (.slice (some ⟨g7, 0, none⟩) (Int.toNat (List.length lP : Int)) (Int.toNat (List.length lP : Int))) (by kernel_rfl) (S_val (.int .i64 (Int.toNat (List.length lP : Int) : Int)) (by kernel_rfl) (?_))))))
  refine S_dec (k < (Int.toNat (List.length lP : Int) : Int)) (by kernel_rfl) (fun c20 => ?_) (fun c20 => ?_)
  · refine S_nil (R_yes (by kernel_rfl) (R_skip (R_seq (R_block (R_drawF 16 (by kernel_rfl) (fun F21 U22 hL23 => F_val (.slice (some ⟨g7, 0, none⟩) (Int.toNat (List.length lP : Int)) (Int.toNat (List.length lP : Int))) (fun _ => by kernel_rfl) (F_val (.int .i64 k) (fun _ => by kernel_rfl) (F_val (.pointer (some ⟨g1, 1, none⟩)) (fun _ => by kernel_rfl) (F_load 2 1 (.slice AP (List.length lP) cP) hM16 (by kernel_rfl) (F_val (.int .i64 k) (fun _ => by kernel_rfl) (?_)))))))))))
    have HE19 := hq_pos HE19 c20
    obtain ⟨b24, off25, rfl⟩ := Rd.op (i := k) (hM16.rd 1 rfl) (by omega)
    refine F_idx 3 1 b24 off25 (List.length lP) cP k (by omega) (by kernel_rfl) (F_loadR iE 1 0 k 0 b24 off25 (.int .i64 (gd 0 lP k)) (hM16.rd 1 rfl) iE_len (by omega) (by kernel_rfl) (F_int (Int.fdiv (gd 0 lP k) (2 ^ 1)) .i64 (fun _ => by kernel_rfl) (fun x26 h27 => F_load 2 0 (.agg #[.bool bP, .slice (some ⟨b24, off25, none⟩) (List.length lP) cP]) hM16 (by kernel_rfl) (F_val (.int .i64 k) (fun _ => by kernel_rfl) (F_int (IntKind.i64.wrap (k + 1)) .i64 (fun _ => by kernel_rfl) (fun x28 h29 => ?_))))))
    have HE19 := hq_lt HE19 h27
    have HE19 := hq_lt HE19 h29
    have hw_x28 := h29; rw [wrI] at hw_x28; unfold wrap64 at hw_x28
    refine F_call (s_umbraref01_digit bP lP x28) (fun r : Int => .int .i64 r) hM16 hL23 (fun w' hM' => w_umbraref01_digit bP lP x28 (some ⟨b24, off25, none⟩) (List.length lP) cP rfl hcP (by omega) w' (hM'.ent 1 rfl)) (by kernel_rfl) (fun _ => by kernel_rfl) (fun r32 h33 => F_int (bits .and .i64 r32 1) .i64 (fun _ => by kernel_rfl) (fun x34 h35 => F_int (IntKind.i64.wrap (x34 * 2 ^ 15)) .i64 (fun _ => by kernel_rfl) (fun x36 h37 => F_int (bits .or .i64 x26 x36) .i64 (fun _ => by kernel_rfl) (fun x38 h39 => ?_))))
    have HE19 := hq_lt HE19 h33
    have HE19 := hq_lt HE19 h35
    have HE19 := hq_lt HE19 h37
    have HE19 := hq_lt HE19 h39
    refine F_idx 3 1 g7 0 (Int.toNat (List.length lP : Int)) (Int.toNat (List.length lP : Int)) k (by omega) (by kernel_rfl) (F_nil hM16 hL23 (fun w40 hM41 => ?_))
    refine S_storeO 0 k o [] x38 hM41 (by omega) (by kernel_rfl) (fun l42 h43 w44 hM45 => ?_)
    have hlen_l42 : List.length l42 = List.length o := by rw [← h43]; simp
    have HE19 := hq_lt HE19 h43
    refine S_nil (R_inBlock (R_region (S_val (.int .i64 k) (by kernel_rfl) (S_int (IntKind.i64.wrap (k + 1)) .i64 (by kernel_rfl) (fun x46 h47 => S_val (.int .i64 x46) (by kernel_rfl) (S_nil (?_)))))))
    have HE19 := hq_lt HE19 h47
    have hw_x46 := h47; rw [wrI] at hw_x46; unfold wrap64 at hw_x46
    exact hnext17 f12 _ _ (Nat.lt_succ_self _) ⟨x46, l42, [.int .i64 k, .slice (some ⟨g7, 0, none⟩) (Int.toNat (List.length lP : Int)) (Int.toNat (List.length lP : Int)), .int .i64 (Int.toNat (List.length lP : Int) : Int), .bool true, .int .i64 k, .int .i64 x46, .slice (some ⟨g7, 0, none⟩) (Int.toNat (List.length lP : Int)) (Int.toNat (List.length lP : Int)), .int .i64 k, .pointer (some ⟨g1, 1, none⟩), .slice (some ⟨b24, off25, none⟩) (List.length lP) cP, .int .i64 k, .pointer (some ⟨b24, off25 + Int.toNat k * 1 + 0, none⟩), .int .i64 (gd 0 lP k), .int .i64 x26, .agg #[.bool bP, .slice (some ⟨b24, off25, none⟩) (List.length lP) cP], .int .i64 k, .int .i64 x28, .int .i64 r32, .int .i64 x34, .int .i64 x36, .int .i64 x38, .pointer (some ⟨g7, 0 + Int.toNat k * 1 + 0, none⟩)], by kernel_rfl, hM45, by omega, (by omega), HE19⟩
  · refine S_nil (R_no (by kernel_rfl) (R_exit rfl (?_)))
    have HE19 := hq_neg HE19 c20
    subst HE19
    refine R_seq (R_region (S_val (.slice (some ⟨g7, 0, none⟩) (Int.toNat (List.length lP : Int)) (Int.toNat (List.length lP : Int))) (by kernel_rfl) (S_val (.agg #[.bool false, .slice (some ⟨g7, 0, none⟩) (Int.toNat (List.length lP : Int)) (Int.toNat (List.length lP : Int))]) (by kernel_rfl) (?_))))
    have hM48 := hM16.freeze 0 o [] (by kernel_rfl)
    refine S_callN (s_umbraref01_trim false o) [((some ⟨g7, 0, none⟩), nv o)] hM48 (w_umbraref01_trim false o (some ⟨g7, 0, none⟩) (Int.toNat (List.length lP : Int)) (Int.toNat (List.length lP : Int)) (by omega) (Nat.le_refl _) (by first | omega | simp) w15 (hM48.ent 0 rfl)) (subc 0 rfl sub0) (by kernel_rfl) (fun r49 h50 A51 cap52 hc53 w54 hM55 => S_store 0 0 #[.bool r49.1, .slice A51 (List.length r49.2) cap52] hM55 (by kernel_rfl) (fun w56 hM57 => S_nil (?_)))
    have HR := hr_lt HR h50
    refine R_ret hM57 rfl (.cons (.cell _ _ 0 0 (.agg #[.bool r49.1, .slice A51 (List.length r49.2) cap52]) (by kernel_rfl)) .nil) rfl ?_
    exact hM57.retN 0 rfl rfl hc53 HR

def Dg (l : List Int) : Prop := ∀ j : Int, 0 ≤ gd 0 l j ∧ gd 0 l j ≤ 65535
def Zt (l : List Int) (n : Int) : Prop := ∀ j : Int, 0 ≤ j → n ≤ j → gd 0 l j = 0
theorem gd_set (l : List Int) {i : Int} (hi : 0 ≤ i ∧ i < (List.length l : Int)) (v j : Int) (hj : 0 ≤ j) : gd 0 (List.set l (Int.toNat i) v) j = if j = i then v else gd 0 l j := by
  unfold gd
  rw [List.getD_eq_getElem?_getD, List.getD_eq_getElem?_getD, List.getElem?_set]
  by_cases h : j = i
  · subst h
    rw [if_pos rfl, if_pos rfl, if_pos (by omega)]
    rfl
  · rw [if_neg h, if_neg (by omega)]
theorem gd_neg (l : List Int) {j : Int} (hj : j < 0) : gd 0 l j = gd 0 l 0 := by
  unfold gd
  rw [show Int.toNat j = 0 by omega]
  rfl
theorem gd_rep (n : Nat) (j : Int) : gd 0 (List.replicate n (0 : Int)) j = 0 := by
  unfold gd
  rw [List.getD_eq_getElem?_getD, List.getElem?_replicate]
  split <;> rfl
theorem w64' {n : Int} (h : -9223372036854775808 ≤ n ∧ n ≤ 9223372036854775807) : wrap64 n = n := by unfold wrap64; omega
theorem pb {x y X Y : Int} (hx : 0 ≤ x ∧ x ≤ X) (hy : 0 ≤ y ∧ y ≤ Y) : 0 ≤ x * y ∧ x * y ≤ X * Y := by
  have h1 := Int.mul_nonneg hx.1 hy.1
  have h2 := Int.mul_nonneg (show 0 ≤ X - x by omega) (show 0 ≤ Y by omega)
  have h3 := Int.mul_nonneg hx.1 (show 0 ≤ Y - y by omega)
  have e1 : (X - x) * Y = X * Y - x * Y := Int.sub_mul _ _ _
  have e2 : x * (Y - y) = x * Y - x * y := Int.mul_sub _ _ _
  omega
theorem dig_rng {l : List Int} (h : Dg l) (b : Bool) (k : Int) : 0 ≤ s_umbraref01_digit b l k ∧ s_umbraref01_digit b l k ≤ 65535 := by
  unfold s_umbraref01_digit
  split
  · exact h k
  · omega
theorem dig_far {l : List Int} (b : Bool) {k : Int} (hk : (List.length l : Int) ≤ k) : s_umbraref01_digit b l k = 0 := by
  unfold s_umbraref01_digit
  rw [if_neg (by omega)]
/-- One step of the inner loop, with no wrap left. -/
theorem tnow {x y c p X1 X2 X3 : Int} (hx : 0 ≤ x ∧ x ≤ 65535) (hy : 0 ≤ y ∧ y ≤ 65535) (hp : 0 ≤ p ∧ p ≤ 65535) (hc : 0 ≤ c ∧ c ≤ 65535) (e1 : IntKind.i64.wrap (x * y) = X1) (e2 : IntKind.i64.wrap (p + X1) = X2) (e3 : IntKind.i64.wrap (X2 + c) = X3) : X3 = p + x * y + c ∧ 0 ≤ X3 ∧ X3 ≤ 4294967295 := by
  rw [wrI] at e1 e2 e3
  have h := pb hx hy
  simp only [show (65535 : Int) * 65535 = 4294836225 by decide] at h
  rw [w64' (by omega)] at e1
  subst e1
  rw [w64' (by omega)] at e2
  subst e2
  rw [w64' (by omega)] at e3
  omega
theorem low16 (x : Int) : bits .and .i64 x 65535 = x % 65536 := i64_mask 16 (by omega) x
theorem high16 (x : Int) : Int.fdiv x (2 ^ 16) = x / 65536 := Int.fdiv_eq_ediv_of_nonneg _ (by decide)
theorem tstep {lP lQ p l' : List Int} {bQ : Bool} {i k carry x40 r46 x48 x50 x52 x56 x58 x64 x66 : Int} (hP : Dg lP) (hQ : Dg lQ) (hp : Dg p) (hc : 0 ≤ carry ∧ carry ≤ 65535) (hz : Zt p (max (i + (List.length lQ : Int)) (i + k)))
    (hi : 0 ≤ i ∧ i < (List.length lP : Int)) (hk : 0 ≤ k ∧ k ≤ (List.length lQ : Int)) (hlen : (List.length p : Int) = (List.length lP : Int) + (List.length lQ : Int) + 1) (hl : List.length lP ≤ 400) (hm : List.length lQ ≤ 400)
    (e1 : IntKind.i64.wrap (i + k) = x40) (e2 : s_umbraref01_digit bQ lQ k = r46) (e3 : IntKind.i64.wrap (gd 0 lP i * r46) = x48) (e4 : IntKind.i64.wrap (gd 0 p x40 + x48) = x50) (e5 : IntKind.i64.wrap (x50 + carry) = x52)
    (e6 : IntKind.i64.wrap (i + k) = x56) (e7 : bits .and .i64 x52 65535 = x58) (e8 : List.set p (Int.toNat x56) x58 = l') (e9 : Int.fdiv x52 (2 ^ 16) = x64) (e10 : IntKind.i64.wrap (k + 1) = x66) :
    Dg l' ∧ (0 ≤ x64 ∧ x64 ≤ 65535) ∧ Zt l' (max (i + (List.length lQ : Int)) (i + x66)) ∧ (x66 = (List.length lQ : Int) + 1 → x64 = 0) := by
  rw [wrI, w64' (by omega)] at e1 e6 e10
  subst e1 e6 e10
  have hd := dig_rng hQ bQ k
  rw [e2] at hd
  obtain ⟨hX, hX1, hX2⟩ := tnow (hP i) hd (hp (i + k)) hc e3 e4 e5
  rw [low16] at e7
  rw [high16] at e9
  subst e7 e9 e8
  have hset := fun j (hj : 0 ≤ j) => gd_set p (i := i + k) (by omega) (x52 % 65536) j hj
  refine ⟨fun j => ?_, by omega, fun j h0 hj => ?_, fun hk' => ?_⟩
  · by_cases h0 : 0 ≤ j
    · rw [hset j h0]
      split
      · omega
      · exact hp j
    · rw [gd_neg _ (by omega), hset 0 (by omega)]
      split
      · omega
      · exact hp 0
  · rw [hset j h0, if_neg (by omega)]
    exact hz j h0 (by omega)
  · have hkk : k = (List.length lQ : Int) := by omega
    rw [dig_far bQ (by omega)] at e2
    subst e2
    rw [Int.mul_zero] at hX
    have := hz (i + k) (by omega) (by omega)
    omega
theorem Zt.mono {l : List Int} {n m : Int} (h : Zt l n) (hm : n ≤ m) : Zt l m := fun j h0 hj => h j h0 (by omega)
theorem Dg_rep (n : Nat) : Dg (List.replicate n (0 : Int)) := fun j => by rw [gd_rep]; omega
theorem Zt_rep (n : Nat) (m : Int) : Zt (List.replicate n (0 : Int)) m := fun j _ _ => gd_rep n j

def e_umbraref01_Times (r : Bool × List Int) : Bool × List Int := r
def L7_umbraref01_Times (bP : Bool) (lP : List (Int)) (bQ : Bool) (lQ : List (Int)) (i : Int) : Nat → (Int) → (Int) → (List Int) → (Int × Int × List Int)
  | 0, _, _, _ => default
  | f28 + 1, carry, k, p =>
    if k < (List.length lQ : Int) then
      lt (IntKind.i64.wrap (i + k)) fun x40 =>
      lt (s_umbraref01_digit bQ lQ k) fun r46 =>
      lt (IntKind.i64.wrap ((gd 0 lP i) * r46)) fun x48 =>
      lt (IntKind.i64.wrap ((gd 0 p x40) + x48)) fun x50 =>
      lt (IntKind.i64.wrap (x50 + carry)) fun x52 =>
      lt (IntKind.i64.wrap (i + k)) fun x56 =>
      lt (bits .and .i64 x52 65535) fun x58 =>
      lt (List.set p (Int.toNat x56) x58) fun l60 =>
      lt (Int.fdiv x52 (2 ^ 16)) fun x64 =>
      lt (IntKind.i64.wrap (k + 1)) fun x66 =>
      L7_umbraref01_Times bP lP bQ lQ i f28 x64 x66 l60
    else
      if carry > 0 then
        lt (IntKind.i64.wrap (i + k)) fun x72 =>
        lt (s_umbraref01_digit bQ lQ k) fun r78 =>
        lt (IntKind.i64.wrap ((gd 0 lP i) * r78)) fun x80 =>
        lt (IntKind.i64.wrap ((gd 0 p x72) + x80)) fun x82 =>
        lt (IntKind.i64.wrap (x82 + carry)) fun x84 =>
        lt (IntKind.i64.wrap (i + k)) fun x88 =>
        lt (bits .and .i64 x84 65535) fun x90 =>
        lt (List.set p (Int.toNat x88) x90) fun l92 =>
        lt (Int.fdiv x84 (2 ^ 16)) fun x96 =>
        lt (IntKind.i64.wrap (k + 1)) fun x98 =>
        L7_umbraref01_Times bP lP bQ lQ i f28 x96 x98 l92
      else
        (carry, k, p)
def L3_umbraref01_Times (bP : Bool) (lP : List (Int)) (bQ : Bool) (lQ : List (Int)) : Nat → (Int) → (List Int) → (Int × List Int)
  | 0, _, _ => default
  | f19 + 1, i, o =>
    if i < (List.length lP : Int) then
      lt (L7_umbraref01_Times bP lP bQ lQ i (Int.toNat ((List.length lQ : Int) + 1 - 0) + 1) 0 0 o) fun E34 =>
      lt (IntKind.i64.wrap (i + 1)) fun x100 =>
      L3_umbraref01_Times bP lP bQ lQ f19 x100 E34.2.2
    else
      (i, o)
def s_umbraref01_Times (bP : Bool) (lP : List (Int)) (bQ : Bool) (lQ : List (Int)) : Bool × List Int :=
  lt (IntKind.i64.wrap ((List.length lP : Int) + (List.length lQ : Int))) fun x10 =>
  lt (IntKind.i64.wrap (x10 + 1)) fun x12 =>
  lt (List.replicate (Int.toNat x12) (0 : Int)) fun l15 =>
  lt (L3_umbraref01_Times bP lP bQ lQ (Int.toNat ((List.length lP : Int) - 0) + 1) 0 l15) fun E25 =>
  if bP = bQ then
    lt (s_umbraref01_trim false E25.2) fun r114 =>
    (r114.1, r114.2)
  else
    lt (s_umbraref01_trim true E25.2) fun r104 =>
    (r104.1, r104.2)
set_option maxRecDepth 100000 in
set_option maxHeartbeats 4000000 in
theorem w_umbraref01_Times (bP : Bool) (lP : List (Int)) (bQ : Bool) (lQ : List (Int))  (AP : Option Addr) (nP cP : Nat) (AQ : Option Addr) (nQ cQ : Nat) (hnP : nP = List.length lP) (hcP : nP ≤ cP) (hnQ : nQ = List.length lQ) (hcQ : nQ ≤ cQ) (hl : List.length lP ≤ 400) (hm : List.length lQ ≤ 400) (hDP : Dg lP) (hDQ : Dg lQ) (w : World) (hAP : Ent w (AP, nv lP)) (hAQ : Ent w (AQ, nv lQ)) : Calls Try.prog 56 #[.agg #[.bool bP, .slice AP nP cP], .agg #[.bool bQ, .slice AQ nQ cQ]] w (RetN w [(AP, nv lP), (AQ, nv lQ)] (e_umbraref01_Times (s_umbraref01_Times bP lP bQ lQ))) := by
  subst hnP
  subst hnQ
  obtain ⟨R, HR⟩ : ∃ R, e_umbraref01_Times (s_umbraref01_Times bP lP bQ lQ) = R := ⟨_, rfl⟩
  rw [HR]
  unfold s_umbraref01_Times at HR
  have hM0 := St.startN (w := w) [(AP, nv lP), (AQ, nv lQ)] (ents hAP (ents hAQ ents0))
  refine calls_run Try.func56 rfl ?_
  refine R_seq (R_region (S_fresh none #[.bool bP, .slice AP (List.length lP) cP] 113 hM0 (by kernel_rfl) (fun g1 w2 hM3 => S_fresh none #[.bool bQ, .slice AQ (List.length lQ) cQ] 113 hM3 (by kernel_rfl) (fun g4 w5 hM6 => S_fresh none #[.bool false, .slice none 0 0] 113 hM6 (by kernel_rfl) (fun g7 w8 hM9 => S_nil (R_seq (R_region (S_val (.pointer (some ⟨g1, 1, none⟩)) (by kernel_rfl) (S_load 2 1 (.slice AP (List.length lP) cP) hM9 (by kernel_rfl) (S_val (.int .i64 (List.length lP : Int)) (by kernel_rfl) (S_val (.pointer (some ⟨g4, 1, none⟩)) (by kernel_rfl) (?_))))))))))))
  refine S_load 1 1 (.slice AQ (List.length lQ) cQ) hM9 (by kernel_rfl) (S_val (.int .i64 (List.length lQ : Int)) (by kernel_rfl) (S_int (IntKind.i64.wrap ((List.length lP : Int) + (List.length lQ : Int))) .i64 (by kernel_rfl) (fun x10 h11 => S_int (IntKind.i64.wrap (x10 + 1)) .i64 (by kernel_rfl) (fun x12 h13 => ?_))))
  have HR := hr_lt HR h11
  have HR := hr_lt HR h13
  have hw_x12 := h13; rw [wrI] at hw_x12; unfold wrap64 at hw_x12
  have hw_x10 := h11; rw [wrI] at hw_x10; unfold wrap64 at hw_x10
  refine S_make 3 x12 hM9 (by omega) (by kernel_rfl) (fun g14 l15 h16 w17 hM18 => ?_)
  have hlen_l15 : List.length l15 = Int.toNat x12 := by rw [← h16]; simp
  have HR := hr_lt HR h16
  refine S_val (.slice (some ⟨g14, 0, none⟩) (Int.toNat x12) (Int.toNat x12)) (by kernel_rfl) (S_nil (R_seq (R_seq (R_region (S_val (.int .i64 0) (by kernel_rfl) (S_nil (R_block (?_))))))))
  obtain ⟨E25, HE26⟩ : ∃ E, L3_umbraref01_Times bP lP bQ lQ (Int.toNat ((List.length lP : Int) - 0) + 1) 0 l15 = E := ⟨_, rfl⟩
  have HR := hr_lt HR HE26
  refine R_fuel (fun m20 a21 w22 => ∃ (i : Int) (o : List Int) (u1 : List Value), a21 = { tmps := #[.agg #[.bool bP, .slice AP (List.length lP) cP], .agg #[.bool bQ, .slice AQ (List.length lQ) cQ], .pointer (some ⟨g1, 0, none⟩), .pointer (some ⟨g4, 0, none⟩), .pointer (some ⟨g7, 0, none⟩), .slice (some ⟨g14, 0, none⟩) (Int.toNat x12) (Int.toNat x12), .int .i64 i, (gv u1 0), (gv u1 1), (gv u1 2), .pointer (some ⟨g1, 1, none⟩), .slice AP (List.length lP) cP, .int .i64 (List.length lP : Int), .pointer (some ⟨g4, 1, none⟩), .slice AQ (List.length lQ) cQ, .int .i64 (List.length lQ : Int), .int .i64 x10, .int .i64 x12, .slice (some ⟨g14, 0, none⟩) (Int.toNat x12) (Int.toNat x12), (gv u1 3), (gv u1 4), (gv u1 5), (gv u1 6), (gv u1 7), (gv u1 8), (gv u1 9), (gv u1 10), (gv u1 11), (gv u1 12), (gv u1 13), (gv u1 14), (gv u1 15), (gv u1 16), (gv u1 17), (gv u1 18), (gv u1 19), (gv u1 20), (gv u1 21), (gv u1 22), (gv u1 23), (gv u1 24), (gv u1 25), (gv u1 26), (gv u1 27), (gv u1 28), (gv u1 29), (gv u1 30), (gv u1 31), (gv u1 32), (gv u1 33), (gv u1 34), (gv u1 35), (gv u1 36), (gv u1 37), (gv u1 38), (gv u1 39), (gv u1 40), (gv u1 41), (gv u1 42), (gv u1 43), (gv u1 44), (gv u1 45), (gv u1 46), (gv u1 47), undef, undef, undef, undef, undef, undef, undef, undef], defers := [] } ∧ St ⟨w, [(AP, nv lP), (AQ, nv lQ)], [(none, nv ([])), (AP, nv lP), (AQ, nv lQ)]⟩ [⟨g14, ⟨nv o ++ []⟩, 3, (0, 0), true⟩, ⟨g7, #[.bool false, .slice none 0 0], 113, (0, 0), true⟩, ⟨g4, #[.bool bQ, .slice AQ (List.length lQ) cQ], 113, (0, 0), true⟩, ⟨g1, #[.bool bP, .slice AP (List.length lP) cP], 113, (0, 0), true⟩] w22 ∧ (List.length lP : Int) - i < (m20 : Int) ∧ ((0 ≤ i ∧ i ≤ (List.length lP : Int) ∧ (List.length o : Int) = ((List.length lP : Int) + (List.length lQ : Int) + 1))) ∧ (Dg o) ∧ (Zt o (i + (List.length lQ : Int))) ∧ L3_umbraref01_Times bP lP bQ lQ m20 i o = E25) (Int.toNat ((List.length lP : Int) - 0) + 1) ⟨0, l15, [undef, undef, undef, undef, undef, undef, undef, undef, undef, undef, undef, undef, undef, undef, undef, undef, undef, undef, undef, undef, undef, undef, undef, undef, undef, undef, undef, undef, undef, undef, undef, undef, undef, undef, undef, undef, undef, undef, undef, undef, undef, undef, undef, undef, undef, undef, undef, undef], by kernel_rfl, hM18, by omega, (by omega), (h16 ▸ Dg_rep _), (h16 ▸ Zt_rep _ _), HE26⟩ ?_
  rintro m20 a21 w22 ⟨i, o, u1, rfl, hM23, hmu1, hk_1, hD_1, hZ_1, HE26⟩ hnext24
  obtain ⟨f19, rfl⟩ : ∃ f, m20 = f + 1 := ⟨m20 - 1, by omega⟩
  rw [L3_umbraref01_Times] at HE26
  refine R_seq (R_seq (R_region (S_val (.int .i64 i) (by kernel_rfl) (S_val (.pointer (some ⟨g1, 1, none⟩)) (by kernel_rfl) (S_load 3 1 (.slice AP (List.length lP) cP) hM23 (by kernel_rfl) (S_val (.int .i64 (List.length lP : Int)) (by kernel_rfl) (?_)))))))
  refine S_dec (i < (List.length lP : Int)) (by kernel_rfl) (fun c27 => ?_) (fun c27 => ?_)
  · refine S_nil (R_yes (by kernel_rfl) (R_skip (R_seq (R_block (R_seq (R_region (S_val (.int .i64 0) (by kernel_rfl) (S_nil (R_seq (R_region (S_val (.int .i64 0) (by kernel_rfl) (?_))))))))))))
    have HE26 := hq_pos HE26 c27
    refine S_nil (R_block (?_))
    obtain ⟨E34, HE35⟩ : ∃ E, L7_umbraref01_Times bP lP bQ lQ i (Int.toNat ((List.length lQ : Int) + 1 - 0) + 1) 0 0 o = E := ⟨_, rfl⟩
    have HE26 := hq_lt HE26 HE35
    refine R_fuel (fun m29 a30 w31 => ∃ (carry : Int) (k : Int) (p : List Int) (u2 : List Value), a30 = { tmps := #[.agg #[.bool bP, .slice AP (List.length lP) cP], .agg #[.bool bQ, .slice AQ (List.length lQ) cQ], .pointer (some ⟨g1, 0, none⟩), .pointer (some ⟨g4, 0, none⟩), .pointer (some ⟨g7, 0, none⟩), .slice (some ⟨g14, 0, none⟩) (Int.toNat x12) (Int.toNat x12), .int .i64 i, .int .i64 carry, .int .i64 k, (gv u2 0), .pointer (some ⟨g1, 1, none⟩), .slice AP (List.length lP) cP, .int .i64 (List.length lP : Int), .pointer (some ⟨g4, 1, none⟩), .slice AQ (List.length lQ) cQ, .int .i64 (List.length lQ : Int), .int .i64 x10, .int .i64 x12, .slice (some ⟨g14, 0, none⟩) (Int.toNat x12) (Int.toNat x12), .int .i64 i, .pointer (some ⟨g1, 1, none⟩), .slice AP (List.length lP) cP, .int .i64 (List.length lP : Int), .bool true, (gv u1 8), (gv u1 9), (gv u2 1), (gv u2 2), (gv u2 3), (gv u2 4), (gv u2 5), (gv u2 6), (gv u2 7), (gv u2 8), (gv u2 9), (gv u2 10), (gv u2 11), (gv u2 12), (gv u2 13), (gv u2 14), (gv u2 15), (gv u2 16), (gv u2 17), (gv u2 18), (gv u2 19), (gv u2 20), (gv u2 21), (gv u2 22), (gv u2 23), (gv u2 24), (gv u2 25), (gv u2 26), (gv u2 27), (gv u2 28), (gv u2 29), (gv u2 30), (gv u2 31), (gv u2 32), (gv u2 33), (gv u2 34), (gv u2 35), (gv u2 36), (gv u2 37), (gv u2 38), undef, undef, undef, undef, undef, undef, undef, undef], defers := [] } ∧ St ⟨w, [(AP, nv lP), (AQ, nv lQ)], [(none, nv ([])), (AP, nv lP), (AQ, nv lQ)]⟩ [⟨g14, ⟨nv p ++ []⟩, 3, (0, 0), true⟩, ⟨g7, #[.bool false, .slice none 0 0], 113, (0, 0), true⟩, ⟨g4, #[.bool bQ, .slice AQ (List.length lQ) cQ], 113, (0, 0), true⟩, ⟨g1, #[.bool bP, .slice AP (List.length lP) cP], 113, (0, 0), true⟩] w31 ∧ (List.length lQ : Int) + 1 - k < (m29 : Int) ∧ ((0 ≤ k ∧ k ≤ (List.length lQ : Int) + 1 ∧ (List.length p : Int) = ((List.length lP : Int) + (List.length lQ : Int) + 1))) ∧ (Dg p) ∧ ((0 ≤ carry ∧ carry ≤ 65535)) ∧ (Zt p (max (i + (List.length lQ : Int)) (i + k))) ∧ ((k = (List.length lQ : Int) + 1 → carry = 0)) ∧ L7_umbraref01_Times bP lP bQ lQ i m29 carry k p = E34) (Int.toNat ((List.length lQ : Int) + 1 - 0) + 1) ⟨0, 0, o, [(gv u1 2), (gv u1 10), (gv u1 11), (gv u1 12), (gv u1 13), (gv u1 14), (gv u1 15), (gv u1 16), (gv u1 17), (gv u1 18), (gv u1 19), (gv u1 20), (gv u1 21), (gv u1 22), (gv u1 23), (gv u1 24), (gv u1 25), (gv u1 26), (gv u1 27), (gv u1 28), (gv u1 29), (gv u1 30), (gv u1 31), (gv u1 32), (gv u1 33), (gv u1 34), (gv u1 35), (gv u1 36), (gv u1 37), (gv u1 38), (gv u1 39), (gv u1 40), (gv u1 41), (gv u1 42), (gv u1 43), (gv u1 44), (gv u1 45), (gv u1 46), (gv u1 47)], by kernel_rfl, hM23, by omega, (by omega), hD_1, (by omega), (hZ_1.mono (by omega)), (fun q => rfl), HE35⟩ ?_
    rintro m29 a30 w31 ⟨carry, k, p, u2, rfl, hM32, hmu2, hj_2, hD_2, hc_2, hZ_2, hz_2, HE35⟩ hnext33
    obtain ⟨f28, rfl⟩ : ∃ f, m29 = f + 1 := ⟨m29 - 1, by omega⟩
    rw [L7_umbraref01_Times] at HE35
    refine R_seq (R_seq (R_region (S_val (.int .i64 k) (by kernel_rfl) (S_val (.pointer (some ⟨g4, 1, none⟩)) (by kernel_rfl) (S_load 2 1 (.slice AQ (List.length lQ) cQ) hM32 (by kernel_rfl) (S_val (.int .i64 (List.length lQ : Int)) (by kernel_rfl) (?_)))))))
    refine S_dec (k < (List.length lQ : Int)) (by kernel_rfl) (fun c36 => ?_) (fun c36 => ?_)
    · refine S_val (.bool true) (by kernel_rfl) (S_skip (by kernel_rfl) (S_skip (by kernel_rfl) (S_val (.bool true) (by kernel_rfl) (S_nil (R_yes (by kernel_rfl) (R_skip (R_seq (R_block (R_seq (R_drawF 19 (by kernel_rfl) (fun F37 U38 hL39 => F_val (.slice (some ⟨g14, 0, none⟩) (Int.toNat x12) (Int.toNat x12)) (fun _ => by kernel_rfl) (?_))))))))))))
      have HE35 := hq_pos HE35 c36
      refine F_val (.int .i64 i) (fun _ => by kernel_rfl) (F_val (.int .i64 k) (fun _ => by kernel_rfl) (F_int (IntKind.i64.wrap (i + k)) .i64 (fun _ => by kernel_rfl) (fun x40 h41 => ?_)))
      have HE35 := hq_lt HE35 h41
      have hw_x40 := h41; rw [wrI] at hw_x40; unfold wrap64 at hw_x40
      refine F_idx 3 1 g14 0 (Int.toNat x12) (Int.toNat x12) x40 (by omega) (by kernel_rfl) (F_loadR iE 1 0 x40 0 g14 0 (.int .i64 (gd 0 p x40)) (hM32.rdO 0 p [] (by kernel_rfl)) iE_len (by omega) (by kernel_rfl) (F_val (.pointer (some ⟨g1, 1, none⟩)) (fun _ => by kernel_rfl) (F_load 3 1 (.slice AP (List.length lP) cP) hM32 (by kernel_rfl) (F_val (.int .i64 i) (fun _ => by kernel_rfl) (?_)))))
      obtain ⟨b42, off43, rfl⟩ := Rd.op (i := i) (hM32.rd 1 rfl) (by omega)
      refine F_idx 3 1 b42 off43 (List.length lP) cP i (by omega) (by kernel_rfl) (F_loadR iE 1 0 i 0 b42 off43 (.int .i64 (gd 0 lP i)) (hM32.rd 1 rfl) iE_len (by omega) (by kernel_rfl) (F_load 2 0 (.agg #[.bool bQ, .slice AQ (List.length lQ) cQ]) hM32 (by kernel_rfl) (F_val (.int .i64 k) (fun _ => by kernel_rfl) (F_call (s_umbraref01_digit bQ lQ k) (fun r : Int => .int .i64 r) hM32 hL39 (fun w' hM' => w_umbraref01_digit bQ lQ k AQ (List.length lQ) cQ rfl hcQ (by omega) w' (hM'.ent 2 rfl)) (by kernel_rfl) (fun _ => by kernel_rfl) (fun r46 h47 => F_int (IntKind.i64.wrap ((gd 0 lP i) * r46)) .i64 (fun _ => by kernel_rfl) (fun x48 h49 => F_int (IntKind.i64.wrap ((gd 0 p x40) + x48)) .i64 (fun _ => by kernel_rfl) (fun x50 h51 => F_val (.int .i64 carry) (fun _ => by kernel_rfl) (F_int (IntKind.i64.wrap (x50 + carry)) .i64 (fun _ => by kernel_rfl) (fun x52 h53 => F_val (.int .i64 x52) (fun _ => by kernel_rfl) (F_nil hM32 hL39 (fun w54 hM55 => S_nil (?_))))))))))))
      have HE35 := hq_lt HE35 h47
      have HE35 := hq_lt HE35 h49
      have HE35 := hq_lt HE35 h51
      have HE35 := hq_lt HE35 h53
      refine R_seq (R_region (S_val (.slice (some ⟨g14, 0, none⟩) (Int.toNat x12) (Int.toNat x12)) (by kernel_rfl) (S_val (.int .i64 i) (by kernel_rfl) (S_val (.int .i64 k) (by kernel_rfl) (S_int (IntKind.i64.wrap (i + k)) .i64 (by kernel_rfl) (fun x56 h57 => S_val (.int .i64 x52) (by kernel_rfl) (S_int (bits .and .i64 x52 65535) .i64 (by kernel_rfl) (fun x58 h59 => ?_))))))))
      have HE35 := hq_lt HE35 h57
      have HE35 := hq_lt HE35 h59
      have hw_x56 := h57; rw [wrI] at hw_x56; unfold wrap64 at hw_x56
      refine S_idx 3 1 g14 0 (Int.toNat x12) (Int.toNat x12) x56 (by omega) (by kernel_rfl) (?_)
      have hw_x56 := h57; rw [wrI] at hw_x56; unfold wrap64 at hw_x56
      refine S_storeO 0 x56 p [] x58 hM55 (by omega) (by kernel_rfl) (fun l60 h61 w62 hM63 => ?_)
      have hlen_l60 : List.length l60 = List.length p := by rw [← h61]; simp
      have HE35 := hq_lt HE35 h61
      refine S_nil (R_region (S_val (.int .i64 x52) (by kernel_rfl) (S_int (Int.fdiv x52 (2 ^ 16)) .i64 (by kernel_rfl) (fun x64 h65 => S_val (.int .i64 x64) (by kernel_rfl) (S_nil (R_inBlock (R_region (S_val (.int .i64 k) (by kernel_rfl) (S_int (IntKind.i64.wrap (k + 1)) .i64 (by kernel_rfl) (fun x66 h67 => S_val (.int .i64 x66) (by kernel_rfl) (S_nil (?_))))))))))))
      have HE35 := hq_lt HE35 h65
      have HE35 := hq_lt HE35 h67
      obtain ⟨tD, tc, tZ, tz⟩ := tstep hDP hDQ hD_2 hc_2 hZ_2 (by omega) (by omega) (by omega) hl hm h41 h47 h49 h51 h53 h57 h59 h61 h65 h67
      have hw_x66 := h67; rw [wrI] at hw_x66; unfold wrap64 at hw_x66
      exact hnext33 f28 _ _ (Nat.lt_succ_self _) ⟨x64, x66, l60, [.int .i64 x52, .int .i64 k, .pointer (some ⟨g4, 1, none⟩), .slice AQ (List.length lQ) cQ, .int .i64 (List.length lQ : Int), .bool true, .bool true, undef, undef, .bool true, .int .i64 k, .int .i64 x66, .slice (some ⟨g14, 0, none⟩) (Int.toNat x12) (Int.toNat x12), .int .i64 i, .int .i64 k, .int .i64 x40, .pointer (some ⟨g14, 0 + Int.toNat x40 * 1 + 0, none⟩), .int .i64 (gd 0 p x40), .pointer (some ⟨g1, 1, none⟩), .slice (some ⟨b42, off43, none⟩) (List.length lP) cP, .int .i64 i, .pointer (some ⟨b42, off43 + Int.toNat i * 1 + 0, none⟩), .int .i64 (gd 0 lP i), .agg #[.bool bQ, .slice AQ (List.length lQ) cQ], .int .i64 k, .int .i64 r46, .int .i64 x48, .int .i64 x50, .int .i64 carry, .int .i64 x52, .slice (some ⟨g14, 0, none⟩) (Int.toNat x12) (Int.toNat x12), .int .i64 i, .int .i64 k, .int .i64 x56, .int .i64 x52, .int .i64 x58, .pointer (some ⟨g14, 0 + Int.toNat x56 * 1 + 0, none⟩), .int .i64 x52, .int .i64 x64], by kernel_rfl, hM63, by omega, (by omega), tD, tc, tZ, tz, HE35⟩
    · refine S_val (.bool false) (by kernel_rfl) (S_val (.int .i64 carry) (by kernel_rfl) (?_))
      have HE35 := hq_neg HE35 c36
      refine S_dec (carry > 0) (by kernel_rfl) (fun c68 => ?_) (fun c68 => ?_)
      · refine S_val (.bool true) (by kernel_rfl) (S_nil (R_yes (by kernel_rfl) (R_skip (R_seq (R_block (R_seq (R_drawF 19 (by kernel_rfl) (fun F69 U70 hL71 => F_val (.slice (some ⟨g14, 0, none⟩) (Int.toNat x12) (Int.toNat x12)) (fun _ => by kernel_rfl) (F_val (.int .i64 i) (fun _ => by kernel_rfl) (F_val (.int .i64 k) (fun _ => by kernel_rfl) (F_int (IntKind.i64.wrap (i + k)) .i64 (fun _ => by kernel_rfl) (fun x72 h73 => ?_))))))))))))
        have HE35 := hq_pos HE35 c68
        have HE35 := hq_lt HE35 h73
        have hw_x72 := h73; rw [wrI] at hw_x72; unfold wrap64 at hw_x72
        refine F_idx 3 1 g14 0 (Int.toNat x12) (Int.toNat x12) x72 (by omega) (by kernel_rfl) (F_loadR iE 1 0 x72 0 g14 0 (.int .i64 (gd 0 p x72)) (hM32.rdO 0 p [] (by kernel_rfl)) iE_len (by omega) (by kernel_rfl) (F_val (.pointer (some ⟨g1, 1, none⟩)) (fun _ => by kernel_rfl) (F_load 3 1 (.slice AP (List.length lP) cP) hM32 (by kernel_rfl) (F_val (.int .i64 i) (fun _ => by kernel_rfl) (?_)))))
        obtain ⟨b74, off75, rfl⟩ := Rd.op (i := i) (hM32.rd 1 rfl) (by omega)
        refine F_idx 3 1 b74 off75 (List.length lP) cP i (by omega) (by kernel_rfl) (F_loadR iE 1 0 i 0 b74 off75 (.int .i64 (gd 0 lP i)) (hM32.rd 1 rfl) iE_len (by omega) (by kernel_rfl) (F_load 2 0 (.agg #[.bool bQ, .slice AQ (List.length lQ) cQ]) hM32 (by kernel_rfl) (F_val (.int .i64 k) (fun _ => by kernel_rfl) (F_call (s_umbraref01_digit bQ lQ k) (fun r : Int => .int .i64 r) hM32 hL71 (fun w' hM' => w_umbraref01_digit bQ lQ k AQ (List.length lQ) cQ rfl hcQ (by omega) w' (hM'.ent 2 rfl)) (by kernel_rfl) (fun _ => by kernel_rfl) (fun r78 h79 => F_int (IntKind.i64.wrap ((gd 0 lP i) * r78)) .i64 (fun _ => by kernel_rfl) (fun x80 h81 => F_int (IntKind.i64.wrap ((gd 0 p x72) + x80)) .i64 (fun _ => by kernel_rfl) (fun x82 h83 => F_val (.int .i64 carry) (fun _ => by kernel_rfl) (F_int (IntKind.i64.wrap (x82 + carry)) .i64 (fun _ => by kernel_rfl) (fun x84 h85 => F_val (.int .i64 x84) (fun _ => by kernel_rfl) (F_nil hM32 hL71 (fun w86 hM87 => S_nil (?_))))))))))))
        have HE35 := hq_lt HE35 h79
        have HE35 := hq_lt HE35 h81
        have HE35 := hq_lt HE35 h83
        have HE35 := hq_lt HE35 h85
        refine R_seq (R_region (S_val (.slice (some ⟨g14, 0, none⟩) (Int.toNat x12) (Int.toNat x12)) (by kernel_rfl) (S_val (.int .i64 i) (by kernel_rfl) (S_val (.int .i64 k) (by kernel_rfl) (S_int (IntKind.i64.wrap (i + k)) .i64 (by kernel_rfl) (fun x88 h89 => S_val (.int .i64 x84) (by kernel_rfl) (S_int (bits .and .i64 x84 65535) .i64 (by kernel_rfl) (fun x90 h91 => ?_))))))))
        have HE35 := hq_lt HE35 h89
        have HE35 := hq_lt HE35 h91
        have hw_x88 := h89; rw [wrI] at hw_x88; unfold wrap64 at hw_x88
        refine S_idx 3 1 g14 0 (Int.toNat x12) (Int.toNat x12) x88 (by omega) (by kernel_rfl) (?_)
        have hw_x88 := h89; rw [wrI] at hw_x88; unfold wrap64 at hw_x88
        refine S_storeO 0 x88 p [] x90 hM87 (by omega) (by kernel_rfl) (fun l92 h93 w94 hM95 => ?_)
        have hlen_l92 : List.length l92 = List.length p := by rw [← h93]; simp
        have HE35 := hq_lt HE35 h93
        refine S_nil (R_region (S_val (.int .i64 x84) (by kernel_rfl) (S_int (Int.fdiv x84 (2 ^ 16)) .i64 (by kernel_rfl) (fun x96 h97 => S_val (.int .i64 x96) (by kernel_rfl) (S_nil (R_inBlock (R_region (S_val (.int .i64 k) (by kernel_rfl) (S_int (IntKind.i64.wrap (k + 1)) .i64 (by kernel_rfl) (fun x98 h99 => S_val (.int .i64 x98) (by kernel_rfl) (S_nil (?_))))))))))))
        have HE35 := hq_lt HE35 h97
        have HE35 := hq_lt HE35 h99
        obtain ⟨tD, tc, tZ, tz⟩ := tstep hDP hDQ hD_2 hc_2 hZ_2 (by omega) (by omega) (by omega) hl hm h73 h79 h81 h83 h85 h89 h91 h93 h97 h99
        have hw_x98 := h99; rw [wrI] at hw_x98; unfold wrap64 at hw_x98
        exact hnext33 f28 _ _ (Nat.lt_succ_self _) ⟨x96, x98, l92, [.int .i64 x84, .int .i64 k, .pointer (some ⟨g4, 1, none⟩), .slice AQ (List.length lQ) cQ, .int .i64 (List.length lQ : Int), .bool false, .bool false, .int .i64 carry, .bool true, .bool true, .int .i64 k, .int .i64 x98, .slice (some ⟨g14, 0, none⟩) (Int.toNat x12) (Int.toNat x12), .int .i64 i, .int .i64 k, .int .i64 x72, .pointer (some ⟨g14, 0 + Int.toNat x72 * 1 + 0, none⟩), .int .i64 (gd 0 p x72), .pointer (some ⟨g1, 1, none⟩), .slice (some ⟨b74, off75, none⟩) (List.length lP) cP, .int .i64 i, .pointer (some ⟨b74, off75 + Int.toNat i * 1 + 0, none⟩), .int .i64 (gd 0 lP i), .agg #[.bool bQ, .slice AQ (List.length lQ) cQ], .int .i64 k, .int .i64 r78, .int .i64 x80, .int .i64 x82, .int .i64 carry, .int .i64 x84, .slice (some ⟨g14, 0, none⟩) (Int.toNat x12) (Int.toNat x12), .int .i64 i, .int .i64 k, .int .i64 x88, .int .i64 x84, .int .i64 x90, .pointer (some ⟨g14, 0 + Int.toNat x88 * 1 + 0, none⟩), .int .i64 x84, .int .i64 x96], by kernel_rfl, hM95, by omega, (by omega), tD, tc, tZ, tz, HE35⟩
      · refine S_val (.bool false) (by kernel_rfl) (S_nil (R_no (by kernel_rfl) (R_exit rfl (?_))))
        have HE35 := hq_neg HE35 c68
        subst HE35
        refine R_inBlock (R_region (S_val (.int .i64 i) (by kernel_rfl) (S_int (IntKind.i64.wrap (i + 1)) .i64 (by kernel_rfl) (fun x100 h101 => S_val (.int .i64 x100) (by kernel_rfl) (S_nil (?_))))))
        have HE26 := hq_lt HE26 h101
        have hw_x100 := h101; rw [wrI] at hw_x100; unfold wrap64 at hw_x100
        exact hnext24 f19 _ _ (Nat.lt_succ_self _) ⟨x100, p, [.int .i64 carry, .int .i64 k, (gv u2 0), .int .i64 i, .pointer (some ⟨g1, 1, none⟩), .slice AP (List.length lP) cP, .int .i64 (List.length lP : Int), .bool true, .int .i64 i, .int .i64 x100, .int .i64 k, .pointer (some ⟨g4, 1, none⟩), .slice AQ (List.length lQ) cQ, .int .i64 (List.length lQ : Int), .bool false, .bool false, .int .i64 carry, .bool false, .bool false, (gv u2 10), (gv u2 11), (gv u2 12), (gv u2 13), (gv u2 14), (gv u2 15), (gv u2 16), (gv u2 17), (gv u2 18), (gv u2 19), (gv u2 20), (gv u2 21), (gv u2 22), (gv u2 23), (gv u2 24), (gv u2 25), (gv u2 26), (gv u2 27), (gv u2 28), (gv u2 29), (gv u2 30), (gv u2 31), (gv u2 32), (gv u2 33), (gv u2 34), (gv u2 35), (gv u2 36), (gv u2 37), (gv u2 38)], by kernel_rfl, hM32, by omega, (by omega), hD_2, (hZ_2.mono (by omega)), HE26⟩
  · refine S_nil (R_no (by kernel_rfl) (R_exit rfl (?_)))
    have HE26 := hq_neg HE26 c27
    subst HE26
    refine R_seq (R_region (S_val (.pointer (some ⟨g1, 0, none⟩)) (by kernel_rfl) (S_load 3 0 (.bool bP) hM23 (by kernel_rfl) (S_val (.pointer (some ⟨g4, 0, none⟩)) (by kernel_rfl) (S_load 2 0 (.bool bQ) hM23 (by kernel_rfl) (?_))))))
    refine S_decn (bP = bQ) (by kernel_rfl) (fun c102 => ?_) (fun c102 => ?_)
    · refine S_val (.slice (some ⟨g14, 0, none⟩) (Int.toNat x12) (Int.toNat x12)) (by kernel_rfl) (S_val (.agg #[.bool true, .slice (some ⟨g14, 0, none⟩) (Int.toNat x12) (Int.toNat x12)]) (by kernel_rfl) (?_))
      have HR := hr_neg HR c102
      have hM103 := hM23.freeze 0 o [] (by kernel_rfl)
      refine S_callN (s_umbraref01_trim true o) [((some ⟨g14, 0, none⟩), nv o)] hM103 (w_umbraref01_trim true o (some ⟨g14, 0, none⟩) (Int.toNat x12) (Int.toNat x12) (by omega) (Nat.le_refl _) (by first | omega | simp) w22 (hM103.ent 0 rfl)) (subc 0 rfl sub0) (by kernel_rfl) (fun r104 h105 A106 cap107 hc108 w109 hM110 => S_store 0 0 #[.bool r104.1, .slice A106 (List.length r104.2) cap107] hM110 (by kernel_rfl) (fun w111 hM112 => S_nil (?_)))
      have HR := hr_lt HR h105
      refine R_ret hM112 rfl (.cons (.cell _ _ 0 0 (.agg #[.bool r104.1, .slice A106 (List.length r104.2) cap107]) (by kernel_rfl)) .nil) rfl ?_
      exact hM112.retN 0 rfl rfl hc108 HR
    · refine S_val (.slice (some ⟨g14, 0, none⟩) (Int.toNat x12) (Int.toNat x12)) (by kernel_rfl) (S_val (.agg #[.bool false, .slice (some ⟨g14, 0, none⟩) (Int.toNat x12) (Int.toNat x12)]) (by kernel_rfl) (?_))
      have HR := hr_pos HR c102
      have hM113 := hM23.freeze 0 o [] (by kernel_rfl)
      refine S_callN (s_umbraref01_trim false o) [((some ⟨g14, 0, none⟩), nv o)] hM113 (w_umbraref01_trim false o (some ⟨g14, 0, none⟩) (Int.toNat x12) (Int.toNat x12) (by omega) (Nat.le_refl _) (by first | omega | simp) w22 (hM113.ent 0 rfl)) (subc 0 rfl sub0) (by kernel_rfl) (fun r114 h115 A116 cap117 hc118 w119 hM120 => S_store 0 0 #[.bool r114.1, .slice A116 (List.length r114.2) cap117] hM120 (by kernel_rfl) (fun w121 hM122 => S_nil (?_)))
      have HR := hr_lt HR h115
      refine R_ret hM122 rfl (.cons (.cell _ _ 0 0 (.agg #[.bool r114.1, .slice A116 (List.length r114.2) cap117]) (by kernel_rfl)) .nil) rfl ?_
      exact hM122.retN 0 rfl rfl hc118 HR

end Go.Proofs.Ytognbeejobfpfaa
