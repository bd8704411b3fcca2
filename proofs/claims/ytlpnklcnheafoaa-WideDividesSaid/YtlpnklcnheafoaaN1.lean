/- Walks: the document's numbers in digits (umbraref01): trim, From, digit, size, Sum, Times, Power, half. -/
import Derived.Test.YtlpnklcnheafoaaGoC
import Derived.Test.YtlpnklcnheafoaaGoH
namespace Go.Proofs.Ytlpnklcnheafoaa
open Go.RowKit Go.Sort
set_option linter.unusedVariables false
set_option linter.unusedSimpArgs false

def e_umbraref01_digit (r : Int) : Value := .int .i64 r
def s_umbraref01_digit (bP : Bool) (lP : List (Int)) (i : Int) : Int :=
  if i < (List.length lP : Int) then
    (gd 0 lP i)
  else
    0
set_option maxRecDepth 100000 in
set_option maxHeartbeats 4000000 in
theorem w_umbraref01_digit (bP : Bool) (lP : List (Int)) (i : Int)  (AP : Option Addr) (nP cP : Nat) (hnP : nP = List.length lP) (hcP : nP ≤ cP) (hi : 0 ≤ i) (w : World) (hAP : Ent w (AP, nv lP)) : Calls Try.prog 38 #[.agg #[.bool bP, .slice AP nP cP], .int .i64 i] w (Ret (e_umbraref01_digit (s_umbraref01_digit bP lP i)) w) := by
  subst hnP
  obtain ⟨R, HR⟩ : ∃ R, e_umbraref01_digit (s_umbraref01_digit bP lP i) = R := ⟨_, rfl⟩
  rw [HR]
  unfold s_umbraref01_digit at HR
  have hM0 := St.startN (w := w) [(AP, nv lP)] (ents hAP ents0)
  refine calls_run Try.func38 rfl ?_
  refine R_seq (R_region (S_fresh none #[.bool bP, .slice AP (List.length lP) cP] 29 hM0 (by kernel_rfl) (fun g1 w2 hM3 => S_val (.int .i64 0) (by kernel_rfl) (S_nil (R_seq (R_seq (R_region (S_val (.int .i64 i) (by kernel_rfl) (S_val (.pointer (some ⟨g1, 1, none⟩)) (by kernel_rfl) (S_load 0 1 (.slice AP (List.length lP) cP) hM3 (by kernel_rfl) (S_val (.int .i64 (List.length lP : Int)) (by kernel_rfl) (?_))))))))))))
  refine S_dec (i < (List.length lP : Int)) (by kernel_rfl) (fun c4 => ?_) (fun c4 => ?_)
  · refine S_nil (R_yes (by kernel_rfl) (R_seq (R_region (S_val (.pointer (some ⟨g1, 1, none⟩)) (by kernel_rfl) (S_load 0 1 (.slice AP (List.length lP) cP) hM3 (by kernel_rfl) (S_val (.int .i64 i) (by kernel_rfl) (?_)))))))
    have HR := hr_pos HR c4
    obtain ⟨b5, off6, rfl⟩ := Rd.op (i := i) (hM3.rd 1 rfl) (by omega)
    refine S_idx 3 1 b5 off6 (List.length lP) cP i (by omega) (by kernel_rfl) (S_loadR iE 1 0 i 0 b5 off6 (.int .i64 (gd 0 lP i)) (hM3.rd 1 rfl) iE_len (by omega) (by kernel_rfl) (S_val (.int .i64 (gd 0 lP i)) (by kernel_rfl) (S_nil (?_))))
    refine R_ret hM3 rfl (.cons (.tmp _ (.int .i64 (gd 0 lP i)) (by kernel_rfl)) .nil) rfl ?_
    exact ⟨congrArg Ending.returned HR, hM3.below⟩
  · refine S_nil (R_no (by kernel_rfl) (R_skip (R_seq (R_region (S_val (.int .i64 0) (by kernel_rfl) (S_nil (?_)))))))
    have HR := hr_neg HR c4
    refine R_ret hM3 rfl (.cons (.tmp _ (.int .i64 0) (by kernel_rfl)) .nil) rfl ?_
    exact ⟨congrArg Ending.returned HR, hM3.below⟩

def e_umbraref01_trim (r : Bool × List Int) : Bool × List Int := r
def L2_umbraref01_trim (bP : Bool) (lP : List (Int)) : Nat → (Int) → Int
  | 0, _ => default
  | f7 + 1, k =>
    if k > 0 then
      lt (IntKind.i64.wrap (k - 1)) fun x16 =>
      if (gd 0 lP x16) = 0 then
        lt (IntKind.i64.wrap (k - 1)) fun x21 =>
        L2_umbraref01_trim bP lP f7 x21
      else
        k
    else
      k
def s_umbraref01_trim (bP : Bool) (lP : List (Int)) : Bool × List Int :=
  lt (L2_umbraref01_trim bP lP (Int.toNat ((List.length lP : Int)) + 1) (List.length lP : Int)) fun E13 =>
  if E13 = 0 then
    (false, List.take (Int.toNat E13) lP)
  else
    (bP, List.take (Int.toNat E13) lP)
set_option maxRecDepth 100000 in
set_option maxHeartbeats 4000000 in
theorem w_umbraref01_trim (bP : Bool) (lP : List (Int))  (AP : Option Addr) (nP cP : Nat) (hnP : nP = List.length lP) (hcP : nP ≤ cP) (hl : List.length lP ≤ 100000) (w : World) (hAP : Ent w (AP, nv lP)) : Calls Try.prog 48 #[.agg #[.bool bP, .slice AP nP cP]] w (RetN w [(AP, nv lP)] (e_umbraref01_trim (s_umbraref01_trim bP lP))) := by
  subst hnP
  obtain ⟨R, HR⟩ : ∃ R, e_umbraref01_trim (s_umbraref01_trim bP lP) = R := ⟨_, rfl⟩
  rw [HR]
  unfold s_umbraref01_trim at HR
  have hM0 := St.startN (w := w) [(AP, nv lP)] (ents hAP ents0)
  refine calls_run Try.func48 rfl ?_
  refine R_seq (R_region (S_fresh none #[.bool bP, .slice AP (List.length lP) cP] 29 hM0 (by kernel_rfl) (fun g1 w2 hM3 => S_fresh none #[.bool false, .slice none 0 0] 29 hM3 (by kernel_rfl) (fun g4 w5 hM6 => S_nil (R_seq (R_region (S_val (.pointer (some ⟨g1, 1, none⟩)) (by kernel_rfl) (S_load 1 1 (.slice AP (List.length lP) cP) hM6 (by kernel_rfl) (S_val (.int .i64 (List.length lP : Int)) (by kernel_rfl) (S_val (.int .i64 (List.length lP : Int)) (by kernel_rfl) (S_nil (?_))))))))))))
  refine R_seq (R_block (?_))
  obtain ⟨E13, HE14⟩ : ∃ E, L2_umbraref01_trim bP lP (Int.toNat ((List.length lP : Int)) + 1) (List.length lP : Int) = E := ⟨_, rfl⟩
  have HR := hr_lt HR HE14
  refine R_fuel (fun m8 a9 w10 => ∃ (k : Int) (u1 : List Value), a9 = { tmps := #[.agg #[.bool bP, .slice AP (List.length lP) cP], .pointer (some ⟨g1, 0, none⟩), .pointer (some ⟨g4, 0, none⟩), .int .i64 k, .pointer (some ⟨g1, 1, none⟩), .slice AP (List.length lP) cP, .int .i64 (List.length lP : Int), (gv u1 0), (gv u1 1), (gv u1 2), (gv u1 3), (gv u1 4), (gv u1 5), (gv u1 6), (gv u1 7), (gv u1 8), (gv u1 9), (gv u1 10), (gv u1 11), (gv u1 12), undef, undef, undef, undef, undef, undef, undef, undef, undef], defers := [] } ∧ St ⟨w, [(AP, nv lP)], [(none, nv ([])), (AP, nv lP)]⟩ [⟨g4, #[.bool false, .slice none 0 0], 29, (0, 0), true⟩, ⟨g1, #[.bool bP, .slice AP (List.length lP) cP], 29, (0, 0), true⟩] w10 ∧ k < (m8 : Int) ∧ ((0 ≤ k ∧ k ≤ (List.length lP : Int))) ∧ L2_umbraref01_trim bP lP m8 k = E13) (Int.toNat ((List.length lP : Int)) + 1) ⟨(List.length lP : Int), [undef, undef, undef, undef, undef, undef, undef, undef, undef, undef, undef, undef, undef], by kernel_rfl, hM6, by omega, (by omega), HE14⟩ ?_
  rintro m8 a9 w10 ⟨k, u1, rfl, hM11, hmu1, hk_1, HE14⟩ hnext12
  obtain ⟨f7, rfl⟩ : ∃ f, m8 = f + 1 := ⟨m8 - 1, by omega⟩
  rw [L2_umbraref01_trim] at HE14
  refine R_seq (R_seq (R_region (S_val (.int .i64 k) (by kernel_rfl) (?_))))
  refine S_dec (k > 0) (by kernel_rfl) (fun c15 => ?_) (fun c15 => ?_)
  · refine S_val (.bool true) (by kernel_rfl) (S_val (.pointer (some ⟨g1, 1, none⟩)) (by kernel_rfl) (S_load 1 1 (.slice AP (List.length lP) cP) hM11 (by kernel_rfl) (S_val (.int .i64 k) (by kernel_rfl) (S_int (IntKind.i64.wrap (k - 1)) .i64 (by kernel_rfl) (fun x16 h17 => ?_)))))
    have HE14 := hq_pos HE14 c15
    have HE14 := hq_lt HE14 h17
    have hw_x16 := h17; rw [wrI] at hw_x16; unfold wrap64 at hw_x16
    obtain ⟨b18, off19, rfl⟩ := Rd.op (i := x16) (hM11.rd 1 rfl) (by omega)
    refine S_idx 3 1 b18 off19 (List.length lP) cP x16 (by omega) (by kernel_rfl) (S_loadR iE 1 0 x16 0 b18 off19 (.int .i64 (gd 0 lP x16)) (hM11.rd 1 rfl) iE_len (by omega) (by kernel_rfl) (?_))
    refine S_dec ((gd 0 lP x16) = 0) (by kernel_rfl) (fun c20 => ?_) (fun c20 => ?_)
    · refine S_val (.bool true) (by kernel_rfl) (S_nil (R_yes (by kernel_rfl) (R_skip (R_block (R_region (S_val (.int .i64 k) (by kernel_rfl) (S_int (IntKind.i64.wrap (k - 1)) .i64 (by kernel_rfl) (fun x21 h22 => S_val (.int .i64 x21) (by kernel_rfl) (S_nil (R_inBlock (?_)))))))))))
      have HE14 := hq_pos HE14 c20
      have HE14 := hq_lt HE14 h22
      have hw_x21 := h22; rw [wrI] at hw_x21; unfold wrap64 at hw_x21
      have hw_x16 := h17; rw [wrI] at hw_x16; unfold wrap64 at hw_x16
      exact hnext12 f7 _ _ (Nat.lt_succ_self _) ⟨x21, [.int .i64 k, .bool true, .bool true, .pointer (some ⟨g1, 1, none⟩), .slice (some ⟨b18, off19, none⟩) (List.length lP) cP, .int .i64 k, .int .i64 x16, .pointer (some ⟨b18, off19 + Int.toNat x16 * 1 + 0, none⟩), .int .i64 (gd 0 lP x16), .bool true, .bool true, .int .i64 k, .int .i64 x21], by kernel_rfl, hM11, by omega, (by omega), HE14⟩
    · refine S_val (.bool false) (by kernel_rfl) (S_nil (R_no (by kernel_rfl) (R_exit rfl (?_))))
      have HE14 := hq_neg HE14 c20
      subst HE14
      refine R_seq (R_region (S_val (.pointer (some ⟨g1, 1, none⟩)) (by kernel_rfl) (S_load 1 1 (.slice (some ⟨b18, off19, none⟩) (List.length lP) cP) hM11 (by kernel_rfl) (S_val (.int .i64 k) (by kernel_rfl) (?_)))))
      have hM23 := hM11.know ((hM11.fz 1 rfl).cut (Int.toNat k))
      refine S_cut 3 (some ⟨b18, off19, none⟩) (List.length lP) cP k (by omega) (by kernel_rfl) (S_val (.pointer (some ⟨g1, 1, none⟩)) (by kernel_rfl) (S_store 1 1 #[.bool bP, .slice (some ⟨b18, off19, none⟩) (Int.toNat k) cP] hM23 (by kernel_rfl) (fun w24 hM25 => S_nil (R_seq (R_seq (R_region (S_val (.int .i64 k) (by kernel_rfl) (?_))))))))
      refine S_dec (k = 0) (by kernel_rfl) (fun c26 => ?_) (fun c26 => ?_)
      · refine S_nil (R_yes (by kernel_rfl) (R_region (S_val (.pointer (some ⟨g1, 0, none⟩)) (by kernel_rfl) (S_store 1 0 #[.bool false, .slice (some ⟨b18, off19, none⟩) (Int.toNat k) cP] hM25 (by kernel_rfl) (fun w27 hM28 => S_nil (R_seq (R_region (S_load 1 0 (.agg #[.bool false, .slice (some ⟨b18, off19, none⟩) (Int.toNat k) cP]) hM28 (by kernel_rfl) (S_store 0 0 #[.bool false, .slice (some ⟨b18, off19, none⟩) (Int.toNat k) cP] hM28 (by kernel_rfl) (fun w29 hM30 => S_nil (?_)))))))))))
        have HR := hr_pos HR c26
        refine R_ret hM30 rfl (.cons (.cell _ _ 0 0 (.agg #[.bool false, .slice (some ⟨b18, off19, none⟩) (Int.toNat k) cP]) (by kernel_rfl)) .nil) rfl ?_
        exact hM30.retN 0 rfl (by rw [List.length_take]; omega) (by omega) HR
      · refine S_nil (R_no (by kernel_rfl) (R_skip (R_seq (R_region (S_load 1 0 (.agg #[.bool bP, .slice (some ⟨b18, off19, none⟩) (Int.toNat k) cP]) hM25 (by kernel_rfl) (S_store 0 0 #[.bool bP, .slice (some ⟨b18, off19, none⟩) (Int.toNat k) cP] hM25 (by kernel_rfl) (fun w31 hM32 => S_nil (?_))))))))
        have HR := hr_neg HR c26
        refine R_ret hM32 rfl (.cons (.cell _ _ 0 0 (.agg #[.bool bP, .slice (some ⟨b18, off19, none⟩) (Int.toNat k) cP]) (by kernel_rfl)) .nil) rfl ?_
        exact hM32.retN 0 rfl (by rw [List.length_take]; omega) (by omega) HR
  · refine S_val (.bool false) (by kernel_rfl) (S_skip (by kernel_rfl) (S_skip (by kernel_rfl) (S_skip (by kernel_rfl) (S_skip (by kernel_rfl) (S_skip (by kernel_rfl) (S_skip (by kernel_rfl) (S_skip (by kernel_rfl) (S_val (.bool false) (by kernel_rfl) (S_nil (R_no (by kernel_rfl) (R_exit rfl (?_))))))))))))
    have HE14 := hq_neg HE14 c15
    subst HE14
    refine R_seq (R_region (S_val (.pointer (some ⟨g1, 1, none⟩)) (by kernel_rfl) (S_load 1 1 (.slice AP (List.length lP) cP) hM11 (by kernel_rfl) (S_val (.int .i64 k) (by kernel_rfl) (?_)))))
    have hM23 := hM11.know ((hM11.fz 1 rfl).cut (Int.toNat k))
    refine S_cut 3 AP (List.length lP) cP k (by omega) (by kernel_rfl) (S_val (.pointer (some ⟨g1, 1, none⟩)) (by kernel_rfl) (S_store 1 1 #[.bool bP, .slice AP (Int.toNat k) cP] hM23 (by kernel_rfl) (fun w24 hM25 => S_nil (R_seq (R_seq (R_region (S_val (.int .i64 k) (by kernel_rfl) (?_))))))))
    refine S_dec (k = 0) (by kernel_rfl) (fun c26 => ?_) (fun c26 => ?_)
    · refine S_nil (R_yes (by kernel_rfl) (R_region (S_val (.pointer (some ⟨g1, 0, none⟩)) (by kernel_rfl) (S_store 1 0 #[.bool false, .slice AP (Int.toNat k) cP] hM25 (by kernel_rfl) (fun w27 hM28 => S_nil (R_seq (R_region (S_load 1 0 (.agg #[.bool false, .slice AP (Int.toNat k) cP]) hM28 (by kernel_rfl) (S_store 0 0 #[.bool false, .slice AP (Int.toNat k) cP] hM28 (by kernel_rfl) (fun w29 hM30 => S_nil (?_)))))))))))
      have HR := hr_pos HR c26
      refine R_ret hM30 rfl (.cons (.cell _ _ 0 0 (.agg #[.bool false, .slice AP (Int.toNat k) cP]) (by kernel_rfl)) .nil) rfl ?_
      exact hM30.retN 0 rfl (by rw [List.length_take]; omega) (by omega) HR
    · refine S_nil (R_no (by kernel_rfl) (R_skip (R_seq (R_region (S_load 1 0 (.agg #[.bool bP, .slice AP (Int.toNat k) cP]) hM25 (by kernel_rfl) (S_store 0 0 #[.bool bP, .slice AP (Int.toNat k) cP] hM25 (by kernel_rfl) (fun w31 hM32 => S_nil (?_))))))))
      have HR := hr_neg HR c26
      refine R_ret hM32 rfl (.cons (.cell _ _ 0 0 (.agg #[.bool bP, .slice AP (Int.toNat k) cP]) (by kernel_rfl)) .nil) rfl ?_
      exact hM32.retN 0 rfl (by rw [List.length_take]; omega) (by omega) HR

def e_umbraref01_From (r : Bool × List Int) : Bool × List Int := r
def s_umbraref01_From (u : Int) : Bool × List Int :=
  lt (bits .and .u64 u 65535) fun x4 =>
  lt (IntKind.i64.wrap x4) fun x6 =>
  lt (Int.fdiv u (2 ^ 16)) fun x8 =>
  lt (bits .and .u64 x8 65535) fun x10 =>
  lt (IntKind.i64.wrap x10) fun x12 =>
  lt (Int.fdiv u (2 ^ 32)) fun x14 =>
  lt (bits .and .u64 x14 65535) fun x16 =>
  lt (IntKind.i64.wrap x16) fun x18 =>
  lt (Int.fdiv u (2 ^ 48)) fun x20 =>
  lt (IntKind.i64.wrap x20) fun x22 =>
  lt (s_umbraref01_trim false ([x6, x12, x18, x22])) fun r28 =>
  (r28.1, r28.2)
set_option maxRecDepth 100000 in
set_option maxHeartbeats 4000000 in
theorem w_umbraref01_From (u : Int) (h_u : InU u)    (w : World)  : Calls Try.prog 40 #[.int .u64 u] w (RetN w [] (e_umbraref01_From (s_umbraref01_From u))) := by
  obtain ⟨R, HR⟩ : ∃ R, e_umbraref01_From (s_umbraref01_From u) = R := ⟨_, rfl⟩
  rw [HR]
  unfold s_umbraref01_From at HR
  have hM0 := St.startN (w := w) [] ents0
  refine calls_run Try.func40 rfl ?_
  refine R_seq (R_region (S_fresh none #[.bool false, .slice none 0 0] 29 hM0 (by kernel_rfl) (fun g1 w2 hM3 => S_nil (R_seq (R_region (S_val (.int .u64 u) (by kernel_rfl) (S_int (bits .and .u64 u 65535) .u64 (by kernel_rfl) (fun x4 h5 => S_int (IntKind.i64.wrap x4) .i64 (by kernel_rfl) (fun x6 h7 => S_val (.int .u64 u) (by kernel_rfl) (S_int (Int.fdiv u (2 ^ 16)) .u64 (by kernel_rfl) (fun x8 h9 => S_int (bits .and .u64 x8 65535) .u64 (by kernel_rfl) (fun x10 h11 => ?_))))))))))))
  have HR := hr_lt HR h5
  have HR := hr_lt HR h7
  have HR := hr_lt HR h9
  have HR := hr_lt HR h11
  refine S_int (IntKind.i64.wrap x10) .i64 (by kernel_rfl) (fun x12 h13 => S_val (.int .u64 u) (by kernel_rfl) (S_int (Int.fdiv u (2 ^ 32)) .u64 (by kernel_rfl) (fun x14 h15 => S_int (bits .and .u64 x14 65535) .u64 (by kernel_rfl) (fun x16 h17 => S_int (IntKind.i64.wrap x16) .i64 (by kernel_rfl) (fun x18 h19 => S_val (.int .u64 u) (by kernel_rfl) (S_int (Int.fdiv u (2 ^ 48)) .u64 (by kernel_rfl) (fun x20 h21 => S_int (IntKind.i64.wrap x20) .i64 (by kernel_rfl) (fun x22 h23 => S_fresh (some 4) #[.int .i64 x6, .int .i64 x12, .int .i64 x18, .int .i64 x22] 3 hM3 (by kernel_rfl) (fun g24 w25 hM26 => S_val (.agg #[.bool false, .slice (some ⟨g24, 0, none⟩) 4 4]) (by kernel_rfl) (?_))))))))))
  have HR := hr_lt HR h13
  have HR := hr_lt HR h15
  have HR := hr_lt HR h17
  have HR := hr_lt HR h19
  have HR := hr_lt HR h21
  have HR := hr_lt HR h23
  have hM27 := hM26.freeze 0 ([x6, x12, x18, x22]) [] (by kernel_rfl)
  refine S_callN (s_umbraref01_trim false ([x6, x12, x18, x22])) [((some ⟨g24, 0, none⟩), nv ([x6, x12, x18, x22]))] hM27 (w_umbraref01_trim false ([x6, x12, x18, x22]) (some ⟨g24, 0, none⟩) 4 4 rfl (by decide) (by first | omega | simp) w25 (hM27.ent 0 rfl)) (subc 0 rfl sub0) (by kernel_rfl) (fun r28 h29 A30 cap31 hc32 w33 hM34 => S_store 0 0 #[.bool r28.1, .slice A30 (List.length r28.2) cap31] hM34 (by kernel_rfl) (fun w35 hM36 => S_nil (?_)))
  have HR := hr_lt HR h29
  refine R_ret hM36 rfl (.cons (.cell _ _ 0 0 (.agg #[.bool r28.1, .slice A30 (List.length r28.2) cap31]) (by kernel_rfl)) .nil) rfl ?_
  exact hM36.retN 0 rfl rfl hc32 HR

def e_umbraref01_size (r : Int) : Value := .int .i64 r
def L2_umbraref01_size (bP : Bool) (lP : List (Int)) (bQ : Bool) (lQ : List (Int)) : Nat → (Int) → Int
  | 0, _ => default
  | f11 + 1, k =>
    if k ≥ 0 then
      lt (s_umbraref01_digit bP lP k) fun r23 =>
      lt (s_umbraref01_digit bQ lQ k) fun r27 =>
      if r23 < r27 then
        (-1)
      else
        if r23 > r27 then
          1
        else
          lt (IntKind.i64.wrap (k - 1)) fun x33 =>
          L2_umbraref01_size bP lP bQ lQ f11 x33
    else
      0
def s_umbraref01_size (bP : Bool) (lP : List (Int)) (bQ : Bool) (lQ : List (Int)) : Int :=
  lt (gmax (List.length lP : Int) (List.length lQ : Int)) fun x7 =>
  lt (IntKind.i64.wrap (x7 - 1)) fun x9 =>
  L2_umbraref01_size bP lP bQ lQ (Int.toNat (x9 + 1) + 1) x9
set_option maxRecDepth 100000 in
set_option maxHeartbeats 4000000 in
theorem w_umbraref01_size (bP : Bool) (lP : List (Int)) (bQ : Bool) (lQ : List (Int))  (AP : Option Addr) (nP cP : Nat) (AQ : Option Addr) (nQ cQ : Nat) (hnP : nP = List.length lP) (hcP : nP ≤ cP) (hnQ : nQ = List.length lQ) (hcQ : nQ ≤ cQ) (hl : List.length lP ≤ 1000) (hm : List.length lQ ≤ 1000) (w : World) (hAP : Ent w (AP, nv lP)) (hAQ : Ent w (AQ, nv lQ)) : Calls Try.prog 41 #[.agg #[.bool bP, .slice AP nP cP], .agg #[.bool bQ, .slice AQ nQ cQ]] w (Ret (e_umbraref01_size (s_umbraref01_size bP lP bQ lQ)) w) := by
  subst hnP
  subst hnQ
  obtain ⟨R, HR⟩ : ∃ R, e_umbraref01_size (s_umbraref01_size bP lP bQ lQ) = R := ⟨_, rfl⟩
  rw [HR]
  unfold s_umbraref01_size at HR
  have hM0 := St.startN (w := w) [(AP, nv lP), (AQ, nv lQ)] (ents hAP (ents hAQ ents0))
  refine calls_run Try.func41 rfl ?_
  refine R_seq (R_region (S_fresh none #[.bool bP, .slice AP (List.length lP) cP] 29 hM0 (by kernel_rfl) (fun g1 w2 hM3 => S_fresh none #[.bool bQ, .slice AQ (List.length lQ) cQ] 29 hM3 (by kernel_rfl) (fun g4 w5 hM6 => S_val (.int .i64 0) (by kernel_rfl) (S_nil (R_seq (R_seq (R_region (S_val (.pointer (some ⟨g1, 1, none⟩)) (by kernel_rfl) (S_load 1 1 (.slice AP (List.length lP) cP) hM6 (by kernel_rfl) (S_val (.int .i64 (List.length lP : Int)) (by kernel_rfl) (?_))))))))))))
  refine S_val (.pointer (some ⟨g4, 1, none⟩)) (by kernel_rfl) (S_load 0 1 (.slice AQ (List.length lQ) cQ) hM6 (by kernel_rfl) (S_val (.int .i64 (List.length lQ : Int)) (by kernel_rfl) (S_int (gmax (List.length lP : Int) (List.length lQ : Int)) .i64 (by kernel_rfl) (fun x7 h8 => S_int (IntKind.i64.wrap (x7 - 1)) .i64 (by kernel_rfl) (fun x9 h10 => S_val (.int .i64 x9) (by kernel_rfl) (S_nil (R_block (?_))))))))
  have HR := hr_lt HR h8
  have HR := hr_lt HR h10
  have hw_x9 := h10; rw [wrI] at hw_x9; unfold wrap64 at hw_x9
  have hw_x7 := h8; rw [gmax_eq] at hw_x7
  refine R_fuel (fun m12 a13 w14 => ∃ (k : Int) (u1 : List Value), a13 = { tmps := #[.agg #[.bool bP, .slice AP (List.length lP) cP], .agg #[.bool bQ, .slice AQ (List.length lQ) cQ], .pointer (some ⟨g1, 0, none⟩), .pointer (some ⟨g4, 0, none⟩), (gv u1 0), .int .i64 k, (gv u1 1), (gv u1 2), .pointer (some ⟨g1, 1, none⟩), .slice AP (List.length lP) cP, .int .i64 (List.length lP : Int), .pointer (some ⟨g4, 1, none⟩), .slice AQ (List.length lQ) cQ, .int .i64 (List.length lQ : Int), .int .i64 x7, .int .i64 x9, (gv u1 3), (gv u1 4), (gv u1 5), (gv u1 6), (gv u1 7), (gv u1 8), (gv u1 9), (gv u1 10), (gv u1 11), (gv u1 12), (gv u1 13), (gv u1 14), (gv u1 15), (gv u1 16), (gv u1 17), (gv u1 18)], defers := [] } ∧ St ⟨w, [(AP, nv lP), (AQ, nv lQ)], [(none, nv ([])), (AP, nv lP), (AQ, nv lQ)]⟩ [⟨g4, #[.bool bQ, .slice AQ (List.length lQ) cQ], 29, (0, 0), true⟩, ⟨g1, #[.bool bP, .slice AP (List.length lP) cP], 29, (0, 0), true⟩] w14 ∧ k + 1 < (m12 : Int) ∧ ((-1 ≤ k ∧ k < 1000)) ∧ e_umbraref01_size (L2_umbraref01_size bP lP bQ lQ m12 k) = R) (Int.toNat (x9 + 1) + 1) ⟨x9, [.int .i64 0, undef, undef, undef, undef, undef, undef, undef, undef, undef, undef, undef, undef, undef, undef, undef, undef, undef, undef], by kernel_rfl, hM6, by omega, (by omega), HR⟩ ?_
  rintro m12 a13 w14 ⟨k, u1, rfl, hM15, hmu1, hk_1, HR⟩ hnext16
  obtain ⟨f11, rfl⟩ : ∃ f, m12 = f + 1 := ⟨m12 - 1, by omega⟩
  rw [L2_umbraref01_size] at HR
  refine R_seq (R_seq (R_region (S_val (.int .i64 k) (by kernel_rfl) (?_))))
  refine S_dec (k ≥ 0) (by kernel_rfl) (fun c17 => ?_) (fun c17 => ?_)
  · refine S_nil (R_yes (by kernel_rfl) (R_skip (R_seq (R_block (R_seq (R_drawF 8 (by kernel_rfl) (fun F18 U19 hL20 => F_load 1 0 (.agg #[.bool bP, .slice AP (List.length lP) cP]) hM15 (by kernel_rfl) (F_val (.int .i64 k) (fun _ => by kernel_rfl) (F_call (s_umbraref01_digit bP lP k) (fun r : Int => .int .i64 r) hM15 hL20 (fun w' hM' => w_umbraref01_digit bP lP k AP (List.length lP) cP rfl hcP (by omega) w' (hM'.ent 1 rfl)) (by kernel_rfl) (fun _ => by kernel_rfl) (fun r23 h24 => F_load 0 0 (.agg #[.bool bQ, .slice AQ (List.length lQ) cQ]) hM15 (by kernel_rfl) (F_val (.int .i64 k) (fun _ => by kernel_rfl) (?_))))))))))))
    have HR := hr_pos HR c17
    have HR := hr_lt HR h24
    refine F_call (s_umbraref01_digit bQ lQ k) (fun r : Int => .int .i64 r) hM15 hL20 (fun w' hM' => w_umbraref01_digit bQ lQ k AQ (List.length lQ) cQ rfl hcQ (by omega) w' (hM'.ent 2 rfl)) (by kernel_rfl) (fun _ => by kernel_rfl) (fun r27 h28 => F_val (.int .i64 r23) (fun _ => by kernel_rfl) (F_val (.int .i64 r27) (fun _ => by kernel_rfl) (F_nil hM15 hL20 (fun w29 hM30 => S_nil (R_seq (R_seq (R_region (S_val (.int .i64 r23) (by kernel_rfl) (S_val (.int .i64 r27) (by kernel_rfl) (?_))))))))))
    have HR := hr_lt HR h28
    refine S_dec (r23 < r27) (by kernel_rfl) (fun c31 => ?_) (fun c31 => ?_)
    · refine S_nil (R_yes (by kernel_rfl) (R_seq (R_region (S_val (.int .i64 (-1)) (by kernel_rfl) (S_nil (?_))))))
      have HR := hr_pos HR c31
      refine R_ret hM30 rfl (.cons (.tmp _ (.int .i64 (-1)) (by kernel_rfl)) .nil) rfl ?_
      exact ⟨congrArg Ending.returned HR, hM30.below⟩
    · refine S_nil (R_no (by kernel_rfl) (R_skip (R_seq (R_region (S_val (.int .i64 r23) (by kernel_rfl) (S_val (.int .i64 r27) (by kernel_rfl) (?_)))))))
      have HR := hr_neg HR c31
      refine S_dec (r23 > r27) (by kernel_rfl) (fun c32 => ?_) (fun c32 => ?_)
      · refine S_nil (R_yes (by kernel_rfl) (R_seq (R_region (S_val (.int .i64 1) (by kernel_rfl) (S_nil (?_))))))
        have HR := hr_pos HR c32
        refine R_ret hM30 rfl (.cons (.tmp _ (.int .i64 1) (by kernel_rfl)) .nil) rfl ?_
        exact ⟨congrArg Ending.returned HR, hM30.below⟩
      · refine S_nil (R_no (by kernel_rfl) (R_skip (R_inBlock (R_region (S_val (.int .i64 k) (by kernel_rfl) (S_int (IntKind.i64.wrap (k - 1)) .i64 (by kernel_rfl) (fun x33 h34 => S_val (.int .i64 x33) (by kernel_rfl) (S_nil (?_)))))))))
        have HR := hr_neg HR c32
        have HR := hr_lt HR h34
        have hw_x33 := h34; rw [wrI] at hw_x33; unfold wrap64 at hw_x33
        exact hnext16 f11 _ _ (Nat.lt_succ_self _) ⟨x33, [(gv u1 0), .int .i64 r23, .int .i64 r27, .int .i64 k, .bool true, .int .i64 k, .int .i64 x33, .agg #[.bool bP, .slice AP (List.length lP) cP], .int .i64 k, .int .i64 r23, .agg #[.bool bQ, .slice AQ (List.length lQ) cQ], .int .i64 k, .int .i64 r27, .int .i64 r23, .int .i64 r27, .bool false, .int .i64 r23, .int .i64 r27, .bool false], by kernel_rfl, hM30, by omega, (by omega), HR⟩
  · refine S_nil (R_no (by kernel_rfl) (R_exit rfl (R_seq (R_region (S_val (.int .i64 0) (by kernel_rfl) (S_nil (?_)))))))
    have HR := hr_neg HR c17
    refine R_ret hM15 rfl (.cons (.tmp _ (.int .i64 0) (by kernel_rfl)) .nil) rfl ?_
    exact ⟨congrArg Ending.returned HR, hM15.below⟩

def e_umbraref01_Sum_1 (r : Bool × List Int) : Bool × List Int := r
def L6_umbraref01_Sum_1_d (bP : Bool) (lP : List (Int)) (bQ : Bool) (lQ : List (Int)) : Nat → (Int) → (Int) → (List Int) → (Int × Int × List Int)
  | 0, _, _, _ => default
  | f77 + 1, k, carry, o =>
    lt (gmax (List.length lP : Int) (List.length lQ : Int)) fun x89 =>
    if k < x89 then
      lt (s_umbraref01_digit bP lP k) fun r97 =>
      lt (s_umbraref01_digit bQ lQ k) fun r101 =>
      lt (IntKind.i64.wrap (r97 + r101)) fun x103 =>
      lt (IntKind.i64.wrap (x103 + carry)) fun x105 =>
      lt (s_umbraref01_digit bP lP k) fun r114 =>
      lt (s_umbraref01_digit bQ lQ k) fun r118 =>
      lt (IntKind.i64.wrap (r114 - r118)) fun x120 =>
      lt (IntKind.i64.wrap (x120 + carry)) fun x122 =>
      if x122 < 0 then
        lt (IntKind.i64.wrap (x122 + 65536)) fun x127 =>
        if x127 > 65535 then
          lt (IntKind.i64.wrap (x127 - 65536)) fun x130 =>
          lt (o ++ [x130]) fun l141 =>
          lt (IntKind.i64.wrap (k + 1)) fun x145 =>
          L6_umbraref01_Sum_1_d bP lP bQ lQ f77 x145 1 l141
        else
          lt (o ++ [x127]) fun l157 =>
          lt (IntKind.i64.wrap (k + 1)) fun x161 =>
          L6_umbraref01_Sum_1_d bP lP bQ lQ f77 x161 (-1) l157
      else
        if x122 > 65535 then
          lt (IntKind.i64.wrap (x122 - 65536)) fun x165 =>
          lt (o ++ [x165]) fun l176 =>
          lt (IntKind.i64.wrap (k + 1)) fun x180 =>
          L6_umbraref01_Sum_1_d bP lP bQ lQ f77 x180 1 l176
        else
          lt (o ++ [x122]) fun l192 =>
          lt (IntKind.i64.wrap (k + 1)) fun x196 =>
          L6_umbraref01_Sum_1_d bP lP bQ lQ f77 x196 0 l192
    else
      (k, carry, o)
def L6_umbraref01_Sum_1_s (bP : Bool) (lP : List (Int)) (bQ : Bool) (lQ : List (Int)) : Nat → (Int) → (Int) → (List Int) → (Int × Int × List Int)
  | 0, _, _, _ => default
  | f686 + 1, k, carry, o =>
    lt (gmax (List.length lP : Int) (List.length lQ : Int)) fun x698 =>
    if k < x698 then
      lt (s_umbraref01_digit bP lP k) fun r706 =>
      lt (s_umbraref01_digit bQ lQ k) fun r710 =>
      lt (IntKind.i64.wrap (r706 + r710)) fun x712 =>
      lt (IntKind.i64.wrap (x712 + carry)) fun x714 =>
      if x714 < 0 then
        lt (IntKind.i64.wrap (x714 + 65536)) fun x719 =>
        if x719 > 65535 then
          lt (IntKind.i64.wrap (x719 - 65536)) fun x722 =>
          lt (o ++ [x722]) fun l733 =>
          lt (IntKind.i64.wrap (k + 1)) fun x737 =>
          L6_umbraref01_Sum_1_s bP lP bQ lQ f686 x737 1 l733
        else
          lt (o ++ [x719]) fun l749 =>
          lt (IntKind.i64.wrap (k + 1)) fun x753 =>
          L6_umbraref01_Sum_1_s bP lP bQ lQ f686 x753 (-1) l749
      else
        if x714 > 65535 then
          lt (IntKind.i64.wrap (x714 - 65536)) fun x757 =>
          lt (o ++ [x757]) fun l768 =>
          lt (IntKind.i64.wrap (k + 1)) fun x772 =>
          L6_umbraref01_Sum_1_s bP lP bQ lQ f686 x772 1 l768
        else
          lt (o ++ [x714]) fun l784 =>
          lt (IntKind.i64.wrap (k + 1)) fun x788 =>
          L6_umbraref01_Sum_1_s bP lP bQ lQ f686 x788 0 l784
    else
      (k, carry, o)
def s_umbraref01_Sum_1 (bP : Bool) (lP : List (Int)) (bQ : Bool) (lQ : List (Int)) : Bool × List Int :=
  if bP = bQ then
    lt (gmax (List.length lP : Int) (List.length lQ : Int)) fun x649 =>
    if 0 < x649 then
      lt (s_umbraref01_digit bP lP 0) fun r657 =>
      lt (s_umbraref01_digit bQ lQ 0) fun r661 =>
      lt (IntKind.i64.wrap (r657 + r661)) fun x663 =>
      lt (IntKind.i64.wrap (x663 + 0)) fun x665 =>
      if x665 < 0 then
        lt (IntKind.i64.wrap (x665 + 65536)) fun x670 =>
        if x670 > 65535 then
          lt (IntKind.i64.wrap (x670 - 65536)) fun x673 =>
          lt (L6_umbraref01_Sum_1_s bP lP bQ lQ (Int.toNat (1000 - 1) + 1) 1 1 ([x673])) fun E692 =>
          if E692.2.1 > 0 then
            lt (E692.2.2 ++ [E692.2.1]) fun l801 =>
            lt (s_umbraref01_trim bP l801) fun r806 =>
            (r806.1, r806.2)
          else
            lt (s_umbraref01_trim bP E692.2.2) fun r816 =>
            (r816.1, r816.2)
        else
          lt (L6_umbraref01_Sum_1_s bP lP bQ lQ (Int.toNat (1000 - 1) + 1) 1 (-1) ([x670])) fun E842 =>
          if E842.2.1 > 0 then
            lt (E842.2.2 ++ [E842.2.1]) fun l801 =>
            lt (s_umbraref01_trim bP l801) fun r806 =>
            (r806.1, r806.2)
          else
            lt (s_umbraref01_trim bP E842.2.2) fun r816 =>
            (r816.1, r816.2)
      else
        if x665 > 65535 then
          lt (IntKind.i64.wrap (x665 - 65536)) fun x942 =>
          lt (L6_umbraref01_Sum_1_s bP lP bQ lQ (Int.toNat (1000 - 1) + 1) 1 1 ([x942])) fun E961 =>
          if E961.2.1 > 0 then
            lt (E961.2.2 ++ [E961.2.1]) fun l801 =>
            lt (s_umbraref01_trim bP l801) fun r806 =>
            (r806.1, r806.2)
          else
            lt (s_umbraref01_trim bP E961.2.2) fun r816 =>
            (r816.1, r816.2)
        else
          lt (L6_umbraref01_Sum_1_s bP lP bQ lQ (Int.toNat (1000 - 1) + 1) 1 0 ([x665])) fun E1077 =>
          if E1077.2.1 > 0 then
            lt (E1077.2.2 ++ [E1077.2.1]) fun l801 =>
            lt (s_umbraref01_trim bP l801) fun r806 =>
            (r806.1, r806.2)
          else
            lt (s_umbraref01_trim bP E1077.2.2) fun r816 =>
            (r816.1, r816.2)
    else
      lt (s_umbraref01_trim bP ([])) fun r1176 =>
      (r1176.1, r1176.2)
  else
    lt (s_umbraref01_size bP lP bQ lQ) fun r13 =>
    if r13 < 0 then
      default
    else
      lt (gmax (List.length lP : Int) (List.length lQ : Int)) fun x23 =>
      if 0 < x23 then
        lt (s_umbraref01_digit bP lP 0) fun r31 =>
        lt (s_umbraref01_digit bQ lQ 0) fun r35 =>
        lt (IntKind.i64.wrap (r31 + r35)) fun x37 =>
        lt (IntKind.i64.wrap (x37 + 0)) fun x39 =>
        lt (s_umbraref01_digit bP lP 0) fun r48 =>
        lt (s_umbraref01_digit bQ lQ 0) fun r52 =>
        lt (IntKind.i64.wrap (r48 - r52)) fun x54 =>
        lt (IntKind.i64.wrap (x54 + 0)) fun x56 =>
        if x56 < 0 then
          lt (IntKind.i64.wrap (x56 + 65536)) fun x61 =>
          if x61 > 65535 then
            lt (IntKind.i64.wrap (x61 - 65536)) fun x64 =>
            lt (L6_umbraref01_Sum_1_d bP lP bQ lQ (Int.toNat (1000 - 1) + 1) 1 1 ([x64])) fun E83 =>
            if E83.2.1 > 0 then
              lt (E83.2.2 ++ [E83.2.1]) fun l209 =>
              lt (s_umbraref01_trim bP l209) fun r214 =>
              (r214.1, r214.2)
            else
              lt (s_umbraref01_trim bP E83.2.2) fun r224 =>
              (r224.1, r224.2)
          else
            lt (L6_umbraref01_Sum_1_d bP lP bQ lQ (Int.toNat (1000 - 1) + 1) 1 (-1) ([x61])) fun E250 =>
            if E250.2.1 > 0 then
              lt (E250.2.2 ++ [E250.2.1]) fun l209 =>
              lt (s_umbraref01_trim bP l209) fun r214 =>
              (r214.1, r214.2)
            else
              lt (s_umbraref01_trim bP E250.2.2) fun r224 =>
              (r224.1, r224.2)
        else
          if x56 > 65535 then
            lt (IntKind.i64.wrap (x56 - 65536)) fun x367 =>
            lt (L6_umbraref01_Sum_1_d bP lP bQ lQ (Int.toNat (1000 - 1) + 1) 1 1 ([x367])) fun E386 =>
            if E386.2.1 > 0 then
              lt (E386.2.2 ++ [E386.2.1]) fun l209 =>
              lt (s_umbraref01_trim bP l209) fun r214 =>
              (r214.1, r214.2)
            else
              lt (s_umbraref01_trim bP E386.2.2) fun r224 =>
              (r224.1, r224.2)
          else
            lt (L6_umbraref01_Sum_1_d bP lP bQ lQ (Int.toNat (1000 - 1) + 1) 1 0 ([x56])) fun E519 =>
            if E519.2.1 > 0 then
              lt (E519.2.2 ++ [E519.2.1]) fun l209 =>
              lt (s_umbraref01_trim bP l209) fun r214 =>
              (r214.1, r214.2)
            else
              lt (s_umbraref01_trim bP E519.2.2) fun r224 =>
              (r224.1, r224.2)
      else
        lt (s_umbraref01_trim bP ([])) fun r635 =>
        (r635.1, r635.2)
set_option maxRecDepth 100000 in
set_option maxHeartbeats 4000000 in
theorem w_umbraref01_Sum_1 (bP : Bool) (lP : List (Int)) (bQ : Bool) (lQ : List (Int))  (AP : Option Addr) (nP cP : Nat) (AQ : Option Addr) (nQ cQ : Nat) (hnP : nP = List.length lP) (hcP : nP ≤ cP) (hnQ : nQ = List.length lQ) (hcQ : nQ ≤ cQ) (hl : List.length lP ≤ 1000) (hm : List.length lQ ≤ 1000) (hsz : ¬ (¬ bP = bQ ∧ s_umbraref01_size bP lP bQ lQ < 0)) (w : World) (hAP : Ent w (AP, nv lP)) (hAQ : Ent w (AQ, nv lQ)) : Calls Try.prog 39 #[.agg #[.bool bP, .slice AP nP cP], .agg #[.bool bQ, .slice AQ nQ cQ]] w (RetN w [(AP, nv lP), (AQ, nv lQ)] (e_umbraref01_Sum_1 (s_umbraref01_Sum_1 bP lP bQ lQ))) := by
  subst hnP
  subst hnQ
  obtain ⟨R, HR⟩ : ∃ R, e_umbraref01_Sum_1 (s_umbraref01_Sum_1 bP lP bQ lQ) = R := ⟨_, rfl⟩
  rw [HR]
  unfold s_umbraref01_Sum_1 at HR
  have hM0 := St.startN (w := w) [(AP, nv lP), (AQ, nv lQ)] (ents hAP (ents hAQ ents0))
  refine calls_run Try.func39 rfl ?_
  refine R_seq (R_region (S_fresh none #[.bool bP, .slice AP (List.length lP) cP] 29 hM0 (by kernel_rfl) (fun g1 w2 hM3 => S_fresh none #[.bool bQ, .slice AQ (List.length lQ) cQ] 29 hM3 (by kernel_rfl) (fun g4 w5 hM6 => S_fresh none #[.bool false, .slice none 0 0] 29 hM6 (by kernel_rfl) (fun g7 w8 hM9 => S_nil (R_seq (R_seq (R_region (S_val (.pointer (some ⟨g1, 0, none⟩)) (by kernel_rfl) (S_load 2 0 (.bool bP) hM9 (by kernel_rfl) (S_val (.pointer (some ⟨g4, 0, none⟩)) (by kernel_rfl) (?_))))))))))))
  refine S_load 1 0 (.bool bQ) hM9 (by kernel_rfl) (?_)
  refine S_decn (bP = bQ) (by kernel_rfl) (fun c10 => ?_) (fun c10 => ?_)
  · refine S_val (.bool true) (by kernel_rfl) (S_load 2 0 (.agg #[.bool bP, .slice AP (List.length lP) cP]) hM9 (by kernel_rfl) (S_load 1 0 (.agg #[.bool bQ, .slice AQ (List.length lQ) cQ]) hM9 (by kernel_rfl) (S_call (s_umbraref01_size bP lP bQ lQ) (fun r : Int => .int .i64 r) hM9 (w_umbraref01_size bP lP bQ lQ AP (List.length lP) cP AQ (List.length lQ) cQ rfl hcP rfl hcQ (by omega) (by omega) w8 (hM9.ent 1 rfl) (hM9.ent 2 rfl)) (by kernel_rfl) (fun r13 h14 w15 hM16 => ?_))))
    have HR := hr_neg HR c10
    have HR := hr_lt HR h14
    refine S_dec (r13 < 0) (by kernel_rfl) (fun c17 => ?_) (fun c17 => ?_)
    · exact absurd ⟨c10, by rw [h14]; exact c17⟩ hsz
    · refine S_val (.bool false) (by kernel_rfl) (S_nil (R_no (by kernel_rfl) (R_skip (R_seq (R_region (S_val (.pointer (some ⟨g1, 0, none⟩)) (by kernel_rfl) (S_load 2 0 (.bool bP) hM16 (by kernel_rfl) (S_val (.agg #[.bool bP, .slice none 0 0]) (by kernel_rfl) (S_fresh none #[.bool false, .slice none 0 0] 29 hM16 (by kernel_rfl) (fun g18 w19 hM20 => S_store 0 0 #[.bool bP, .slice none 0 0] hM20 (by kernel_rfl) (fun w21 hM22 => S_nil (?_))))))))))))
      have HR := hr_neg HR c17
      refine R_seq (R_region (S_val (.int .i64 0) (by kernel_rfl) (S_nil (R_seq (R_seq (R_region (S_val (.int .i64 0) (by kernel_rfl) (S_nil (R_block (R_loop (R_seq (?_))))))))))))
      refine R_seq (R_region (S_val (.int .i64 0) (by kernel_rfl) (S_val (.pointer (some ⟨g1, 1, none⟩)) (by kernel_rfl) (S_load 3 1 (.slice AP (List.length lP) cP) hM22 (by kernel_rfl) (S_val (.int .i64 (List.length lP : Int)) (by kernel_rfl) (S_val (.pointer (some ⟨g4, 1, none⟩)) (by kernel_rfl) (S_load 2 1 (.slice AQ (List.length lQ) cQ) hM22 (by kernel_rfl) (S_val (.int .i64 (List.length lQ : Int)) (by kernel_rfl) (S_int (gmax (List.length lP : Int) (List.length lQ : Int)) .i64 (by kernel_rfl) (fun x23 h24 => ?_))))))))))
      have HR := hr_lt HR h24
      refine S_dec (0 < x23) (by kernel_rfl) (fun c25 => ?_) (fun c25 => ?_)
      · refine S_nil (R_yes (by kernel_rfl) (R_skip (R_seq (R_block (R_seq (R_drawF 10 (by kernel_rfl) (fun F26 U27 hL28 => F_load 3 0 (.agg #[.bool bP, .slice AP (List.length lP) cP]) hM22 (by kernel_rfl) (F_val (.int .i64 0) (fun _ => by kernel_rfl) (F_call (s_umbraref01_digit bP lP 0) (fun r : Int => .int .i64 r) hM22 hL28 (fun w' hM' => w_umbraref01_digit bP lP 0 AP (List.length lP) cP rfl hcP (by omega) w' (hM'.ent 1 rfl)) (by kernel_rfl) (fun _ => by kernel_rfl) (fun r31 h32 => F_load 2 0 (.agg #[.bool bQ, .slice AQ (List.length lQ) cQ]) hM22 (by kernel_rfl) (F_val (.int .i64 0) (fun _ => by kernel_rfl) (?_))))))))))))
        have HR := hr_pos HR c25
        have HR := hr_lt HR h32
        refine F_call (s_umbraref01_digit bQ lQ 0) (fun r : Int => .int .i64 r) hM22 hL28 (fun w' hM' => w_umbraref01_digit bQ lQ 0 AQ (List.length lQ) cQ rfl hcQ (by omega) w' (hM'.ent 2 rfl)) (by kernel_rfl) (fun _ => by kernel_rfl) (fun r35 h36 => F_int (IntKind.i64.wrap (r31 + r35)) .i64 (fun _ => by kernel_rfl) (fun x37 h38 => F_val (.int .i64 0) (fun _ => by kernel_rfl) (F_int (IntKind.i64.wrap (x37 + 0)) .i64 (fun _ => by kernel_rfl) (fun x39 h40 => F_val (.int .i64 x39) (fun _ => by kernel_rfl) (F_nil hM22 hL28 (fun w41 hM42 => S_nil (R_seq (R_seq (R_region (S_val (.pointer (some ⟨g1, 0, none⟩)) (by kernel_rfl) (S_load 3 0 (.bool bP) hM42 (by kernel_rfl) (?_))))))))))))
        have HR := hr_lt HR h36
        have HR := hr_lt HR h38
        have HR := hr_lt HR h40
        refine S_val (.pointer (some ⟨g4, 0, none⟩)) (by kernel_rfl) (S_load 2 0 (.bool bQ) hM42 (by kernel_rfl) (S_val (.bool true) (knF' c10 (by kernel_rfl)) (S_nil (R_yes (by kernel_rfl) (R_drawF 10 (by kernel_rfl) (fun F43 U44 hL45 => F_load 3 0 (.agg #[.bool bP, .slice AP (List.length lP) cP]) hM42 (by kernel_rfl) (F_val (.int .i64 0) (fun _ => by kernel_rfl) (F_call (s_umbraref01_digit bP lP 0) (fun r : Int => .int .i64 r) hM42 hL45 (fun w' hM' => w_umbraref01_digit bP lP 0 AP (List.length lP) cP rfl hcP (by omega) w' (hM'.ent 1 rfl)) (by kernel_rfl) (fun _ => by kernel_rfl) (fun r48 h49 => F_load 2 0 (.agg #[.bool bQ, .slice AQ (List.length lQ) cQ]) hM42 (by kernel_rfl) (F_val (.int .i64 0) (fun _ => by kernel_rfl) (F_call (s_umbraref01_digit bQ lQ 0) (fun r : Int => .int .i64 r) hM42 hL45 (fun w' hM' => w_umbraref01_digit bQ lQ 0 AQ (List.length lQ) cQ rfl hcQ (by omega) w' (hM'.ent 2 rfl)) (by kernel_rfl) (fun _ => by kernel_rfl) (fun r52 h53 => ?_))))))))))))
        have HR := hr_lt HR h49
        have HR := hr_lt HR h53
        refine F_int (IntKind.i64.wrap (r48 - r52)) .i64 (fun _ => by kernel_rfl) (fun x54 h55 => F_val (.int .i64 0) (fun _ => by kernel_rfl) (F_int (IntKind.i64.wrap (x54 + 0)) .i64 (fun _ => by kernel_rfl) (fun x56 h57 => F_val (.int .i64 x56) (fun _ => by kernel_rfl) (F_nil hM42 hL45 (fun w58 hM59 => S_nil (R_seq (R_region (S_val (.int .i64 0) (by kernel_rfl) (S_nil (R_seq (R_seq (?_))))))))))))
        have HR := hr_lt HR h55
        have HR := hr_lt HR h57
        refine R_region (S_val (.int .i64 x56) (by kernel_rfl) (?_))
        refine S_dec (x56 < 0) (by kernel_rfl) (fun c60 => ?_) (fun c60 => ?_)
        · refine S_nil (R_yes (by kernel_rfl) (R_seq (R_region (S_val (.int .i64 x56) (by kernel_rfl) (S_int (IntKind.i64.wrap (x56 + 65536)) .i64 (by kernel_rfl) (fun x61 h62 => S_val (.int .i64 x61) (by kernel_rfl) (S_nil (R_region (S_val (.int .i64 (-1)) (by kernel_rfl) (S_nil (R_seq (?_))))))))))))
          have HR := hr_pos HR c60
          have HR := hr_lt HR h62
          refine R_seq (R_region (S_val (.int .i64 x61) (by kernel_rfl) (?_)))
          refine S_dec (x61 > 65535) (by kernel_rfl) (fun c63 => ?_) (fun c63 => ?_)
          · refine S_nil (R_yes (by kernel_rfl) (R_seq (R_region (S_val (.int .i64 x61) (by kernel_rfl) (S_int (IntKind.i64.wrap (x61 - 65536)) .i64 (by kernel_rfl) (fun x64 h65 => S_val (.int .i64 x64) (by kernel_rfl) (S_nil (R_region (S_val (.int .i64 1) (by kernel_rfl) (S_nil (R_region (?_))))))))))))
            have HR := hr_pos HR c63
            have HR := hr_lt HR h65
            refine S_val (.pointer (some ⟨g18, 1, none⟩)) (by kernel_rfl) (S_load 0 1 (.slice none 0 0) hM59 (by kernel_rfl) (S_val (.int .i64 x64) (by kernel_rfl) (S_fresh (some 1) #[.int .i64 x64] 3 hM59 (by kernel_rfl) (fun g66 w67 hM68 => ?_))))
            refine S_app0 0 1 1 3 1 8 (.int .i64 0) [.int .i64 x64] hM68 (by kernel_rfl) (by kernel_rfl) (fun g69 cap70 rest71 w72 ok73 hM74 => S_val (.pointer (some ⟨g18, 1, none⟩)) (by kernel_rfl) (S_store 2 1 #[.bool bP, .slice (some ⟨g69, 0, none⟩) 1 cap70] hM74 (by kernel_rfl) (fun w75 hM76 => S_nil (R_inBlock (R_region (S_val (.int .i64 0) (by kernel_rfl) (S_val (.int .i64 1) (by kernel_rfl) (S_val (.int .i64 1) (by kernel_rfl) (S_nil (?_))))))))))
            have hw_x64 := h65; rw [wrI] at hw_x64; unfold wrap64 at hw_x64
            have hw_x61 := h62; rw [wrI] at hw_x61; unfold wrap64 at hw_x61
            have hw_x56 := h57; rw [wrI] at hw_x56; unfold wrap64 at hw_x56
            have hw_x54 := h55; rw [wrI] at hw_x54; unfold wrap64 at hw_x54
            have hw_x23 := h24; rw [gmax_eq] at hw_x23
            obtain ⟨E83, HE84⟩ : ∃ E, L6_umbraref01_Sum_1_d bP lP bQ lQ (Int.toNat (1000 - 1) + 1) 1 1 ([x64]) = E := ⟨_, rfl⟩
            have HR := hr_lt HR HE84
            refine R_fuelI (fun m78 a79 w80 => ∃ (k : Int) (carry : Int) (o : List Int) (g85 : Nat) (cap86 : Nat) (rest87 : List Value) (u1 : List Value), a79 = { tmps := #[.agg #[.bool bP, .slice AP (List.length lP) cP], .agg #[.bool bQ, .slice AQ (List.length lQ) cQ], .pointer (some ⟨g1, 0, none⟩), .pointer (some ⟨g4, 0, none⟩), .pointer (some ⟨g7, 0, none⟩), .pointer (some ⟨g18, 0, none⟩), .int .i64 carry, .int .i64 k, (gv u1 0), .pointer (some ⟨g1, 0, none⟩), .bool bP, .pointer (some ⟨g4, 0, none⟩), .bool bQ, .bool true, .bool true, .agg #[.bool bP, .slice AP (List.length lP) cP], .agg #[.bool bQ, .slice AQ (List.length lQ) cQ], .int .i64 r13, .bool false, .bool false, undef, undef, undef, .pointer (some ⟨g1, 0, none⟩), .bool bP, .agg #[.bool bP, .slice none 0 0], (gv u1 1), (gv u1 2), (gv u1 3), (gv u1 4), (gv u1 5), (gv u1 6), (gv u1 7), (gv u1 8), (gv u1 9), (gv u1 10), (gv u1 11), (gv u1 12), (gv u1 13), (gv u1 14), (gv u1 15), (gv u1 16), (gv u1 17), (gv u1 18), (gv u1 19), (gv u1 20), (gv u1 21), (gv u1 22), (gv u1 23), (gv u1 24), (gv u1 25), (gv u1 26), (gv u1 27), (gv u1 28), (gv u1 29), (gv u1 30), (gv u1 31), (gv u1 32), (gv u1 33), (gv u1 34), (gv u1 35), (gv u1 36), (gv u1 37), (gv u1 38), (gv u1 39), (gv u1 40), (gv u1 41), (gv u1 42), (gv u1 43), (gv u1 44), (gv u1 45), (gv u1 46), (gv u1 47), (gv u1 48), undef, undef, undef, undef, undef, undef, undef, undef, undef, undef], defers := [] } ∧ St ⟨w, [(AP, nv lP), (AQ, nv lQ)], [(none, nv ([])), (AP, nv lP), (AQ, nv lQ)]⟩ [⟨g85, ⟨nv o ++ rest87⟩, 3, (0, 0), true⟩, ⟨g66, #[.int .i64 x64], 3, (0, 0), true⟩, ⟨g18, #[.bool bP, .slice (some ⟨g85, 0, none⟩) (List.length o) cap86], 29, (0, 0), true⟩, ⟨g7, #[.bool false, .slice none 0 0], 29, (0, 0), true⟩, ⟨g4, #[.bool bQ, .slice AQ (List.length lQ) cQ], 29, (0, 0), true⟩, ⟨g1, #[.bool bP, .slice AP (List.length lP) cP], 29, (0, 0), true⟩] w80 ∧ 1000 - k < (m78 : Int) ∧ (SlOk 1 (List.length o) cap86 rest87) ∧ ((1 ≤ k ∧ k ≤ 1000 ∧ (List.length o : Int) = k)) ∧ L6_umbraref01_Sum_1_d bP lP bQ lQ m78 k carry o = E83) (Int.toNat (1000 - 1) + 1) ⟨1, 1, ([x64]), g69, cap70, rest71, [.int .i64 x64, .int .i64 0, .pointer (some ⟨g1, 1, none⟩), .slice AP (List.length lP) cP, .int .i64 (List.length lP : Int), .pointer (some ⟨g4, 1, none⟩), .slice AQ (List.length lQ) cQ, .int .i64 (List.length lQ : Int), .int .i64 x23, .bool true, .int .i64 0, .int .i64 1, .agg #[.bool bP, .slice AP (List.length lP) cP], .int .i64 0, .int .i64 r31, .agg #[.bool bQ, .slice AQ (List.length lQ) cQ], .int .i64 0, .int .i64 r35, .int .i64 x37, .int .i64 0, .int .i64 x39, .pointer (some ⟨g1, 0, none⟩), .bool bP, .pointer (some ⟨g4, 0, none⟩), .bool bQ, .bool true, .agg #[.bool bP, .slice AP (List.length lP) cP], .int .i64 0, .int .i64 r48, .agg #[.bool bQ, .slice AQ (List.length lQ) cQ], .int .i64 0, .int .i64 r52, .int .i64 x54, .int .i64 0, .int .i64 x56, .int .i64 x56, .bool true, .int .i64 x56, .int .i64 x61, .int .i64 x61, .bool true, .int .i64 x61, .int .i64 x64, .pointer (some ⟨g18, 1, none⟩), .slice none 0 0, .int .i64 x64, .slice (some ⟨g66, 0, none⟩) 1 1, .slice (some ⟨g69, 0, none⟩) 1 cap70, .pointer (some ⟨g18, 1, none⟩)], by kernel_rfl, hM76, by omega, ok73, (by simp only [List.length_cons, List.length_nil]; omega), HE84⟩ ?_
            rintro m78 a79 w80 ⟨k, carry, o, g85, cap86, rest87, u1, rfl, hM81, hmu1, ok88, hk_1, HE84⟩ hnext82
            obtain ⟨f77, rfl⟩ : ∃ f, m78 = f + 1 := ⟨m78 - 1, by omega⟩
            rw [L6_umbraref01_Sum_1_d] at HE84
            refine R_seq (R_seq (R_region (S_val (.int .i64 k) (by kernel_rfl) (S_val (.pointer (some ⟨g1, 1, none⟩)) (by kernel_rfl) (S_load 5 1 (.slice AP (List.length lP) cP) hM81 (by kernel_rfl) (S_val (.int .i64 (List.length lP : Int)) (by kernel_rfl) (S_val (.pointer (some ⟨g4, 1, none⟩)) (by kernel_rfl) (S_load 4 1 (.slice AQ (List.length lQ) cQ) hM81 (by kernel_rfl) (S_val (.int .i64 (List.length lQ : Int)) (by kernel_rfl) (S_int (gmax (List.length lP : Int) (List.length lQ : Int)) .i64 (by kernel_rfl) (fun x89 h90 => ?_)))))))))))
            have HE84 := hq_lt HE84 h90
            refine S_dec (k < x89) (by kernel_rfl) (fun c91 => ?_) (fun c91 => ?_)
            · refine S_nil (R_yes (by kernel_rfl) (R_skip (R_seq (R_block (R_seq (R_drawF 10 (by kernel_rfl) (fun F92 U93 hL94 => F_load 5 0 (.agg #[.bool bP, .slice AP (List.length lP) cP]) hM81 (by kernel_rfl) (F_val (.int .i64 k) (fun _ => by kernel_rfl) (F_call (s_umbraref01_digit bP lP k) (fun r : Int => .int .i64 r) hM81 hL94 (fun w' hM' => w_umbraref01_digit bP lP k AP (List.length lP) cP rfl hcP (by omega) w' (hM'.ent 1 rfl)) (by kernel_rfl) (fun _ => by kernel_rfl) (fun r97 h98 => F_load 4 0 (.agg #[.bool bQ, .slice AQ (List.length lQ) cQ]) hM81 (by kernel_rfl) (F_val (.int .i64 k) (fun _ => by kernel_rfl) (?_))))))))))))
              have HE84 := hq_pos HE84 c91
              have HE84 := hq_lt HE84 h98
              refine F_call (s_umbraref01_digit bQ lQ k) (fun r : Int => .int .i64 r) hM81 hL94 (fun w' hM' => w_umbraref01_digit bQ lQ k AQ (List.length lQ) cQ rfl hcQ (by omega) w' (hM'.ent 2 rfl)) (by kernel_rfl) (fun _ => by kernel_rfl) (fun r101 h102 => F_int (IntKind.i64.wrap (r97 + r101)) .i64 (fun _ => by kernel_rfl) (fun x103 h104 => F_val (.int .i64 carry) (fun _ => by kernel_rfl) (F_int (IntKind.i64.wrap (x103 + carry)) .i64 (fun _ => by kernel_rfl) (fun x105 h106 => F_val (.int .i64 x105) (fun _ => by kernel_rfl) (F_nil hM81 hL94 (fun w107 hM108 => S_nil (R_seq (R_seq (R_region (S_val (.pointer (some ⟨g1, 0, none⟩)) (by kernel_rfl) (S_load 5 0 (.bool bP) hM108 (by kernel_rfl) (?_))))))))))))
              have HE84 := hq_lt HE84 h102
              have HE84 := hq_lt HE84 h104
              have HE84 := hq_lt HE84 h106
              refine S_val (.pointer (some ⟨g4, 0, none⟩)) (by kernel_rfl) (S_load 4 0 (.bool bQ) hM108 (by kernel_rfl) (S_val (.bool true) (knF' c10 (by kernel_rfl)) (S_nil (R_yes (by kernel_rfl) (R_drawF 10 (by kernel_rfl) (fun F109 U110 hL111 => F_load 5 0 (.agg #[.bool bP, .slice AP (List.length lP) cP]) hM108 (by kernel_rfl) (F_val (.int .i64 k) (fun _ => by kernel_rfl) (F_call (s_umbraref01_digit bP lP k) (fun r : Int => .int .i64 r) hM108 hL111 (fun w' hM' => w_umbraref01_digit bP lP k AP (List.length lP) cP rfl hcP (by omega) w' (hM'.ent 1 rfl)) (by kernel_rfl) (fun _ => by kernel_rfl) (fun r114 h115 => F_load 4 0 (.agg #[.bool bQ, .slice AQ (List.length lQ) cQ]) hM108 (by kernel_rfl) (F_val (.int .i64 k) (fun _ => by kernel_rfl) (F_call (s_umbraref01_digit bQ lQ k) (fun r : Int => .int .i64 r) hM108 hL111 (fun w' hM' => w_umbraref01_digit bQ lQ k AQ (List.length lQ) cQ rfl hcQ (by omega) w' (hM'.ent 2 rfl)) (by kernel_rfl) (fun _ => by kernel_rfl) (fun r118 h119 => ?_))))))))))))
              have HE84 := hq_lt HE84 h115
              have HE84 := hq_lt HE84 h119
              refine F_int (IntKind.i64.wrap (r114 - r118)) .i64 (fun _ => by kernel_rfl) (fun x120 h121 => F_val (.int .i64 carry) (fun _ => by kernel_rfl) (F_int (IntKind.i64.wrap (x120 + carry)) .i64 (fun _ => by kernel_rfl) (fun x122 h123 => F_val (.int .i64 x122) (fun _ => by kernel_rfl) (F_nil hM108 hL111 (fun w124 hM125 => S_nil (R_seq (R_region (S_val (.int .i64 0) (by kernel_rfl) (S_nil (R_seq (R_seq (?_))))))))))))
              have HE84 := hq_lt HE84 h121
              have HE84 := hq_lt HE84 h123
              refine R_region (S_val (.int .i64 x122) (by kernel_rfl) (?_))
              refine S_dec (x122 < 0) (by kernel_rfl) (fun c126 => ?_) (fun c126 => ?_)
              · refine S_nil (R_yes (by kernel_rfl) (R_seq (R_region (S_val (.int .i64 x122) (by kernel_rfl) (S_int (IntKind.i64.wrap (x122 + 65536)) .i64 (by kernel_rfl) (fun x127 h128 => S_val (.int .i64 x127) (by kernel_rfl) (S_nil (R_region (S_val (.int .i64 (-1)) (by kernel_rfl) (S_nil (R_seq (?_))))))))))))
                have HE84 := hq_pos HE84 c126
                have HE84 := hq_lt HE84 h128
                refine R_seq (R_region (S_val (.int .i64 x127) (by kernel_rfl) (?_)))
                refine S_dec (x127 > 65535) (by kernel_rfl) (fun c129 => ?_) (fun c129 => ?_)
                · refine S_nil (R_yes (by kernel_rfl) (R_seq (R_region (S_val (.int .i64 x127) (by kernel_rfl) (S_int (IntKind.i64.wrap (x127 - 65536)) .i64 (by kernel_rfl) (fun x130 h131 => S_val (.int .i64 x130) (by kernel_rfl) (S_nil (R_region (S_val (.int .i64 1) (by kernel_rfl) (S_nil (R_region (?_))))))))))))
                  have HE84 := hq_pos HE84 c129
                  have HE84 := hq_lt HE84 h131
                  refine S_val (.pointer (some ⟨g18, 1, none⟩)) (by kernel_rfl) (S_load 2 1 (.slice (some ⟨g85, 0, none⟩) (List.length o) cap86) hM125 (by kernel_rfl) (S_val (.int .i64 x130) (by kernel_rfl) (S_fresh (some 1) #[.int .i64 x130] 3 hM125 (by kernel_rfl) (fun g132 w133 hM134 => ?_))))
                  refine S_appL 1 0 (List.length o) cap86 1 3 o rest87 x130 hM134 ok88 rfl (by omega) (by kernel_rfl) (fun g135 l141 h142 cap136 rest137 w138 ok139 hM140 => ?_)
                  have hlen_l141 : List.length l141 = List.length o + 1 := by rw [← h142]; simp
                  have HE84 := hq_lt HE84 h142
                  refine S_val (.pointer (some ⟨g18, 1, none⟩)) (by kernel_rfl) (S_store 3 1 #[.bool bP, .slice (some ⟨g135, 0, none⟩) (List.length l141) cap136] hM140 (by kernel_rfl) (fun w143 hM144 => S_nil (R_inBlock (R_region (S_val (.int .i64 k) (by kernel_rfl) (S_int (IntKind.i64.wrap (k + 1)) .i64 (by kernel_rfl) (fun x145 h146 => S_val (.int .i64 x145) (by kernel_rfl) (S_nil (?_)))))))))
                  have HE84 := hq_lt HE84 h146
                  have hw_x145 := h146; rw [wrI] at hw_x145; unfold wrap64 at hw_x145
                  have hw_x23 := h24; rw [gmax_eq] at hw_x23
                  have hw_x56 := h57; rw [wrI] at hw_x56; unfold wrap64 at hw_x56
                  have hw_x54 := h55; rw [wrI] at hw_x54; unfold wrap64 at hw_x54
                  have hw_x61 := h62; rw [wrI] at hw_x61; unfold wrap64 at hw_x61
                  have hw_x89 := h90; rw [gmax_eq] at hw_x89
                  have hw_x122 := h123; rw [wrI] at hw_x122; unfold wrap64 at hw_x122
                  have hw_x120 := h121; rw [wrI] at hw_x120; unfold wrap64 at hw_x120
                  have hw_x127 := h128; rw [wrI] at hw_x127; unfold wrap64 at hw_x127
                  have hM147 := hM144.re [0, 2, 3, 4, 5, 6] (by decide) (by kernel_rfl)
                  exact hnext82 f77 _ _ (Nat.lt_succ_self _) ⟨x145, 1, l141, g135, cap136, rest137, [.int .i64 x130, .int .i64 k, .pointer (some ⟨g1, 1, none⟩), .slice AP (List.length lP) cP, .int .i64 (List.length lP : Int), .pointer (some ⟨g4, 1, none⟩), .slice AQ (List.length lQ) cQ, .int .i64 (List.length lQ : Int), .int .i64 x89, .bool true, .int .i64 k, .int .i64 x145, .agg #[.bool bP, .slice AP (List.length lP) cP], .int .i64 k, .int .i64 r97, .agg #[.bool bQ, .slice AQ (List.length lQ) cQ], .int .i64 k, .int .i64 r101, .int .i64 x103, .int .i64 carry, .int .i64 x105, .pointer (some ⟨g1, 0, none⟩), .bool bP, .pointer (some ⟨g4, 0, none⟩), .bool bQ, .bool true, .agg #[.bool bP, .slice AP (List.length lP) cP], .int .i64 k, .int .i64 r114, .agg #[.bool bQ, .slice AQ (List.length lQ) cQ], .int .i64 k, .int .i64 r118, .int .i64 x120, .int .i64 carry, .int .i64 x122, .int .i64 x122, .bool true, .int .i64 x122, .int .i64 x127, .int .i64 x127, .bool true, .int .i64 x127, .int .i64 x130, .pointer (some ⟨g18, 1, none⟩), .slice (some ⟨g85, 0, none⟩) (List.length o) cap86, .int .i64 x130, .slice (some ⟨g132, 0, none⟩) 1 1, .slice (some ⟨g135, 0, none⟩) (List.length l141) cap136, .pointer (some ⟨g18, 1, none⟩)], by kernel_rfl, hM147, by omega, ok139, (by omega), HE84⟩
                · refine S_nil (R_no (by kernel_rfl) (R_skip (R_region (S_val (.pointer (some ⟨g18, 1, none⟩)) (by kernel_rfl) (S_load 2 1 (.slice (some ⟨g85, 0, none⟩) (List.length o) cap86) hM125 (by kernel_rfl) (S_val (.int .i64 x127) (by kernel_rfl) (S_fresh (some 1) #[.int .i64 x127] 3 hM125 (by kernel_rfl) (fun g148 w149 hM150 => ?_))))))))
                  have HE84 := hq_neg HE84 c129
                  refine S_appL 1 0 (List.length o) cap86 1 3 o rest87 x127 hM150 ok88 rfl (by omega) (by kernel_rfl) (fun g151 l157 h158 cap152 rest153 w154 ok155 hM156 => ?_)
                  have hlen_l157 : List.length l157 = List.length o + 1 := by rw [← h158]; simp
                  have HE84 := hq_lt HE84 h158
                  refine S_val (.pointer (some ⟨g18, 1, none⟩)) (by kernel_rfl) (S_store 3 1 #[.bool bP, .slice (some ⟨g151, 0, none⟩) (List.length l157) cap152] hM156 (by kernel_rfl) (fun w159 hM160 => S_nil (R_inBlock (R_region (S_val (.int .i64 k) (by kernel_rfl) (S_int (IntKind.i64.wrap (k + 1)) .i64 (by kernel_rfl) (fun x161 h162 => S_val (.int .i64 x161) (by kernel_rfl) (S_nil (?_)))))))))
                  have HE84 := hq_lt HE84 h162
                  have hw_x161 := h162; rw [wrI] at hw_x161; unfold wrap64 at hw_x161
                  have hw_x23 := h24; rw [gmax_eq] at hw_x23
                  have hw_x56 := h57; rw [wrI] at hw_x56; unfold wrap64 at hw_x56
                  have hw_x54 := h55; rw [wrI] at hw_x54; unfold wrap64 at hw_x54
                  have hw_x61 := h62; rw [wrI] at hw_x61; unfold wrap64 at hw_x61
                  have hw_x89 := h90; rw [gmax_eq] at hw_x89
                  have hw_x122 := h123; rw [wrI] at hw_x122; unfold wrap64 at hw_x122
                  have hw_x120 := h121; rw [wrI] at hw_x120; unfold wrap64 at hw_x120
                  have hw_x127 := h128; rw [wrI] at hw_x127; unfold wrap64 at hw_x127
                  have hM163 := hM160.re [0, 2, 3, 4, 5, 6] (by decide) (by kernel_rfl)
                  exact hnext82 f77 _ _ (Nat.lt_succ_self _) ⟨x161, (-1), l157, g151, cap152, rest153, [.int .i64 x127, .int .i64 k, .pointer (some ⟨g1, 1, none⟩), .slice AP (List.length lP) cP, .int .i64 (List.length lP : Int), .pointer (some ⟨g4, 1, none⟩), .slice AQ (List.length lQ) cQ, .int .i64 (List.length lQ : Int), .int .i64 x89, .bool true, .int .i64 k, .int .i64 x161, .agg #[.bool bP, .slice AP (List.length lP) cP], .int .i64 k, .int .i64 r97, .agg #[.bool bQ, .slice AQ (List.length lQ) cQ], .int .i64 k, .int .i64 r101, .int .i64 x103, .int .i64 carry, .int .i64 x105, .pointer (some ⟨g1, 0, none⟩), .bool bP, .pointer (some ⟨g4, 0, none⟩), .bool bQ, .bool true, .agg #[.bool bP, .slice AP (List.length lP) cP], .int .i64 k, .int .i64 r114, .agg #[.bool bQ, .slice AQ (List.length lQ) cQ], .int .i64 k, .int .i64 r118, .int .i64 x120, .int .i64 carry, .int .i64 x122, .int .i64 x122, .bool true, .int .i64 x122, .int .i64 x127, .int .i64 x127, .bool false, (gv u1 41), (gv u1 42), .pointer (some ⟨g18, 1, none⟩), .slice (some ⟨g85, 0, none⟩) (List.length o) cap86, .int .i64 x127, .slice (some ⟨g148, 0, none⟩) 1 1, .slice (some ⟨g151, 0, none⟩) (List.length l157) cap152, .pointer (some ⟨g18, 1, none⟩)], by kernel_rfl, hM163, by omega, ok155, (by omega), HE84⟩
              · refine S_nil (R_no (by kernel_rfl) (R_skip (R_seq (R_seq (R_region (S_val (.int .i64 x122) (by kernel_rfl) (?_)))))))
                have HE84 := hq_neg HE84 c126
                refine S_dec (x122 > 65535) (by kernel_rfl) (fun c164 => ?_) (fun c164 => ?_)
                · refine S_nil (R_yes (by kernel_rfl) (R_seq (R_region (S_val (.int .i64 x122) (by kernel_rfl) (S_int (IntKind.i64.wrap (x122 - 65536)) .i64 (by kernel_rfl) (fun x165 h166 => S_val (.int .i64 x165) (by kernel_rfl) (S_nil (R_region (S_val (.int .i64 1) (by kernel_rfl) (S_nil (R_region (?_))))))))))))
                  have HE84 := hq_pos HE84 c164
                  have HE84 := hq_lt HE84 h166
                  refine S_val (.pointer (some ⟨g18, 1, none⟩)) (by kernel_rfl) (S_load 2 1 (.slice (some ⟨g85, 0, none⟩) (List.length o) cap86) hM125 (by kernel_rfl) (S_val (.int .i64 x165) (by kernel_rfl) (S_fresh (some 1) #[.int .i64 x165] 3 hM125 (by kernel_rfl) (fun g167 w168 hM169 => ?_))))
                  refine S_appL 1 0 (List.length o) cap86 1 3 o rest87 x165 hM169 ok88 rfl (by omega) (by kernel_rfl) (fun g170 l176 h177 cap171 rest172 w173 ok174 hM175 => ?_)
                  have hlen_l176 : List.length l176 = List.length o + 1 := by rw [← h177]; simp
                  have HE84 := hq_lt HE84 h177
                  refine S_val (.pointer (some ⟨g18, 1, none⟩)) (by kernel_rfl) (S_store 3 1 #[.bool bP, .slice (some ⟨g170, 0, none⟩) (List.length l176) cap171] hM175 (by kernel_rfl) (fun w178 hM179 => S_nil (R_inBlock (R_region (S_val (.int .i64 k) (by kernel_rfl) (S_int (IntKind.i64.wrap (k + 1)) .i64 (by kernel_rfl) (fun x180 h181 => S_val (.int .i64 x180) (by kernel_rfl) (S_nil (?_)))))))))
                  have HE84 := hq_lt HE84 h181
                  have hw_x180 := h181; rw [wrI] at hw_x180; unfold wrap64 at hw_x180
                  have hw_x23 := h24; rw [gmax_eq] at hw_x23
                  have hw_x56 := h57; rw [wrI] at hw_x56; unfold wrap64 at hw_x56
                  have hw_x54 := h55; rw [wrI] at hw_x54; unfold wrap64 at hw_x54
                  have hw_x61 := h62; rw [wrI] at hw_x61; unfold wrap64 at hw_x61
                  have hw_x89 := h90; rw [gmax_eq] at hw_x89
                  have hw_x122 := h123; rw [wrI] at hw_x122; unfold wrap64 at hw_x122
                  have hw_x120 := h121; rw [wrI] at hw_x120; unfold wrap64 at hw_x120
                  have hM182 := hM179.re [0, 2, 3, 4, 5, 6] (by decide) (by kernel_rfl)
                  exact hnext82 f77 _ _ (Nat.lt_succ_self _) ⟨x180, 1, l176, g170, cap171, rest172, [.int .i64 x165, .int .i64 k, .pointer (some ⟨g1, 1, none⟩), .slice AP (List.length lP) cP, .int .i64 (List.length lP : Int), .pointer (some ⟨g4, 1, none⟩), .slice AQ (List.length lQ) cQ, .int .i64 (List.length lQ : Int), .int .i64 x89, .bool true, .int .i64 k, .int .i64 x180, .agg #[.bool bP, .slice AP (List.length lP) cP], .int .i64 k, .int .i64 r97, .agg #[.bool bQ, .slice AQ (List.length lQ) cQ], .int .i64 k, .int .i64 r101, .int .i64 x103, .int .i64 carry, .int .i64 x105, .pointer (some ⟨g1, 0, none⟩), .bool bP, .pointer (some ⟨g4, 0, none⟩), .bool bQ, .bool true, .agg #[.bool bP, .slice AP (List.length lP) cP], .int .i64 k, .int .i64 r114, .agg #[.bool bQ, .slice AQ (List.length lQ) cQ], .int .i64 k, .int .i64 r118, .int .i64 x120, .int .i64 carry, .int .i64 x122, .int .i64 x122, .bool false, (gv u1 37), (gv u1 38), .int .i64 x122, .bool true, .int .i64 x122, .int .i64 x165, .pointer (some ⟨g18, 1, none⟩), .slice (some ⟨g85, 0, none⟩) (List.length o) cap86, .int .i64 x165, .slice (some ⟨g167, 0, none⟩) 1 1, .slice (some ⟨g170, 0, none⟩) (List.length l176) cap171, .pointer (some ⟨g18, 1, none⟩)], by kernel_rfl, hM182, by omega, ok174, (by omega), HE84⟩
                · refine S_nil (R_no (by kernel_rfl) (R_skip (R_region (S_val (.pointer (some ⟨g18, 1, none⟩)) (by kernel_rfl) (S_load 2 1 (.slice (some ⟨g85, 0, none⟩) (List.length o) cap86) hM125 (by kernel_rfl) (S_val (.int .i64 x122) (by kernel_rfl) (S_fresh (some 1) #[.int .i64 x122] 3 hM125 (by kernel_rfl) (fun g183 w184 hM185 => ?_))))))))
                  have HE84 := hq_neg HE84 c164
                  refine S_appL 1 0 (List.length o) cap86 1 3 o rest87 x122 hM185 ok88 rfl (by omega) (by kernel_rfl) (fun g186 l192 h193 cap187 rest188 w189 ok190 hM191 => ?_)
                  have hlen_l192 : List.length l192 = List.length o + 1 := by rw [← h193]; simp
                  have HE84 := hq_lt HE84 h193
                  refine S_val (.pointer (some ⟨g18, 1, none⟩)) (by kernel_rfl) (S_store 3 1 #[.bool bP, .slice (some ⟨g186, 0, none⟩) (List.length l192) cap187] hM191 (by kernel_rfl) (fun w194 hM195 => S_nil (R_inBlock (R_region (S_val (.int .i64 k) (by kernel_rfl) (S_int (IntKind.i64.wrap (k + 1)) .i64 (by kernel_rfl) (fun x196 h197 => S_val (.int .i64 x196) (by kernel_rfl) (S_nil (?_)))))))))
                  have HE84 := hq_lt HE84 h197
                  have hw_x196 := h197; rw [wrI] at hw_x196; unfold wrap64 at hw_x196
                  have hw_x23 := h24; rw [gmax_eq] at hw_x23
                  have hw_x56 := h57; rw [wrI] at hw_x56; unfold wrap64 at hw_x56
                  have hw_x54 := h55; rw [wrI] at hw_x54; unfold wrap64 at hw_x54
                  have hw_x61 := h62; rw [wrI] at hw_x61; unfold wrap64 at hw_x61
                  have hw_x89 := h90; rw [gmax_eq] at hw_x89
                  have hw_x122 := h123; rw [wrI] at hw_x122; unfold wrap64 at hw_x122
                  have hw_x120 := h121; rw [wrI] at hw_x120; unfold wrap64 at hw_x120
                  have hM198 := hM195.re [0, 2, 3, 4, 5, 6] (by decide) (by kernel_rfl)
                  exact hnext82 f77 _ _ (Nat.lt_succ_self _) ⟨x196, 0, l192, g186, cap187, rest188, [.int .i64 x122, .int .i64 k, .pointer (some ⟨g1, 1, none⟩), .slice AP (List.length lP) cP, .int .i64 (List.length lP : Int), .pointer (some ⟨g4, 1, none⟩), .slice AQ (List.length lQ) cQ, .int .i64 (List.length lQ : Int), .int .i64 x89, .bool true, .int .i64 k, .int .i64 x196, .agg #[.bool bP, .slice AP (List.length lP) cP], .int .i64 k, .int .i64 r97, .agg #[.bool bQ, .slice AQ (List.length lQ) cQ], .int .i64 k, .int .i64 r101, .int .i64 x103, .int .i64 carry, .int .i64 x105, .pointer (some ⟨g1, 0, none⟩), .bool bP, .pointer (some ⟨g4, 0, none⟩), .bool bQ, .bool true, .agg #[.bool bP, .slice AP (List.length lP) cP], .int .i64 k, .int .i64 r114, .agg #[.bool bQ, .slice AQ (List.length lQ) cQ], .int .i64 k, .int .i64 r118, .int .i64 x120, .int .i64 carry, .int .i64 x122, .int .i64 x122, .bool false, (gv u1 37), (gv u1 38), .int .i64 x122, .bool false, (gv u1 41), (gv u1 42), .pointer (some ⟨g18, 1, none⟩), .slice (some ⟨g85, 0, none⟩) (List.length o) cap86, .int .i64 x122, .slice (some ⟨g183, 0, none⟩) 1 1, .slice (some ⟨g186, 0, none⟩) (List.length l192) cap187, .pointer (some ⟨g18, 1, none⟩)], by kernel_rfl, hM198, by omega, ok190, (by omega), HE84⟩
            · refine S_nil (R_no (by kernel_rfl) (R_exit rfl (?_)))
              have HE84 := hq_neg HE84 c91
              subst HE84
              refine R_seq (R_seq (R_region (S_val (.int .i64 carry) (by kernel_rfl) (?_))))
              refine S_dec (carry > 0) (by kernel_rfl) (fun c199 => ?_) (fun c199 => ?_)
              · refine S_nil (R_yes (by kernel_rfl) (R_region (S_val (.pointer (some ⟨g18, 1, none⟩)) (by kernel_rfl) (S_load 2 1 (.slice (some ⟨g85, 0, none⟩) (List.length o) cap86) hM81 (by kernel_rfl) (S_val (.int .i64 carry) (by kernel_rfl) (S_fresh (some 1) #[.int .i64 carry] 3 hM81 (by kernel_rfl) (fun g200 w201 hM202 => ?_)))))))
                have HR := hr_pos HR c199
                refine S_appL 1 0 (List.length o) cap86 1 3 o rest87 carry hM202 ok88 rfl (by omega) (by kernel_rfl) (fun g203 l209 h210 cap204 rest205 w206 ok207 hM208 => ?_)
                have hlen_l209 : List.length l209 = List.length o + 1 := by rw [← h210]; simp
                have HR := hr_lt HR h210
                refine S_val (.pointer (some ⟨g18, 1, none⟩)) (by kernel_rfl) (S_store 3 1 #[.bool bP, .slice (some ⟨g203, 0, none⟩) (List.length l209) cap204] hM208 (by kernel_rfl) (fun w211 hM212 => S_nil (R_seq (R_region (S_load 3 0 (.agg #[.bool bP, .slice (some ⟨g203, 0, none⟩) (List.length l209) cap204]) hM212 (by kernel_rfl) (?_))))))
                have hM213 := hM212.freeze 0 l209 rest205 (by kernel_rfl)
                refine S_callN (s_umbraref01_trim bP l209) [((some ⟨g203, 0, none⟩), nv l209)] hM213 (w_umbraref01_trim bP l209 (some ⟨g203, 0, none⟩) (List.length l209) cap204 (by omega) ok207.le (by first | omega | simp) w211 (hM213.ent 0 rfl)) (subc 0 rfl sub0) (by kernel_rfl) (fun r214 h215 A216 cap217 hc218 w219 hM220 => S_store 3 0 #[.bool r214.1, .slice A216 (List.length r214.2) cap217] hM220 (by kernel_rfl) (fun w221 hM222 => S_nil (?_)))
                have HR := hr_lt HR h215
                refine R_ret hM222 rfl (.cons (.cell _ _ 3 0 (.agg #[.bool r214.1, .slice A216 (List.length r214.2) cap217]) (by kernel_rfl)) .nil) rfl ?_
                exact hM222.retN 0 rfl rfl hc218 HR
              · refine S_nil (R_no (by kernel_rfl) (R_skip (R_seq (R_region (S_load 2 0 (.agg #[.bool bP, .slice (some ⟨g85, 0, none⟩) (List.length o) cap86]) hM81 (by kernel_rfl) (?_))))))
                have HR := hr_neg HR c199
                have hM223 := hM81.freeze 0 o rest87 (by kernel_rfl)
                refine S_callN (s_umbraref01_trim bP o) [((some ⟨g85, 0, none⟩), nv o)] hM223 (w_umbraref01_trim bP o (some ⟨g85, 0, none⟩) (List.length o) cap86 (by omega) ok88.le (by first | omega | simp) w80 (hM223.ent 0 rfl)) (subc 0 rfl sub0) (by kernel_rfl) (fun r224 h225 A226 cap227 hc228 w229 hM230 => S_store 2 0 #[.bool r224.1, .slice A226 (List.length r224.2) cap227] hM230 (by kernel_rfl) (fun w231 hM232 => S_nil (?_)))
                have HR := hr_lt HR h225
                refine R_ret hM232 rfl (.cons (.cell _ _ 2 0 (.agg #[.bool r224.1, .slice A226 (List.length r224.2) cap227]) (by kernel_rfl)) .nil) rfl ?_
                exact hM232.retN 0 rfl rfl hc228 HR
          · refine S_nil (R_no (by kernel_rfl) (R_skip (R_region (S_val (.pointer (some ⟨g18, 1, none⟩)) (by kernel_rfl) (S_load 0 1 (.slice none 0 0) hM59 (by kernel_rfl) (S_val (.int .i64 x61) (by kernel_rfl) (S_fresh (some 1) #[.int .i64 x61] 3 hM59 (by kernel_rfl) (fun g233 w234 hM235 => ?_))))))))
            have HR := hr_neg HR c63
            refine S_app0 0 1 1 3 1 8 (.int .i64 0) [.int .i64 x61] hM235 (by kernel_rfl) (by kernel_rfl) (fun g236 cap237 rest238 w239 ok240 hM241 => S_val (.pointer (some ⟨g18, 1, none⟩)) (by kernel_rfl) (S_store 2 1 #[.bool bP, .slice (some ⟨g236, 0, none⟩) 1 cap237] hM241 (by kernel_rfl) (fun w242 hM243 => S_nil (R_inBlock (R_region (S_val (.int .i64 0) (by kernel_rfl) (S_val (.int .i64 1) (by kernel_rfl) (S_val (.int .i64 1) (by kernel_rfl) (S_nil (?_))))))))))
            have hw_x61 := h62; rw [wrI] at hw_x61; unfold wrap64 at hw_x61
            have hw_x56 := h57; rw [wrI] at hw_x56; unfold wrap64 at hw_x56
            have hw_x54 := h55; rw [wrI] at hw_x54; unfold wrap64 at hw_x54
            have hw_x23 := h24; rw [gmax_eq] at hw_x23
            obtain ⟨E250, HE251⟩ : ∃ E, L6_umbraref01_Sum_1_d bP lP bQ lQ (Int.toNat (1000 - 1) + 1) 1 (-1) ([x61]) = E := ⟨_, rfl⟩
            have HR := hr_lt HR HE251
            refine R_fuelI (fun m245 a246 w247 => ∃ (k : Int) (carry : Int) (o : List Int) (g252 : Nat) (cap253 : Nat) (rest254 : List Value) (u2 : List Value), a246 = { tmps := #[.agg #[.bool bP, .slice AP (List.length lP) cP], .agg #[.bool bQ, .slice AQ (List.length lQ) cQ], .pointer (some ⟨g1, 0, none⟩), .pointer (some ⟨g4, 0, none⟩), .pointer (some ⟨g7, 0, none⟩), .pointer (some ⟨g18, 0, none⟩), .int .i64 carry, .int .i64 k, (gv u2 0), .pointer (some ⟨g1, 0, none⟩), .bool bP, .pointer (some ⟨g4, 0, none⟩), .bool bQ, .bool true, .bool true, .agg #[.bool bP, .slice AP (List.length lP) cP], .agg #[.bool bQ, .slice AQ (List.length lQ) cQ], .int .i64 r13, .bool false, .bool false, undef, undef, undef, .pointer (some ⟨g1, 0, none⟩), .bool bP, .agg #[.bool bP, .slice none 0 0], (gv u2 1), (gv u2 2), (gv u2 3), (gv u2 4), (gv u2 5), (gv u2 6), (gv u2 7), (gv u2 8), (gv u2 9), (gv u2 10), (gv u2 11), (gv u2 12), (gv u2 13), (gv u2 14), (gv u2 15), (gv u2 16), (gv u2 17), (gv u2 18), (gv u2 19), (gv u2 20), (gv u2 21), (gv u2 22), (gv u2 23), (gv u2 24), (gv u2 25), (gv u2 26), (gv u2 27), (gv u2 28), (gv u2 29), (gv u2 30), (gv u2 31), (gv u2 32), (gv u2 33), (gv u2 34), (gv u2 35), (gv u2 36), (gv u2 37), (gv u2 38), (gv u2 39), (gv u2 40), (gv u2 41), (gv u2 42), (gv u2 43), (gv u2 44), (gv u2 45), (gv u2 46), (gv u2 47), (gv u2 48), undef, undef, undef, undef, undef, undef, undef, undef, undef, undef], defers := [] } ∧ St ⟨w, [(AP, nv lP), (AQ, nv lQ)], [(none, nv ([])), (AP, nv lP), (AQ, nv lQ)]⟩ [⟨g252, ⟨nv o ++ rest254⟩, 3, (0, 0), true⟩, ⟨g233, #[.int .i64 x61], 3, (0, 0), true⟩, ⟨g18, #[.bool bP, .slice (some ⟨g252, 0, none⟩) (List.length o) cap253], 29, (0, 0), true⟩, ⟨g7, #[.bool false, .slice none 0 0], 29, (0, 0), true⟩, ⟨g4, #[.bool bQ, .slice AQ (List.length lQ) cQ], 29, (0, 0), true⟩, ⟨g1, #[.bool bP, .slice AP (List.length lP) cP], 29, (0, 0), true⟩] w247 ∧ 1000 - k < (m245 : Int) ∧ (SlOk 1 (List.length o) cap253 rest254) ∧ ((1 ≤ k ∧ k ≤ 1000 ∧ (List.length o : Int) = k)) ∧ L6_umbraref01_Sum_1_d bP lP bQ lQ m245 k carry o = E250) (Int.toNat (1000 - 1) + 1) ⟨1, (-1), ([x61]), g236, cap237, rest238, [.int .i64 x61, .int .i64 0, .pointer (some ⟨g1, 1, none⟩), .slice AP (List.length lP) cP, .int .i64 (List.length lP : Int), .pointer (some ⟨g4, 1, none⟩), .slice AQ (List.length lQ) cQ, .int .i64 (List.length lQ : Int), .int .i64 x23, .bool true, .int .i64 0, .int .i64 1, .agg #[.bool bP, .slice AP (List.length lP) cP], .int .i64 0, .int .i64 r31, .agg #[.bool bQ, .slice AQ (List.length lQ) cQ], .int .i64 0, .int .i64 r35, .int .i64 x37, .int .i64 0, .int .i64 x39, .pointer (some ⟨g1, 0, none⟩), .bool bP, .pointer (some ⟨g4, 0, none⟩), .bool bQ, .bool true, .agg #[.bool bP, .slice AP (List.length lP) cP], .int .i64 0, .int .i64 r48, .agg #[.bool bQ, .slice AQ (List.length lQ) cQ], .int .i64 0, .int .i64 r52, .int .i64 x54, .int .i64 0, .int .i64 x56, .int .i64 x56, .bool true, .int .i64 x56, .int .i64 x61, .int .i64 x61, .bool false, undef, undef, .pointer (some ⟨g18, 1, none⟩), .slice none 0 0, .int .i64 x61, .slice (some ⟨g233, 0, none⟩) 1 1, .slice (some ⟨g236, 0, none⟩) 1 cap237, .pointer (some ⟨g18, 1, none⟩)], by kernel_rfl, hM243, by omega, ok240, (by simp only [List.length_cons, List.length_nil]; omega), HE251⟩ ?_
            rintro m245 a246 w247 ⟨k, carry, o, g252, cap253, rest254, u2, rfl, hM248, hmu2, ok255, hk_2, HE251⟩ hnext249
            obtain ⟨f244, rfl⟩ : ∃ f, m245 = f + 1 := ⟨m245 - 1, by omega⟩
            rw [L6_umbraref01_Sum_1_d] at HE251
            refine R_seq (R_seq (R_region (S_val (.int .i64 k) (by kernel_rfl) (S_val (.pointer (some ⟨g1, 1, none⟩)) (by kernel_rfl) (S_load 5 1 (.slice AP (List.length lP) cP) hM248 (by kernel_rfl) (S_val (.int .i64 (List.length lP : Int)) (by kernel_rfl) (S_val (.pointer (some ⟨g4, 1, none⟩)) (by kernel_rfl) (S_load 4 1 (.slice AQ (List.length lQ) cQ) hM248 (by kernel_rfl) (S_val (.int .i64 (List.length lQ : Int)) (by kernel_rfl) (S_int (gmax (List.length lP : Int) (List.length lQ : Int)) .i64 (by kernel_rfl) (fun x256 h257 => ?_)))))))))))
            have HE251 := hq_lt HE251 h257
            refine S_dec (k < x256) (by kernel_rfl) (fun c258 => ?_) (fun c258 => ?_)
            · refine S_nil (R_yes (by kernel_rfl) (R_skip (R_seq (R_block (R_seq (R_drawF 10 (by kernel_rfl) (fun F259 U260 hL261 => F_load 5 0 (.agg #[.bool bP, .slice AP (List.length lP) cP]) hM248 (by kernel_rfl) (F_val (.int .i64 k) (fun _ => by kernel_rfl) (F_call (s_umbraref01_digit bP lP k) (fun r : Int => .int .i64 r) hM248 hL261 (fun w' hM' => w_umbraref01_digit bP lP k AP (List.length lP) cP rfl hcP (by omega) w' (hM'.ent 1 rfl)) (by kernel_rfl) (fun _ => by kernel_rfl) (fun r264 h265 => F_load 4 0 (.agg #[.bool bQ, .slice AQ (List.length lQ) cQ]) hM248 (by kernel_rfl) (F_val (.int .i64 k) (fun _ => by kernel_rfl) (?_))))))))))))
              have HE251 := hq_pos HE251 c258
              have HE251 := hq_lt HE251 h265
              refine F_call (s_umbraref01_digit bQ lQ k) (fun r : Int => .int .i64 r) hM248 hL261 (fun w' hM' => w_umbraref01_digit bQ lQ k AQ (List.length lQ) cQ rfl hcQ (by omega) w' (hM'.ent 2 rfl)) (by kernel_rfl) (fun _ => by kernel_rfl) (fun r268 h269 => F_int (IntKind.i64.wrap (r264 + r268)) .i64 (fun _ => by kernel_rfl) (fun x270 h271 => F_val (.int .i64 carry) (fun _ => by kernel_rfl) (F_int (IntKind.i64.wrap (x270 + carry)) .i64 (fun _ => by kernel_rfl) (fun x272 h273 => F_val (.int .i64 x272) (fun _ => by kernel_rfl) (F_nil hM248 hL261 (fun w274 hM275 => S_nil (R_seq (R_seq (R_region (S_val (.pointer (some ⟨g1, 0, none⟩)) (by kernel_rfl) (S_load 5 0 (.bool bP) hM275 (by kernel_rfl) (?_))))))))))))
              have HE251 := hq_lt HE251 h269
              have HE251 := hq_lt HE251 h271
              have HE251 := hq_lt HE251 h273
              refine S_val (.pointer (some ⟨g4, 0, none⟩)) (by kernel_rfl) (S_load 4 0 (.bool bQ) hM275 (by kernel_rfl) (S_val (.bool true) (knF' c10 (by kernel_rfl)) (S_nil (R_yes (by kernel_rfl) (R_drawF 10 (by kernel_rfl) (fun F276 U277 hL278 => F_load 5 0 (.agg #[.bool bP, .slice AP (List.length lP) cP]) hM275 (by kernel_rfl) (F_val (.int .i64 k) (fun _ => by kernel_rfl) (F_call (s_umbraref01_digit bP lP k) (fun r : Int => .int .i64 r) hM275 hL278 (fun w' hM' => w_umbraref01_digit bP lP k AP (List.length lP) cP rfl hcP (by omega) w' (hM'.ent 1 rfl)) (by kernel_rfl) (fun _ => by kernel_rfl) (fun r281 h282 => F_load 4 0 (.agg #[.bool bQ, .slice AQ (List.length lQ) cQ]) hM275 (by kernel_rfl) (F_val (.int .i64 k) (fun _ => by kernel_rfl) (F_call (s_umbraref01_digit bQ lQ k) (fun r : Int => .int .i64 r) hM275 hL278 (fun w' hM' => w_umbraref01_digit bQ lQ k AQ (List.length lQ) cQ rfl hcQ (by omega) w' (hM'.ent 2 rfl)) (by kernel_rfl) (fun _ => by kernel_rfl) (fun r285 h286 => ?_))))))))))))
              have HE251 := hq_lt HE251 h282
              have HE251 := hq_lt HE251 h286
              refine F_int (IntKind.i64.wrap (r281 - r285)) .i64 (fun _ => by kernel_rfl) (fun x287 h288 => F_val (.int .i64 carry) (fun _ => by kernel_rfl) (F_int (IntKind.i64.wrap (x287 + carry)) .i64 (fun _ => by kernel_rfl) (fun x289 h290 => F_val (.int .i64 x289) (fun _ => by kernel_rfl) (F_nil hM275 hL278 (fun w291 hM292 => S_nil (R_seq (R_region (S_val (.int .i64 0) (by kernel_rfl) (S_nil (R_seq (R_seq (?_))))))))))))
              have HE251 := hq_lt HE251 h288
              have HE251 := hq_lt HE251 h290
              refine R_region (S_val (.int .i64 x289) (by kernel_rfl) (?_))
              refine S_dec (x289 < 0) (by kernel_rfl) (fun c293 => ?_) (fun c293 => ?_)
              · refine S_nil (R_yes (by kernel_rfl) (R_seq (R_region (S_val (.int .i64 x289) (by kernel_rfl) (S_int (IntKind.i64.wrap (x289 + 65536)) .i64 (by kernel_rfl) (fun x294 h295 => S_val (.int .i64 x294) (by kernel_rfl) (S_nil (R_region (S_val (.int .i64 (-1)) (by kernel_rfl) (S_nil (R_seq (?_))))))))))))
                have HE251 := hq_pos HE251 c293
                have HE251 := hq_lt HE251 h295
                refine R_seq (R_region (S_val (.int .i64 x294) (by kernel_rfl) (?_)))
                refine S_dec (x294 > 65535) (by kernel_rfl) (fun c296 => ?_) (fun c296 => ?_)
                · refine S_nil (R_yes (by kernel_rfl) (R_seq (R_region (S_val (.int .i64 x294) (by kernel_rfl) (S_int (IntKind.i64.wrap (x294 - 65536)) .i64 (by kernel_rfl) (fun x297 h298 => S_val (.int .i64 x297) (by kernel_rfl) (S_nil (R_region (S_val (.int .i64 1) (by kernel_rfl) (S_nil (R_region (?_))))))))))))
                  have HE251 := hq_pos HE251 c296
                  have HE251 := hq_lt HE251 h298
                  refine S_val (.pointer (some ⟨g18, 1, none⟩)) (by kernel_rfl) (S_load 2 1 (.slice (some ⟨g252, 0, none⟩) (List.length o) cap253) hM292 (by kernel_rfl) (S_val (.int .i64 x297) (by kernel_rfl) (S_fresh (some 1) #[.int .i64 x297] 3 hM292 (by kernel_rfl) (fun g299 w300 hM301 => ?_))))
                  refine S_appL 1 0 (List.length o) cap253 1 3 o rest254 x297 hM301 ok255 rfl (by omega) (by kernel_rfl) (fun g302 l308 h309 cap303 rest304 w305 ok306 hM307 => ?_)
                  have hlen_l308 : List.length l308 = List.length o + 1 := by rw [← h309]; simp
                  have HE251 := hq_lt HE251 h309
                  refine S_val (.pointer (some ⟨g18, 1, none⟩)) (by kernel_rfl) (S_store 3 1 #[.bool bP, .slice (some ⟨g302, 0, none⟩) (List.length l308) cap303] hM307 (by kernel_rfl) (fun w310 hM311 => S_nil (R_inBlock (R_region (S_val (.int .i64 k) (by kernel_rfl) (S_int (IntKind.i64.wrap (k + 1)) .i64 (by kernel_rfl) (fun x312 h313 => S_val (.int .i64 x312) (by kernel_rfl) (S_nil (?_)))))))))
                  have HE251 := hq_lt HE251 h313
                  have hw_x312 := h313; rw [wrI] at hw_x312; unfold wrap64 at hw_x312
                  have hw_x23 := h24; rw [gmax_eq] at hw_x23
                  have hw_x56 := h57; rw [wrI] at hw_x56; unfold wrap64 at hw_x56
                  have hw_x54 := h55; rw [wrI] at hw_x54; unfold wrap64 at hw_x54
                  have hw_x61 := h62; rw [wrI] at hw_x61; unfold wrap64 at hw_x61
                  have hw_x256 := h257; rw [gmax_eq] at hw_x256
                  have hw_x289 := h290; rw [wrI] at hw_x289; unfold wrap64 at hw_x289
                  have hw_x287 := h288; rw [wrI] at hw_x287; unfold wrap64 at hw_x287
                  have hw_x294 := h295; rw [wrI] at hw_x294; unfold wrap64 at hw_x294
                  have hM314 := hM311.re [0, 2, 3, 4, 5, 6] (by decide) (by kernel_rfl)
                  exact hnext249 f244 _ _ (Nat.lt_succ_self _) ⟨x312, 1, l308, g302, cap303, rest304, [.int .i64 x297, .int .i64 k, .pointer (some ⟨g1, 1, none⟩), .slice AP (List.length lP) cP, .int .i64 (List.length lP : Int), .pointer (some ⟨g4, 1, none⟩), .slice AQ (List.length lQ) cQ, .int .i64 (List.length lQ : Int), .int .i64 x256, .bool true, .int .i64 k, .int .i64 x312, .agg #[.bool bP, .slice AP (List.length lP) cP], .int .i64 k, .int .i64 r264, .agg #[.bool bQ, .slice AQ (List.length lQ) cQ], .int .i64 k, .int .i64 r268, .int .i64 x270, .int .i64 carry, .int .i64 x272, .pointer (some ⟨g1, 0, none⟩), .bool bP, .pointer (some ⟨g4, 0, none⟩), .bool bQ, .bool true, .agg #[.bool bP, .slice AP (List.length lP) cP], .int .i64 k, .int .i64 r281, .agg #[.bool bQ, .slice AQ (List.length lQ) cQ], .int .i64 k, .int .i64 r285, .int .i64 x287, .int .i64 carry, .int .i64 x289, .int .i64 x289, .bool true, .int .i64 x289, .int .i64 x294, .int .i64 x294, .bool true, .int .i64 x294, .int .i64 x297, .pointer (some ⟨g18, 1, none⟩), .slice (some ⟨g252, 0, none⟩) (List.length o) cap253, .int .i64 x297, .slice (some ⟨g299, 0, none⟩) 1 1, .slice (some ⟨g302, 0, none⟩) (List.length l308) cap303, .pointer (some ⟨g18, 1, none⟩)], by kernel_rfl, hM314, by omega, ok306, (by omega), HE251⟩
                · refine S_nil (R_no (by kernel_rfl) (R_skip (R_region (S_val (.pointer (some ⟨g18, 1, none⟩)) (by kernel_rfl) (S_load 2 1 (.slice (some ⟨g252, 0, none⟩) (List.length o) cap253) hM292 (by kernel_rfl) (S_val (.int .i64 x294) (by kernel_rfl) (S_fresh (some 1) #[.int .i64 x294] 3 hM292 (by kernel_rfl) (fun g315 w316 hM317 => ?_))))))))
                  have HE251 := hq_neg HE251 c296
                  refine S_appL 1 0 (List.length o) cap253 1 3 o rest254 x294 hM317 ok255 rfl (by omega) (by kernel_rfl) (fun g318 l324 h325 cap319 rest320 w321 ok322 hM323 => ?_)
                  have hlen_l324 : List.length l324 = List.length o + 1 := by rw [← h325]; simp
                  have HE251 := hq_lt HE251 h325
                  refine S_val (.pointer (some ⟨g18, 1, none⟩)) (by kernel_rfl) (S_store 3 1 #[.bool bP, .slice (some ⟨g318, 0, none⟩) (List.length l324) cap319] hM323 (by kernel_rfl) (fun w326 hM327 => S_nil (R_inBlock (R_region (S_val (.int .i64 k) (by kernel_rfl) (S_int (IntKind.i64.wrap (k + 1)) .i64 (by kernel_rfl) (fun x328 h329 => S_val (.int .i64 x328) (by kernel_rfl) (S_nil (?_)))))))))
                  have HE251 := hq_lt HE251 h329
                  have hw_x328 := h329; rw [wrI] at hw_x328; unfold wrap64 at hw_x328
                  have hw_x23 := h24; rw [gmax_eq] at hw_x23
                  have hw_x56 := h57; rw [wrI] at hw_x56; unfold wrap64 at hw_x56
                  have hw_x54 := h55; rw [wrI] at hw_x54; unfold wrap64 at hw_x54
                  have hw_x61 := h62; rw [wrI] at hw_x61; unfold wrap64 at hw_x61
                  have hw_x256 := h257; rw [gmax_eq] at hw_x256
                  have hw_x289 := h290; rw [wrI] at hw_x289; unfold wrap64 at hw_x289
                  have hw_x287 := h288; rw [wrI] at hw_x287; unfold wrap64 at hw_x287
                  have hw_x294 := h295; rw [wrI] at hw_x294; unfold wrap64 at hw_x294
                  have hM330 := hM327.re [0, 2, 3, 4, 5, 6] (by decide) (by kernel_rfl)
                  exact hnext249 f244 _ _ (Nat.lt_succ_self _) ⟨x328, (-1), l324, g318, cap319, rest320, [.int .i64 x294, .int .i64 k, .pointer (some ⟨g1, 1, none⟩), .slice AP (List.length lP) cP, .int .i64 (List.length lP : Int), .pointer (some ⟨g4, 1, none⟩), .slice AQ (List.length lQ) cQ, .int .i64 (List.length lQ : Int), .int .i64 x256, .bool true, .int .i64 k, .int .i64 x328, .agg #[.bool bP, .slice AP (List.length lP) cP], .int .i64 k, .int .i64 r264, .agg #[.bool bQ, .slice AQ (List.length lQ) cQ], .int .i64 k, .int .i64 r268, .int .i64 x270, .int .i64 carry, .int .i64 x272, .pointer (some ⟨g1, 0, none⟩), .bool bP, .pointer (some ⟨g4, 0, none⟩), .bool bQ, .bool true, .agg #[.bool bP, .slice AP (List.length lP) cP], .int .i64 k, .int .i64 r281, .agg #[.bool bQ, .slice AQ (List.length lQ) cQ], .int .i64 k, .int .i64 r285, .int .i64 x287, .int .i64 carry, .int .i64 x289, .int .i64 x289, .bool true, .int .i64 x289, .int .i64 x294, .int .i64 x294, .bool false, (gv u2 41), (gv u2 42), .pointer (some ⟨g18, 1, none⟩), .slice (some ⟨g252, 0, none⟩) (List.length o) cap253, .int .i64 x294, .slice (some ⟨g315, 0, none⟩) 1 1, .slice (some ⟨g318, 0, none⟩) (List.length l324) cap319, .pointer (some ⟨g18, 1, none⟩)], by kernel_rfl, hM330, by omega, ok322, (by omega), HE251⟩
              · refine S_nil (R_no (by kernel_rfl) (R_skip (R_seq (R_seq (R_region (S_val (.int .i64 x289) (by kernel_rfl) (?_)))))))
                have HE251 := hq_neg HE251 c293
                refine S_dec (x289 > 65535) (by kernel_rfl) (fun c331 => ?_) (fun c331 => ?_)
                · refine S_nil (R_yes (by kernel_rfl) (R_seq (R_region (S_val (.int .i64 x289) (by kernel_rfl) (S_int (IntKind.i64.wrap (x289 - 65536)) .i64 (by kernel_rfl) (fun x332 h333 => S_val (.int .i64 x332) (by kernel_rfl) (S_nil (R_region (S_val (.int .i64 1) (by kernel_rfl) (S_nil (R_region (?_))))))))))))
                  have HE251 := hq_pos HE251 c331
                  have HE251 := hq_lt HE251 h333
                  refine S_val (.pointer (some ⟨g18, 1, none⟩)) (by kernel_rfl) (S_load 2 1 (.slice (some ⟨g252, 0, none⟩) (List.length o) cap253) hM292 (by kernel_rfl) (S_val (.int .i64 x332) (by kernel_rfl) (S_fresh (some 1) #[.int .i64 x332] 3 hM292 (by kernel_rfl) (fun g334 w335 hM336 => ?_))))
                  refine S_appL 1 0 (List.length o) cap253 1 3 o rest254 x332 hM336 ok255 rfl (by omega) (by kernel_rfl) (fun g337 l343 h344 cap338 rest339 w340 ok341 hM342 => ?_)
                  have hlen_l343 : List.length l343 = List.length o + 1 := by rw [← h344]; simp
                  have HE251 := hq_lt HE251 h344
                  refine S_val (.pointer (some ⟨g18, 1, none⟩)) (by kernel_rfl) (S_store 3 1 #[.bool bP, .slice (some ⟨g337, 0, none⟩) (List.length l343) cap338] hM342 (by kernel_rfl) (fun w345 hM346 => S_nil (R_inBlock (R_region (S_val (.int .i64 k) (by kernel_rfl) (S_int (IntKind.i64.wrap (k + 1)) .i64 (by kernel_rfl) (fun x347 h348 => S_val (.int .i64 x347) (by kernel_rfl) (S_nil (?_)))))))))
                  have HE251 := hq_lt HE251 h348
                  have hw_x347 := h348; rw [wrI] at hw_x347; unfold wrap64 at hw_x347
                  have hw_x23 := h24; rw [gmax_eq] at hw_x23
                  have hw_x56 := h57; rw [wrI] at hw_x56; unfold wrap64 at hw_x56
                  have hw_x54 := h55; rw [wrI] at hw_x54; unfold wrap64 at hw_x54
                  have hw_x61 := h62; rw [wrI] at hw_x61; unfold wrap64 at hw_x61
                  have hw_x256 := h257; rw [gmax_eq] at hw_x256
                  have hw_x289 := h290; rw [wrI] at hw_x289; unfold wrap64 at hw_x289
                  have hw_x287 := h288; rw [wrI] at hw_x287; unfold wrap64 at hw_x287
                  have hM349 := hM346.re [0, 2, 3, 4, 5, 6] (by decide) (by kernel_rfl)
                  exact hnext249 f244 _ _ (Nat.lt_succ_self _) ⟨x347, 1, l343, g337, cap338, rest339, [.int .i64 x332, .int .i64 k, .pointer (some ⟨g1, 1, none⟩), .slice AP (List.length lP) cP, .int .i64 (List.length lP : Int), .pointer (some ⟨g4, 1, none⟩), .slice AQ (List.length lQ) cQ, .int .i64 (List.length lQ : Int), .int .i64 x256, .bool true, .int .i64 k, .int .i64 x347, .agg #[.bool bP, .slice AP (List.length lP) cP], .int .i64 k, .int .i64 r264, .agg #[.bool bQ, .slice AQ (List.length lQ) cQ], .int .i64 k, .int .i64 r268, .int .i64 x270, .int .i64 carry, .int .i64 x272, .pointer (some ⟨g1, 0, none⟩), .bool bP, .pointer (some ⟨g4, 0, none⟩), .bool bQ, .bool true, .agg #[.bool bP, .slice AP (List.length lP) cP], .int .i64 k, .int .i64 r281, .agg #[.bool bQ, .slice AQ (List.length lQ) cQ], .int .i64 k, .int .i64 r285, .int .i64 x287, .int .i64 carry, .int .i64 x289, .int .i64 x289, .bool false, (gv u2 37), (gv u2 38), .int .i64 x289, .bool true, .int .i64 x289, .int .i64 x332, .pointer (some ⟨g18, 1, none⟩), .slice (some ⟨g252, 0, none⟩) (List.length o) cap253, .int .i64 x332, .slice (some ⟨g334, 0, none⟩) 1 1, .slice (some ⟨g337, 0, none⟩) (List.length l343) cap338, .pointer (some ⟨g18, 1, none⟩)], by kernel_rfl, hM349, by omega, ok341, (by omega), HE251⟩
                · refine S_nil (R_no (by kernel_rfl) (R_skip (R_region (S_val (.pointer (some ⟨g18, 1, none⟩)) (by kernel_rfl) (S_load 2 1 (.slice (some ⟨g252, 0, none⟩) (List.length o) cap253) hM292 (by kernel_rfl) (S_val (.int .i64 x289) (by kernel_rfl) (S_fresh (some 1) #[.int .i64 x289] 3 hM292 (by kernel_rfl) (fun g350 w351 hM352 => ?_))))))))
                  have HE251 := hq_neg HE251 c331
                  refine S_appL 1 0 (List.length o) cap253 1 3 o rest254 x289 hM352 ok255 rfl (by omega) (by kernel_rfl) (fun g353 l359 h360 cap354 rest355 w356 ok357 hM358 => ?_)
                  have hlen_l359 : List.length l359 = List.length o + 1 := by rw [← h360]; simp
                  have HE251 := hq_lt HE251 h360
                  refine S_val (.pointer (some ⟨g18, 1, none⟩)) (by kernel_rfl) (S_store 3 1 #[.bool bP, .slice (some ⟨g353, 0, none⟩) (List.length l359) cap354] hM358 (by kernel_rfl) (fun w361 hM362 => S_nil (R_inBlock (R_region (S_val (.int .i64 k) (by kernel_rfl) (S_int (IntKind.i64.wrap (k + 1)) .i64 (by kernel_rfl) (fun x363 h364 => S_val (.int .i64 x363) (by kernel_rfl) (S_nil (?_)))))))))
                  have HE251 := hq_lt HE251 h364
                  have hw_x363 := h364; rw [wrI] at hw_x363; unfold wrap64 at hw_x363
                  have hw_x23 := h24; rw [gmax_eq] at hw_x23
                  have hw_x56 := h57; rw [wrI] at hw_x56; unfold wrap64 at hw_x56
                  have hw_x54 := h55; rw [wrI] at hw_x54; unfold wrap64 at hw_x54
                  have hw_x61 := h62; rw [wrI] at hw_x61; unfold wrap64 at hw_x61
                  have hw_x256 := h257; rw [gmax_eq] at hw_x256
                  have hw_x289 := h290; rw [wrI] at hw_x289; unfold wrap64 at hw_x289
                  have hw_x287 := h288; rw [wrI] at hw_x287; unfold wrap64 at hw_x287
                  have hM365 := hM362.re [0, 2, 3, 4, 5, 6] (by decide) (by kernel_rfl)
                  exact hnext249 f244 _ _ (Nat.lt_succ_self _) ⟨x363, 0, l359, g353, cap354, rest355, [.int .i64 x289, .int .i64 k, .pointer (some ⟨g1, 1, none⟩), .slice AP (List.length lP) cP, .int .i64 (List.length lP : Int), .pointer (some ⟨g4, 1, none⟩), .slice AQ (List.length lQ) cQ, .int .i64 (List.length lQ : Int), .int .i64 x256, .bool true, .int .i64 k, .int .i64 x363, .agg #[.bool bP, .slice AP (List.length lP) cP], .int .i64 k, .int .i64 r264, .agg #[.bool bQ, .slice AQ (List.length lQ) cQ], .int .i64 k, .int .i64 r268, .int .i64 x270, .int .i64 carry, .int .i64 x272, .pointer (some ⟨g1, 0, none⟩), .bool bP, .pointer (some ⟨g4, 0, none⟩), .bool bQ, .bool true, .agg #[.bool bP, .slice AP (List.length lP) cP], .int .i64 k, .int .i64 r281, .agg #[.bool bQ, .slice AQ (List.length lQ) cQ], .int .i64 k, .int .i64 r285, .int .i64 x287, .int .i64 carry, .int .i64 x289, .int .i64 x289, .bool false, (gv u2 37), (gv u2 38), .int .i64 x289, .bool false, (gv u2 41), (gv u2 42), .pointer (some ⟨g18, 1, none⟩), .slice (some ⟨g252, 0, none⟩) (List.length o) cap253, .int .i64 x289, .slice (some ⟨g350, 0, none⟩) 1 1, .slice (some ⟨g353, 0, none⟩) (List.length l359) cap354, .pointer (some ⟨g18, 1, none⟩)], by kernel_rfl, hM365, by omega, ok357, (by omega), HE251⟩
            · refine S_nil (R_no (by kernel_rfl) (R_exit rfl (?_)))
              have HE251 := hq_neg HE251 c258
              subst HE251
              refine R_seq (R_seq (R_region (S_val (.int .i64 carry) (by kernel_rfl) (?_))))
              refine S_dec (carry > 0) (by kernel_rfl) (fun c199 => ?_) (fun c199 => ?_)
              · refine S_nil (R_yes (by kernel_rfl) (R_region (S_val (.pointer (some ⟨g18, 1, none⟩)) (by kernel_rfl) (S_load 2 1 (.slice (some ⟨g252, 0, none⟩) (List.length o) cap253) hM248 (by kernel_rfl) (S_val (.int .i64 carry) (by kernel_rfl) (S_fresh (some 1) #[.int .i64 carry] 3 hM248 (by kernel_rfl) (fun g200 w201 hM202 => ?_)))))))
                have HR := hr_pos HR c199
                refine S_appL 1 0 (List.length o) cap253 1 3 o rest254 carry hM202 ok255 rfl (by omega) (by kernel_rfl) (fun g203 l209 h210 cap204 rest205 w206 ok207 hM208 => ?_)
                have hlen_l209 : List.length l209 = List.length o + 1 := by rw [← h210]; simp
                have HR := hr_lt HR h210
                refine S_val (.pointer (some ⟨g18, 1, none⟩)) (by kernel_rfl) (S_store 3 1 #[.bool bP, .slice (some ⟨g203, 0, none⟩) (List.length l209) cap204] hM208 (by kernel_rfl) (fun w211 hM212 => S_nil (R_seq (R_region (S_load 3 0 (.agg #[.bool bP, .slice (some ⟨g203, 0, none⟩) (List.length l209) cap204]) hM212 (by kernel_rfl) (?_))))))
                have hM213 := hM212.freeze 0 l209 rest205 (by kernel_rfl)
                refine S_callN (s_umbraref01_trim bP l209) [((some ⟨g203, 0, none⟩), nv l209)] hM213 (w_umbraref01_trim bP l209 (some ⟨g203, 0, none⟩) (List.length l209) cap204 (by omega) ok207.le (by first | omega | simp) w211 (hM213.ent 0 rfl)) (subc 0 rfl sub0) (by kernel_rfl) (fun r214 h215 A216 cap217 hc218 w219 hM220 => S_store 3 0 #[.bool r214.1, .slice A216 (List.length r214.2) cap217] hM220 (by kernel_rfl) (fun w221 hM222 => S_nil (?_)))
                have HR := hr_lt HR h215
                refine R_ret hM222 rfl (.cons (.cell _ _ 3 0 (.agg #[.bool r214.1, .slice A216 (List.length r214.2) cap217]) (by kernel_rfl)) .nil) rfl ?_
                exact hM222.retN 0 rfl rfl hc218 HR
              · refine S_nil (R_no (by kernel_rfl) (R_skip (R_seq (R_region (S_load 2 0 (.agg #[.bool bP, .slice (some ⟨g252, 0, none⟩) (List.length o) cap253]) hM248 (by kernel_rfl) (?_))))))
                have HR := hr_neg HR c199
                have hM223 := hM248.freeze 0 o rest254 (by kernel_rfl)
                refine S_callN (s_umbraref01_trim bP o) [((some ⟨g252, 0, none⟩), nv o)] hM223 (w_umbraref01_trim bP o (some ⟨g252, 0, none⟩) (List.length o) cap253 (by omega) ok255.le (by first | omega | simp) w247 (hM223.ent 0 rfl)) (subc 0 rfl sub0) (by kernel_rfl) (fun r224 h225 A226 cap227 hc228 w229 hM230 => S_store 2 0 #[.bool r224.1, .slice A226 (List.length r224.2) cap227] hM230 (by kernel_rfl) (fun w231 hM232 => S_nil (?_)))
                have HR := hr_lt HR h225
                refine R_ret hM232 rfl (.cons (.cell _ _ 2 0 (.agg #[.bool r224.1, .slice A226 (List.length r224.2) cap227]) (by kernel_rfl)) .nil) rfl ?_
                exact hM232.retN 0 rfl rfl hc228 HR
        · refine S_nil (R_no (by kernel_rfl) (R_skip (R_seq (R_seq (R_region (S_val (.int .i64 x56) (by kernel_rfl) (?_)))))))
          have HR := hr_neg HR c60
          refine S_dec (x56 > 65535) (by kernel_rfl) (fun c366 => ?_) (fun c366 => ?_)
          · refine S_nil (R_yes (by kernel_rfl) (R_seq (R_region (S_val (.int .i64 x56) (by kernel_rfl) (S_int (IntKind.i64.wrap (x56 - 65536)) .i64 (by kernel_rfl) (fun x367 h368 => S_val (.int .i64 x367) (by kernel_rfl) (S_nil (R_region (S_val (.int .i64 1) (by kernel_rfl) (S_nil (R_region (?_))))))))))))
            have HR := hr_pos HR c366
            have HR := hr_lt HR h368
            refine S_val (.pointer (some ⟨g18, 1, none⟩)) (by kernel_rfl) (S_load 0 1 (.slice none 0 0) hM59 (by kernel_rfl) (S_val (.int .i64 x367) (by kernel_rfl) (S_fresh (some 1) #[.int .i64 x367] 3 hM59 (by kernel_rfl) (fun g369 w370 hM371 => ?_))))
            refine S_app0 0 1 1 3 1 8 (.int .i64 0) [.int .i64 x367] hM371 (by kernel_rfl) (by kernel_rfl) (fun g372 cap373 rest374 w375 ok376 hM377 => S_val (.pointer (some ⟨g18, 1, none⟩)) (by kernel_rfl) (S_store 2 1 #[.bool bP, .slice (some ⟨g372, 0, none⟩) 1 cap373] hM377 (by kernel_rfl) (fun w378 hM379 => S_nil (R_inBlock (R_region (S_val (.int .i64 0) (by kernel_rfl) (S_val (.int .i64 1) (by kernel_rfl) (S_val (.int .i64 1) (by kernel_rfl) (S_nil (?_))))))))))
            have hw_x367 := h368; rw [wrI] at hw_x367; unfold wrap64 at hw_x367
            have hw_x56 := h57; rw [wrI] at hw_x56; unfold wrap64 at hw_x56
            have hw_x54 := h55; rw [wrI] at hw_x54; unfold wrap64 at hw_x54
            have hw_x23 := h24; rw [gmax_eq] at hw_x23
            obtain ⟨E386, HE387⟩ : ∃ E, L6_umbraref01_Sum_1_d bP lP bQ lQ (Int.toNat (1000 - 1) + 1) 1 1 ([x367]) = E := ⟨_, rfl⟩
            have HR := hr_lt HR HE387
            refine R_fuelI (fun m381 a382 w383 => ∃ (k : Int) (carry : Int) (o : List Int) (g388 : Nat) (cap389 : Nat) (rest390 : List Value) (u3 : List Value), a382 = { tmps := #[.agg #[.bool bP, .slice AP (List.length lP) cP], .agg #[.bool bQ, .slice AQ (List.length lQ) cQ], .pointer (some ⟨g1, 0, none⟩), .pointer (some ⟨g4, 0, none⟩), .pointer (some ⟨g7, 0, none⟩), .pointer (some ⟨g18, 0, none⟩), .int .i64 carry, .int .i64 k, (gv u3 0), .pointer (some ⟨g1, 0, none⟩), .bool bP, .pointer (some ⟨g4, 0, none⟩), .bool bQ, .bool true, .bool true, .agg #[.bool bP, .slice AP (List.length lP) cP], .agg #[.bool bQ, .slice AQ (List.length lQ) cQ], .int .i64 r13, .bool false, .bool false, undef, undef, undef, .pointer (some ⟨g1, 0, none⟩), .bool bP, .agg #[.bool bP, .slice none 0 0], (gv u3 1), (gv u3 2), (gv u3 3), (gv u3 4), (gv u3 5), (gv u3 6), (gv u3 7), (gv u3 8), (gv u3 9), (gv u3 10), (gv u3 11), (gv u3 12), (gv u3 13), (gv u3 14), (gv u3 15), (gv u3 16), (gv u3 17), (gv u3 18), (gv u3 19), (gv u3 20), (gv u3 21), (gv u3 22), (gv u3 23), (gv u3 24), (gv u3 25), (gv u3 26), (gv u3 27), (gv u3 28), (gv u3 29), (gv u3 30), (gv u3 31), (gv u3 32), (gv u3 33), (gv u3 34), (gv u3 35), (gv u3 36), (gv u3 37), (gv u3 38), (gv u3 39), (gv u3 40), (gv u3 41), (gv u3 42), (gv u3 43), (gv u3 44), (gv u3 45), (gv u3 46), (gv u3 47), (gv u3 48), undef, undef, undef, undef, undef, undef, undef, undef, undef, undef], defers := [] } ∧ St ⟨w, [(AP, nv lP), (AQ, nv lQ)], [(none, nv ([])), (AP, nv lP), (AQ, nv lQ)]⟩ [⟨g388, ⟨nv o ++ rest390⟩, 3, (0, 0), true⟩, ⟨g369, #[.int .i64 x367], 3, (0, 0), true⟩, ⟨g18, #[.bool bP, .slice (some ⟨g388, 0, none⟩) (List.length o) cap389], 29, (0, 0), true⟩, ⟨g7, #[.bool false, .slice none 0 0], 29, (0, 0), true⟩, ⟨g4, #[.bool bQ, .slice AQ (List.length lQ) cQ], 29, (0, 0), true⟩, ⟨g1, #[.bool bP, .slice AP (List.length lP) cP], 29, (0, 0), true⟩] w383 ∧ 1000 - k < (m381 : Int) ∧ (SlOk 1 (List.length o) cap389 rest390) ∧ ((1 ≤ k ∧ k ≤ 1000 ∧ (List.length o : Int) = k)) ∧ L6_umbraref01_Sum_1_d bP lP bQ lQ m381 k carry o = E386) (Int.toNat (1000 - 1) + 1) ⟨1, 1, ([x367]), g372, cap373, rest374, [.int .i64 x367, .int .i64 0, .pointer (some ⟨g1, 1, none⟩), .slice AP (List.length lP) cP, .int .i64 (List.length lP : Int), .pointer (some ⟨g4, 1, none⟩), .slice AQ (List.length lQ) cQ, .int .i64 (List.length lQ : Int), .int .i64 x23, .bool true, .int .i64 0, .int .i64 1, .agg #[.bool bP, .slice AP (List.length lP) cP], .int .i64 0, .int .i64 r31, .agg #[.bool bQ, .slice AQ (List.length lQ) cQ], .int .i64 0, .int .i64 r35, .int .i64 x37, .int .i64 0, .int .i64 x39, .pointer (some ⟨g1, 0, none⟩), .bool bP, .pointer (some ⟨g4, 0, none⟩), .bool bQ, .bool true, .agg #[.bool bP, .slice AP (List.length lP) cP], .int .i64 0, .int .i64 r48, .agg #[.bool bQ, .slice AQ (List.length lQ) cQ], .int .i64 0, .int .i64 r52, .int .i64 x54, .int .i64 0, .int .i64 x56, .int .i64 x56, .bool false, undef, undef, .int .i64 x56, .bool true, .int .i64 x56, .int .i64 x367, .pointer (some ⟨g18, 1, none⟩), .slice none 0 0, .int .i64 x367, .slice (some ⟨g369, 0, none⟩) 1 1, .slice (some ⟨g372, 0, none⟩) 1 cap373, .pointer (some ⟨g18, 1, none⟩)], by kernel_rfl, hM379, by omega, ok376, (by simp only [List.length_cons, List.length_nil]; omega), HE387⟩ ?_
            rintro m381 a382 w383 ⟨k, carry, o, g388, cap389, rest390, u3, rfl, hM384, hmu3, ok391, hk_3, HE387⟩ hnext385
            obtain ⟨f380, rfl⟩ : ∃ f, m381 = f + 1 := ⟨m381 - 1, by omega⟩
            rw [L6_umbraref01_Sum_1_d] at HE387
            refine R_seq (R_seq (R_region (S_val (.int .i64 k) (by kernel_rfl) (S_val (.pointer (some ⟨g1, 1, none⟩)) (by kernel_rfl) (S_load 5 1 (.slice AP (List.length lP) cP) hM384 (by kernel_rfl) (S_val (.int .i64 (List.length lP : Int)) (by kernel_rfl) (S_val (.pointer (some ⟨g4, 1, none⟩)) (by kernel_rfl) (S_load 4 1 (.slice AQ (List.length lQ) cQ) hM384 (by kernel_rfl) (S_val (.int .i64 (List.length lQ : Int)) (by kernel_rfl) (S_int (gmax (List.length lP : Int) (List.length lQ : Int)) .i64 (by kernel_rfl) (fun x392 h393 => ?_)))))))))))
            have HE387 := hq_lt HE387 h393
            refine S_dec (k < x392) (by kernel_rfl) (fun c394 => ?_) (fun c394 => ?_)
            · refine S_nil (R_yes (by kernel_rfl) (R_skip (R_seq (R_block (R_seq (R_drawF 10 (by kernel_rfl) (fun F395 U396 hL397 => F_load 5 0 (.agg #[.bool bP, .slice AP (List.length lP) cP]) hM384 (by kernel_rfl) (F_val (.int .i64 k) (fun _ => by kernel_rfl) (F_call (s_umbraref01_digit bP lP k) (fun r : Int => .int .i64 r) hM384 hL397 (fun w' hM' => w_umbraref01_digit bP lP k AP (List.length lP) cP rfl hcP (by omega) w' (hM'.ent 1 rfl)) (by kernel_rfl) (fun _ => by kernel_rfl) (fun r400 h401 => F_load 4 0 (.agg #[.bool bQ, .slice AQ (List.length lQ) cQ]) hM384 (by kernel_rfl) (F_val (.int .i64 k) (fun _ => by kernel_rfl) (?_))))))))))))
              have HE387 := hq_pos HE387 c394
              have HE387 := hq_lt HE387 h401
              refine F_call (s_umbraref01_digit bQ lQ k) (fun r : Int => .int .i64 r) hM384 hL397 (fun w' hM' => w_umbraref01_digit bQ lQ k AQ (List.length lQ) cQ rfl hcQ (by omega) w' (hM'.ent 2 rfl)) (by kernel_rfl) (fun _ => by kernel_rfl) (fun r404 h405 => F_int (IntKind.i64.wrap (r400 + r404)) .i64 (fun _ => by kernel_rfl) (fun x406 h407 => F_val (.int .i64 carry) (fun _ => by kernel_rfl) (F_int (IntKind.i64.wrap (x406 + carry)) .i64 (fun _ => by kernel_rfl) (fun x408 h409 => F_val (.int .i64 x408) (fun _ => by kernel_rfl) (F_nil hM384 hL397 (fun w410 hM411 => S_nil (R_seq (R_seq (R_region (S_val (.pointer (some ⟨g1, 0, none⟩)) (by kernel_rfl) (S_load 5 0 (.bool bP) hM411 (by kernel_rfl) (?_))))))))))))
              have HE387 := hq_lt HE387 h405
              have HE387 := hq_lt HE387 h407
              have HE387 := hq_lt HE387 h409
              refine S_val (.pointer (some ⟨g4, 0, none⟩)) (by kernel_rfl) (S_load 4 0 (.bool bQ) hM411 (by kernel_rfl) (S_val (.bool true) (knF' c10 (by kernel_rfl)) (S_nil (R_yes (by kernel_rfl) (R_drawF 10 (by kernel_rfl) (fun F412 U413 hL414 => F_load 5 0 (.agg #[.bool bP, .slice AP (List.length lP) cP]) hM411 (by kernel_rfl) (F_val (.int .i64 k) (fun _ => by kernel_rfl) (F_call (s_umbraref01_digit bP lP k) (fun r : Int => .int .i64 r) hM411 hL414 (fun w' hM' => w_umbraref01_digit bP lP k AP (List.length lP) cP rfl hcP (by omega) w' (hM'.ent 1 rfl)) (by kernel_rfl) (fun _ => by kernel_rfl) (fun r417 h418 => F_load 4 0 (.agg #[.bool bQ, .slice AQ (List.length lQ) cQ]) hM411 (by kernel_rfl) (F_val (.int .i64 k) (fun _ => by kernel_rfl) (F_call (s_umbraref01_digit bQ lQ k) (fun r : Int => .int .i64 r) hM411 hL414 (fun w' hM' => w_umbraref01_digit bQ lQ k AQ (List.length lQ) cQ rfl hcQ (by omega) w' (hM'.ent 2 rfl)) (by kernel_rfl) (fun _ => by kernel_rfl) (fun r421 h422 => ?_))))))))))))
              have HE387 := hq_lt HE387 h418
              have HE387 := hq_lt HE387 h422
              refine F_int (IntKind.i64.wrap (r417 - r421)) .i64 (fun _ => by kernel_rfl) (fun x423 h424 => F_val (.int .i64 carry) (fun _ => by kernel_rfl) (F_int (IntKind.i64.wrap (x423 + carry)) .i64 (fun _ => by kernel_rfl) (fun x425 h426 => F_val (.int .i64 x425) (fun _ => by kernel_rfl) (F_nil hM411 hL414 (fun w427 hM428 => S_nil (R_seq (R_region (S_val (.int .i64 0) (by kernel_rfl) (S_nil (R_seq (R_seq (?_))))))))))))
              have HE387 := hq_lt HE387 h424
              have HE387 := hq_lt HE387 h426
              refine R_region (S_val (.int .i64 x425) (by kernel_rfl) (?_))
              refine S_dec (x425 < 0) (by kernel_rfl) (fun c429 => ?_) (fun c429 => ?_)
              · refine S_nil (R_yes (by kernel_rfl) (R_seq (R_region (S_val (.int .i64 x425) (by kernel_rfl) (S_int (IntKind.i64.wrap (x425 + 65536)) .i64 (by kernel_rfl) (fun x430 h431 => S_val (.int .i64 x430) (by kernel_rfl) (S_nil (R_region (S_val (.int .i64 (-1)) (by kernel_rfl) (S_nil (R_seq (?_))))))))))))
                have HE387 := hq_pos HE387 c429
                have HE387 := hq_lt HE387 h431
                refine R_seq (R_region (S_val (.int .i64 x430) (by kernel_rfl) (?_)))
                refine S_dec (x430 > 65535) (by kernel_rfl) (fun c432 => ?_) (fun c432 => ?_)
                · refine S_nil (R_yes (by kernel_rfl) (R_seq (R_region (S_val (.int .i64 x430) (by kernel_rfl) (S_int (IntKind.i64.wrap (x430 - 65536)) .i64 (by kernel_rfl) (fun x433 h434 => S_val (.int .i64 x433) (by kernel_rfl) (S_nil (R_region (S_val (.int .i64 1) (by kernel_rfl) (S_nil (R_region (?_))))))))))))
                  have HE387 := hq_pos HE387 c432
                  have HE387 := hq_lt HE387 h434
                  refine S_val (.pointer (some ⟨g18, 1, none⟩)) (by kernel_rfl) (S_load 2 1 (.slice (some ⟨g388, 0, none⟩) (List.length o) cap389) hM428 (by kernel_rfl) (S_val (.int .i64 x433) (by kernel_rfl) (S_fresh (some 1) #[.int .i64 x433] 3 hM428 (by kernel_rfl) (fun g435 w436 hM437 => ?_))))
                  refine S_appL 1 0 (List.length o) cap389 1 3 o rest390 x433 hM437 ok391 rfl (by omega) (by kernel_rfl) (fun g438 l444 h445 cap439 rest440 w441 ok442 hM443 => ?_)
                  have hlen_l444 : List.length l444 = List.length o + 1 := by rw [← h445]; simp
                  have HE387 := hq_lt HE387 h445
                  refine S_val (.pointer (some ⟨g18, 1, none⟩)) (by kernel_rfl) (S_store 3 1 #[.bool bP, .slice (some ⟨g438, 0, none⟩) (List.length l444) cap439] hM443 (by kernel_rfl) (fun w446 hM447 => S_nil (R_inBlock (R_region (S_val (.int .i64 k) (by kernel_rfl) (S_int (IntKind.i64.wrap (k + 1)) .i64 (by kernel_rfl) (fun x448 h449 => S_val (.int .i64 x448) (by kernel_rfl) (S_nil (?_)))))))))
                  have HE387 := hq_lt HE387 h449
                  have hw_x448 := h449; rw [wrI] at hw_x448; unfold wrap64 at hw_x448
                  have hw_x23 := h24; rw [gmax_eq] at hw_x23
                  have hw_x56 := h57; rw [wrI] at hw_x56; unfold wrap64 at hw_x56
                  have hw_x54 := h55; rw [wrI] at hw_x54; unfold wrap64 at hw_x54
                  have hw_x392 := h393; rw [gmax_eq] at hw_x392
                  have hw_x425 := h426; rw [wrI] at hw_x425; unfold wrap64 at hw_x425
                  have hw_x423 := h424; rw [wrI] at hw_x423; unfold wrap64 at hw_x423
                  have hw_x430 := h431; rw [wrI] at hw_x430; unfold wrap64 at hw_x430
                  have hM450 := hM447.re [0, 2, 3, 4, 5, 6] (by decide) (by kernel_rfl)
                  exact hnext385 f380 _ _ (Nat.lt_succ_self _) ⟨x448, 1, l444, g438, cap439, rest440, [.int .i64 x433, .int .i64 k, .pointer (some ⟨g1, 1, none⟩), .slice AP (List.length lP) cP, .int .i64 (List.length lP : Int), .pointer (some ⟨g4, 1, none⟩), .slice AQ (List.length lQ) cQ, .int .i64 (List.length lQ : Int), .int .i64 x392, .bool true, .int .i64 k, .int .i64 x448, .agg #[.bool bP, .slice AP (List.length lP) cP], .int .i64 k, .int .i64 r400, .agg #[.bool bQ, .slice AQ (List.length lQ) cQ], .int .i64 k, .int .i64 r404, .int .i64 x406, .int .i64 carry, .int .i64 x408, .pointer (some ⟨g1, 0, none⟩), .bool bP, .pointer (some ⟨g4, 0, none⟩), .bool bQ, .bool true, .agg #[.bool bP, .slice AP (List.length lP) cP], .int .i64 k, .int .i64 r417, .agg #[.bool bQ, .slice AQ (List.length lQ) cQ], .int .i64 k, .int .i64 r421, .int .i64 x423, .int .i64 carry, .int .i64 x425, .int .i64 x425, .bool true, .int .i64 x425, .int .i64 x430, .int .i64 x430, .bool true, .int .i64 x430, .int .i64 x433, .pointer (some ⟨g18, 1, none⟩), .slice (some ⟨g388, 0, none⟩) (List.length o) cap389, .int .i64 x433, .slice (some ⟨g435, 0, none⟩) 1 1, .slice (some ⟨g438, 0, none⟩) (List.length l444) cap439, .pointer (some ⟨g18, 1, none⟩)], by kernel_rfl, hM450, by omega, ok442, (by omega), HE387⟩
                · refine S_nil (R_no (by kernel_rfl) (R_skip (R_region (S_val (.pointer (some ⟨g18, 1, none⟩)) (by kernel_rfl) (S_load 2 1 (.slice (some ⟨g388, 0, none⟩) (List.length o) cap389) hM428 (by kernel_rfl) (S_val (.int .i64 x430) (by kernel_rfl) (S_fresh (some 1) #[.int .i64 x430] 3 hM428 (by kernel_rfl) (fun g451 w452 hM453 => ?_))))))))
                  have HE387 := hq_neg HE387 c432
                  refine S_appL 1 0 (List.length o) cap389 1 3 o rest390 x430 hM453 ok391 rfl (by omega) (by kernel_rfl) (fun g454 l460 h461 cap455 rest456 w457 ok458 hM459 => ?_)
                  have hlen_l460 : List.length l460 = List.length o + 1 := by rw [← h461]; simp
                  have HE387 := hq_lt HE387 h461
                  refine S_val (.pointer (some ⟨g18, 1, none⟩)) (by kernel_rfl) (S_store 3 1 #[.bool bP, .slice (some ⟨g454, 0, none⟩) (List.length l460) cap455] hM459 (by kernel_rfl) (fun w462 hM463 => S_nil (R_inBlock (R_region (S_val (.int .i64 k) (by kernel_rfl) (S_int (IntKind.i64.wrap (k + 1)) .i64 (by kernel_rfl) (fun x464 h465 => S_val (.int .i64 x464) (by kernel_rfl) (S_nil (?_)))))))))
                  have HE387 := hq_lt HE387 h465
                  have hw_x464 := h465; rw [wrI] at hw_x464; unfold wrap64 at hw_x464
                  have hw_x23 := h24; rw [gmax_eq] at hw_x23
                  have hw_x56 := h57; rw [wrI] at hw_x56; unfold wrap64 at hw_x56
                  have hw_x54 := h55; rw [wrI] at hw_x54; unfold wrap64 at hw_x54
                  have hw_x392 := h393; rw [gmax_eq] at hw_x392
                  have hw_x425 := h426; rw [wrI] at hw_x425; unfold wrap64 at hw_x425
                  have hw_x423 := h424; rw [wrI] at hw_x423; unfold wrap64 at hw_x423
                  have hw_x430 := h431; rw [wrI] at hw_x430; unfold wrap64 at hw_x430
                  have hM466 := hM463.re [0, 2, 3, 4, 5, 6] (by decide) (by kernel_rfl)
                  exact hnext385 f380 _ _ (Nat.lt_succ_self _) ⟨x464, (-1), l460, g454, cap455, rest456, [.int .i64 x430, .int .i64 k, .pointer (some ⟨g1, 1, none⟩), .slice AP (List.length lP) cP, .int .i64 (List.length lP : Int), .pointer (some ⟨g4, 1, none⟩), .slice AQ (List.length lQ) cQ, .int .i64 (List.length lQ : Int), .int .i64 x392, .bool true, .int .i64 k, .int .i64 x464, .agg #[.bool bP, .slice AP (List.length lP) cP], .int .i64 k, .int .i64 r400, .agg #[.bool bQ, .slice AQ (List.length lQ) cQ], .int .i64 k, .int .i64 r404, .int .i64 x406, .int .i64 carry, .int .i64 x408, .pointer (some ⟨g1, 0, none⟩), .bool bP, .pointer (some ⟨g4, 0, none⟩), .bool bQ, .bool true, .agg #[.bool bP, .slice AP (List.length lP) cP], .int .i64 k, .int .i64 r417, .agg #[.bool bQ, .slice AQ (List.length lQ) cQ], .int .i64 k, .int .i64 r421, .int .i64 x423, .int .i64 carry, .int .i64 x425, .int .i64 x425, .bool true, .int .i64 x425, .int .i64 x430, .int .i64 x430, .bool false, (gv u3 41), (gv u3 42), .pointer (some ⟨g18, 1, none⟩), .slice (some ⟨g388, 0, none⟩) (List.length o) cap389, .int .i64 x430, .slice (some ⟨g451, 0, none⟩) 1 1, .slice (some ⟨g454, 0, none⟩) (List.length l460) cap455, .pointer (some ⟨g18, 1, none⟩)], by kernel_rfl, hM466, by omega, ok458, (by omega), HE387⟩
              · refine S_nil (R_no (by kernel_rfl) (R_skip (R_seq (R_seq (R_region (S_val (.int .i64 x425) (by kernel_rfl) (?_)))))))
                have HE387 := hq_neg HE387 c429
                refine S_dec (x425 > 65535) (by kernel_rfl) (fun c467 => ?_) (fun c467 => ?_)
                · refine S_nil (R_yes (by kernel_rfl) (R_seq (R_region (S_val (.int .i64 x425) (by kernel_rfl) (S_int (IntKind.i64.wrap (x425 - 65536)) .i64 (by kernel_rfl) (fun x468 h469 => S_val (.int .i64 x468) (by kernel_rfl) (S_nil (R_region (S_val (.int .i64 1) (by kernel_rfl) (S_nil (R_region (?_))))))))))))
                  have HE387 := hq_pos HE387 c467
                  have HE387 := hq_lt HE387 h469
                  refine S_val (.pointer (some ⟨g18, 1, none⟩)) (by kernel_rfl) (S_load 2 1 (.slice (some ⟨g388, 0, none⟩) (List.length o) cap389) hM428 (by kernel_rfl) (S_val (.int .i64 x468) (by kernel_rfl) (S_fresh (some 1) #[.int .i64 x468] 3 hM428 (by kernel_rfl) (fun g470 w471 hM472 => ?_))))
                  refine S_appL 1 0 (List.length o) cap389 1 3 o rest390 x468 hM472 ok391 rfl (by omega) (by kernel_rfl) (fun g473 l479 h480 cap474 rest475 w476 ok477 hM478 => ?_)
                  have hlen_l479 : List.length l479 = List.length o + 1 := by rw [← h480]; simp
                  have HE387 := hq_lt HE387 h480
                  refine S_val (.pointer (some ⟨g18, 1, none⟩)) (by kernel_rfl) (S_store 3 1 #[.bool bP, .slice (some ⟨g473, 0, none⟩) (List.length l479) cap474] hM478 (by kernel_rfl) (fun w481 hM482 => S_nil (R_inBlock (R_region (S_val (.int .i64 k) (by kernel_rfl) (S_int (IntKind.i64.wrap (k + 1)) .i64 (by kernel_rfl) (fun x483 h484 => S_val (.int .i64 x483) (by kernel_rfl) (S_nil (?_)))))))))
                  have HE387 := hq_lt HE387 h484
                  have hw_x483 := h484; rw [wrI] at hw_x483; unfold wrap64 at hw_x483
                  have hw_x23 := h24; rw [gmax_eq] at hw_x23
                  have hw_x56 := h57; rw [wrI] at hw_x56; unfold wrap64 at hw_x56
                  have hw_x54 := h55; rw [wrI] at hw_x54; unfold wrap64 at hw_x54
                  have hw_x392 := h393; rw [gmax_eq] at hw_x392
                  have hw_x425 := h426; rw [wrI] at hw_x425; unfold wrap64 at hw_x425
                  have hw_x423 := h424; rw [wrI] at hw_x423; unfold wrap64 at hw_x423
                  have hM485 := hM482.re [0, 2, 3, 4, 5, 6] (by decide) (by kernel_rfl)
                  exact hnext385 f380 _ _ (Nat.lt_succ_self _) ⟨x483, 1, l479, g473, cap474, rest475, [.int .i64 x468, .int .i64 k, .pointer (some ⟨g1, 1, none⟩), .slice AP (List.length lP) cP, .int .i64 (List.length lP : Int), .pointer (some ⟨g4, 1, none⟩), .slice AQ (List.length lQ) cQ, .int .i64 (List.length lQ : Int), .int .i64 x392, .bool true, .int .i64 k, .int .i64 x483, .agg #[.bool bP, .slice AP (List.length lP) cP], .int .i64 k, .int .i64 r400, .agg #[.bool bQ, .slice AQ (List.length lQ) cQ], .int .i64 k, .int .i64 r404, .int .i64 x406, .int .i64 carry, .int .i64 x408, .pointer (some ⟨g1, 0, none⟩), .bool bP, .pointer (some ⟨g4, 0, none⟩), .bool bQ, .bool true, .agg #[.bool bP, .slice AP (List.length lP) cP], .int .i64 k, .int .i64 r417, .agg #[.bool bQ, .slice AQ (List.length lQ) cQ], .int .i64 k, .int .i64 r421, .int .i64 x423, .int .i64 carry, .int .i64 x425, .int .i64 x425, .bool false, (gv u3 37), (gv u3 38), .int .i64 x425, .bool true, .int .i64 x425, .int .i64 x468, .pointer (some ⟨g18, 1, none⟩), .slice (some ⟨g388, 0, none⟩) (List.length o) cap389, .int .i64 x468, .slice (some ⟨g470, 0, none⟩) 1 1, .slice (some ⟨g473, 0, none⟩) (List.length l479) cap474, .pointer (some ⟨g18, 1, none⟩)], by kernel_rfl, hM485, by omega, ok477, (by omega), HE387⟩
                · refine S_nil (R_no (by kernel_rfl) (R_skip (R_region (S_val (.pointer (some ⟨g18, 1, none⟩)) (by kernel_rfl) (S_load 2 1 (.slice (some ⟨g388, 0, none⟩) (List.length o) cap389) hM428 (by kernel_rfl) (S_val (.int .i64 x425) (by kernel_rfl) (S_fresh (some 1) #[.int .i64 x425] 3 hM428 (by kernel_rfl) (fun g486 w487 hM488 => ?_))))))))
                  have HE387 := hq_neg HE387 c467
                  refine S_appL 1 0 (List.length o) cap389 1 3 o rest390 x425 hM488 ok391 rfl (by omega) (by kernel_rfl) (fun g489 l495 h496 cap490 rest491 w492 ok493 hM494 => ?_)
                  have hlen_l495 : List.length l495 = List.length o + 1 := by rw [← h496]; simp
                  have HE387 := hq_lt HE387 h496
                  refine S_val (.pointer (some ⟨g18, 1, none⟩)) (by kernel_rfl) (S_store 3 1 #[.bool bP, .slice (some ⟨g489, 0, none⟩) (List.length l495) cap490] hM494 (by kernel_rfl) (fun w497 hM498 => S_nil (R_inBlock (R_region (S_val (.int .i64 k) (by kernel_rfl) (S_int (IntKind.i64.wrap (k + 1)) .i64 (by kernel_rfl) (fun x499 h500 => S_val (.int .i64 x499) (by kernel_rfl) (S_nil (?_)))))))))
                  have HE387 := hq_lt HE387 h500
                  have hw_x499 := h500; rw [wrI] at hw_x499; unfold wrap64 at hw_x499
                  have hw_x23 := h24; rw [gmax_eq] at hw_x23
                  have hw_x56 := h57; rw [wrI] at hw_x56; unfold wrap64 at hw_x56
                  have hw_x54 := h55; rw [wrI] at hw_x54; unfold wrap64 at hw_x54
                  have hw_x392 := h393; rw [gmax_eq] at hw_x392
                  have hw_x425 := h426; rw [wrI] at hw_x425; unfold wrap64 at hw_x425
                  have hw_x423 := h424; rw [wrI] at hw_x423; unfold wrap64 at hw_x423
                  have hM501 := hM498.re [0, 2, 3, 4, 5, 6] (by decide) (by kernel_rfl)
                  exact hnext385 f380 _ _ (Nat.lt_succ_self _) ⟨x499, 0, l495, g489, cap490, rest491, [.int .i64 x425, .int .i64 k, .pointer (some ⟨g1, 1, none⟩), .slice AP (List.length lP) cP, .int .i64 (List.length lP : Int), .pointer (some ⟨g4, 1, none⟩), .slice AQ (List.length lQ) cQ, .int .i64 (List.length lQ : Int), .int .i64 x392, .bool true, .int .i64 k, .int .i64 x499, .agg #[.bool bP, .slice AP (List.length lP) cP], .int .i64 k, .int .i64 r400, .agg #[.bool bQ, .slice AQ (List.length lQ) cQ], .int .i64 k, .int .i64 r404, .int .i64 x406, .int .i64 carry, .int .i64 x408, .pointer (some ⟨g1, 0, none⟩), .bool bP, .pointer (some ⟨g4, 0, none⟩), .bool bQ, .bool true, .agg #[.bool bP, .slice AP (List.length lP) cP], .int .i64 k, .int .i64 r417, .agg #[.bool bQ, .slice AQ (List.length lQ) cQ], .int .i64 k, .int .i64 r421, .int .i64 x423, .int .i64 carry, .int .i64 x425, .int .i64 x425, .bool false, (gv u3 37), (gv u3 38), .int .i64 x425, .bool false, (gv u3 41), (gv u3 42), .pointer (some ⟨g18, 1, none⟩), .slice (some ⟨g388, 0, none⟩) (List.length o) cap389, .int .i64 x425, .slice (some ⟨g486, 0, none⟩) 1 1, .slice (some ⟨g489, 0, none⟩) (List.length l495) cap490, .pointer (some ⟨g18, 1, none⟩)], by kernel_rfl, hM501, by omega, ok493, (by omega), HE387⟩
            · refine S_nil (R_no (by kernel_rfl) (R_exit rfl (?_)))
              have HE387 := hq_neg HE387 c394
              subst HE387
              refine R_seq (R_seq (R_region (S_val (.int .i64 carry) (by kernel_rfl) (?_))))
              refine S_dec (carry > 0) (by kernel_rfl) (fun c199 => ?_) (fun c199 => ?_)
              · refine S_nil (R_yes (by kernel_rfl) (R_region (S_val (.pointer (some ⟨g18, 1, none⟩)) (by kernel_rfl) (S_load 2 1 (.slice (some ⟨g388, 0, none⟩) (List.length o) cap389) hM384 (by kernel_rfl) (S_val (.int .i64 carry) (by kernel_rfl) (S_fresh (some 1) #[.int .i64 carry] 3 hM384 (by kernel_rfl) (fun g200 w201 hM202 => ?_)))))))
                have HR := hr_pos HR c199
                refine S_appL 1 0 (List.length o) cap389 1 3 o rest390 carry hM202 ok391 rfl (by omega) (by kernel_rfl) (fun g203 l209 h210 cap204 rest205 w206 ok207 hM208 => ?_)
                have hlen_l209 : List.length l209 = List.length o + 1 := by rw [← h210]; simp
                have HR := hr_lt HR h210
                refine S_val (.pointer (some ⟨g18, 1, none⟩)) (by kernel_rfl) (S_store 3 1 #[.bool bP, .slice (some ⟨g203, 0, none⟩) (List.length l209) cap204] hM208 (by kernel_rfl) (fun w211 hM212 => S_nil (R_seq (R_region (S_load 3 0 (.agg #[.bool bP, .slice (some ⟨g203, 0, none⟩) (List.length l209) cap204]) hM212 (by kernel_rfl) (?_))))))
                have hM213 := hM212.freeze 0 l209 rest205 (by kernel_rfl)
                refine S_callN (s_umbraref01_trim bP l209) [((some ⟨g203, 0, none⟩), nv l209)] hM213 (w_umbraref01_trim bP l209 (some ⟨g203, 0, none⟩) (List.length l209) cap204 (by omega) ok207.le (by first | omega | simp) w211 (hM213.ent 0 rfl)) (subc 0 rfl sub0) (by kernel_rfl) (fun r214 h215 A216 cap217 hc218 w219 hM220 => S_store 3 0 #[.bool r214.1, .slice A216 (List.length r214.2) cap217] hM220 (by kernel_rfl) (fun w221 hM222 => S_nil (?_)))
                have HR := hr_lt HR h215
                refine R_ret hM222 rfl (.cons (.cell _ _ 3 0 (.agg #[.bool r214.1, .slice A216 (List.length r214.2) cap217]) (by kernel_rfl)) .nil) rfl ?_
                exact hM222.retN 0 rfl rfl hc218 HR
              · refine S_nil (R_no (by kernel_rfl) (R_skip (R_seq (R_region (S_load 2 0 (.agg #[.bool bP, .slice (some ⟨g388, 0, none⟩) (List.length o) cap389]) hM384 (by kernel_rfl) (?_))))))
                have HR := hr_neg HR c199
                have hM223 := hM384.freeze 0 o rest390 (by kernel_rfl)
                refine S_callN (s_umbraref01_trim bP o) [((some ⟨g388, 0, none⟩), nv o)] hM223 (w_umbraref01_trim bP o (some ⟨g388, 0, none⟩) (List.length o) cap389 (by omega) ok391.le (by first | omega | simp) w383 (hM223.ent 0 rfl)) (subc 0 rfl sub0) (by kernel_rfl) (fun r224 h225 A226 cap227 hc228 w229 hM230 => S_store 2 0 #[.bool r224.1, .slice A226 (List.length r224.2) cap227] hM230 (by kernel_rfl) (fun w231 hM232 => S_nil (?_)))
                have HR := hr_lt HR h225
                refine R_ret hM232 rfl (.cons (.cell _ _ 2 0 (.agg #[.bool r224.1, .slice A226 (List.length r224.2) cap227]) (by kernel_rfl)) .nil) rfl ?_
                exact hM232.retN 0 rfl rfl hc228 HR
          · refine S_nil (R_no (by kernel_rfl) (R_skip (R_region (S_val (.pointer (some ⟨g18, 1, none⟩)) (by kernel_rfl) (S_load 0 1 (.slice none 0 0) hM59 (by kernel_rfl) (S_val (.int .i64 x56) (by kernel_rfl) (S_fresh (some 1) #[.int .i64 x56] 3 hM59 (by kernel_rfl) (fun g502 w503 hM504 => ?_))))))))
            have HR := hr_neg HR c366
            refine S_app0 0 1 1 3 1 8 (.int .i64 0) [.int .i64 x56] hM504 (by kernel_rfl) (by kernel_rfl) (fun g505 cap506 rest507 w508 ok509 hM510 => S_val (.pointer (some ⟨g18, 1, none⟩)) (by kernel_rfl) (S_store 2 1 #[.bool bP, .slice (some ⟨g505, 0, none⟩) 1 cap506] hM510 (by kernel_rfl) (fun w511 hM512 => S_nil (R_inBlock (R_region (S_val (.int .i64 0) (by kernel_rfl) (S_val (.int .i64 1) (by kernel_rfl) (S_val (.int .i64 1) (by kernel_rfl) (S_nil (?_))))))))))
            have hw_x56 := h57; rw [wrI] at hw_x56; unfold wrap64 at hw_x56
            have hw_x54 := h55; rw [wrI] at hw_x54; unfold wrap64 at hw_x54
            have hw_x23 := h24; rw [gmax_eq] at hw_x23
            obtain ⟨E519, HE520⟩ : ∃ E, L6_umbraref01_Sum_1_d bP lP bQ lQ (Int.toNat (1000 - 1) + 1) 1 0 ([x56]) = E := ⟨_, rfl⟩
            have HR := hr_lt HR HE520
            refine R_fuelI (fun m514 a515 w516 => ∃ (k : Int) (carry : Int) (o : List Int) (g521 : Nat) (cap522 : Nat) (rest523 : List Value) (u4 : List Value), a515 = { tmps := #[.agg #[.bool bP, .slice AP (List.length lP) cP], .agg #[.bool bQ, .slice AQ (List.length lQ) cQ], .pointer (some ⟨g1, 0, none⟩), .pointer (some ⟨g4, 0, none⟩), .pointer (some ⟨g7, 0, none⟩), .pointer (some ⟨g18, 0, none⟩), .int .i64 carry, .int .i64 k, (gv u4 0), .pointer (some ⟨g1, 0, none⟩), .bool bP, .pointer (some ⟨g4, 0, none⟩), .bool bQ, .bool true, .bool true, .agg #[.bool bP, .slice AP (List.length lP) cP], .agg #[.bool bQ, .slice AQ (List.length lQ) cQ], .int .i64 r13, .bool false, .bool false, undef, undef, undef, .pointer (some ⟨g1, 0, none⟩), .bool bP, .agg #[.bool bP, .slice none 0 0], (gv u4 1), (gv u4 2), (gv u4 3), (gv u4 4), (gv u4 5), (gv u4 6), (gv u4 7), (gv u4 8), (gv u4 9), (gv u4 10), (gv u4 11), (gv u4 12), (gv u4 13), (gv u4 14), (gv u4 15), (gv u4 16), (gv u4 17), (gv u4 18), (gv u4 19), (gv u4 20), (gv u4 21), (gv u4 22), (gv u4 23), (gv u4 24), (gv u4 25), (gv u4 26), (gv u4 27), (gv u4 28), (gv u4 29), (gv u4 30), (gv u4 31), (gv u4 32), (gv u4 33), (gv u4 34), (gv u4 35), (gv u4 36), (gv u4 37), (gv u4 38), (gv u4 39), (gv u4 40), (gv u4 41), (gv u4 42), (gv u4 43), (gv u4 44), (gv u4 45), (gv u4 46), (gv u4 47), (gv u4 48), undef, undef, undef, undef, undef, undef, undef, undef, undef, undef], defers := [] } ∧ St ⟨w, [(AP, nv lP), (AQ, nv lQ)], [(none, nv ([])), (AP, nv lP), (AQ, nv lQ)]⟩ [⟨g521, ⟨nv o ++ rest523⟩, 3, (0, 0), true⟩, ⟨g502, #[.int .i64 x56], 3, (0, 0), true⟩, ⟨g18, #[.bool bP, .slice (some ⟨g521, 0, none⟩) (List.length o) cap522], 29, (0, 0), true⟩, ⟨g7, #[.bool false, .slice none 0 0], 29, (0, 0), true⟩, ⟨g4, #[.bool bQ, .slice AQ (List.length lQ) cQ], 29, (0, 0), true⟩, ⟨g1, #[.bool bP, .slice AP (List.length lP) cP], 29, (0, 0), true⟩] w516 ∧ 1000 - k < (m514 : Int) ∧ (SlOk 1 (List.length o) cap522 rest523) ∧ ((1 ≤ k ∧ k ≤ 1000 ∧ (List.length o : Int) = k)) ∧ L6_umbraref01_Sum_1_d bP lP bQ lQ m514 k carry o = E519) (Int.toNat (1000 - 1) + 1) ⟨1, 0, ([x56]), g505, cap506, rest507, [.int .i64 x56, .int .i64 0, .pointer (some ⟨g1, 1, none⟩), .slice AP (List.length lP) cP, .int .i64 (List.length lP : Int), .pointer (some ⟨g4, 1, none⟩), .slice AQ (List.length lQ) cQ, .int .i64 (List.length lQ : Int), .int .i64 x23, .bool true, .int .i64 0, .int .i64 1, .agg #[.bool bP, .slice AP (List.length lP) cP], .int .i64 0, .int .i64 r31, .agg #[.bool bQ, .slice AQ (List.length lQ) cQ], .int .i64 0, .int .i64 r35, .int .i64 x37, .int .i64 0, .int .i64 x39, .pointer (some ⟨g1, 0, none⟩), .bool bP, .pointer (some ⟨g4, 0, none⟩), .bool bQ, .bool true, .agg #[.bool bP, .slice AP (List.length lP) cP], .int .i64 0, .int .i64 r48, .agg #[.bool bQ, .slice AQ (List.length lQ) cQ], .int .i64 0, .int .i64 r52, .int .i64 x54, .int .i64 0, .int .i64 x56, .int .i64 x56, .bool false, undef, undef, .int .i64 x56, .bool false, undef, undef, .pointer (some ⟨g18, 1, none⟩), .slice none 0 0, .int .i64 x56, .slice (some ⟨g502, 0, none⟩) 1 1, .slice (some ⟨g505, 0, none⟩) 1 cap506, .pointer (some ⟨g18, 1, none⟩)], by kernel_rfl, hM512, by omega, ok509, (by simp only [List.length_cons, List.length_nil]; omega), HE520⟩ ?_
            rintro m514 a515 w516 ⟨k, carry, o, g521, cap522, rest523, u4, rfl, hM517, hmu4, ok524, hk_4, HE520⟩ hnext518
            obtain ⟨f513, rfl⟩ : ∃ f, m514 = f + 1 := ⟨m514 - 1, by omega⟩
            rw [L6_umbraref01_Sum_1_d] at HE520
            refine R_seq (R_seq (R_region (S_val (.int .i64 k) (by kernel_rfl) (S_val (.pointer (some ⟨g1, 1, none⟩)) (by kernel_rfl) (S_load 5 1 (.slice AP (List.length lP) cP) hM517 (by kernel_rfl) (S_val (.int .i64 (List.length lP : Int)) (by kernel_rfl) (S_val (.pointer (some ⟨g4, 1, none⟩)) (by kernel_rfl) (S_load 4 1 (.slice AQ (List.length lQ) cQ) hM517 (by kernel_rfl) (S_val (.int .i64 (List.length lQ : Int)) (by kernel_rfl) (S_int (gmax (List.length lP : Int) (List.length lQ : Int)) .i64 (by kernel_rfl) (fun x525 h526 => ?_)))))))))))
            have HE520 := hq_lt HE520 h526
            refine S_dec (k < x525) (by kernel_rfl) (fun c527 => ?_) (fun c527 => ?_)
            · refine S_nil (R_yes (by kernel_rfl) (R_skip (R_seq (R_block (R_seq (R_drawF 10 (by kernel_rfl) (fun F528 U529 hL530 => F_load 5 0 (.agg #[.bool bP, .slice AP (List.length lP) cP]) hM517 (by kernel_rfl) (F_val (.int .i64 k) (fun _ => by kernel_rfl) (F_call (s_umbraref01_digit bP lP k) (fun r : Int => .int .i64 r) hM517 hL530 (fun w' hM' => w_umbraref01_digit bP lP k AP (List.length lP) cP rfl hcP (by omega) w' (hM'.ent 1 rfl)) (by kernel_rfl) (fun _ => by kernel_rfl) (fun r533 h534 => F_load 4 0 (.agg #[.bool bQ, .slice AQ (List.length lQ) cQ]) hM517 (by kernel_rfl) (F_val (.int .i64 k) (fun _ => by kernel_rfl) (?_))))))))))))
              have HE520 := hq_pos HE520 c527
              have HE520 := hq_lt HE520 h534
              refine F_call (s_umbraref01_digit bQ lQ k) (fun r : Int => .int .i64 r) hM517 hL530 (fun w' hM' => w_umbraref01_digit bQ lQ k AQ (List.length lQ) cQ rfl hcQ (by omega) w' (hM'.ent 2 rfl)) (by kernel_rfl) (fun _ => by kernel_rfl) (fun r537 h538 => F_int (IntKind.i64.wrap (r533 + r537)) .i64 (fun _ => by kernel_rfl) (fun x539 h540 => F_val (.int .i64 carry) (fun _ => by kernel_rfl) (F_int (IntKind.i64.wrap (x539 + carry)) .i64 (fun _ => by kernel_rfl) (fun x541 h542 => F_val (.int .i64 x541) (fun _ => by kernel_rfl) (F_nil hM517 hL530 (fun w543 hM544 => S_nil (R_seq (R_seq (R_region (S_val (.pointer (some ⟨g1, 0, none⟩)) (by kernel_rfl) (S_load 5 0 (.bool bP) hM544 (by kernel_rfl) (?_))))))))))))
              have HE520 := hq_lt HE520 h538
              have HE520 := hq_lt HE520 h540
              have HE520 := hq_lt HE520 h542
              refine S_val (.pointer (some ⟨g4, 0, none⟩)) (by kernel_rfl) (S_load 4 0 (.bool bQ) hM544 (by kernel_rfl) (S_val (.bool true) (knF' c10 (by kernel_rfl)) (S_nil (R_yes (by kernel_rfl) (R_drawF 10 (by kernel_rfl) (fun F545 U546 hL547 => F_load 5 0 (.agg #[.bool bP, .slice AP (List.length lP) cP]) hM544 (by kernel_rfl) (F_val (.int .i64 k) (fun _ => by kernel_rfl) (F_call (s_umbraref01_digit bP lP k) (fun r : Int => .int .i64 r) hM544 hL547 (fun w' hM' => w_umbraref01_digit bP lP k AP (List.length lP) cP rfl hcP (by omega) w' (hM'.ent 1 rfl)) (by kernel_rfl) (fun _ => by kernel_rfl) (fun r550 h551 => F_load 4 0 (.agg #[.bool bQ, .slice AQ (List.length lQ) cQ]) hM544 (by kernel_rfl) (F_val (.int .i64 k) (fun _ => by kernel_rfl) (F_call (s_umbraref01_digit bQ lQ k) (fun r : Int => .int .i64 r) hM544 hL547 (fun w' hM' => w_umbraref01_digit bQ lQ k AQ (List.length lQ) cQ rfl hcQ (by omega) w' (hM'.ent 2 rfl)) (by kernel_rfl) (fun _ => by kernel_rfl) (fun r554 h555 => ?_))))))))))))
              have HE520 := hq_lt HE520 h551
              have HE520 := hq_lt HE520 h555
              refine F_int (IntKind.i64.wrap (r550 - r554)) .i64 (fun _ => by kernel_rfl) (fun x556 h557 => F_val (.int .i64 carry) (fun _ => by kernel_rfl) (F_int (IntKind.i64.wrap (x556 + carry)) .i64 (fun _ => by kernel_rfl) (fun x558 h559 => F_val (.int .i64 x558) (fun _ => by kernel_rfl) (F_nil hM544 hL547 (fun w560 hM561 => S_nil (R_seq (R_region (S_val (.int .i64 0) (by kernel_rfl) (S_nil (R_seq (R_seq (?_))))))))))))
              have HE520 := hq_lt HE520 h557
              have HE520 := hq_lt HE520 h559
              refine R_region (S_val (.int .i64 x558) (by kernel_rfl) (?_))
              refine S_dec (x558 < 0) (by kernel_rfl) (fun c562 => ?_) (fun c562 => ?_)
              · refine S_nil (R_yes (by kernel_rfl) (R_seq (R_region (S_val (.int .i64 x558) (by kernel_rfl) (S_int (IntKind.i64.wrap (x558 + 65536)) .i64 (by kernel_rfl) (fun x563 h564 => S_val (.int .i64 x563) (by kernel_rfl) (S_nil (R_region (S_val (.int .i64 (-1)) (by kernel_rfl) (S_nil (R_seq (?_))))))))))))
                have HE520 := hq_pos HE520 c562
                have HE520 := hq_lt HE520 h564
                refine R_seq (R_region (S_val (.int .i64 x563) (by kernel_rfl) (?_)))
                refine S_dec (x563 > 65535) (by kernel_rfl) (fun c565 => ?_) (fun c565 => ?_)
                · refine S_nil (R_yes (by kernel_rfl) (R_seq (R_region (S_val (.int .i64 x563) (by kernel_rfl) (S_int (IntKind.i64.wrap (x563 - 65536)) .i64 (by kernel_rfl) (fun x566 h567 => S_val (.int .i64 x566) (by kernel_rfl) (S_nil (R_region (S_val (.int .i64 1) (by kernel_rfl) (S_nil (R_region (?_))))))))))))
                  have HE520 := hq_pos HE520 c565
                  have HE520 := hq_lt HE520 h567
                  refine S_val (.pointer (some ⟨g18, 1, none⟩)) (by kernel_rfl) (S_load 2 1 (.slice (some ⟨g521, 0, none⟩) (List.length o) cap522) hM561 (by kernel_rfl) (S_val (.int .i64 x566) (by kernel_rfl) (S_fresh (some 1) #[.int .i64 x566] 3 hM561 (by kernel_rfl) (fun g568 w569 hM570 => ?_))))
                  refine S_appL 1 0 (List.length o) cap522 1 3 o rest523 x566 hM570 ok524 rfl (by omega) (by kernel_rfl) (fun g571 l577 h578 cap572 rest573 w574 ok575 hM576 => ?_)
                  have hlen_l577 : List.length l577 = List.length o + 1 := by rw [← h578]; simp
                  have HE520 := hq_lt HE520 h578
                  refine S_val (.pointer (some ⟨g18, 1, none⟩)) (by kernel_rfl) (S_store 3 1 #[.bool bP, .slice (some ⟨g571, 0, none⟩) (List.length l577) cap572] hM576 (by kernel_rfl) (fun w579 hM580 => S_nil (R_inBlock (R_region (S_val (.int .i64 k) (by kernel_rfl) (S_int (IntKind.i64.wrap (k + 1)) .i64 (by kernel_rfl) (fun x581 h582 => S_val (.int .i64 x581) (by kernel_rfl) (S_nil (?_)))))))))
                  have HE520 := hq_lt HE520 h582
                  have hw_x581 := h582; rw [wrI] at hw_x581; unfold wrap64 at hw_x581
                  have hw_x23 := h24; rw [gmax_eq] at hw_x23
                  have hw_x56 := h57; rw [wrI] at hw_x56; unfold wrap64 at hw_x56
                  have hw_x54 := h55; rw [wrI] at hw_x54; unfold wrap64 at hw_x54
                  have hw_x525 := h526; rw [gmax_eq] at hw_x525
                  have hw_x558 := h559; rw [wrI] at hw_x558; unfold wrap64 at hw_x558
                  have hw_x556 := h557; rw [wrI] at hw_x556; unfold wrap64 at hw_x556
                  have hw_x563 := h564; rw [wrI] at hw_x563; unfold wrap64 at hw_x563
                  have hM583 := hM580.re [0, 2, 3, 4, 5, 6] (by decide) (by kernel_rfl)
                  exact hnext518 f513 _ _ (Nat.lt_succ_self _) ⟨x581, 1, l577, g571, cap572, rest573, [.int .i64 x566, .int .i64 k, .pointer (some ⟨g1, 1, none⟩), .slice AP (List.length lP) cP, .int .i64 (List.length lP : Int), .pointer (some ⟨g4, 1, none⟩), .slice AQ (List.length lQ) cQ, .int .i64 (List.length lQ : Int), .int .i64 x525, .bool true, .int .i64 k, .int .i64 x581, .agg #[.bool bP, .slice AP (List.length lP) cP], .int .i64 k, .int .i64 r533, .agg #[.bool bQ, .slice AQ (List.length lQ) cQ], .int .i64 k, .int .i64 r537, .int .i64 x539, .int .i64 carry, .int .i64 x541, .pointer (some ⟨g1, 0, none⟩), .bool bP, .pointer (some ⟨g4, 0, none⟩), .bool bQ, .bool true, .agg #[.bool bP, .slice AP (List.length lP) cP], .int .i64 k, .int .i64 r550, .agg #[.bool bQ, .slice AQ (List.length lQ) cQ], .int .i64 k, .int .i64 r554, .int .i64 x556, .int .i64 carry, .int .i64 x558, .int .i64 x558, .bool true, .int .i64 x558, .int .i64 x563, .int .i64 x563, .bool true, .int .i64 x563, .int .i64 x566, .pointer (some ⟨g18, 1, none⟩), .slice (some ⟨g521, 0, none⟩) (List.length o) cap522, .int .i64 x566, .slice (some ⟨g568, 0, none⟩) 1 1, .slice (some ⟨g571, 0, none⟩) (List.length l577) cap572, .pointer (some ⟨g18, 1, none⟩)], by kernel_rfl, hM583, by omega, ok575, (by omega), HE520⟩
                · refine S_nil (R_no (by kernel_rfl) (R_skip (R_region (S_val (.pointer (some ⟨g18, 1, none⟩)) (by kernel_rfl) (S_load 2 1 (.slice (some ⟨g521, 0, none⟩) (List.length o) cap522) hM561 (by kernel_rfl) (S_val (.int .i64 x563) (by kernel_rfl) (S_fresh (some 1) #[.int .i64 x563] 3 hM561 (by kernel_rfl) (fun g584 w585 hM586 => ?_))))))))
                  have HE520 := hq_neg HE520 c565
                  refine S_appL 1 0 (List.length o) cap522 1 3 o rest523 x563 hM586 ok524 rfl (by omega) (by kernel_rfl) (fun g587 l593 h594 cap588 rest589 w590 ok591 hM592 => ?_)
                  have hlen_l593 : List.length l593 = List.length o + 1 := by rw [← h594]; simp
                  have HE520 := hq_lt HE520 h594
                  refine S_val (.pointer (some ⟨g18, 1, none⟩)) (by kernel_rfl) (S_store 3 1 #[.bool bP, .slice (some ⟨g587, 0, none⟩) (List.length l593) cap588] hM592 (by kernel_rfl) (fun w595 hM596 => S_nil (R_inBlock (R_region (S_val (.int .i64 k) (by kernel_rfl) (S_int (IntKind.i64.wrap (k + 1)) .i64 (by kernel_rfl) (fun x597 h598 => S_val (.int .i64 x597) (by kernel_rfl) (S_nil (?_)))))))))
                  have HE520 := hq_lt HE520 h598
                  have hw_x597 := h598; rw [wrI] at hw_x597; unfold wrap64 at hw_x597
                  have hw_x23 := h24; rw [gmax_eq] at hw_x23
                  have hw_x56 := h57; rw [wrI] at hw_x56; unfold wrap64 at hw_x56
                  have hw_x54 := h55; rw [wrI] at hw_x54; unfold wrap64 at hw_x54
                  have hw_x525 := h526; rw [gmax_eq] at hw_x525
                  have hw_x558 := h559; rw [wrI] at hw_x558; unfold wrap64 at hw_x558
                  have hw_x556 := h557; rw [wrI] at hw_x556; unfold wrap64 at hw_x556
                  have hw_x563 := h564; rw [wrI] at hw_x563; unfold wrap64 at hw_x563
                  have hM599 := hM596.re [0, 2, 3, 4, 5, 6] (by decide) (by kernel_rfl)
                  exact hnext518 f513 _ _ (Nat.lt_succ_self _) ⟨x597, (-1), l593, g587, cap588, rest589, [.int .i64 x563, .int .i64 k, .pointer (some ⟨g1, 1, none⟩), .slice AP (List.length lP) cP, .int .i64 (List.length lP : Int), .pointer (some ⟨g4, 1, none⟩), .slice AQ (List.length lQ) cQ, .int .i64 (List.length lQ : Int), .int .i64 x525, .bool true, .int .i64 k, .int .i64 x597, .agg #[.bool bP, .slice AP (List.length lP) cP], .int .i64 k, .int .i64 r533, .agg #[.bool bQ, .slice AQ (List.length lQ) cQ], .int .i64 k, .int .i64 r537, .int .i64 x539, .int .i64 carry, .int .i64 x541, .pointer (some ⟨g1, 0, none⟩), .bool bP, .pointer (some ⟨g4, 0, none⟩), .bool bQ, .bool true, .agg #[.bool bP, .slice AP (List.length lP) cP], .int .i64 k, .int .i64 r550, .agg #[.bool bQ, .slice AQ (List.length lQ) cQ], .int .i64 k, .int .i64 r554, .int .i64 x556, .int .i64 carry, .int .i64 x558, .int .i64 x558, .bool true, .int .i64 x558, .int .i64 x563, .int .i64 x563, .bool false, (gv u4 41), (gv u4 42), .pointer (some ⟨g18, 1, none⟩), .slice (some ⟨g521, 0, none⟩) (List.length o) cap522, .int .i64 x563, .slice (some ⟨g584, 0, none⟩) 1 1, .slice (some ⟨g587, 0, none⟩) (List.length l593) cap588, .pointer (some ⟨g18, 1, none⟩)], by kernel_rfl, hM599, by omega, ok591, (by omega), HE520⟩
              · refine S_nil (R_no (by kernel_rfl) (R_skip (R_seq (R_seq (R_region (S_val (.int .i64 x558) (by kernel_rfl) (?_)))))))
                have HE520 := hq_neg HE520 c562
                refine S_dec (x558 > 65535) (by kernel_rfl) (fun c600 => ?_) (fun c600 => ?_)
                · refine S_nil (R_yes (by kernel_rfl) (R_seq (R_region (S_val (.int .i64 x558) (by kernel_rfl) (S_int (IntKind.i64.wrap (x558 - 65536)) .i64 (by kernel_rfl) (fun x601 h602 => S_val (.int .i64 x601) (by kernel_rfl) (S_nil (R_region (S_val (.int .i64 1) (by kernel_rfl) (S_nil (R_region (?_))))))))))))
                  have HE520 := hq_pos HE520 c600
                  have HE520 := hq_lt HE520 h602
                  refine S_val (.pointer (some ⟨g18, 1, none⟩)) (by kernel_rfl) (S_load 2 1 (.slice (some ⟨g521, 0, none⟩) (List.length o) cap522) hM561 (by kernel_rfl) (S_val (.int .i64 x601) (by kernel_rfl) (S_fresh (some 1) #[.int .i64 x601] 3 hM561 (by kernel_rfl) (fun g603 w604 hM605 => ?_))))
                  refine S_appL 1 0 (List.length o) cap522 1 3 o rest523 x601 hM605 ok524 rfl (by omega) (by kernel_rfl) (fun g606 l612 h613 cap607 rest608 w609 ok610 hM611 => ?_)
                  have hlen_l612 : List.length l612 = List.length o + 1 := by rw [← h613]; simp
                  have HE520 := hq_lt HE520 h613
                  refine S_val (.pointer (some ⟨g18, 1, none⟩)) (by kernel_rfl) (S_store 3 1 #[.bool bP, .slice (some ⟨g606, 0, none⟩) (List.length l612) cap607] hM611 (by kernel_rfl) (fun w614 hM615 => S_nil (R_inBlock (R_region (S_val (.int .i64 k) (by kernel_rfl) (S_int (IntKind.i64.wrap (k + 1)) .i64 (by kernel_rfl) (fun x616 h617 => S_val (.int .i64 x616) (by kernel_rfl) (S_nil (?_)))))))))
                  have HE520 := hq_lt HE520 h617
                  have hw_x616 := h617; rw [wrI] at hw_x616; unfold wrap64 at hw_x616
                  have hw_x23 := h24; rw [gmax_eq] at hw_x23
                  have hw_x56 := h57; rw [wrI] at hw_x56; unfold wrap64 at hw_x56
                  have hw_x54 := h55; rw [wrI] at hw_x54; unfold wrap64 at hw_x54
                  have hw_x525 := h526; rw [gmax_eq] at hw_x525
                  have hw_x558 := h559; rw [wrI] at hw_x558; unfold wrap64 at hw_x558
                  have hw_x556 := h557; rw [wrI] at hw_x556; unfold wrap64 at hw_x556
                  have hM618 := hM615.re [0, 2, 3, 4, 5, 6] (by decide) (by kernel_rfl)
                  exact hnext518 f513 _ _ (Nat.lt_succ_self _) ⟨x616, 1, l612, g606, cap607, rest608, [.int .i64 x601, .int .i64 k, .pointer (some ⟨g1, 1, none⟩), .slice AP (List.length lP) cP, .int .i64 (List.length lP : Int), .pointer (some ⟨g4, 1, none⟩), .slice AQ (List.length lQ) cQ, .int .i64 (List.length lQ : Int), .int .i64 x525, .bool true, .int .i64 k, .int .i64 x616, .agg #[.bool bP, .slice AP (List.length lP) cP], .int .i64 k, .int .i64 r533, .agg #[.bool bQ, .slice AQ (List.length lQ) cQ], .int .i64 k, .int .i64 r537, .int .i64 x539, .int .i64 carry, .int .i64 x541, .pointer (some ⟨g1, 0, none⟩), .bool bP, .pointer (some ⟨g4, 0, none⟩), .bool bQ, .bool true, .agg #[.bool bP, .slice AP (List.length lP) cP], .int .i64 k, .int .i64 r550, .agg #[.bool bQ, .slice AQ (List.length lQ) cQ], .int .i64 k, .int .i64 r554, .int .i64 x556, .int .i64 carry, .int .i64 x558, .int .i64 x558, .bool false, (gv u4 37), (gv u4 38), .int .i64 x558, .bool true, .int .i64 x558, .int .i64 x601, .pointer (some ⟨g18, 1, none⟩), .slice (some ⟨g521, 0, none⟩) (List.length o) cap522, .int .i64 x601, .slice (some ⟨g603, 0, none⟩) 1 1, .slice (some ⟨g606, 0, none⟩) (List.length l612) cap607, .pointer (some ⟨g18, 1, none⟩)], by kernel_rfl, hM618, by omega, ok610, (by omega), HE520⟩
                · refine S_nil (R_no (by kernel_rfl) (R_skip (R_region (S_val (.pointer (some ⟨g18, 1, none⟩)) (by kernel_rfl) (S_load 2 1 (.slice (some ⟨g521, 0, none⟩) (List.length o) cap522) hM561 (by kernel_rfl) (S_val (.int .i64 x558) (by kernel_rfl) (S_fresh (some 1) #[.int .i64 x558] 3 hM561 (by kernel_rfl) (fun g619 w620 hM621 => ?_))))))))
                  have HE520 := hq_neg HE520 c600
                  refine S_appL 1 0 (List.length o) cap522 1 3 o rest523 x558 hM621 ok524 rfl (by omega) (by kernel_rfl) (fun g622 l628 h629 cap623 rest624 w625 ok626 hM627 => ?_)
                  have hlen_l628 : List.length l628 = List.length o + 1 := by rw [← h629]; simp
                  have HE520 := hq_lt HE520 h629
                  refine S_val (.pointer (some ⟨g18, 1, none⟩)) (by kernel_rfl) (S_store 3 1 #[.bool bP, .slice (some ⟨g622, 0, none⟩) (List.length l628) cap623] hM627 (by kernel_rfl) (fun w630 hM631 => S_nil (R_inBlock (R_region (S_val (.int .i64 k) (by kernel_rfl) (S_int (IntKind.i64.wrap (k + 1)) .i64 (by kernel_rfl) (fun x632 h633 => S_val (.int .i64 x632) (by kernel_rfl) (S_nil (?_)))))))))
                  have HE520 := hq_lt HE520 h633
                  have hw_x632 := h633; rw [wrI] at hw_x632; unfold wrap64 at hw_x632
                  have hw_x23 := h24; rw [gmax_eq] at hw_x23
                  have hw_x56 := h57; rw [wrI] at hw_x56; unfold wrap64 at hw_x56
                  have hw_x54 := h55; rw [wrI] at hw_x54; unfold wrap64 at hw_x54
                  have hw_x525 := h526; rw [gmax_eq] at hw_x525
                  have hw_x558 := h559; rw [wrI] at hw_x558; unfold wrap64 at hw_x558
                  have hw_x556 := h557; rw [wrI] at hw_x556; unfold wrap64 at hw_x556
                  have hM634 := hM631.re [0, 2, 3, 4, 5, 6] (by decide) (by kernel_rfl)
                  exact hnext518 f513 _ _ (Nat.lt_succ_self _) ⟨x632, 0, l628, g622, cap623, rest624, [.int .i64 x558, .int .i64 k, .pointer (some ⟨g1, 1, none⟩), .slice AP (List.length lP) cP, .int .i64 (List.length lP : Int), .pointer (some ⟨g4, 1, none⟩), .slice AQ (List.length lQ) cQ, .int .i64 (List.length lQ : Int), .int .i64 x525, .bool true, .int .i64 k, .int .i64 x632, .agg #[.bool bP, .slice AP (List.length lP) cP], .int .i64 k, .int .i64 r533, .agg #[.bool bQ, .slice AQ (List.length lQ) cQ], .int .i64 k, .int .i64 r537, .int .i64 x539, .int .i64 carry, .int .i64 x541, .pointer (some ⟨g1, 0, none⟩), .bool bP, .pointer (some ⟨g4, 0, none⟩), .bool bQ, .bool true, .agg #[.bool bP, .slice AP (List.length lP) cP], .int .i64 k, .int .i64 r550, .agg #[.bool bQ, .slice AQ (List.length lQ) cQ], .int .i64 k, .int .i64 r554, .int .i64 x556, .int .i64 carry, .int .i64 x558, .int .i64 x558, .bool false, (gv u4 37), (gv u4 38), .int .i64 x558, .bool false, (gv u4 41), (gv u4 42), .pointer (some ⟨g18, 1, none⟩), .slice (some ⟨g521, 0, none⟩) (List.length o) cap522, .int .i64 x558, .slice (some ⟨g619, 0, none⟩) 1 1, .slice (some ⟨g622, 0, none⟩) (List.length l628) cap623, .pointer (some ⟨g18, 1, none⟩)], by kernel_rfl, hM634, by omega, ok626, (by omega), HE520⟩
            · refine S_nil (R_no (by kernel_rfl) (R_exit rfl (?_)))
              have HE520 := hq_neg HE520 c527
              subst HE520
              refine R_seq (R_seq (R_region (S_val (.int .i64 carry) (by kernel_rfl) (?_))))
              refine S_dec (carry > 0) (by kernel_rfl) (fun c199 => ?_) (fun c199 => ?_)
              · refine S_nil (R_yes (by kernel_rfl) (R_region (S_val (.pointer (some ⟨g18, 1, none⟩)) (by kernel_rfl) (S_load 2 1 (.slice (some ⟨g521, 0, none⟩) (List.length o) cap522) hM517 (by kernel_rfl) (S_val (.int .i64 carry) (by kernel_rfl) (S_fresh (some 1) #[.int .i64 carry] 3 hM517 (by kernel_rfl) (fun g200 w201 hM202 => ?_)))))))
                have HR := hr_pos HR c199
                refine S_appL 1 0 (List.length o) cap522 1 3 o rest523 carry hM202 ok524 rfl (by omega) (by kernel_rfl) (fun g203 l209 h210 cap204 rest205 w206 ok207 hM208 => ?_)
                have hlen_l209 : List.length l209 = List.length o + 1 := by rw [← h210]; simp
                have HR := hr_lt HR h210
                refine S_val (.pointer (some ⟨g18, 1, none⟩)) (by kernel_rfl) (S_store 3 1 #[.bool bP, .slice (some ⟨g203, 0, none⟩) (List.length l209) cap204] hM208 (by kernel_rfl) (fun w211 hM212 => S_nil (R_seq (R_region (S_load 3 0 (.agg #[.bool bP, .slice (some ⟨g203, 0, none⟩) (List.length l209) cap204]) hM212 (by kernel_rfl) (?_))))))
                have hM213 := hM212.freeze 0 l209 rest205 (by kernel_rfl)
                refine S_callN (s_umbraref01_trim bP l209) [((some ⟨g203, 0, none⟩), nv l209)] hM213 (w_umbraref01_trim bP l209 (some ⟨g203, 0, none⟩) (List.length l209) cap204 (by omega) ok207.le (by first | omega | simp) w211 (hM213.ent 0 rfl)) (subc 0 rfl sub0) (by kernel_rfl) (fun r214 h215 A216 cap217 hc218 w219 hM220 => S_store 3 0 #[.bool r214.1, .slice A216 (List.length r214.2) cap217] hM220 (by kernel_rfl) (fun w221 hM222 => S_nil (?_)))
                have HR := hr_lt HR h215
                refine R_ret hM222 rfl (.cons (.cell _ _ 3 0 (.agg #[.bool r214.1, .slice A216 (List.length r214.2) cap217]) (by kernel_rfl)) .nil) rfl ?_
                exact hM222.retN 0 rfl rfl hc218 HR
              · refine S_nil (R_no (by kernel_rfl) (R_skip (R_seq (R_region (S_load 2 0 (.agg #[.bool bP, .slice (some ⟨g521, 0, none⟩) (List.length o) cap522]) hM517 (by kernel_rfl) (?_))))))
                have HR := hr_neg HR c199
                have hM223 := hM517.freeze 0 o rest523 (by kernel_rfl)
                refine S_callN (s_umbraref01_trim bP o) [((some ⟨g521, 0, none⟩), nv o)] hM223 (w_umbraref01_trim bP o (some ⟨g521, 0, none⟩) (List.length o) cap522 (by omega) ok524.le (by first | omega | simp) w516 (hM223.ent 0 rfl)) (subc 0 rfl sub0) (by kernel_rfl) (fun r224 h225 A226 cap227 hc228 w229 hM230 => S_store 2 0 #[.bool r224.1, .slice A226 (List.length r224.2) cap227] hM230 (by kernel_rfl) (fun w231 hM232 => S_nil (?_)))
                have HR := hr_lt HR h225
                refine R_ret hM232 rfl (.cons (.cell _ _ 2 0 (.agg #[.bool r224.1, .slice A226 (List.length r224.2) cap227]) (by kernel_rfl)) .nil) rfl ?_
                exact hM232.retN 0 rfl rfl hc228 HR
      · refine S_nil (R_no (by kernel_rfl) (R_exit rfl (R_seq (R_seq (R_region (S_val (.int .i64 0) (by kernel_rfl) (S_val (.bool false) (by kernel_rfl) (S_nil (R_no (by kernel_rfl) (R_skip (R_seq (?_))))))))))))
        have HR := hr_neg HR c25
        refine R_region (S_load 0 0 (.agg #[.bool bP, .slice none 0 0]) hM22 (by kernel_rfl) (S_callN (s_umbraref01_trim bP ([])) [(none, nv ([]))] hM22 (w_umbraref01_trim bP ([]) none 0 0 rfl (Nat.le_refl _) (by first | omega | simp) w21 (hM22.ent 0 rfl)) (subc 0 rfl sub0) (by kernel_rfl) (fun r635 h636 A637 cap638 hc639 w640 hM641 => S_store 1 0 #[.bool r635.1, .slice A637 (List.length r635.2) cap638] hM641 (by kernel_rfl) (fun w642 hM643 => S_nil (?_)))))
        have HR := hr_lt HR h636
        refine R_ret hM643 rfl (.cons (.cell _ _ 1 0 (.agg #[.bool r635.1, .slice A637 (List.length r635.2) cap638]) (by kernel_rfl)) .nil) rfl ?_
        exact hM643.retN 0 rfl rfl hc639 HR
  · refine S_val (.bool false) (by kernel_rfl) (S_skip (by kernel_rfl) (S_skip (by kernel_rfl) (S_skip (by kernel_rfl) (S_skip (by kernel_rfl) (S_val (.bool false) (by kernel_rfl) (S_nil (R_no (by kernel_rfl) (R_skip (R_seq (R_region (S_val (.pointer (some ⟨g1, 0, none⟩)) (by kernel_rfl) (?_))))))))))))
    have HR := hr_pos HR c10
    refine S_load 2 0 (.bool bP) hM9 (by kernel_rfl) (S_val (.agg #[.bool bP, .slice none 0 0]) (by kernel_rfl) (S_fresh none #[.bool false, .slice none 0 0] 29 hM9 (by kernel_rfl) (fun g644 w645 hM646 => S_store 0 0 #[.bool bP, .slice none 0 0] hM646 (by kernel_rfl) (fun w647 hM648 => S_nil (R_seq (R_region (S_val (.int .i64 0) (by kernel_rfl) (S_nil (R_seq (R_seq (R_region (?_))))))))))))
    refine S_val (.int .i64 0) (by kernel_rfl) (S_nil (R_block (R_loop (R_seq (R_seq (R_region (S_val (.int .i64 0) (by kernel_rfl) (S_val (.pointer (some ⟨g1, 1, none⟩)) (by kernel_rfl) (S_load 3 1 (.slice AP (List.length lP) cP) hM648 (by kernel_rfl) (S_val (.int .i64 (List.length lP : Int)) (by kernel_rfl) (S_val (.pointer (some ⟨g4, 1, none⟩)) (by kernel_rfl) (?_))))))))))))
    refine S_load 2 1 (.slice AQ (List.length lQ) cQ) hM648 (by kernel_rfl) (S_val (.int .i64 (List.length lQ : Int)) (by kernel_rfl) (S_int (gmax (List.length lP : Int) (List.length lQ : Int)) .i64 (by kernel_rfl) (fun x649 h650 => ?_)))
    have HR := hr_lt HR h650
    refine S_dec (0 < x649) (by kernel_rfl) (fun c651 => ?_) (fun c651 => ?_)
    · refine S_nil (R_yes (by kernel_rfl) (R_skip (R_seq (R_block (R_seq (R_drawF 10 (by kernel_rfl) (fun F652 U653 hL654 => F_load 3 0 (.agg #[.bool bP, .slice AP (List.length lP) cP]) hM648 (by kernel_rfl) (F_val (.int .i64 0) (fun _ => by kernel_rfl) (F_call (s_umbraref01_digit bP lP 0) (fun r : Int => .int .i64 r) hM648 hL654 (fun w' hM' => w_umbraref01_digit bP lP 0 AP (List.length lP) cP rfl hcP (by omega) w' (hM'.ent 1 rfl)) (by kernel_rfl) (fun _ => by kernel_rfl) (fun r657 h658 => F_load 2 0 (.agg #[.bool bQ, .slice AQ (List.length lQ) cQ]) hM648 (by kernel_rfl) (F_val (.int .i64 0) (fun _ => by kernel_rfl) (?_))))))))))))
      have HR := hr_pos HR c651
      have HR := hr_lt HR h658
      refine F_call (s_umbraref01_digit bQ lQ 0) (fun r : Int => .int .i64 r) hM648 hL654 (fun w' hM' => w_umbraref01_digit bQ lQ 0 AQ (List.length lQ) cQ rfl hcQ (by omega) w' (hM'.ent 2 rfl)) (by kernel_rfl) (fun _ => by kernel_rfl) (fun r661 h662 => F_int (IntKind.i64.wrap (r657 + r661)) .i64 (fun _ => by kernel_rfl) (fun x663 h664 => F_val (.int .i64 0) (fun _ => by kernel_rfl) (F_int (IntKind.i64.wrap (x663 + 0)) .i64 (fun _ => by kernel_rfl) (fun x665 h666 => F_val (.int .i64 x665) (fun _ => by kernel_rfl) (F_nil hM648 hL654 (fun w667 hM668 => S_nil (R_seq (R_seq (R_region (S_val (.pointer (some ⟨g1, 0, none⟩)) (by kernel_rfl) (S_load 3 0 (.bool bP) hM668 (by kernel_rfl) (?_))))))))))))
      have HR := hr_lt HR h662
      have HR := hr_lt HR h664
      have HR := hr_lt HR h666
      refine S_val (.pointer (some ⟨g4, 0, none⟩)) (by kernel_rfl) (S_load 2 0 (.bool bQ) hM668 (by kernel_rfl) (S_val (.bool false) (knT' c10 (by kernel_rfl)) (S_nil (R_no (by kernel_rfl) (R_skip (R_seq (R_region (S_val (.int .i64 0) (by kernel_rfl) (S_nil (R_seq (R_seq (?_))))))))))))
      refine R_region (S_val (.int .i64 x665) (by kernel_rfl) (?_))
      refine S_dec (x665 < 0) (by kernel_rfl) (fun c669 => ?_) (fun c669 => ?_)
      · refine S_nil (R_yes (by kernel_rfl) (R_seq (R_region (S_val (.int .i64 x665) (by kernel_rfl) (S_int (IntKind.i64.wrap (x665 + 65536)) .i64 (by kernel_rfl) (fun x670 h671 => S_val (.int .i64 x670) (by kernel_rfl) (S_nil (R_region (S_val (.int .i64 (-1)) (by kernel_rfl) (S_nil (R_seq (?_))))))))))))
        have HR := hr_pos HR c669
        have HR := hr_lt HR h671
        refine R_seq (R_region (S_val (.int .i64 x670) (by kernel_rfl) (?_)))
        refine S_dec (x670 > 65535) (by kernel_rfl) (fun c672 => ?_) (fun c672 => ?_)
        · refine S_nil (R_yes (by kernel_rfl) (R_seq (R_region (S_val (.int .i64 x670) (by kernel_rfl) (S_int (IntKind.i64.wrap (x670 - 65536)) .i64 (by kernel_rfl) (fun x673 h674 => S_val (.int .i64 x673) (by kernel_rfl) (S_nil (R_region (S_val (.int .i64 1) (by kernel_rfl) (S_nil (R_region (?_))))))))))))
          have HR := hr_pos HR c672
          have HR := hr_lt HR h674
          refine S_val (.pointer (some ⟨g644, 1, none⟩)) (by kernel_rfl) (S_load 0 1 (.slice none 0 0) hM668 (by kernel_rfl) (S_val (.int .i64 x673) (by kernel_rfl) (S_fresh (some 1) #[.int .i64 x673] 3 hM668 (by kernel_rfl) (fun g675 w676 hM677 => ?_))))
          refine S_app0 0 1 1 3 1 8 (.int .i64 0) [.int .i64 x673] hM677 (by kernel_rfl) (by kernel_rfl) (fun g678 cap679 rest680 w681 ok682 hM683 => S_val (.pointer (some ⟨g644, 1, none⟩)) (by kernel_rfl) (S_store 2 1 #[.bool bP, .slice (some ⟨g678, 0, none⟩) 1 cap679] hM683 (by kernel_rfl) (fun w684 hM685 => S_nil (R_inBlock (R_region (S_val (.int .i64 0) (by kernel_rfl) (S_val (.int .i64 1) (by kernel_rfl) (S_val (.int .i64 1) (by kernel_rfl) (S_nil (?_))))))))))
          have hw_x673 := h674; rw [wrI] at hw_x673; unfold wrap64 at hw_x673
          have hw_x670 := h671; rw [wrI] at hw_x670; unfold wrap64 at hw_x670
          have hw_x665 := h666; rw [wrI] at hw_x665; unfold wrap64 at hw_x665
          have hw_x663 := h664; rw [wrI] at hw_x663; unfold wrap64 at hw_x663
          have hw_x649 := h650; rw [gmax_eq] at hw_x649
          obtain ⟨E692, HE693⟩ : ∃ E, L6_umbraref01_Sum_1_s bP lP bQ lQ (Int.toNat (1000 - 1) + 1) 1 1 ([x673]) = E := ⟨_, rfl⟩
          have HR := hr_lt HR HE693
          refine R_fuelI (fun m687 a688 w689 => ∃ (k : Int) (carry : Int) (o : List Int) (g694 : Nat) (cap695 : Nat) (rest696 : List Value) (u5 : List Value), a688 = { tmps := #[.agg #[.bool bP, .slice AP (List.length lP) cP], .agg #[.bool bQ, .slice AQ (List.length lQ) cQ], .pointer (some ⟨g1, 0, none⟩), .pointer (some ⟨g4, 0, none⟩), .pointer (some ⟨g7, 0, none⟩), .pointer (some ⟨g644, 0, none⟩), .int .i64 carry, .int .i64 k, (gv u5 0), .pointer (some ⟨g1, 0, none⟩), .bool bP, .pointer (some ⟨g4, 0, none⟩), .bool bQ, .bool false, .bool false, undef, undef, undef, undef, .bool false, undef, undef, undef, .pointer (some ⟨g1, 0, none⟩), .bool bP, .agg #[.bool bP, .slice none 0 0], (gv u5 1), (gv u5 2), (gv u5 3), (gv u5 4), (gv u5 5), (gv u5 6), (gv u5 7), (gv u5 8), (gv u5 9), (gv u5 10), (gv u5 11), (gv u5 12), (gv u5 13), (gv u5 14), (gv u5 15), (gv u5 16), (gv u5 17), (gv u5 18), (gv u5 19), (gv u5 20), (gv u5 21), (gv u5 22), (gv u5 23), (gv u5 24), (gv u5 25), (gv u5 26), (gv u5 27), (gv u5 28), (gv u5 29), (gv u5 30), (gv u5 31), (gv u5 32), (gv u5 33), (gv u5 34), (gv u5 35), (gv u5 36), (gv u5 37), (gv u5 38), (gv u5 39), (gv u5 40), (gv u5 41), (gv u5 42), (gv u5 43), (gv u5 44), (gv u5 45), (gv u5 46), (gv u5 47), (gv u5 48), undef, undef, undef, undef, undef, undef, undef, undef, undef, undef], defers := [] } ∧ St ⟨w, [(AP, nv lP), (AQ, nv lQ)], [(none, nv ([])), (AP, nv lP), (AQ, nv lQ)]⟩ [⟨g694, ⟨nv o ++ rest696⟩, 3, (0, 0), true⟩, ⟨g675, #[.int .i64 x673], 3, (0, 0), true⟩, ⟨g644, #[.bool bP, .slice (some ⟨g694, 0, none⟩) (List.length o) cap695], 29, (0, 0), true⟩, ⟨g7, #[.bool false, .slice none 0 0], 29, (0, 0), true⟩, ⟨g4, #[.bool bQ, .slice AQ (List.length lQ) cQ], 29, (0, 0), true⟩, ⟨g1, #[.bool bP, .slice AP (List.length lP) cP], 29, (0, 0), true⟩] w689 ∧ 1000 - k < (m687 : Int) ∧ (SlOk 1 (List.length o) cap695 rest696) ∧ ((1 ≤ k ∧ k ≤ 1000 ∧ (List.length o : Int) = k)) ∧ L6_umbraref01_Sum_1_s bP lP bQ lQ m687 k carry o = E692) (Int.toNat (1000 - 1) + 1) ⟨1, 1, ([x673]), g678, cap679, rest680, [.int .i64 x673, .int .i64 0, .pointer (some ⟨g1, 1, none⟩), .slice AP (List.length lP) cP, .int .i64 (List.length lP : Int), .pointer (some ⟨g4, 1, none⟩), .slice AQ (List.length lQ) cQ, .int .i64 (List.length lQ : Int), .int .i64 x649, .bool true, .int .i64 0, .int .i64 1, .agg #[.bool bP, .slice AP (List.length lP) cP], .int .i64 0, .int .i64 r657, .agg #[.bool bQ, .slice AQ (List.length lQ) cQ], .int .i64 0, .int .i64 r661, .int .i64 x663, .int .i64 0, .int .i64 x665, .pointer (some ⟨g1, 0, none⟩), .bool bP, .pointer (some ⟨g4, 0, none⟩), .bool bQ, .bool false, undef, undef, undef, undef, undef, undef, undef, undef, undef, .int .i64 x665, .bool true, .int .i64 x665, .int .i64 x670, .int .i64 x670, .bool true, .int .i64 x670, .int .i64 x673, .pointer (some ⟨g644, 1, none⟩), .slice none 0 0, .int .i64 x673, .slice (some ⟨g675, 0, none⟩) 1 1, .slice (some ⟨g678, 0, none⟩) 1 cap679, .pointer (some ⟨g644, 1, none⟩)], by kernel_rfl, hM685, by omega, ok682, (by simp only [List.length_cons, List.length_nil]; omega), HE693⟩ ?_
          rintro m687 a688 w689 ⟨k, carry, o, g694, cap695, rest696, u5, rfl, hM690, hmu5, ok697, hk_5, HE693⟩ hnext691
          obtain ⟨f686, rfl⟩ : ∃ f, m687 = f + 1 := ⟨m687 - 1, by omega⟩
          rw [L6_umbraref01_Sum_1_s] at HE693
          refine R_seq (R_seq (R_region (S_val (.int .i64 k) (by kernel_rfl) (S_val (.pointer (some ⟨g1, 1, none⟩)) (by kernel_rfl) (S_load 5 1 (.slice AP (List.length lP) cP) hM690 (by kernel_rfl) (S_val (.int .i64 (List.length lP : Int)) (by kernel_rfl) (S_val (.pointer (some ⟨g4, 1, none⟩)) (by kernel_rfl) (S_load 4 1 (.slice AQ (List.length lQ) cQ) hM690 (by kernel_rfl) (S_val (.int .i64 (List.length lQ : Int)) (by kernel_rfl) (S_int (gmax (List.length lP : Int) (List.length lQ : Int)) .i64 (by kernel_rfl) (fun x698 h699 => ?_)))))))))))
          have HE693 := hq_lt HE693 h699
          refine S_dec (k < x698) (by kernel_rfl) (fun c700 => ?_) (fun c700 => ?_)
          · refine S_nil (R_yes (by kernel_rfl) (R_skip (R_seq (R_block (R_seq (R_drawF 10 (by kernel_rfl) (fun F701 U702 hL703 => F_load 5 0 (.agg #[.bool bP, .slice AP (List.length lP) cP]) hM690 (by kernel_rfl) (F_val (.int .i64 k) (fun _ => by kernel_rfl) (F_call (s_umbraref01_digit bP lP k) (fun r : Int => .int .i64 r) hM690 hL703 (fun w' hM' => w_umbraref01_digit bP lP k AP (List.length lP) cP rfl hcP (by omega) w' (hM'.ent 1 rfl)) (by kernel_rfl) (fun _ => by kernel_rfl) (fun r706 h707 => F_load 4 0 (.agg #[.bool bQ, .slice AQ (List.length lQ) cQ]) hM690 (by kernel_rfl) (F_val (.int .i64 k) (fun _ => by kernel_rfl) (?_))))))))))))
            have HE693 := hq_pos HE693 c700
            have HE693 := hq_lt HE693 h707
            refine F_call (s_umbraref01_digit bQ lQ k) (fun r : Int => .int .i64 r) hM690 hL703 (fun w' hM' => w_umbraref01_digit bQ lQ k AQ (List.length lQ) cQ rfl hcQ (by omega) w' (hM'.ent 2 rfl)) (by kernel_rfl) (fun _ => by kernel_rfl) (fun r710 h711 => F_int (IntKind.i64.wrap (r706 + r710)) .i64 (fun _ => by kernel_rfl) (fun x712 h713 => F_val (.int .i64 carry) (fun _ => by kernel_rfl) (F_int (IntKind.i64.wrap (x712 + carry)) .i64 (fun _ => by kernel_rfl) (fun x714 h715 => F_val (.int .i64 x714) (fun _ => by kernel_rfl) (F_nil hM690 hL703 (fun w716 hM717 => S_nil (R_seq (R_seq (R_region (S_val (.pointer (some ⟨g1, 0, none⟩)) (by kernel_rfl) (S_load 5 0 (.bool bP) hM717 (by kernel_rfl) (?_))))))))))))
            have HE693 := hq_lt HE693 h711
            have HE693 := hq_lt HE693 h713
            have HE693 := hq_lt HE693 h715
            refine S_val (.pointer (some ⟨g4, 0, none⟩)) (by kernel_rfl) (S_load 4 0 (.bool bQ) hM717 (by kernel_rfl) (S_val (.bool false) (knT' c10 (by kernel_rfl)) (S_nil (R_no (by kernel_rfl) (R_skip (R_seq (R_region (S_val (.int .i64 0) (by kernel_rfl) (S_nil (R_seq (R_seq (?_))))))))))))
            refine R_region (S_val (.int .i64 x714) (by kernel_rfl) (?_))
            refine S_dec (x714 < 0) (by kernel_rfl) (fun c718 => ?_) (fun c718 => ?_)
            · refine S_nil (R_yes (by kernel_rfl) (R_seq (R_region (S_val (.int .i64 x714) (by kernel_rfl) (S_int (IntKind.i64.wrap (x714 + 65536)) .i64 (by kernel_rfl) (fun x719 h720 => S_val (.int .i64 x719) (by kernel_rfl) (S_nil (R_region (S_val (.int .i64 (-1)) (by kernel_rfl) (S_nil (R_seq (?_))))))))))))
              have HE693 := hq_pos HE693 c718
              have HE693 := hq_lt HE693 h720
              refine R_seq (R_region (S_val (.int .i64 x719) (by kernel_rfl) (?_)))
              refine S_dec (x719 > 65535) (by kernel_rfl) (fun c721 => ?_) (fun c721 => ?_)
              · refine S_nil (R_yes (by kernel_rfl) (R_seq (R_region (S_val (.int .i64 x719) (by kernel_rfl) (S_int (IntKind.i64.wrap (x719 - 65536)) .i64 (by kernel_rfl) (fun x722 h723 => S_val (.int .i64 x722) (by kernel_rfl) (S_nil (R_region (S_val (.int .i64 1) (by kernel_rfl) (S_nil (R_region (?_))))))))))))
                have HE693 := hq_pos HE693 c721
                have HE693 := hq_lt HE693 h723
                refine S_val (.pointer (some ⟨g644, 1, none⟩)) (by kernel_rfl) (S_load 2 1 (.slice (some ⟨g694, 0, none⟩) (List.length o) cap695) hM717 (by kernel_rfl) (S_val (.int .i64 x722) (by kernel_rfl) (S_fresh (some 1) #[.int .i64 x722] 3 hM717 (by kernel_rfl) (fun g724 w725 hM726 => ?_))))
                refine S_appL 1 0 (List.length o) cap695 1 3 o rest696 x722 hM726 ok697 rfl (by omega) (by kernel_rfl) (fun g727 l733 h734 cap728 rest729 w730 ok731 hM732 => ?_)
                have hlen_l733 : List.length l733 = List.length o + 1 := by rw [← h734]; simp
                have HE693 := hq_lt HE693 h734
                refine S_val (.pointer (some ⟨g644, 1, none⟩)) (by kernel_rfl) (S_store 3 1 #[.bool bP, .slice (some ⟨g727, 0, none⟩) (List.length l733) cap728] hM732 (by kernel_rfl) (fun w735 hM736 => S_nil (R_inBlock (R_region (S_val (.int .i64 k) (by kernel_rfl) (S_int (IntKind.i64.wrap (k + 1)) .i64 (by kernel_rfl) (fun x737 h738 => S_val (.int .i64 x737) (by kernel_rfl) (S_nil (?_)))))))))
                have HE693 := hq_lt HE693 h738
                have hw_x737 := h738; rw [wrI] at hw_x737; unfold wrap64 at hw_x737
                have hw_x649 := h650; rw [gmax_eq] at hw_x649
                have hw_x665 := h666; rw [wrI] at hw_x665; unfold wrap64 at hw_x665
                have hw_x663 := h664; rw [wrI] at hw_x663; unfold wrap64 at hw_x663
                have hw_x670 := h671; rw [wrI] at hw_x670; unfold wrap64 at hw_x670
                have hw_x698 := h699; rw [gmax_eq] at hw_x698
                have hw_x714 := h715; rw [wrI] at hw_x714; unfold wrap64 at hw_x714
                have hw_x712 := h713; rw [wrI] at hw_x712; unfold wrap64 at hw_x712
                have hw_x719 := h720; rw [wrI] at hw_x719; unfold wrap64 at hw_x719
                have hM739 := hM736.re [0, 2, 3, 4, 5, 6] (by decide) (by kernel_rfl)
                exact hnext691 f686 _ _ (Nat.lt_succ_self _) ⟨x737, 1, l733, g727, cap728, rest729, [.int .i64 x722, .int .i64 k, .pointer (some ⟨g1, 1, none⟩), .slice AP (List.length lP) cP, .int .i64 (List.length lP : Int), .pointer (some ⟨g4, 1, none⟩), .slice AQ (List.length lQ) cQ, .int .i64 (List.length lQ : Int), .int .i64 x698, .bool true, .int .i64 k, .int .i64 x737, .agg #[.bool bP, .slice AP (List.length lP) cP], .int .i64 k, .int .i64 r706, .agg #[.bool bQ, .slice AQ (List.length lQ) cQ], .int .i64 k, .int .i64 r710, .int .i64 x712, .int .i64 carry, .int .i64 x714, .pointer (some ⟨g1, 0, none⟩), .bool bP, .pointer (some ⟨g4, 0, none⟩), .bool bQ, .bool false, (gv u5 26), (gv u5 27), (gv u5 28), (gv u5 29), (gv u5 30), (gv u5 31), (gv u5 32), (gv u5 33), (gv u5 34), .int .i64 x714, .bool true, .int .i64 x714, .int .i64 x719, .int .i64 x719, .bool true, .int .i64 x719, .int .i64 x722, .pointer (some ⟨g644, 1, none⟩), .slice (some ⟨g694, 0, none⟩) (List.length o) cap695, .int .i64 x722, .slice (some ⟨g724, 0, none⟩) 1 1, .slice (some ⟨g727, 0, none⟩) (List.length l733) cap728, .pointer (some ⟨g644, 1, none⟩)], by kernel_rfl, hM739, by omega, ok731, (by omega), HE693⟩
              · refine S_nil (R_no (by kernel_rfl) (R_skip (R_region (S_val (.pointer (some ⟨g644, 1, none⟩)) (by kernel_rfl) (S_load 2 1 (.slice (some ⟨g694, 0, none⟩) (List.length o) cap695) hM717 (by kernel_rfl) (S_val (.int .i64 x719) (by kernel_rfl) (S_fresh (some 1) #[.int .i64 x719] 3 hM717 (by kernel_rfl) (fun g740 w741 hM742 => ?_))))))))
                have HE693 := hq_neg HE693 c721
                refine S_appL 1 0 (List.length o) cap695 1 3 o rest696 x719 hM742 ok697 rfl (by omega) (by kernel_rfl) (fun g743 l749 h750 cap744 rest745 w746 ok747 hM748 => ?_)
                have hlen_l749 : List.length l749 = List.length o + 1 := by rw [← h750]; simp
                have HE693 := hq_lt HE693 h750
                refine S_val (.pointer (some ⟨g644, 1, none⟩)) (by kernel_rfl) (S_store 3 1 #[.bool bP, .slice (some ⟨g743, 0, none⟩) (List.length l749) cap744] hM748 (by kernel_rfl) (fun w751 hM752 => S_nil (R_inBlock (R_region (S_val (.int .i64 k) (by kernel_rfl) (S_int (IntKind.i64.wrap (k + 1)) .i64 (by kernel_rfl) (fun x753 h754 => S_val (.int .i64 x753) (by kernel_rfl) (S_nil (?_)))))))))
                have HE693 := hq_lt HE693 h754
                have hw_x753 := h754; rw [wrI] at hw_x753; unfold wrap64 at hw_x753
                have hw_x649 := h650; rw [gmax_eq] at hw_x649
                have hw_x665 := h666; rw [wrI] at hw_x665; unfold wrap64 at hw_x665
                have hw_x663 := h664; rw [wrI] at hw_x663; unfold wrap64 at hw_x663
                have hw_x670 := h671; rw [wrI] at hw_x670; unfold wrap64 at hw_x670
                have hw_x698 := h699; rw [gmax_eq] at hw_x698
                have hw_x714 := h715; rw [wrI] at hw_x714; unfold wrap64 at hw_x714
                have hw_x712 := h713; rw [wrI] at hw_x712; unfold wrap64 at hw_x712
                have hw_x719 := h720; rw [wrI] at hw_x719; unfold wrap64 at hw_x719
                have hM755 := hM752.re [0, 2, 3, 4, 5, 6] (by decide) (by kernel_rfl)
                exact hnext691 f686 _ _ (Nat.lt_succ_self _) ⟨x753, (-1), l749, g743, cap744, rest745, [.int .i64 x719, .int .i64 k, .pointer (some ⟨g1, 1, none⟩), .slice AP (List.length lP) cP, .int .i64 (List.length lP : Int), .pointer (some ⟨g4, 1, none⟩), .slice AQ (List.length lQ) cQ, .int .i64 (List.length lQ : Int), .int .i64 x698, .bool true, .int .i64 k, .int .i64 x753, .agg #[.bool bP, .slice AP (List.length lP) cP], .int .i64 k, .int .i64 r706, .agg #[.bool bQ, .slice AQ (List.length lQ) cQ], .int .i64 k, .int .i64 r710, .int .i64 x712, .int .i64 carry, .int .i64 x714, .pointer (some ⟨g1, 0, none⟩), .bool bP, .pointer (some ⟨g4, 0, none⟩), .bool bQ, .bool false, (gv u5 26), (gv u5 27), (gv u5 28), (gv u5 29), (gv u5 30), (gv u5 31), (gv u5 32), (gv u5 33), (gv u5 34), .int .i64 x714, .bool true, .int .i64 x714, .int .i64 x719, .int .i64 x719, .bool false, (gv u5 41), (gv u5 42), .pointer (some ⟨g644, 1, none⟩), .slice (some ⟨g694, 0, none⟩) (List.length o) cap695, .int .i64 x719, .slice (some ⟨g740, 0, none⟩) 1 1, .slice (some ⟨g743, 0, none⟩) (List.length l749) cap744, .pointer (some ⟨g644, 1, none⟩)], by kernel_rfl, hM755, by omega, ok747, (by omega), HE693⟩
            · refine S_nil (R_no (by kernel_rfl) (R_skip (R_seq (R_seq (R_region (S_val (.int .i64 x714) (by kernel_rfl) (?_)))))))
              have HE693 := hq_neg HE693 c718
              refine S_dec (x714 > 65535) (by kernel_rfl) (fun c756 => ?_) (fun c756 => ?_)
              · refine S_nil (R_yes (by kernel_rfl) (R_seq (R_region (S_val (.int .i64 x714) (by kernel_rfl) (S_int (IntKind.i64.wrap (x714 - 65536)) .i64 (by kernel_rfl) (fun x757 h758 => S_val (.int .i64 x757) (by kernel_rfl) (S_nil (R_region (S_val (.int .i64 1) (by kernel_rfl) (S_nil (R_region (?_))))))))))))
                have HE693 := hq_pos HE693 c756
                have HE693 := hq_lt HE693 h758
                refine S_val (.pointer (some ⟨g644, 1, none⟩)) (by kernel_rfl) (S_load 2 1 (.slice (some ⟨g694, 0, none⟩) (List.length o) cap695) hM717 (by kernel_rfl) (S_val (.int .i64 x757) (by kernel_rfl) (S_fresh (some 1) #[.int .i64 x757] 3 hM717 (by kernel_rfl) (fun g759 w760 hM761 => ?_))))
                refine S_appL 1 0 (List.length o) cap695 1 3 o rest696 x757 hM761 ok697 rfl (by omega) (by kernel_rfl) (fun g762 l768 h769 cap763 rest764 w765 ok766 hM767 => ?_)
                have hlen_l768 : List.length l768 = List.length o + 1 := by rw [← h769]; simp
                have HE693 := hq_lt HE693 h769
                refine S_val (.pointer (some ⟨g644, 1, none⟩)) (by kernel_rfl) (S_store 3 1 #[.bool bP, .slice (some ⟨g762, 0, none⟩) (List.length l768) cap763] hM767 (by kernel_rfl) (fun w770 hM771 => S_nil (R_inBlock (R_region (S_val (.int .i64 k) (by kernel_rfl) (S_int (IntKind.i64.wrap (k + 1)) .i64 (by kernel_rfl) (fun x772 h773 => S_val (.int .i64 x772) (by kernel_rfl) (S_nil (?_)))))))))
                have HE693 := hq_lt HE693 h773
                have hw_x772 := h773; rw [wrI] at hw_x772; unfold wrap64 at hw_x772
                have hw_x649 := h650; rw [gmax_eq] at hw_x649
                have hw_x665 := h666; rw [wrI] at hw_x665; unfold wrap64 at hw_x665
                have hw_x663 := h664; rw [wrI] at hw_x663; unfold wrap64 at hw_x663
                have hw_x670 := h671; rw [wrI] at hw_x670; unfold wrap64 at hw_x670
                have hw_x698 := h699; rw [gmax_eq] at hw_x698
                have hw_x714 := h715; rw [wrI] at hw_x714; unfold wrap64 at hw_x714
                have hw_x712 := h713; rw [wrI] at hw_x712; unfold wrap64 at hw_x712
                have hM774 := hM771.re [0, 2, 3, 4, 5, 6] (by decide) (by kernel_rfl)
                exact hnext691 f686 _ _ (Nat.lt_succ_self _) ⟨x772, 1, l768, g762, cap763, rest764, [.int .i64 x757, .int .i64 k, .pointer (some ⟨g1, 1, none⟩), .slice AP (List.length lP) cP, .int .i64 (List.length lP : Int), .pointer (some ⟨g4, 1, none⟩), .slice AQ (List.length lQ) cQ, .int .i64 (List.length lQ : Int), .int .i64 x698, .bool true, .int .i64 k, .int .i64 x772, .agg #[.bool bP, .slice AP (List.length lP) cP], .int .i64 k, .int .i64 r706, .agg #[.bool bQ, .slice AQ (List.length lQ) cQ], .int .i64 k, .int .i64 r710, .int .i64 x712, .int .i64 carry, .int .i64 x714, .pointer (some ⟨g1, 0, none⟩), .bool bP, .pointer (some ⟨g4, 0, none⟩), .bool bQ, .bool false, (gv u5 26), (gv u5 27), (gv u5 28), (gv u5 29), (gv u5 30), (gv u5 31), (gv u5 32), (gv u5 33), (gv u5 34), .int .i64 x714, .bool false, (gv u5 37), (gv u5 38), .int .i64 x714, .bool true, .int .i64 x714, .int .i64 x757, .pointer (some ⟨g644, 1, none⟩), .slice (some ⟨g694, 0, none⟩) (List.length o) cap695, .int .i64 x757, .slice (some ⟨g759, 0, none⟩) 1 1, .slice (some ⟨g762, 0, none⟩) (List.length l768) cap763, .pointer (some ⟨g644, 1, none⟩)], by kernel_rfl, hM774, by omega, ok766, (by omega), HE693⟩
              · refine S_nil (R_no (by kernel_rfl) (R_skip (R_region (S_val (.pointer (some ⟨g644, 1, none⟩)) (by kernel_rfl) (S_load 2 1 (.slice (some ⟨g694, 0, none⟩) (List.length o) cap695) hM717 (by kernel_rfl) (S_val (.int .i64 x714) (by kernel_rfl) (S_fresh (some 1) #[.int .i64 x714] 3 hM717 (by kernel_rfl) (fun g775 w776 hM777 => ?_))))))))
                have HE693 := hq_neg HE693 c756
                refine S_appL 1 0 (List.length o) cap695 1 3 o rest696 x714 hM777 ok697 rfl (by omega) (by kernel_rfl) (fun g778 l784 h785 cap779 rest780 w781 ok782 hM783 => ?_)
                have hlen_l784 : List.length l784 = List.length o + 1 := by rw [← h785]; simp
                have HE693 := hq_lt HE693 h785
                refine S_val (.pointer (some ⟨g644, 1, none⟩)) (by kernel_rfl) (S_store 3 1 #[.bool bP, .slice (some ⟨g778, 0, none⟩) (List.length l784) cap779] hM783 (by kernel_rfl) (fun w786 hM787 => S_nil (R_inBlock (R_region (S_val (.int .i64 k) (by kernel_rfl) (S_int (IntKind.i64.wrap (k + 1)) .i64 (by kernel_rfl) (fun x788 h789 => S_val (.int .i64 x788) (by kernel_rfl) (S_nil (?_)))))))))
                have HE693 := hq_lt HE693 h789
                have hw_x788 := h789; rw [wrI] at hw_x788; unfold wrap64 at hw_x788
                have hw_x649 := h650; rw [gmax_eq] at hw_x649
                have hw_x665 := h666; rw [wrI] at hw_x665; unfold wrap64 at hw_x665
                have hw_x663 := h664; rw [wrI] at hw_x663; unfold wrap64 at hw_x663
                have hw_x670 := h671; rw [wrI] at hw_x670; unfold wrap64 at hw_x670
                have hw_x698 := h699; rw [gmax_eq] at hw_x698
                have hw_x714 := h715; rw [wrI] at hw_x714; unfold wrap64 at hw_x714
                have hw_x712 := h713; rw [wrI] at hw_x712; unfold wrap64 at hw_x712
                have hM790 := hM787.re [0, 2, 3, 4, 5, 6] (by decide) (by kernel_rfl)
                exact hnext691 f686 _ _ (Nat.lt_succ_self _) ⟨x788, 0, l784, g778, cap779, rest780, [.int .i64 x714, .int .i64 k, .pointer (some ⟨g1, 1, none⟩), .slice AP (List.length lP) cP, .int .i64 (List.length lP : Int), .pointer (some ⟨g4, 1, none⟩), .slice AQ (List.length lQ) cQ, .int .i64 (List.length lQ : Int), .int .i64 x698, .bool true, .int .i64 k, .int .i64 x788, .agg #[.bool bP, .slice AP (List.length lP) cP], .int .i64 k, .int .i64 r706, .agg #[.bool bQ, .slice AQ (List.length lQ) cQ], .int .i64 k, .int .i64 r710, .int .i64 x712, .int .i64 carry, .int .i64 x714, .pointer (some ⟨g1, 0, none⟩), .bool bP, .pointer (some ⟨g4, 0, none⟩), .bool bQ, .bool false, (gv u5 26), (gv u5 27), (gv u5 28), (gv u5 29), (gv u5 30), (gv u5 31), (gv u5 32), (gv u5 33), (gv u5 34), .int .i64 x714, .bool false, (gv u5 37), (gv u5 38), .int .i64 x714, .bool false, (gv u5 41), (gv u5 42), .pointer (some ⟨g644, 1, none⟩), .slice (some ⟨g694, 0, none⟩) (List.length o) cap695, .int .i64 x714, .slice (some ⟨g775, 0, none⟩) 1 1, .slice (some ⟨g778, 0, none⟩) (List.length l784) cap779, .pointer (some ⟨g644, 1, none⟩)], by kernel_rfl, hM790, by omega, ok782, (by omega), HE693⟩
          · refine S_nil (R_no (by kernel_rfl) (R_exit rfl (?_)))
            have HE693 := hq_neg HE693 c700
            subst HE693
            refine R_seq (R_seq (R_region (S_val (.int .i64 carry) (by kernel_rfl) (?_))))
            refine S_dec (carry > 0) (by kernel_rfl) (fun c791 => ?_) (fun c791 => ?_)
            · refine S_nil (R_yes (by kernel_rfl) (R_region (S_val (.pointer (some ⟨g644, 1, none⟩)) (by kernel_rfl) (S_load 2 1 (.slice (some ⟨g694, 0, none⟩) (List.length o) cap695) hM690 (by kernel_rfl) (S_val (.int .i64 carry) (by kernel_rfl) (S_fresh (some 1) #[.int .i64 carry] 3 hM690 (by kernel_rfl) (fun g792 w793 hM794 => ?_)))))))
              have HR := hr_pos HR c791
              refine S_appL 1 0 (List.length o) cap695 1 3 o rest696 carry hM794 ok697 rfl (by omega) (by kernel_rfl) (fun g795 l801 h802 cap796 rest797 w798 ok799 hM800 => ?_)
              have hlen_l801 : List.length l801 = List.length o + 1 := by rw [← h802]; simp
              have HR := hr_lt HR h802
              refine S_val (.pointer (some ⟨g644, 1, none⟩)) (by kernel_rfl) (S_store 3 1 #[.bool bP, .slice (some ⟨g795, 0, none⟩) (List.length l801) cap796] hM800 (by kernel_rfl) (fun w803 hM804 => S_nil (R_seq (R_region (S_load 3 0 (.agg #[.bool bP, .slice (some ⟨g795, 0, none⟩) (List.length l801) cap796]) hM804 (by kernel_rfl) (?_))))))
              have hM805 := hM804.freeze 0 l801 rest797 (by kernel_rfl)
              refine S_callN (s_umbraref01_trim bP l801) [((some ⟨g795, 0, none⟩), nv l801)] hM805 (w_umbraref01_trim bP l801 (some ⟨g795, 0, none⟩) (List.length l801) cap796 (by omega) ok799.le (by first | omega | simp) w803 (hM805.ent 0 rfl)) (subc 0 rfl sub0) (by kernel_rfl) (fun r806 h807 A808 cap809 hc810 w811 hM812 => S_store 3 0 #[.bool r806.1, .slice A808 (List.length r806.2) cap809] hM812 (by kernel_rfl) (fun w813 hM814 => S_nil (?_)))
              have HR := hr_lt HR h807
              refine R_ret hM814 rfl (.cons (.cell _ _ 3 0 (.agg #[.bool r806.1, .slice A808 (List.length r806.2) cap809]) (by kernel_rfl)) .nil) rfl ?_
              exact hM814.retN 0 rfl rfl hc810 HR
            · refine S_nil (R_no (by kernel_rfl) (R_skip (R_seq (R_region (S_load 2 0 (.agg #[.bool bP, .slice (some ⟨g694, 0, none⟩) (List.length o) cap695]) hM690 (by kernel_rfl) (?_))))))
              have HR := hr_neg HR c791
              have hM815 := hM690.freeze 0 o rest696 (by kernel_rfl)
              refine S_callN (s_umbraref01_trim bP o) [((some ⟨g694, 0, none⟩), nv o)] hM815 (w_umbraref01_trim bP o (some ⟨g694, 0, none⟩) (List.length o) cap695 (by omega) ok697.le (by first | omega | simp) w689 (hM815.ent 0 rfl)) (subc 0 rfl sub0) (by kernel_rfl) (fun r816 h817 A818 cap819 hc820 w821 hM822 => S_store 2 0 #[.bool r816.1, .slice A818 (List.length r816.2) cap819] hM822 (by kernel_rfl) (fun w823 hM824 => S_nil (?_)))
              have HR := hr_lt HR h817
              refine R_ret hM824 rfl (.cons (.cell _ _ 2 0 (.agg #[.bool r816.1, .slice A818 (List.length r816.2) cap819]) (by kernel_rfl)) .nil) rfl ?_
              exact hM824.retN 0 rfl rfl hc820 HR
        · refine S_nil (R_no (by kernel_rfl) (R_skip (R_region (S_val (.pointer (some ⟨g644, 1, none⟩)) (by kernel_rfl) (S_load 0 1 (.slice none 0 0) hM668 (by kernel_rfl) (S_val (.int .i64 x670) (by kernel_rfl) (S_fresh (some 1) #[.int .i64 x670] 3 hM668 (by kernel_rfl) (fun g825 w826 hM827 => ?_))))))))
          have HR := hr_neg HR c672
          refine S_app0 0 1 1 3 1 8 (.int .i64 0) [.int .i64 x670] hM827 (by kernel_rfl) (by kernel_rfl) (fun g828 cap829 rest830 w831 ok832 hM833 => S_val (.pointer (some ⟨g644, 1, none⟩)) (by kernel_rfl) (S_store 2 1 #[.bool bP, .slice (some ⟨g828, 0, none⟩) 1 cap829] hM833 (by kernel_rfl) (fun w834 hM835 => S_nil (R_inBlock (R_region (S_val (.int .i64 0) (by kernel_rfl) (S_val (.int .i64 1) (by kernel_rfl) (S_val (.int .i64 1) (by kernel_rfl) (S_nil (?_))))))))))
          have hw_x670 := h671; rw [wrI] at hw_x670; unfold wrap64 at hw_x670
          have hw_x665 := h666; rw [wrI] at hw_x665; unfold wrap64 at hw_x665
          have hw_x663 := h664; rw [wrI] at hw_x663; unfold wrap64 at hw_x663
          have hw_x649 := h650; rw [gmax_eq] at hw_x649
          obtain ⟨E842, HE843⟩ : ∃ E, L6_umbraref01_Sum_1_s bP lP bQ lQ (Int.toNat (1000 - 1) + 1) 1 (-1) ([x670]) = E := ⟨_, rfl⟩
          have HR := hr_lt HR HE843
          refine R_fuelI (fun m837 a838 w839 => ∃ (k : Int) (carry : Int) (o : List Int) (g844 : Nat) (cap845 : Nat) (rest846 : List Value) (u6 : List Value), a838 = { tmps := #[.agg #[.bool bP, .slice AP (List.length lP) cP], .agg #[.bool bQ, .slice AQ (List.length lQ) cQ], .pointer (some ⟨g1, 0, none⟩), .pointer (some ⟨g4, 0, none⟩), .pointer (some ⟨g7, 0, none⟩), .pointer (some ⟨g644, 0, none⟩), .int .i64 carry, .int .i64 k, (gv u6 0), .pointer (some ⟨g1, 0, none⟩), .bool bP, .pointer (some ⟨g4, 0, none⟩), .bool bQ, .bool false, .bool false, undef, undef, undef, undef, .bool false, undef, undef, undef, .pointer (some ⟨g1, 0, none⟩), .bool bP, .agg #[.bool bP, .slice none 0 0], (gv u6 1), (gv u6 2), (gv u6 3), (gv u6 4), (gv u6 5), (gv u6 6), (gv u6 7), (gv u6 8), (gv u6 9), (gv u6 10), (gv u6 11), (gv u6 12), (gv u6 13), (gv u6 14), (gv u6 15), (gv u6 16), (gv u6 17), (gv u6 18), (gv u6 19), (gv u6 20), (gv u6 21), (gv u6 22), (gv u6 23), (gv u6 24), (gv u6 25), (gv u6 26), (gv u6 27), (gv u6 28), (gv u6 29), (gv u6 30), (gv u6 31), (gv u6 32), (gv u6 33), (gv u6 34), (gv u6 35), (gv u6 36), (gv u6 37), (gv u6 38), (gv u6 39), (gv u6 40), (gv u6 41), (gv u6 42), (gv u6 43), (gv u6 44), (gv u6 45), (gv u6 46), (gv u6 47), (gv u6 48), undef, undef, undef, undef, undef, undef, undef, undef, undef, undef], defers := [] } ∧ St ⟨w, [(AP, nv lP), (AQ, nv lQ)], [(none, nv ([])), (AP, nv lP), (AQ, nv lQ)]⟩ [⟨g844, ⟨nv o ++ rest846⟩, 3, (0, 0), true⟩, ⟨g825, #[.int .i64 x670], 3, (0, 0), true⟩, ⟨g644, #[.bool bP, .slice (some ⟨g844, 0, none⟩) (List.length o) cap845], 29, (0, 0), true⟩, ⟨g7, #[.bool false, .slice none 0 0], 29, (0, 0), true⟩, ⟨g4, #[.bool bQ, .slice AQ (List.length lQ) cQ], 29, (0, 0), true⟩, ⟨g1, #[.bool bP, .slice AP (List.length lP) cP], 29, (0, 0), true⟩] w839 ∧ 1000 - k < (m837 : Int) ∧ (SlOk 1 (List.length o) cap845 rest846) ∧ ((1 ≤ k ∧ k ≤ 1000 ∧ (List.length o : Int) = k)) ∧ L6_umbraref01_Sum_1_s bP lP bQ lQ m837 k carry o = E842) (Int.toNat (1000 - 1) + 1) ⟨1, (-1), ([x670]), g828, cap829, rest830, [.int .i64 x670, .int .i64 0, .pointer (some ⟨g1, 1, none⟩), .slice AP (List.length lP) cP, .int .i64 (List.length lP : Int), .pointer (some ⟨g4, 1, none⟩), .slice AQ (List.length lQ) cQ, .int .i64 (List.length lQ : Int), .int .i64 x649, .bool true, .int .i64 0, .int .i64 1, .agg #[.bool bP, .slice AP (List.length lP) cP], .int .i64 0, .int .i64 r657, .agg #[.bool bQ, .slice AQ (List.length lQ) cQ], .int .i64 0, .int .i64 r661, .int .i64 x663, .int .i64 0, .int .i64 x665, .pointer (some ⟨g1, 0, none⟩), .bool bP, .pointer (some ⟨g4, 0, none⟩), .bool bQ, .bool false, undef, undef, undef, undef, undef, undef, undef, undef, undef, .int .i64 x665, .bool true, .int .i64 x665, .int .i64 x670, .int .i64 x670, .bool false, undef, undef, .pointer (some ⟨g644, 1, none⟩), .slice none 0 0, .int .i64 x670, .slice (some ⟨g825, 0, none⟩) 1 1, .slice (some ⟨g828, 0, none⟩) 1 cap829, .pointer (some ⟨g644, 1, none⟩)], by kernel_rfl, hM835, by omega, ok832, (by simp only [List.length_cons, List.length_nil]; omega), HE843⟩ ?_
          rintro m837 a838 w839 ⟨k, carry, o, g844, cap845, rest846, u6, rfl, hM840, hmu6, ok847, hk_6, HE843⟩ hnext841
          obtain ⟨f836, rfl⟩ : ∃ f, m837 = f + 1 := ⟨m837 - 1, by omega⟩
          rw [L6_umbraref01_Sum_1_s] at HE843
          refine R_seq (R_seq (R_region (S_val (.int .i64 k) (by kernel_rfl) (S_val (.pointer (some ⟨g1, 1, none⟩)) (by kernel_rfl) (S_load 5 1 (.slice AP (List.length lP) cP) hM840 (by kernel_rfl) (S_val (.int .i64 (List.length lP : Int)) (by kernel_rfl) (S_val (.pointer (some ⟨g4, 1, none⟩)) (by kernel_rfl) (S_load 4 1 (.slice AQ (List.length lQ) cQ) hM840 (by kernel_rfl) (S_val (.int .i64 (List.length lQ : Int)) (by kernel_rfl) (S_int (gmax (List.length lP : Int) (List.length lQ : Int)) .i64 (by kernel_rfl) (fun x848 h849 => ?_)))))))))))
          have HE843 := hq_lt HE843 h849
          refine S_dec (k < x848) (by kernel_rfl) (fun c850 => ?_) (fun c850 => ?_)
          · refine S_nil (R_yes (by kernel_rfl) (R_skip (R_seq (R_block (R_seq (R_drawF 10 (by kernel_rfl) (fun F851 U852 hL853 => F_load 5 0 (.agg #[.bool bP, .slice AP (List.length lP) cP]) hM840 (by kernel_rfl) (F_val (.int .i64 k) (fun _ => by kernel_rfl) (F_call (s_umbraref01_digit bP lP k) (fun r : Int => .int .i64 r) hM840 hL853 (fun w' hM' => w_umbraref01_digit bP lP k AP (List.length lP) cP rfl hcP (by omega) w' (hM'.ent 1 rfl)) (by kernel_rfl) (fun _ => by kernel_rfl) (fun r856 h857 => F_load 4 0 (.agg #[.bool bQ, .slice AQ (List.length lQ) cQ]) hM840 (by kernel_rfl) (F_val (.int .i64 k) (fun _ => by kernel_rfl) (?_))))))))))))
            have HE843 := hq_pos HE843 c850
            have HE843 := hq_lt HE843 h857
            refine F_call (s_umbraref01_digit bQ lQ k) (fun r : Int => .int .i64 r) hM840 hL853 (fun w' hM' => w_umbraref01_digit bQ lQ k AQ (List.length lQ) cQ rfl hcQ (by omega) w' (hM'.ent 2 rfl)) (by kernel_rfl) (fun _ => by kernel_rfl) (fun r860 h861 => F_int (IntKind.i64.wrap (r856 + r860)) .i64 (fun _ => by kernel_rfl) (fun x862 h863 => F_val (.int .i64 carry) (fun _ => by kernel_rfl) (F_int (IntKind.i64.wrap (x862 + carry)) .i64 (fun _ => by kernel_rfl) (fun x864 h865 => F_val (.int .i64 x864) (fun _ => by kernel_rfl) (F_nil hM840 hL853 (fun w866 hM867 => S_nil (R_seq (R_seq (R_region (S_val (.pointer (some ⟨g1, 0, none⟩)) (by kernel_rfl) (S_load 5 0 (.bool bP) hM867 (by kernel_rfl) (?_))))))))))))
            have HE843 := hq_lt HE843 h861
            have HE843 := hq_lt HE843 h863
            have HE843 := hq_lt HE843 h865
            refine S_val (.pointer (some ⟨g4, 0, none⟩)) (by kernel_rfl) (S_load 4 0 (.bool bQ) hM867 (by kernel_rfl) (S_val (.bool false) (knT' c10 (by kernel_rfl)) (S_nil (R_no (by kernel_rfl) (R_skip (R_seq (R_region (S_val (.int .i64 0) (by kernel_rfl) (S_nil (R_seq (R_seq (?_))))))))))))
            refine R_region (S_val (.int .i64 x864) (by kernel_rfl) (?_))
            refine S_dec (x864 < 0) (by kernel_rfl) (fun c868 => ?_) (fun c868 => ?_)
            · refine S_nil (R_yes (by kernel_rfl) (R_seq (R_region (S_val (.int .i64 x864) (by kernel_rfl) (S_int (IntKind.i64.wrap (x864 + 65536)) .i64 (by kernel_rfl) (fun x869 h870 => S_val (.int .i64 x869) (by kernel_rfl) (S_nil (R_region (S_val (.int .i64 (-1)) (by kernel_rfl) (S_nil (R_seq (?_))))))))))))
              have HE843 := hq_pos HE843 c868
              have HE843 := hq_lt HE843 h870
              refine R_seq (R_region (S_val (.int .i64 x869) (by kernel_rfl) (?_)))
              refine S_dec (x869 > 65535) (by kernel_rfl) (fun c871 => ?_) (fun c871 => ?_)
              · refine S_nil (R_yes (by kernel_rfl) (R_seq (R_region (S_val (.int .i64 x869) (by kernel_rfl) (S_int (IntKind.i64.wrap (x869 - 65536)) .i64 (by kernel_rfl) (fun x872 h873 => S_val (.int .i64 x872) (by kernel_rfl) (S_nil (R_region (S_val (.int .i64 1) (by kernel_rfl) (S_nil (R_region (?_))))))))))))
                have HE843 := hq_pos HE843 c871
                have HE843 := hq_lt HE843 h873
                refine S_val (.pointer (some ⟨g644, 1, none⟩)) (by kernel_rfl) (S_load 2 1 (.slice (some ⟨g844, 0, none⟩) (List.length o) cap845) hM867 (by kernel_rfl) (S_val (.int .i64 x872) (by kernel_rfl) (S_fresh (some 1) #[.int .i64 x872] 3 hM867 (by kernel_rfl) (fun g874 w875 hM876 => ?_))))
                refine S_appL 1 0 (List.length o) cap845 1 3 o rest846 x872 hM876 ok847 rfl (by omega) (by kernel_rfl) (fun g877 l883 h884 cap878 rest879 w880 ok881 hM882 => ?_)
                have hlen_l883 : List.length l883 = List.length o + 1 := by rw [← h884]; simp
                have HE843 := hq_lt HE843 h884
                refine S_val (.pointer (some ⟨g644, 1, none⟩)) (by kernel_rfl) (S_store 3 1 #[.bool bP, .slice (some ⟨g877, 0, none⟩) (List.length l883) cap878] hM882 (by kernel_rfl) (fun w885 hM886 => S_nil (R_inBlock (R_region (S_val (.int .i64 k) (by kernel_rfl) (S_int (IntKind.i64.wrap (k + 1)) .i64 (by kernel_rfl) (fun x887 h888 => S_val (.int .i64 x887) (by kernel_rfl) (S_nil (?_)))))))))
                have HE843 := hq_lt HE843 h888
                have hw_x887 := h888; rw [wrI] at hw_x887; unfold wrap64 at hw_x887
                have hw_x649 := h650; rw [gmax_eq] at hw_x649
                have hw_x665 := h666; rw [wrI] at hw_x665; unfold wrap64 at hw_x665
                have hw_x663 := h664; rw [wrI] at hw_x663; unfold wrap64 at hw_x663
                have hw_x670 := h671; rw [wrI] at hw_x670; unfold wrap64 at hw_x670
                have hw_x848 := h849; rw [gmax_eq] at hw_x848
                have hw_x864 := h865; rw [wrI] at hw_x864; unfold wrap64 at hw_x864
                have hw_x862 := h863; rw [wrI] at hw_x862; unfold wrap64 at hw_x862
                have hw_x869 := h870; rw [wrI] at hw_x869; unfold wrap64 at hw_x869
                have hM889 := hM886.re [0, 2, 3, 4, 5, 6] (by decide) (by kernel_rfl)
                exact hnext841 f836 _ _ (Nat.lt_succ_self _) ⟨x887, 1, l883, g877, cap878, rest879, [.int .i64 x872, .int .i64 k, .pointer (some ⟨g1, 1, none⟩), .slice AP (List.length lP) cP, .int .i64 (List.length lP : Int), .pointer (some ⟨g4, 1, none⟩), .slice AQ (List.length lQ) cQ, .int .i64 (List.length lQ : Int), .int .i64 x848, .bool true, .int .i64 k, .int .i64 x887, .agg #[.bool bP, .slice AP (List.length lP) cP], .int .i64 k, .int .i64 r856, .agg #[.bool bQ, .slice AQ (List.length lQ) cQ], .int .i64 k, .int .i64 r860, .int .i64 x862, .int .i64 carry, .int .i64 x864, .pointer (some ⟨g1, 0, none⟩), .bool bP, .pointer (some ⟨g4, 0, none⟩), .bool bQ, .bool false, (gv u6 26), (gv u6 27), (gv u6 28), (gv u6 29), (gv u6 30), (gv u6 31), (gv u6 32), (gv u6 33), (gv u6 34), .int .i64 x864, .bool true, .int .i64 x864, .int .i64 x869, .int .i64 x869, .bool true, .int .i64 x869, .int .i64 x872, .pointer (some ⟨g644, 1, none⟩), .slice (some ⟨g844, 0, none⟩) (List.length o) cap845, .int .i64 x872, .slice (some ⟨g874, 0, none⟩) 1 1, .slice (some ⟨g877, 0, none⟩) (List.length l883) cap878, .pointer (some ⟨g644, 1, none⟩)], by kernel_rfl, hM889, by omega, ok881, (by omega), HE843⟩
              · refine S_nil (R_no (by kernel_rfl) (R_skip (R_region (S_val (.pointer (some ⟨g644, 1, none⟩)) (by kernel_rfl) (S_load 2 1 (.slice (some ⟨g844, 0, none⟩) (List.length o) cap845) hM867 (by kernel_rfl) (S_val (.int .i64 x869) (by kernel_rfl) (S_fresh (some 1) #[.int .i64 x869] 3 hM867 (by kernel_rfl) (fun g890 w891 hM892 => ?_))))))))
                have HE843 := hq_neg HE843 c871
                refine S_appL 1 0 (List.length o) cap845 1 3 o rest846 x869 hM892 ok847 rfl (by omega) (by kernel_rfl) (fun g893 l899 h900 cap894 rest895 w896 ok897 hM898 => ?_)
                have hlen_l899 : List.length l899 = List.length o + 1 := by rw [← h900]; simp
                have HE843 := hq_lt HE843 h900
                refine S_val (.pointer (some ⟨g644, 1, none⟩)) (by kernel_rfl) (S_store 3 1 #[.bool bP, .slice (some ⟨g893, 0, none⟩) (List.length l899) cap894] hM898 (by kernel_rfl) (fun w901 hM902 => S_nil (R_inBlock (R_region (S_val (.int .i64 k) (by kernel_rfl) (S_int (IntKind.i64.wrap (k + 1)) .i64 (by kernel_rfl) (fun x903 h904 => S_val (.int .i64 x903) (by kernel_rfl) (S_nil (?_)))))))))
                have HE843 := hq_lt HE843 h904
                have hw_x903 := h904; rw [wrI] at hw_x903; unfold wrap64 at hw_x903
                have hw_x649 := h650; rw [gmax_eq] at hw_x649
                have hw_x665 := h666; rw [wrI] at hw_x665; unfold wrap64 at hw_x665
                have hw_x663 := h664; rw [wrI] at hw_x663; unfold wrap64 at hw_x663
                have hw_x670 := h671; rw [wrI] at hw_x670; unfold wrap64 at hw_x670
                have hw_x848 := h849; rw [gmax_eq] at hw_x848
                have hw_x864 := h865; rw [wrI] at hw_x864; unfold wrap64 at hw_x864
                have hw_x862 := h863; rw [wrI] at hw_x862; unfold wrap64 at hw_x862
                have hw_x869 := h870; rw [wrI] at hw_x869; unfold wrap64 at hw_x869
                have hM905 := hM902.re [0, 2, 3, 4, 5, 6] (by decide) (by kernel_rfl)
                exact hnext841 f836 _ _ (Nat.lt_succ_self _) ⟨x903, (-1), l899, g893, cap894, rest895, [.int .i64 x869, .int .i64 k, .pointer (some ⟨g1, 1, none⟩), .slice AP (List.length lP) cP, .int .i64 (List.length lP : Int), .pointer (some ⟨g4, 1, none⟩), .slice AQ (List.length lQ) cQ, .int .i64 (List.length lQ : Int), .int .i64 x848, .bool true, .int .i64 k, .int .i64 x903, .agg #[.bool bP, .slice AP (List.length lP) cP], .int .i64 k, .int .i64 r856, .agg #[.bool bQ, .slice AQ (List.length lQ) cQ], .int .i64 k, .int .i64 r860, .int .i64 x862, .int .i64 carry, .int .i64 x864, .pointer (some ⟨g1, 0, none⟩), .bool bP, .pointer (some ⟨g4, 0, none⟩), .bool bQ, .bool false, (gv u6 26), (gv u6 27), (gv u6 28), (gv u6 29), (gv u6 30), (gv u6 31), (gv u6 32), (gv u6 33), (gv u6 34), .int .i64 x864, .bool true, .int .i64 x864, .int .i64 x869, .int .i64 x869, .bool false, (gv u6 41), (gv u6 42), .pointer (some ⟨g644, 1, none⟩), .slice (some ⟨g844, 0, none⟩) (List.length o) cap845, .int .i64 x869, .slice (some ⟨g890, 0, none⟩) 1 1, .slice (some ⟨g893, 0, none⟩) (List.length l899) cap894, .pointer (some ⟨g644, 1, none⟩)], by kernel_rfl, hM905, by omega, ok897, (by omega), HE843⟩
            · refine S_nil (R_no (by kernel_rfl) (R_skip (R_seq (R_seq (R_region (S_val (.int .i64 x864) (by kernel_rfl) (?_)))))))
              have HE843 := hq_neg HE843 c868
              refine S_dec (x864 > 65535) (by kernel_rfl) (fun c906 => ?_) (fun c906 => ?_)
              · refine S_nil (R_yes (by kernel_rfl) (R_seq (R_region (S_val (.int .i64 x864) (by kernel_rfl) (S_int (IntKind.i64.wrap (x864 - 65536)) .i64 (by kernel_rfl) (fun x907 h908 => S_val (.int .i64 x907) (by kernel_rfl) (S_nil (R_region (S_val (.int .i64 1) (by kernel_rfl) (S_nil (R_region (?_))))))))))))
                have HE843 := hq_pos HE843 c906
                have HE843 := hq_lt HE843 h908
                refine S_val (.pointer (some ⟨g644, 1, none⟩)) (by kernel_rfl) (S_load 2 1 (.slice (some ⟨g844, 0, none⟩) (List.length o) cap845) hM867 (by kernel_rfl) (S_val (.int .i64 x907) (by kernel_rfl) (S_fresh (some 1) #[.int .i64 x907] 3 hM867 (by kernel_rfl) (fun g909 w910 hM911 => ?_))))
                refine S_appL 1 0 (List.length o) cap845 1 3 o rest846 x907 hM911 ok847 rfl (by omega) (by kernel_rfl) (fun g912 l918 h919 cap913 rest914 w915 ok916 hM917 => ?_)
                have hlen_l918 : List.length l918 = List.length o + 1 := by rw [← h919]; simp
                have HE843 := hq_lt HE843 h919
                refine S_val (.pointer (some ⟨g644, 1, none⟩)) (by kernel_rfl) (S_store 3 1 #[.bool bP, .slice (some ⟨g912, 0, none⟩) (List.length l918) cap913] hM917 (by kernel_rfl) (fun w920 hM921 => S_nil (R_inBlock (R_region (S_val (.int .i64 k) (by kernel_rfl) (S_int (IntKind.i64.wrap (k + 1)) .i64 (by kernel_rfl) (fun x922 h923 => S_val (.int .i64 x922) (by kernel_rfl) (S_nil (?_)))))))))
                have HE843 := hq_lt HE843 h923
                have hw_x922 := h923; rw [wrI] at hw_x922; unfold wrap64 at hw_x922
                have hw_x649 := h650; rw [gmax_eq] at hw_x649
                have hw_x665 := h666; rw [wrI] at hw_x665; unfold wrap64 at hw_x665
                have hw_x663 := h664; rw [wrI] at hw_x663; unfold wrap64 at hw_x663
                have hw_x670 := h671; rw [wrI] at hw_x670; unfold wrap64 at hw_x670
                have hw_x848 := h849; rw [gmax_eq] at hw_x848
                have hw_x864 := h865; rw [wrI] at hw_x864; unfold wrap64 at hw_x864
                have hw_x862 := h863; rw [wrI] at hw_x862; unfold wrap64 at hw_x862
                have hM924 := hM921.re [0, 2, 3, 4, 5, 6] (by decide) (by kernel_rfl)
                exact hnext841 f836 _ _ (Nat.lt_succ_self _) ⟨x922, 1, l918, g912, cap913, rest914, [.int .i64 x907, .int .i64 k, .pointer (some ⟨g1, 1, none⟩), .slice AP (List.length lP) cP, .int .i64 (List.length lP : Int), .pointer (some ⟨g4, 1, none⟩), .slice AQ (List.length lQ) cQ, .int .i64 (List.length lQ : Int), .int .i64 x848, .bool true, .int .i64 k, .int .i64 x922, .agg #[.bool bP, .slice AP (List.length lP) cP], .int .i64 k, .int .i64 r856, .agg #[.bool bQ, .slice AQ (List.length lQ) cQ], .int .i64 k, .int .i64 r860, .int .i64 x862, .int .i64 carry, .int .i64 x864, .pointer (some ⟨g1, 0, none⟩), .bool bP, .pointer (some ⟨g4, 0, none⟩), .bool bQ, .bool false, (gv u6 26), (gv u6 27), (gv u6 28), (gv u6 29), (gv u6 30), (gv u6 31), (gv u6 32), (gv u6 33), (gv u6 34), .int .i64 x864, .bool false, (gv u6 37), (gv u6 38), .int .i64 x864, .bool true, .int .i64 x864, .int .i64 x907, .pointer (some ⟨g644, 1, none⟩), .slice (some ⟨g844, 0, none⟩) (List.length o) cap845, .int .i64 x907, .slice (some ⟨g909, 0, none⟩) 1 1, .slice (some ⟨g912, 0, none⟩) (List.length l918) cap913, .pointer (some ⟨g644, 1, none⟩)], by kernel_rfl, hM924, by omega, ok916, (by omega), HE843⟩
              · refine S_nil (R_no (by kernel_rfl) (R_skip (R_region (S_val (.pointer (some ⟨g644, 1, none⟩)) (by kernel_rfl) (S_load 2 1 (.slice (some ⟨g844, 0, none⟩) (List.length o) cap845) hM867 (by kernel_rfl) (S_val (.int .i64 x864) (by kernel_rfl) (S_fresh (some 1) #[.int .i64 x864] 3 hM867 (by kernel_rfl) (fun g925 w926 hM927 => ?_))))))))
                have HE843 := hq_neg HE843 c906
                refine S_appL 1 0 (List.length o) cap845 1 3 o rest846 x864 hM927 ok847 rfl (by omega) (by kernel_rfl) (fun g928 l934 h935 cap929 rest930 w931 ok932 hM933 => ?_)
                have hlen_l934 : List.length l934 = List.length o + 1 := by rw [← h935]; simp
                have HE843 := hq_lt HE843 h935
                refine S_val (.pointer (some ⟨g644, 1, none⟩)) (by kernel_rfl) (S_store 3 1 #[.bool bP, .slice (some ⟨g928, 0, none⟩) (List.length l934) cap929] hM933 (by kernel_rfl) (fun w936 hM937 => S_nil (R_inBlock (R_region (S_val (.int .i64 k) (by kernel_rfl) (S_int (IntKind.i64.wrap (k + 1)) .i64 (by kernel_rfl) (fun x938 h939 => S_val (.int .i64 x938) (by kernel_rfl) (S_nil (?_)))))))))
                have HE843 := hq_lt HE843 h939
                have hw_x938 := h939; rw [wrI] at hw_x938; unfold wrap64 at hw_x938
                have hw_x649 := h650; rw [gmax_eq] at hw_x649
                have hw_x665 := h666; rw [wrI] at hw_x665; unfold wrap64 at hw_x665
                have hw_x663 := h664; rw [wrI] at hw_x663; unfold wrap64 at hw_x663
                have hw_x670 := h671; rw [wrI] at hw_x670; unfold wrap64 at hw_x670
                have hw_x848 := h849; rw [gmax_eq] at hw_x848
                have hw_x864 := h865; rw [wrI] at hw_x864; unfold wrap64 at hw_x864
                have hw_x862 := h863; rw [wrI] at hw_x862; unfold wrap64 at hw_x862
                have hM940 := hM937.re [0, 2, 3, 4, 5, 6] (by decide) (by kernel_rfl)
                exact hnext841 f836 _ _ (Nat.lt_succ_self _) ⟨x938, 0, l934, g928, cap929, rest930, [.int .i64 x864, .int .i64 k, .pointer (some ⟨g1, 1, none⟩), .slice AP (List.length lP) cP, .int .i64 (List.length lP : Int), .pointer (some ⟨g4, 1, none⟩), .slice AQ (List.length lQ) cQ, .int .i64 (List.length lQ : Int), .int .i64 x848, .bool true, .int .i64 k, .int .i64 x938, .agg #[.bool bP, .slice AP (List.length lP) cP], .int .i64 k, .int .i64 r856, .agg #[.bool bQ, .slice AQ (List.length lQ) cQ], .int .i64 k, .int .i64 r860, .int .i64 x862, .int .i64 carry, .int .i64 x864, .pointer (some ⟨g1, 0, none⟩), .bool bP, .pointer (some ⟨g4, 0, none⟩), .bool bQ, .bool false, (gv u6 26), (gv u6 27), (gv u6 28), (gv u6 29), (gv u6 30), (gv u6 31), (gv u6 32), (gv u6 33), (gv u6 34), .int .i64 x864, .bool false, (gv u6 37), (gv u6 38), .int .i64 x864, .bool false, (gv u6 41), (gv u6 42), .pointer (some ⟨g644, 1, none⟩), .slice (some ⟨g844, 0, none⟩) (List.length o) cap845, .int .i64 x864, .slice (some ⟨g925, 0, none⟩) 1 1, .slice (some ⟨g928, 0, none⟩) (List.length l934) cap929, .pointer (some ⟨g644, 1, none⟩)], by kernel_rfl, hM940, by omega, ok932, (by omega), HE843⟩
          · refine S_nil (R_no (by kernel_rfl) (R_exit rfl (?_)))
            have HE843 := hq_neg HE843 c850
            subst HE843
            refine R_seq (R_seq (R_region (S_val (.int .i64 carry) (by kernel_rfl) (?_))))
            refine S_dec (carry > 0) (by kernel_rfl) (fun c791 => ?_) (fun c791 => ?_)
            · refine S_nil (R_yes (by kernel_rfl) (R_region (S_val (.pointer (some ⟨g644, 1, none⟩)) (by kernel_rfl) (S_load 2 1 (.slice (some ⟨g844, 0, none⟩) (List.length o) cap845) hM840 (by kernel_rfl) (S_val (.int .i64 carry) (by kernel_rfl) (S_fresh (some 1) #[.int .i64 carry] 3 hM840 (by kernel_rfl) (fun g792 w793 hM794 => ?_)))))))
              have HR := hr_pos HR c791
              refine S_appL 1 0 (List.length o) cap845 1 3 o rest846 carry hM794 ok847 rfl (by omega) (by kernel_rfl) (fun g795 l801 h802 cap796 rest797 w798 ok799 hM800 => ?_)
              have hlen_l801 : List.length l801 = List.length o + 1 := by rw [← h802]; simp
              have HR := hr_lt HR h802
              refine S_val (.pointer (some ⟨g644, 1, none⟩)) (by kernel_rfl) (S_store 3 1 #[.bool bP, .slice (some ⟨g795, 0, none⟩) (List.length l801) cap796] hM800 (by kernel_rfl) (fun w803 hM804 => S_nil (R_seq (R_region (S_load 3 0 (.agg #[.bool bP, .slice (some ⟨g795, 0, none⟩) (List.length l801) cap796]) hM804 (by kernel_rfl) (?_))))))
              have hM805 := hM804.freeze 0 l801 rest797 (by kernel_rfl)
              refine S_callN (s_umbraref01_trim bP l801) [((some ⟨g795, 0, none⟩), nv l801)] hM805 (w_umbraref01_trim bP l801 (some ⟨g795, 0, none⟩) (List.length l801) cap796 (by omega) ok799.le (by first | omega | simp) w803 (hM805.ent 0 rfl)) (subc 0 rfl sub0) (by kernel_rfl) (fun r806 h807 A808 cap809 hc810 w811 hM812 => S_store 3 0 #[.bool r806.1, .slice A808 (List.length r806.2) cap809] hM812 (by kernel_rfl) (fun w813 hM814 => S_nil (?_)))
              have HR := hr_lt HR h807
              refine R_ret hM814 rfl (.cons (.cell _ _ 3 0 (.agg #[.bool r806.1, .slice A808 (List.length r806.2) cap809]) (by kernel_rfl)) .nil) rfl ?_
              exact hM814.retN 0 rfl rfl hc810 HR
            · refine S_nil (R_no (by kernel_rfl) (R_skip (R_seq (R_region (S_load 2 0 (.agg #[.bool bP, .slice (some ⟨g844, 0, none⟩) (List.length o) cap845]) hM840 (by kernel_rfl) (?_))))))
              have HR := hr_neg HR c791
              have hM815 := hM840.freeze 0 o rest846 (by kernel_rfl)
              refine S_callN (s_umbraref01_trim bP o) [((some ⟨g844, 0, none⟩), nv o)] hM815 (w_umbraref01_trim bP o (some ⟨g844, 0, none⟩) (List.length o) cap845 (by omega) ok847.le (by first | omega | simp) w839 (hM815.ent 0 rfl)) (subc 0 rfl sub0) (by kernel_rfl) (fun r816 h817 A818 cap819 hc820 w821 hM822 => S_store 2 0 #[.bool r816.1, .slice A818 (List.length r816.2) cap819] hM822 (by kernel_rfl) (fun w823 hM824 => S_nil (?_)))
              have HR := hr_lt HR h817
              refine R_ret hM824 rfl (.cons (.cell _ _ 2 0 (.agg #[.bool r816.1, .slice A818 (List.length r816.2) cap819]) (by kernel_rfl)) .nil) rfl ?_
              exact hM824.retN 0 rfl rfl hc820 HR
      · refine S_nil (R_no (by kernel_rfl) (R_skip (R_seq (R_seq (R_region (S_val (.int .i64 x665) (by kernel_rfl) (?_)))))))
        have HR := hr_neg HR c669
        refine S_dec (x665 > 65535) (by kernel_rfl) (fun c941 => ?_) (fun c941 => ?_)
        · refine S_nil (R_yes (by kernel_rfl) (R_seq (R_region (S_val (.int .i64 x665) (by kernel_rfl) (S_int (IntKind.i64.wrap (x665 - 65536)) .i64 (by kernel_rfl) (fun x942 h943 => S_val (.int .i64 x942) (by kernel_rfl) (S_nil (R_region (S_val (.int .i64 1) (by kernel_rfl) (S_nil (R_region (?_))))))))))))
          have HR := hr_pos HR c941
          have HR := hr_lt HR h943
          refine S_val (.pointer (some ⟨g644, 1, none⟩)) (by kernel_rfl) (S_load 0 1 (.slice none 0 0) hM668 (by kernel_rfl) (S_val (.int .i64 x942) (by kernel_rfl) (S_fresh (some 1) #[.int .i64 x942] 3 hM668 (by kernel_rfl) (fun g944 w945 hM946 => ?_))))
          refine S_app0 0 1 1 3 1 8 (.int .i64 0) [.int .i64 x942] hM946 (by kernel_rfl) (by kernel_rfl) (fun g947 cap948 rest949 w950 ok951 hM952 => S_val (.pointer (some ⟨g644, 1, none⟩)) (by kernel_rfl) (S_store 2 1 #[.bool bP, .slice (some ⟨g947, 0, none⟩) 1 cap948] hM952 (by kernel_rfl) (fun w953 hM954 => S_nil (R_inBlock (R_region (S_val (.int .i64 0) (by kernel_rfl) (S_val (.int .i64 1) (by kernel_rfl) (S_val (.int .i64 1) (by kernel_rfl) (S_nil (?_))))))))))
          have hw_x942 := h943; rw [wrI] at hw_x942; unfold wrap64 at hw_x942
          have hw_x665 := h666; rw [wrI] at hw_x665; unfold wrap64 at hw_x665
          have hw_x663 := h664; rw [wrI] at hw_x663; unfold wrap64 at hw_x663
          have hw_x649 := h650; rw [gmax_eq] at hw_x649
          obtain ⟨E961, HE962⟩ : ∃ E, L6_umbraref01_Sum_1_s bP lP bQ lQ (Int.toNat (1000 - 1) + 1) 1 1 ([x942]) = E := ⟨_, rfl⟩
          have HR := hr_lt HR HE962
          refine R_fuelI (fun m956 a957 w958 => ∃ (k : Int) (carry : Int) (o : List Int) (g963 : Nat) (cap964 : Nat) (rest965 : List Value) (u7 : List Value), a957 = { tmps := #[.agg #[.bool bP, .slice AP (List.length lP) cP], .agg #[.bool bQ, .slice AQ (List.length lQ) cQ], .pointer (some ⟨g1, 0, none⟩), .pointer (some ⟨g4, 0, none⟩), .pointer (some ⟨g7, 0, none⟩), .pointer (some ⟨g644, 0, none⟩), .int .i64 carry, .int .i64 k, (gv u7 0), .pointer (some ⟨g1, 0, none⟩), .bool bP, .pointer (some ⟨g4, 0, none⟩), .bool bQ, .bool false, .bool false, undef, undef, undef, undef, .bool false, undef, undef, undef, .pointer (some ⟨g1, 0, none⟩), .bool bP, .agg #[.bool bP, .slice none 0 0], (gv u7 1), (gv u7 2), (gv u7 3), (gv u7 4), (gv u7 5), (gv u7 6), (gv u7 7), (gv u7 8), (gv u7 9), (gv u7 10), (gv u7 11), (gv u7 12), (gv u7 13), (gv u7 14), (gv u7 15), (gv u7 16), (gv u7 17), (gv u7 18), (gv u7 19), (gv u7 20), (gv u7 21), (gv u7 22), (gv u7 23), (gv u7 24), (gv u7 25), (gv u7 26), (gv u7 27), (gv u7 28), (gv u7 29), (gv u7 30), (gv u7 31), (gv u7 32), (gv u7 33), (gv u7 34), (gv u7 35), (gv u7 36), (gv u7 37), (gv u7 38), (gv u7 39), (gv u7 40), (gv u7 41), (gv u7 42), (gv u7 43), (gv u7 44), (gv u7 45), (gv u7 46), (gv u7 47), (gv u7 48), undef, undef, undef, undef, undef, undef, undef, undef, undef, undef], defers := [] } ∧ St ⟨w, [(AP, nv lP), (AQ, nv lQ)], [(none, nv ([])), (AP, nv lP), (AQ, nv lQ)]⟩ [⟨g963, ⟨nv o ++ rest965⟩, 3, (0, 0), true⟩, ⟨g944, #[.int .i64 x942], 3, (0, 0), true⟩, ⟨g644, #[.bool bP, .slice (some ⟨g963, 0, none⟩) (List.length o) cap964], 29, (0, 0), true⟩, ⟨g7, #[.bool false, .slice none 0 0], 29, (0, 0), true⟩, ⟨g4, #[.bool bQ, .slice AQ (List.length lQ) cQ], 29, (0, 0), true⟩, ⟨g1, #[.bool bP, .slice AP (List.length lP) cP], 29, (0, 0), true⟩] w958 ∧ 1000 - k < (m956 : Int) ∧ (SlOk 1 (List.length o) cap964 rest965) ∧ ((1 ≤ k ∧ k ≤ 1000 ∧ (List.length o : Int) = k)) ∧ L6_umbraref01_Sum_1_s bP lP bQ lQ m956 k carry o = E961) (Int.toNat (1000 - 1) + 1) ⟨1, 1, ([x942]), g947, cap948, rest949, [.int .i64 x942, .int .i64 0, .pointer (some ⟨g1, 1, none⟩), .slice AP (List.length lP) cP, .int .i64 (List.length lP : Int), .pointer (some ⟨g4, 1, none⟩), .slice AQ (List.length lQ) cQ, .int .i64 (List.length lQ : Int), .int .i64 x649, .bool true, .int .i64 0, .int .i64 1, .agg #[.bool bP, .slice AP (List.length lP) cP], .int .i64 0, .int .i64 r657, .agg #[.bool bQ, .slice AQ (List.length lQ) cQ], .int .i64 0, .int .i64 r661, .int .i64 x663, .int .i64 0, .int .i64 x665, .pointer (some ⟨g1, 0, none⟩), .bool bP, .pointer (some ⟨g4, 0, none⟩), .bool bQ, .bool false, undef, undef, undef, undef, undef, undef, undef, undef, undef, .int .i64 x665, .bool false, undef, undef, .int .i64 x665, .bool true, .int .i64 x665, .int .i64 x942, .pointer (some ⟨g644, 1, none⟩), .slice none 0 0, .int .i64 x942, .slice (some ⟨g944, 0, none⟩) 1 1, .slice (some ⟨g947, 0, none⟩) 1 cap948, .pointer (some ⟨g644, 1, none⟩)], by kernel_rfl, hM954, by omega, ok951, (by simp only [List.length_cons, List.length_nil]; omega), HE962⟩ ?_
          rintro m956 a957 w958 ⟨k, carry, o, g963, cap964, rest965, u7, rfl, hM959, hmu7, ok966, hk_7, HE962⟩ hnext960
          obtain ⟨f955, rfl⟩ : ∃ f, m956 = f + 1 := ⟨m956 - 1, by omega⟩
          rw [L6_umbraref01_Sum_1_s] at HE962
          refine R_seq (R_seq (R_region (S_val (.int .i64 k) (by kernel_rfl) (S_val (.pointer (some ⟨g1, 1, none⟩)) (by kernel_rfl) (S_load 5 1 (.slice AP (List.length lP) cP) hM959 (by kernel_rfl) (S_val (.int .i64 (List.length lP : Int)) (by kernel_rfl) (S_val (.pointer (some ⟨g4, 1, none⟩)) (by kernel_rfl) (S_load 4 1 (.slice AQ (List.length lQ) cQ) hM959 (by kernel_rfl) (S_val (.int .i64 (List.length lQ : Int)) (by kernel_rfl) (S_int (gmax (List.length lP : Int) (List.length lQ : Int)) .i64 (by kernel_rfl) (fun x967 h968 => ?_)))))))))))
          have HE962 := hq_lt HE962 h968
          refine S_dec (k < x967) (by kernel_rfl) (fun c969 => ?_) (fun c969 => ?_)
          · refine S_nil (R_yes (by kernel_rfl) (R_skip (R_seq (R_block (R_seq (R_drawF 10 (by kernel_rfl) (fun F970 U971 hL972 => F_load 5 0 (.agg #[.bool bP, .slice AP (List.length lP) cP]) hM959 (by kernel_rfl) (F_val (.int .i64 k) (fun _ => by kernel_rfl) (F_call (s_umbraref01_digit bP lP k) (fun r : Int => .int .i64 r) hM959 hL972 (fun w' hM' => w_umbraref01_digit bP lP k AP (List.length lP) cP rfl hcP (by omega) w' (hM'.ent 1 rfl)) (by kernel_rfl) (fun _ => by kernel_rfl) (fun r975 h976 => F_load 4 0 (.agg #[.bool bQ, .slice AQ (List.length lQ) cQ]) hM959 (by kernel_rfl) (F_val (.int .i64 k) (fun _ => by kernel_rfl) (?_))))))))))))
            have HE962 := hq_pos HE962 c969
            have HE962 := hq_lt HE962 h976
            refine F_call (s_umbraref01_digit bQ lQ k) (fun r : Int => .int .i64 r) hM959 hL972 (fun w' hM' => w_umbraref01_digit bQ lQ k AQ (List.length lQ) cQ rfl hcQ (by omega) w' (hM'.ent 2 rfl)) (by kernel_rfl) (fun _ => by kernel_rfl) (fun r979 h980 => F_int (IntKind.i64.wrap (r975 + r979)) .i64 (fun _ => by kernel_rfl) (fun x981 h982 => F_val (.int .i64 carry) (fun _ => by kernel_rfl) (F_int (IntKind.i64.wrap (x981 + carry)) .i64 (fun _ => by kernel_rfl) (fun x983 h984 => F_val (.int .i64 x983) (fun _ => by kernel_rfl) (F_nil hM959 hL972 (fun w985 hM986 => S_nil (R_seq (R_seq (R_region (S_val (.pointer (some ⟨g1, 0, none⟩)) (by kernel_rfl) (S_load 5 0 (.bool bP) hM986 (by kernel_rfl) (?_))))))))))))
            have HE962 := hq_lt HE962 h980
            have HE962 := hq_lt HE962 h982
            have HE962 := hq_lt HE962 h984
            refine S_val (.pointer (some ⟨g4, 0, none⟩)) (by kernel_rfl) (S_load 4 0 (.bool bQ) hM986 (by kernel_rfl) (S_val (.bool false) (knT' c10 (by kernel_rfl)) (S_nil (R_no (by kernel_rfl) (R_skip (R_seq (R_region (S_val (.int .i64 0) (by kernel_rfl) (S_nil (R_seq (R_seq (?_))))))))))))
            refine R_region (S_val (.int .i64 x983) (by kernel_rfl) (?_))
            refine S_dec (x983 < 0) (by kernel_rfl) (fun c987 => ?_) (fun c987 => ?_)
            · refine S_nil (R_yes (by kernel_rfl) (R_seq (R_region (S_val (.int .i64 x983) (by kernel_rfl) (S_int (IntKind.i64.wrap (x983 + 65536)) .i64 (by kernel_rfl) (fun x988 h989 => S_val (.int .i64 x988) (by kernel_rfl) (S_nil (R_region (S_val (.int .i64 (-1)) (by kernel_rfl) (S_nil (R_seq (?_))))))))))))
              have HE962 := hq_pos HE962 c987
              have HE962 := hq_lt HE962 h989
              refine R_seq (R_region (S_val (.int .i64 x988) (by kernel_rfl) (?_)))
              refine S_dec (x988 > 65535) (by kernel_rfl) (fun c990 => ?_) (fun c990 => ?_)
              · refine S_nil (R_yes (by kernel_rfl) (R_seq (R_region (S_val (.int .i64 x988) (by kernel_rfl) (S_int (IntKind.i64.wrap (x988 - 65536)) .i64 (by kernel_rfl) (fun x991 h992 => S_val (.int .i64 x991) (by kernel_rfl) (S_nil (R_region (S_val (.int .i64 1) (by kernel_rfl) (S_nil (R_region (?_))))))))))))
                have HE962 := hq_pos HE962 c990
                have HE962 := hq_lt HE962 h992
                refine S_val (.pointer (some ⟨g644, 1, none⟩)) (by kernel_rfl) (S_load 2 1 (.slice (some ⟨g963, 0, none⟩) (List.length o) cap964) hM986 (by kernel_rfl) (S_val (.int .i64 x991) (by kernel_rfl) (S_fresh (some 1) #[.int .i64 x991] 3 hM986 (by kernel_rfl) (fun g993 w994 hM995 => ?_))))
                refine S_appL 1 0 (List.length o) cap964 1 3 o rest965 x991 hM995 ok966 rfl (by omega) (by kernel_rfl) (fun g996 l1002 h1003 cap997 rest998 w999 ok1000 hM1001 => ?_)
                have hlen_l1002 : List.length l1002 = List.length o + 1 := by rw [← h1003]; simp
                have HE962 := hq_lt HE962 h1003
                refine S_val (.pointer (some ⟨g644, 1, none⟩)) (by kernel_rfl) (S_store 3 1 #[.bool bP, .slice (some ⟨g996, 0, none⟩) (List.length l1002) cap997] hM1001 (by kernel_rfl) (fun w1004 hM1005 => S_nil (R_inBlock (R_region (S_val (.int .i64 k) (by kernel_rfl) (S_int (IntKind.i64.wrap (k + 1)) .i64 (by kernel_rfl) (fun x1006 h1007 => S_val (.int .i64 x1006) (by kernel_rfl) (S_nil (?_)))))))))
                have HE962 := hq_lt HE962 h1007
                have hw_x1006 := h1007; rw [wrI] at hw_x1006; unfold wrap64 at hw_x1006
                have hw_x649 := h650; rw [gmax_eq] at hw_x649
                have hw_x665 := h666; rw [wrI] at hw_x665; unfold wrap64 at hw_x665
                have hw_x663 := h664; rw [wrI] at hw_x663; unfold wrap64 at hw_x663
                have hw_x967 := h968; rw [gmax_eq] at hw_x967
                have hw_x983 := h984; rw [wrI] at hw_x983; unfold wrap64 at hw_x983
                have hw_x981 := h982; rw [wrI] at hw_x981; unfold wrap64 at hw_x981
                have hw_x988 := h989; rw [wrI] at hw_x988; unfold wrap64 at hw_x988
                have hM1008 := hM1005.re [0, 2, 3, 4, 5, 6] (by decide) (by kernel_rfl)
                exact hnext960 f955 _ _ (Nat.lt_succ_self _) ⟨x1006, 1, l1002, g996, cap997, rest998, [.int .i64 x991, .int .i64 k, .pointer (some ⟨g1, 1, none⟩), .slice AP (List.length lP) cP, .int .i64 (List.length lP : Int), .pointer (some ⟨g4, 1, none⟩), .slice AQ (List.length lQ) cQ, .int .i64 (List.length lQ : Int), .int .i64 x967, .bool true, .int .i64 k, .int .i64 x1006, .agg #[.bool bP, .slice AP (List.length lP) cP], .int .i64 k, .int .i64 r975, .agg #[.bool bQ, .slice AQ (List.length lQ) cQ], .int .i64 k, .int .i64 r979, .int .i64 x981, .int .i64 carry, .int .i64 x983, .pointer (some ⟨g1, 0, none⟩), .bool bP, .pointer (some ⟨g4, 0, none⟩), .bool bQ, .bool false, (gv u7 26), (gv u7 27), (gv u7 28), (gv u7 29), (gv u7 30), (gv u7 31), (gv u7 32), (gv u7 33), (gv u7 34), .int .i64 x983, .bool true, .int .i64 x983, .int .i64 x988, .int .i64 x988, .bool true, .int .i64 x988, .int .i64 x991, .pointer (some ⟨g644, 1, none⟩), .slice (some ⟨g963, 0, none⟩) (List.length o) cap964, .int .i64 x991, .slice (some ⟨g993, 0, none⟩) 1 1, .slice (some ⟨g996, 0, none⟩) (List.length l1002) cap997, .pointer (some ⟨g644, 1, none⟩)], by kernel_rfl, hM1008, by omega, ok1000, (by omega), HE962⟩
              · refine S_nil (R_no (by kernel_rfl) (R_skip (R_region (S_val (.pointer (some ⟨g644, 1, none⟩)) (by kernel_rfl) (S_load 2 1 (.slice (some ⟨g963, 0, none⟩) (List.length o) cap964) hM986 (by kernel_rfl) (S_val (.int .i64 x988) (by kernel_rfl) (S_fresh (some 1) #[.int .i64 x988] 3 hM986 (by kernel_rfl) (fun g1009 w1010 hM1011 => ?_))))))))
                have HE962 := hq_neg HE962 c990
                refine S_appL 1 0 (List.length o) cap964 1 3 o rest965 x988 hM1011 ok966 rfl (by omega) (by kernel_rfl) (fun g1012 l1018 h1019 cap1013 rest1014 w1015 ok1016 hM1017 => ?_)
                have hlen_l1018 : List.length l1018 = List.length o + 1 := by rw [← h1019]; simp
                have HE962 := hq_lt HE962 h1019
                refine S_val (.pointer (some ⟨g644, 1, none⟩)) (by kernel_rfl) (S_store 3 1 #[.bool bP, .slice (some ⟨g1012, 0, none⟩) (List.length l1018) cap1013] hM1017 (by kernel_rfl) (fun w1020 hM1021 => S_nil (R_inBlock (R_region (S_val (.int .i64 k) (by kernel_rfl) (S_int (IntKind.i64.wrap (k + 1)) .i64 (by kernel_rfl) (fun x1022 h1023 => S_val (.int .i64 x1022) (by kernel_rfl) (S_nil (?_)))))))))
                have HE962 := hq_lt HE962 h1023
                have hw_x1022 := h1023; rw [wrI] at hw_x1022; unfold wrap64 at hw_x1022
                have hw_x649 := h650; rw [gmax_eq] at hw_x649
                have hw_x665 := h666; rw [wrI] at hw_x665; unfold wrap64 at hw_x665
                have hw_x663 := h664; rw [wrI] at hw_x663; unfold wrap64 at hw_x663
                have hw_x967 := h968; rw [gmax_eq] at hw_x967
                have hw_x983 := h984; rw [wrI] at hw_x983; unfold wrap64 at hw_x983
                have hw_x981 := h982; rw [wrI] at hw_x981; unfold wrap64 at hw_x981
                have hw_x988 := h989; rw [wrI] at hw_x988; unfold wrap64 at hw_x988
                have hM1024 := hM1021.re [0, 2, 3, 4, 5, 6] (by decide) (by kernel_rfl)
                exact hnext960 f955 _ _ (Nat.lt_succ_self _) ⟨x1022, (-1), l1018, g1012, cap1013, rest1014, [.int .i64 x988, .int .i64 k, .pointer (some ⟨g1, 1, none⟩), .slice AP (List.length lP) cP, .int .i64 (List.length lP : Int), .pointer (some ⟨g4, 1, none⟩), .slice AQ (List.length lQ) cQ, .int .i64 (List.length lQ : Int), .int .i64 x967, .bool true, .int .i64 k, .int .i64 x1022, .agg #[.bool bP, .slice AP (List.length lP) cP], .int .i64 k, .int .i64 r975, .agg #[.bool bQ, .slice AQ (List.length lQ) cQ], .int .i64 k, .int .i64 r979, .int .i64 x981, .int .i64 carry, .int .i64 x983, .pointer (some ⟨g1, 0, none⟩), .bool bP, .pointer (some ⟨g4, 0, none⟩), .bool bQ, .bool false, (gv u7 26), (gv u7 27), (gv u7 28), (gv u7 29), (gv u7 30), (gv u7 31), (gv u7 32), (gv u7 33), (gv u7 34), .int .i64 x983, .bool true, .int .i64 x983, .int .i64 x988, .int .i64 x988, .bool false, (gv u7 41), (gv u7 42), .pointer (some ⟨g644, 1, none⟩), .slice (some ⟨g963, 0, none⟩) (List.length o) cap964, .int .i64 x988, .slice (some ⟨g1009, 0, none⟩) 1 1, .slice (some ⟨g1012, 0, none⟩) (List.length l1018) cap1013, .pointer (some ⟨g644, 1, none⟩)], by kernel_rfl, hM1024, by omega, ok1016, (by omega), HE962⟩
            · refine S_nil (R_no (by kernel_rfl) (R_skip (R_seq (R_seq (R_region (S_val (.int .i64 x983) (by kernel_rfl) (?_)))))))
              have HE962 := hq_neg HE962 c987
              refine S_dec (x983 > 65535) (by kernel_rfl) (fun c1025 => ?_) (fun c1025 => ?_)
              · refine S_nil (R_yes (by kernel_rfl) (R_seq (R_region (S_val (.int .i64 x983) (by kernel_rfl) (S_int (IntKind.i64.wrap (x983 - 65536)) .i64 (by kernel_rfl) (fun x1026 h1027 => S_val (.int .i64 x1026) (by kernel_rfl) (S_nil (R_region (S_val (.int .i64 1) (by kernel_rfl) (S_nil (R_region (?_))))))))))))
                have HE962 := hq_pos HE962 c1025
                have HE962 := hq_lt HE962 h1027
                refine S_val (.pointer (some ⟨g644, 1, none⟩)) (by kernel_rfl) (S_load 2 1 (.slice (some ⟨g963, 0, none⟩) (List.length o) cap964) hM986 (by kernel_rfl) (S_val (.int .i64 x1026) (by kernel_rfl) (S_fresh (some 1) #[.int .i64 x1026] 3 hM986 (by kernel_rfl) (fun g1028 w1029 hM1030 => ?_))))
                refine S_appL 1 0 (List.length o) cap964 1 3 o rest965 x1026 hM1030 ok966 rfl (by omega) (by kernel_rfl) (fun g1031 l1037 h1038 cap1032 rest1033 w1034 ok1035 hM1036 => ?_)
                have hlen_l1037 : List.length l1037 = List.length o + 1 := by rw [← h1038]; simp
                have HE962 := hq_lt HE962 h1038
                refine S_val (.pointer (some ⟨g644, 1, none⟩)) (by kernel_rfl) (S_store 3 1 #[.bool bP, .slice (some ⟨g1031, 0, none⟩) (List.length l1037) cap1032] hM1036 (by kernel_rfl) (fun w1039 hM1040 => S_nil (R_inBlock (R_region (S_val (.int .i64 k) (by kernel_rfl) (S_int (IntKind.i64.wrap (k + 1)) .i64 (by kernel_rfl) (fun x1041 h1042 => S_val (.int .i64 x1041) (by kernel_rfl) (S_nil (?_)))))))))
                have HE962 := hq_lt HE962 h1042
                have hw_x1041 := h1042; rw [wrI] at hw_x1041; unfold wrap64 at hw_x1041
                have hw_x649 := h650; rw [gmax_eq] at hw_x649
                have hw_x665 := h666; rw [wrI] at hw_x665; unfold wrap64 at hw_x665
                have hw_x663 := h664; rw [wrI] at hw_x663; unfold wrap64 at hw_x663
                have hw_x967 := h968; rw [gmax_eq] at hw_x967
                have hw_x983 := h984; rw [wrI] at hw_x983; unfold wrap64 at hw_x983
                have hw_x981 := h982; rw [wrI] at hw_x981; unfold wrap64 at hw_x981
                have hM1043 := hM1040.re [0, 2, 3, 4, 5, 6] (by decide) (by kernel_rfl)
                exact hnext960 f955 _ _ (Nat.lt_succ_self _) ⟨x1041, 1, l1037, g1031, cap1032, rest1033, [.int .i64 x1026, .int .i64 k, .pointer (some ⟨g1, 1, none⟩), .slice AP (List.length lP) cP, .int .i64 (List.length lP : Int), .pointer (some ⟨g4, 1, none⟩), .slice AQ (List.length lQ) cQ, .int .i64 (List.length lQ : Int), .int .i64 x967, .bool true, .int .i64 k, .int .i64 x1041, .agg #[.bool bP, .slice AP (List.length lP) cP], .int .i64 k, .int .i64 r975, .agg #[.bool bQ, .slice AQ (List.length lQ) cQ], .int .i64 k, .int .i64 r979, .int .i64 x981, .int .i64 carry, .int .i64 x983, .pointer (some ⟨g1, 0, none⟩), .bool bP, .pointer (some ⟨g4, 0, none⟩), .bool bQ, .bool false, (gv u7 26), (gv u7 27), (gv u7 28), (gv u7 29), (gv u7 30), (gv u7 31), (gv u7 32), (gv u7 33), (gv u7 34), .int .i64 x983, .bool false, (gv u7 37), (gv u7 38), .int .i64 x983, .bool true, .int .i64 x983, .int .i64 x1026, .pointer (some ⟨g644, 1, none⟩), .slice (some ⟨g963, 0, none⟩) (List.length o) cap964, .int .i64 x1026, .slice (some ⟨g1028, 0, none⟩) 1 1, .slice (some ⟨g1031, 0, none⟩) (List.length l1037) cap1032, .pointer (some ⟨g644, 1, none⟩)], by kernel_rfl, hM1043, by omega, ok1035, (by omega), HE962⟩
              · refine S_nil (R_no (by kernel_rfl) (R_skip (R_region (S_val (.pointer (some ⟨g644, 1, none⟩)) (by kernel_rfl) (S_load 2 1 (.slice (some ⟨g963, 0, none⟩) (List.length o) cap964) hM986 (by kernel_rfl) (S_val (.int .i64 x983) (by kernel_rfl) (S_fresh (some 1) #[.int .i64 x983] 3 hM986 (by kernel_rfl) (fun g1044 w1045 hM1046 => ?_))))))))
                have HE962 := hq_neg HE962 c1025
                refine S_appL 1 0 (List.length o) cap964 1 3 o rest965 x983 hM1046 ok966 rfl (by omega) (by kernel_rfl) (fun g1047 l1053 h1054 cap1048 rest1049 w1050 ok1051 hM1052 => ?_)
                have hlen_l1053 : List.length l1053 = List.length o + 1 := by rw [← h1054]; simp
                have HE962 := hq_lt HE962 h1054
                refine S_val (.pointer (some ⟨g644, 1, none⟩)) (by kernel_rfl) (S_store 3 1 #[.bool bP, .slice (some ⟨g1047, 0, none⟩) (List.length l1053) cap1048] hM1052 (by kernel_rfl) (fun w1055 hM1056 => S_nil (R_inBlock (R_region (S_val (.int .i64 k) (by kernel_rfl) (S_int (IntKind.i64.wrap (k + 1)) .i64 (by kernel_rfl) (fun x1057 h1058 => S_val (.int .i64 x1057) (by kernel_rfl) (S_nil (?_)))))))))
                have HE962 := hq_lt HE962 h1058
                have hw_x1057 := h1058; rw [wrI] at hw_x1057; unfold wrap64 at hw_x1057
                have hw_x649 := h650; rw [gmax_eq] at hw_x649
                have hw_x665 := h666; rw [wrI] at hw_x665; unfold wrap64 at hw_x665
                have hw_x663 := h664; rw [wrI] at hw_x663; unfold wrap64 at hw_x663
                have hw_x967 := h968; rw [gmax_eq] at hw_x967
                have hw_x983 := h984; rw [wrI] at hw_x983; unfold wrap64 at hw_x983
                have hw_x981 := h982; rw [wrI] at hw_x981; unfold wrap64 at hw_x981
                have hM1059 := hM1056.re [0, 2, 3, 4, 5, 6] (by decide) (by kernel_rfl)
                exact hnext960 f955 _ _ (Nat.lt_succ_self _) ⟨x1057, 0, l1053, g1047, cap1048, rest1049, [.int .i64 x983, .int .i64 k, .pointer (some ⟨g1, 1, none⟩), .slice AP (List.length lP) cP, .int .i64 (List.length lP : Int), .pointer (some ⟨g4, 1, none⟩), .slice AQ (List.length lQ) cQ, .int .i64 (List.length lQ : Int), .int .i64 x967, .bool true, .int .i64 k, .int .i64 x1057, .agg #[.bool bP, .slice AP (List.length lP) cP], .int .i64 k, .int .i64 r975, .agg #[.bool bQ, .slice AQ (List.length lQ) cQ], .int .i64 k, .int .i64 r979, .int .i64 x981, .int .i64 carry, .int .i64 x983, .pointer (some ⟨g1, 0, none⟩), .bool bP, .pointer (some ⟨g4, 0, none⟩), .bool bQ, .bool false, (gv u7 26), (gv u7 27), (gv u7 28), (gv u7 29), (gv u7 30), (gv u7 31), (gv u7 32), (gv u7 33), (gv u7 34), .int .i64 x983, .bool false, (gv u7 37), (gv u7 38), .int .i64 x983, .bool false, (gv u7 41), (gv u7 42), .pointer (some ⟨g644, 1, none⟩), .slice (some ⟨g963, 0, none⟩) (List.length o) cap964, .int .i64 x983, .slice (some ⟨g1044, 0, none⟩) 1 1, .slice (some ⟨g1047, 0, none⟩) (List.length l1053) cap1048, .pointer (some ⟨g644, 1, none⟩)], by kernel_rfl, hM1059, by omega, ok1051, (by omega), HE962⟩
          · refine S_nil (R_no (by kernel_rfl) (R_exit rfl (?_)))
            have HE962 := hq_neg HE962 c969
            subst HE962
            refine R_seq (R_seq (R_region (S_val (.int .i64 carry) (by kernel_rfl) (?_))))
            refine S_dec (carry > 0) (by kernel_rfl) (fun c791 => ?_) (fun c791 => ?_)
            · refine S_nil (R_yes (by kernel_rfl) (R_region (S_val (.pointer (some ⟨g644, 1, none⟩)) (by kernel_rfl) (S_load 2 1 (.slice (some ⟨g963, 0, none⟩) (List.length o) cap964) hM959 (by kernel_rfl) (S_val (.int .i64 carry) (by kernel_rfl) (S_fresh (some 1) #[.int .i64 carry] 3 hM959 (by kernel_rfl) (fun g792 w793 hM794 => ?_)))))))
              have HR := hr_pos HR c791
              refine S_appL 1 0 (List.length o) cap964 1 3 o rest965 carry hM794 ok966 rfl (by omega) (by kernel_rfl) (fun g795 l801 h802 cap796 rest797 w798 ok799 hM800 => ?_)
              have hlen_l801 : List.length l801 = List.length o + 1 := by rw [← h802]; simp
              have HR := hr_lt HR h802
              refine S_val (.pointer (some ⟨g644, 1, none⟩)) (by kernel_rfl) (S_store 3 1 #[.bool bP, .slice (some ⟨g795, 0, none⟩) (List.length l801) cap796] hM800 (by kernel_rfl) (fun w803 hM804 => S_nil (R_seq (R_region (S_load 3 0 (.agg #[.bool bP, .slice (some ⟨g795, 0, none⟩) (List.length l801) cap796]) hM804 (by kernel_rfl) (?_))))))
              have hM805 := hM804.freeze 0 l801 rest797 (by kernel_rfl)
              refine S_callN (s_umbraref01_trim bP l801) [((some ⟨g795, 0, none⟩), nv l801)] hM805 (w_umbraref01_trim bP l801 (some ⟨g795, 0, none⟩) (List.length l801) cap796 (by omega) ok799.le (by first | omega | simp) w803 (hM805.ent 0 rfl)) (subc 0 rfl sub0) (by kernel_rfl) (fun r806 h807 A808 cap809 hc810 w811 hM812 => S_store 3 0 #[.bool r806.1, .slice A808 (List.length r806.2) cap809] hM812 (by kernel_rfl) (fun w813 hM814 => S_nil (?_)))
              have HR := hr_lt HR h807
              refine R_ret hM814 rfl (.cons (.cell _ _ 3 0 (.agg #[.bool r806.1, .slice A808 (List.length r806.2) cap809]) (by kernel_rfl)) .nil) rfl ?_
              exact hM814.retN 0 rfl rfl hc810 HR
            · refine S_nil (R_no (by kernel_rfl) (R_skip (R_seq (R_region (S_load 2 0 (.agg #[.bool bP, .slice (some ⟨g963, 0, none⟩) (List.length o) cap964]) hM959 (by kernel_rfl) (?_))))))
              have HR := hr_neg HR c791
              have hM815 := hM959.freeze 0 o rest965 (by kernel_rfl)
              refine S_callN (s_umbraref01_trim bP o) [((some ⟨g963, 0, none⟩), nv o)] hM815 (w_umbraref01_trim bP o (some ⟨g963, 0, none⟩) (List.length o) cap964 (by omega) ok966.le (by first | omega | simp) w958 (hM815.ent 0 rfl)) (subc 0 rfl sub0) (by kernel_rfl) (fun r816 h817 A818 cap819 hc820 w821 hM822 => S_store 2 0 #[.bool r816.1, .slice A818 (List.length r816.2) cap819] hM822 (by kernel_rfl) (fun w823 hM824 => S_nil (?_)))
              have HR := hr_lt HR h817
              refine R_ret hM824 rfl (.cons (.cell _ _ 2 0 (.agg #[.bool r816.1, .slice A818 (List.length r816.2) cap819]) (by kernel_rfl)) .nil) rfl ?_
              exact hM824.retN 0 rfl rfl hc820 HR
        · refine S_nil (R_no (by kernel_rfl) (R_skip (R_region (S_val (.pointer (some ⟨g644, 1, none⟩)) (by kernel_rfl) (S_load 0 1 (.slice none 0 0) hM668 (by kernel_rfl) (S_val (.int .i64 x665) (by kernel_rfl) (S_fresh (some 1) #[.int .i64 x665] 3 hM668 (by kernel_rfl) (fun g1060 w1061 hM1062 => ?_))))))))
          have HR := hr_neg HR c941
          refine S_app0 0 1 1 3 1 8 (.int .i64 0) [.int .i64 x665] hM1062 (by kernel_rfl) (by kernel_rfl) (fun g1063 cap1064 rest1065 w1066 ok1067 hM1068 => S_val (.pointer (some ⟨g644, 1, none⟩)) (by kernel_rfl) (S_store 2 1 #[.bool bP, .slice (some ⟨g1063, 0, none⟩) 1 cap1064] hM1068 (by kernel_rfl) (fun w1069 hM1070 => S_nil (R_inBlock (R_region (S_val (.int .i64 0) (by kernel_rfl) (S_val (.int .i64 1) (by kernel_rfl) (S_val (.int .i64 1) (by kernel_rfl) (S_nil (?_))))))))))
          have hw_x665 := h666; rw [wrI] at hw_x665; unfold wrap64 at hw_x665
          have hw_x663 := h664; rw [wrI] at hw_x663; unfold wrap64 at hw_x663
          have hw_x649 := h650; rw [gmax_eq] at hw_x649
          obtain ⟨E1077, HE1078⟩ : ∃ E, L6_umbraref01_Sum_1_s bP lP bQ lQ (Int.toNat (1000 - 1) + 1) 1 0 ([x665]) = E := ⟨_, rfl⟩
          have HR := hr_lt HR HE1078
          refine R_fuelI (fun m1072 a1073 w1074 => ∃ (k : Int) (carry : Int) (o : List Int) (g1079 : Nat) (cap1080 : Nat) (rest1081 : List Value) (u8 : List Value), a1073 = { tmps := #[.agg #[.bool bP, .slice AP (List.length lP) cP], .agg #[.bool bQ, .slice AQ (List.length lQ) cQ], .pointer (some ⟨g1, 0, none⟩), .pointer (some ⟨g4, 0, none⟩), .pointer (some ⟨g7, 0, none⟩), .pointer (some ⟨g644, 0, none⟩), .int .i64 carry, .int .i64 k, (gv u8 0), .pointer (some ⟨g1, 0, none⟩), .bool bP, .pointer (some ⟨g4, 0, none⟩), .bool bQ, .bool false, .bool false, undef, undef, undef, undef, .bool false, undef, undef, undef, .pointer (some ⟨g1, 0, none⟩), .bool bP, .agg #[.bool bP, .slice none 0 0], (gv u8 1), (gv u8 2), (gv u8 3), (gv u8 4), (gv u8 5), (gv u8 6), (gv u8 7), (gv u8 8), (gv u8 9), (gv u8 10), (gv u8 11), (gv u8 12), (gv u8 13), (gv u8 14), (gv u8 15), (gv u8 16), (gv u8 17), (gv u8 18), (gv u8 19), (gv u8 20), (gv u8 21), (gv u8 22), (gv u8 23), (gv u8 24), (gv u8 25), (gv u8 26), (gv u8 27), (gv u8 28), (gv u8 29), (gv u8 30), (gv u8 31), (gv u8 32), (gv u8 33), (gv u8 34), (gv u8 35), (gv u8 36), (gv u8 37), (gv u8 38), (gv u8 39), (gv u8 40), (gv u8 41), (gv u8 42), (gv u8 43), (gv u8 44), (gv u8 45), (gv u8 46), (gv u8 47), (gv u8 48), undef, undef, undef, undef, undef, undef, undef, undef, undef, undef], defers := [] } ∧ St ⟨w, [(AP, nv lP), (AQ, nv lQ)], [(none, nv ([])), (AP, nv lP), (AQ, nv lQ)]⟩ [⟨g1079, ⟨nv o ++ rest1081⟩, 3, (0, 0), true⟩, ⟨g1060, #[.int .i64 x665], 3, (0, 0), true⟩, ⟨g644, #[.bool bP, .slice (some ⟨g1079, 0, none⟩) (List.length o) cap1080], 29, (0, 0), true⟩, ⟨g7, #[.bool false, .slice none 0 0], 29, (0, 0), true⟩, ⟨g4, #[.bool bQ, .slice AQ (List.length lQ) cQ], 29, (0, 0), true⟩, ⟨g1, #[.bool bP, .slice AP (List.length lP) cP], 29, (0, 0), true⟩] w1074 ∧ 1000 - k < (m1072 : Int) ∧ (SlOk 1 (List.length o) cap1080 rest1081) ∧ ((1 ≤ k ∧ k ≤ 1000 ∧ (List.length o : Int) = k)) ∧ L6_umbraref01_Sum_1_s bP lP bQ lQ m1072 k carry o = E1077) (Int.toNat (1000 - 1) + 1) ⟨1, 0, ([x665]), g1063, cap1064, rest1065, [.int .i64 x665, .int .i64 0, .pointer (some ⟨g1, 1, none⟩), .slice AP (List.length lP) cP, .int .i64 (List.length lP : Int), .pointer (some ⟨g4, 1, none⟩), .slice AQ (List.length lQ) cQ, .int .i64 (List.length lQ : Int), .int .i64 x649, .bool true, .int .i64 0, .int .i64 1, .agg #[.bool bP, .slice AP (List.length lP) cP], .int .i64 0, .int .i64 r657, .agg #[.bool bQ, .slice AQ (List.length lQ) cQ], .int .i64 0, .int .i64 r661, .int .i64 x663, .int .i64 0, .int .i64 x665, .pointer (some ⟨g1, 0, none⟩), .bool bP, .pointer (some ⟨g4, 0, none⟩), .bool bQ, .bool false, undef, undef, undef, undef, undef, undef, undef, undef, undef, .int .i64 x665, .bool false, undef, undef, .int .i64 x665, .bool false, undef, undef, .pointer (some ⟨g644, 1, none⟩), .slice none 0 0, .int .i64 x665, .slice (some ⟨g1060, 0, none⟩) 1 1, .slice (some ⟨g1063, 0, none⟩) 1 cap1064, .pointer (some ⟨g644, 1, none⟩)], by kernel_rfl, hM1070, by omega, ok1067, (by simp only [List.length_cons, List.length_nil]; omega), HE1078⟩ ?_
          rintro m1072 a1073 w1074 ⟨k, carry, o, g1079, cap1080, rest1081, u8, rfl, hM1075, hmu8, ok1082, hk_8, HE1078⟩ hnext1076
          obtain ⟨f1071, rfl⟩ : ∃ f, m1072 = f + 1 := ⟨m1072 - 1, by omega⟩
          rw [L6_umbraref01_Sum_1_s] at HE1078
          refine R_seq (R_seq (R_region (S_val (.int .i64 k) (by kernel_rfl) (S_val (.pointer (some ⟨g1, 1, none⟩)) (by kernel_rfl) (S_load 5 1 (.slice AP (List.length lP) cP) hM1075 (by kernel_rfl) (S_val (.int .i64 (List.length lP : Int)) (by kernel_rfl) (S_val (.pointer (some ⟨g4, 1, none⟩)) (by kernel_rfl) (S_load 4 1 (.slice AQ (List.length lQ) cQ) hM1075 (by kernel_rfl) (S_val (.int .i64 (List.length lQ : Int)) (by kernel_rfl) (S_int (gmax (List.length lP : Int) (List.length lQ : Int)) .i64 (by kernel_rfl) (fun x1083 h1084 => ?_)))))))))))
          have HE1078 := hq_lt HE1078 h1084
          refine S_dec (k < x1083) (by kernel_rfl) (fun c1085 => ?_) (fun c1085 => ?_)
          · refine S_nil (R_yes (by kernel_rfl) (R_skip (R_seq (R_block (R_seq (R_drawF 10 (by kernel_rfl) (fun F1086 U1087 hL1088 => F_load 5 0 (.agg #[.bool bP, .slice AP (List.length lP) cP]) hM1075 (by kernel_rfl) (F_val (.int .i64 k) (fun _ => by kernel_rfl) (F_call (s_umbraref01_digit bP lP k) (fun r : Int => .int .i64 r) hM1075 hL1088 (fun w' hM' => w_umbraref01_digit bP lP k AP (List.length lP) cP rfl hcP (by omega) w' (hM'.ent 1 rfl)) (by kernel_rfl) (fun _ => by kernel_rfl) (fun r1091 h1092 => F_load 4 0 (.agg #[.bool bQ, .slice AQ (List.length lQ) cQ]) hM1075 (by kernel_rfl) (F_val (.int .i64 k) (fun _ => by kernel_rfl) (?_))))))))))))
            have HE1078 := hq_pos HE1078 c1085
            have HE1078 := hq_lt HE1078 h1092
            refine F_call (s_umbraref01_digit bQ lQ k) (fun r : Int => .int .i64 r) hM1075 hL1088 (fun w' hM' => w_umbraref01_digit bQ lQ k AQ (List.length lQ) cQ rfl hcQ (by omega) w' (hM'.ent 2 rfl)) (by kernel_rfl) (fun _ => by kernel_rfl) (fun r1095 h1096 => F_int (IntKind.i64.wrap (r1091 + r1095)) .i64 (fun _ => by kernel_rfl) (fun x1097 h1098 => F_val (.int .i64 carry) (fun _ => by kernel_rfl) (F_int (IntKind.i64.wrap (x1097 + carry)) .i64 (fun _ => by kernel_rfl) (fun x1099 h1100 => F_val (.int .i64 x1099) (fun _ => by kernel_rfl) (F_nil hM1075 hL1088 (fun w1101 hM1102 => S_nil (R_seq (R_seq (R_region (S_val (.pointer (some ⟨g1, 0, none⟩)) (by kernel_rfl) (S_load 5 0 (.bool bP) hM1102 (by kernel_rfl) (?_))))))))))))
            have HE1078 := hq_lt HE1078 h1096
            have HE1078 := hq_lt HE1078 h1098
            have HE1078 := hq_lt HE1078 h1100
            refine S_val (.pointer (some ⟨g4, 0, none⟩)) (by kernel_rfl) (S_load 4 0 (.bool bQ) hM1102 (by kernel_rfl) (S_val (.bool false) (knT' c10 (by kernel_rfl)) (S_nil (R_no (by kernel_rfl) (R_skip (R_seq (R_region (S_val (.int .i64 0) (by kernel_rfl) (S_nil (R_seq (R_seq (?_))))))))))))
            refine R_region (S_val (.int .i64 x1099) (by kernel_rfl) (?_))
            refine S_dec (x1099 < 0) (by kernel_rfl) (fun c1103 => ?_) (fun c1103 => ?_)
            · refine S_nil (R_yes (by kernel_rfl) (R_seq (R_region (S_val (.int .i64 x1099) (by kernel_rfl) (S_int (IntKind.i64.wrap (x1099 + 65536)) .i64 (by kernel_rfl) (fun x1104 h1105 => S_val (.int .i64 x1104) (by kernel_rfl) (S_nil (R_region (S_val (.int .i64 (-1)) (by kernel_rfl) (S_nil (R_seq (?_))))))))))))
              have HE1078 := hq_pos HE1078 c1103
              have HE1078 := hq_lt HE1078 h1105
              refine R_seq (R_region (S_val (.int .i64 x1104) (by kernel_rfl) (?_)))
              refine S_dec (x1104 > 65535) (by kernel_rfl) (fun c1106 => ?_) (fun c1106 => ?_)
              · refine S_nil (R_yes (by kernel_rfl) (R_seq (R_region (S_val (.int .i64 x1104) (by kernel_rfl) (S_int (IntKind.i64.wrap (x1104 - 65536)) .i64 (by kernel_rfl) (fun x1107 h1108 => S_val (.int .i64 x1107) (by kernel_rfl) (S_nil (R_region (S_val (.int .i64 1) (by kernel_rfl) (S_nil (R_region (?_))))))))))))
                have HE1078 := hq_pos HE1078 c1106
                have HE1078 := hq_lt HE1078 h1108
                refine S_val (.pointer (some ⟨g644, 1, none⟩)) (by kernel_rfl) (S_load 2 1 (.slice (some ⟨g1079, 0, none⟩) (List.length o) cap1080) hM1102 (by kernel_rfl) (S_val (.int .i64 x1107) (by kernel_rfl) (S_fresh (some 1) #[.int .i64 x1107] 3 hM1102 (by kernel_rfl) (fun g1109 w1110 hM1111 => ?_))))
                refine S_appL 1 0 (List.length o) cap1080 1 3 o rest1081 x1107 hM1111 ok1082 rfl (by omega) (by kernel_rfl) (fun g1112 l1118 h1119 cap1113 rest1114 w1115 ok1116 hM1117 => ?_)
                have hlen_l1118 : List.length l1118 = List.length o + 1 := by rw [← h1119]; simp
                have HE1078 := hq_lt HE1078 h1119
                refine S_val (.pointer (some ⟨g644, 1, none⟩)) (by kernel_rfl) (S_store 3 1 #[.bool bP, .slice (some ⟨g1112, 0, none⟩) (List.length l1118) cap1113] hM1117 (by kernel_rfl) (fun w1120 hM1121 => S_nil (R_inBlock (R_region (S_val (.int .i64 k) (by kernel_rfl) (S_int (IntKind.i64.wrap (k + 1)) .i64 (by kernel_rfl) (fun x1122 h1123 => S_val (.int .i64 x1122) (by kernel_rfl) (S_nil (?_)))))))))
                have HE1078 := hq_lt HE1078 h1123
                have hw_x1122 := h1123; rw [wrI] at hw_x1122; unfold wrap64 at hw_x1122
                have hw_x649 := h650; rw [gmax_eq] at hw_x649
                have hw_x665 := h666; rw [wrI] at hw_x665; unfold wrap64 at hw_x665
                have hw_x663 := h664; rw [wrI] at hw_x663; unfold wrap64 at hw_x663
                have hw_x1083 := h1084; rw [gmax_eq] at hw_x1083
                have hw_x1099 := h1100; rw [wrI] at hw_x1099; unfold wrap64 at hw_x1099
                have hw_x1097 := h1098; rw [wrI] at hw_x1097; unfold wrap64 at hw_x1097
                have hw_x1104 := h1105; rw [wrI] at hw_x1104; unfold wrap64 at hw_x1104
                have hM1124 := hM1121.re [0, 2, 3, 4, 5, 6] (by decide) (by kernel_rfl)
                exact hnext1076 f1071 _ _ (Nat.lt_succ_self _) ⟨x1122, 1, l1118, g1112, cap1113, rest1114, [.int .i64 x1107, .int .i64 k, .pointer (some ⟨g1, 1, none⟩), .slice AP (List.length lP) cP, .int .i64 (List.length lP : Int), .pointer (some ⟨g4, 1, none⟩), .slice AQ (List.length lQ) cQ, .int .i64 (List.length lQ : Int), .int .i64 x1083, .bool true, .int .i64 k, .int .i64 x1122, .agg #[.bool bP, .slice AP (List.length lP) cP], .int .i64 k, .int .i64 r1091, .agg #[.bool bQ, .slice AQ (List.length lQ) cQ], .int .i64 k, .int .i64 r1095, .int .i64 x1097, .int .i64 carry, .int .i64 x1099, .pointer (some ⟨g1, 0, none⟩), .bool bP, .pointer (some ⟨g4, 0, none⟩), .bool bQ, .bool false, (gv u8 26), (gv u8 27), (gv u8 28), (gv u8 29), (gv u8 30), (gv u8 31), (gv u8 32), (gv u8 33), (gv u8 34), .int .i64 x1099, .bool true, .int .i64 x1099, .int .i64 x1104, .int .i64 x1104, .bool true, .int .i64 x1104, .int .i64 x1107, .pointer (some ⟨g644, 1, none⟩), .slice (some ⟨g1079, 0, none⟩) (List.length o) cap1080, .int .i64 x1107, .slice (some ⟨g1109, 0, none⟩) 1 1, .slice (some ⟨g1112, 0, none⟩) (List.length l1118) cap1113, .pointer (some ⟨g644, 1, none⟩)], by kernel_rfl, hM1124, by omega, ok1116, (by omega), HE1078⟩
              · refine S_nil (R_no (by kernel_rfl) (R_skip (R_region (S_val (.pointer (some ⟨g644, 1, none⟩)) (by kernel_rfl) (S_load 2 1 (.slice (some ⟨g1079, 0, none⟩) (List.length o) cap1080) hM1102 (by kernel_rfl) (S_val (.int .i64 x1104) (by kernel_rfl) (S_fresh (some 1) #[.int .i64 x1104] 3 hM1102 (by kernel_rfl) (fun g1125 w1126 hM1127 => ?_))))))))
                have HE1078 := hq_neg HE1078 c1106
                refine S_appL 1 0 (List.length o) cap1080 1 3 o rest1081 x1104 hM1127 ok1082 rfl (by omega) (by kernel_rfl) (fun g1128 l1134 h1135 cap1129 rest1130 w1131 ok1132 hM1133 => ?_)
                have hlen_l1134 : List.length l1134 = List.length o + 1 := by rw [← h1135]; simp
                have HE1078 := hq_lt HE1078 h1135
                refine S_val (.pointer (some ⟨g644, 1, none⟩)) (by kernel_rfl) (S_store 3 1 #[.bool bP, .slice (some ⟨g1128, 0, none⟩) (List.length l1134) cap1129] hM1133 (by kernel_rfl) (fun w1136 hM1137 => S_nil (R_inBlock (R_region (S_val (.int .i64 k) (by kernel_rfl) (S_int (IntKind.i64.wrap (k + 1)) .i64 (by kernel_rfl) (fun x1138 h1139 => S_val (.int .i64 x1138) (by kernel_rfl) (S_nil (?_)))))))))
                have HE1078 := hq_lt HE1078 h1139
                have hw_x1138 := h1139; rw [wrI] at hw_x1138; unfold wrap64 at hw_x1138
                have hw_x649 := h650; rw [gmax_eq] at hw_x649
                have hw_x665 := h666; rw [wrI] at hw_x665; unfold wrap64 at hw_x665
                have hw_x663 := h664; rw [wrI] at hw_x663; unfold wrap64 at hw_x663
                have hw_x1083 := h1084; rw [gmax_eq] at hw_x1083
                have hw_x1099 := h1100; rw [wrI] at hw_x1099; unfold wrap64 at hw_x1099
                have hw_x1097 := h1098; rw [wrI] at hw_x1097; unfold wrap64 at hw_x1097
                have hw_x1104 := h1105; rw [wrI] at hw_x1104; unfold wrap64 at hw_x1104
                have hM1140 := hM1137.re [0, 2, 3, 4, 5, 6] (by decide) (by kernel_rfl)
                exact hnext1076 f1071 _ _ (Nat.lt_succ_self _) ⟨x1138, (-1), l1134, g1128, cap1129, rest1130, [.int .i64 x1104, .int .i64 k, .pointer (some ⟨g1, 1, none⟩), .slice AP (List.length lP) cP, .int .i64 (List.length lP : Int), .pointer (some ⟨g4, 1, none⟩), .slice AQ (List.length lQ) cQ, .int .i64 (List.length lQ : Int), .int .i64 x1083, .bool true, .int .i64 k, .int .i64 x1138, .agg #[.bool bP, .slice AP (List.length lP) cP], .int .i64 k, .int .i64 r1091, .agg #[.bool bQ, .slice AQ (List.length lQ) cQ], .int .i64 k, .int .i64 r1095, .int .i64 x1097, .int .i64 carry, .int .i64 x1099, .pointer (some ⟨g1, 0, none⟩), .bool bP, .pointer (some ⟨g4, 0, none⟩), .bool bQ, .bool false, (gv u8 26), (gv u8 27), (gv u8 28), (gv u8 29), (gv u8 30), (gv u8 31), (gv u8 32), (gv u8 33), (gv u8 34), .int .i64 x1099, .bool true, .int .i64 x1099, .int .i64 x1104, .int .i64 x1104, .bool false, (gv u8 41), (gv u8 42), .pointer (some ⟨g644, 1, none⟩), .slice (some ⟨g1079, 0, none⟩) (List.length o) cap1080, .int .i64 x1104, .slice (some ⟨g1125, 0, none⟩) 1 1, .slice (some ⟨g1128, 0, none⟩) (List.length l1134) cap1129, .pointer (some ⟨g644, 1, none⟩)], by kernel_rfl, hM1140, by omega, ok1132, (by omega), HE1078⟩
            · refine S_nil (R_no (by kernel_rfl) (R_skip (R_seq (R_seq (R_region (S_val (.int .i64 x1099) (by kernel_rfl) (?_)))))))
              have HE1078 := hq_neg HE1078 c1103
              refine S_dec (x1099 > 65535) (by kernel_rfl) (fun c1141 => ?_) (fun c1141 => ?_)
              · refine S_nil (R_yes (by kernel_rfl) (R_seq (R_region (S_val (.int .i64 x1099) (by kernel_rfl) (S_int (IntKind.i64.wrap (x1099 - 65536)) .i64 (by kernel_rfl) (fun x1142 h1143 => S_val (.int .i64 x1142) (by kernel_rfl) (S_nil (R_region (S_val (.int .i64 1) (by kernel_rfl) (S_nil (R_region (?_))))))))))))
                have HE1078 := hq_pos HE1078 c1141
                have HE1078 := hq_lt HE1078 h1143
                refine S_val (.pointer (some ⟨g644, 1, none⟩)) (by kernel_rfl) (S_load 2 1 (.slice (some ⟨g1079, 0, none⟩) (List.length o) cap1080) hM1102 (by kernel_rfl) (S_val (.int .i64 x1142) (by kernel_rfl) (S_fresh (some 1) #[.int .i64 x1142] 3 hM1102 (by kernel_rfl) (fun g1144 w1145 hM1146 => ?_))))
                refine S_appL 1 0 (List.length o) cap1080 1 3 o rest1081 x1142 hM1146 ok1082 rfl (by omega) (by kernel_rfl) (fun g1147 l1153 h1154 cap1148 rest1149 w1150 ok1151 hM1152 => ?_)
                have hlen_l1153 : List.length l1153 = List.length o + 1 := by rw [← h1154]; simp
                have HE1078 := hq_lt HE1078 h1154
                refine S_val (.pointer (some ⟨g644, 1, none⟩)) (by kernel_rfl) (S_store 3 1 #[.bool bP, .slice (some ⟨g1147, 0, none⟩) (List.length l1153) cap1148] hM1152 (by kernel_rfl) (fun w1155 hM1156 => S_nil (R_inBlock (R_region (S_val (.int .i64 k) (by kernel_rfl) (S_int (IntKind.i64.wrap (k + 1)) .i64 (by kernel_rfl) (fun x1157 h1158 => S_val (.int .i64 x1157) (by kernel_rfl) (S_nil (?_)))))))))
                have HE1078 := hq_lt HE1078 h1158
                have hw_x1157 := h1158; rw [wrI] at hw_x1157; unfold wrap64 at hw_x1157
                have hw_x649 := h650; rw [gmax_eq] at hw_x649
                have hw_x665 := h666; rw [wrI] at hw_x665; unfold wrap64 at hw_x665
                have hw_x663 := h664; rw [wrI] at hw_x663; unfold wrap64 at hw_x663
                have hw_x1083 := h1084; rw [gmax_eq] at hw_x1083
                have hw_x1099 := h1100; rw [wrI] at hw_x1099; unfold wrap64 at hw_x1099
                have hw_x1097 := h1098; rw [wrI] at hw_x1097; unfold wrap64 at hw_x1097
                have hM1159 := hM1156.re [0, 2, 3, 4, 5, 6] (by decide) (by kernel_rfl)
                exact hnext1076 f1071 _ _ (Nat.lt_succ_self _) ⟨x1157, 1, l1153, g1147, cap1148, rest1149, [.int .i64 x1142, .int .i64 k, .pointer (some ⟨g1, 1, none⟩), .slice AP (List.length lP) cP, .int .i64 (List.length lP : Int), .pointer (some ⟨g4, 1, none⟩), .slice AQ (List.length lQ) cQ, .int .i64 (List.length lQ : Int), .int .i64 x1083, .bool true, .int .i64 k, .int .i64 x1157, .agg #[.bool bP, .slice AP (List.length lP) cP], .int .i64 k, .int .i64 r1091, .agg #[.bool bQ, .slice AQ (List.length lQ) cQ], .int .i64 k, .int .i64 r1095, .int .i64 x1097, .int .i64 carry, .int .i64 x1099, .pointer (some ⟨g1, 0, none⟩), .bool bP, .pointer (some ⟨g4, 0, none⟩), .bool bQ, .bool false, (gv u8 26), (gv u8 27), (gv u8 28), (gv u8 29), (gv u8 30), (gv u8 31), (gv u8 32), (gv u8 33), (gv u8 34), .int .i64 x1099, .bool false, (gv u8 37), (gv u8 38), .int .i64 x1099, .bool true, .int .i64 x1099, .int .i64 x1142, .pointer (some ⟨g644, 1, none⟩), .slice (some ⟨g1079, 0, none⟩) (List.length o) cap1080, .int .i64 x1142, .slice (some ⟨g1144, 0, none⟩) 1 1, .slice (some ⟨g1147, 0, none⟩) (List.length l1153) cap1148, .pointer (some ⟨g644, 1, none⟩)], by kernel_rfl, hM1159, by omega, ok1151, (by omega), HE1078⟩
              · refine S_nil (R_no (by kernel_rfl) (R_skip (R_region (S_val (.pointer (some ⟨g644, 1, none⟩)) (by kernel_rfl) (S_load 2 1 (.slice (some ⟨g1079, 0, none⟩) (List.length o) cap1080) hM1102 (by kernel_rfl) (S_val (.int .i64 x1099) (by kernel_rfl) (S_fresh (some 1) #[.int .i64 x1099] 3 hM1102 (by kernel_rfl) (fun g1160 w1161 hM1162 => ?_))))))))
                have HE1078 := hq_neg HE1078 c1141
                refine S_appL 1 0 (List.length o) cap1080 1 3 o rest1081 x1099 hM1162 ok1082 rfl (by omega) (by kernel_rfl) (fun g1163 l1169 h1170 cap1164 rest1165 w1166 ok1167 hM1168 => ?_)
                have hlen_l1169 : List.length l1169 = List.length o + 1 := by rw [← h1170]; simp
                have HE1078 := hq_lt HE1078 h1170
                refine S_val (.pointer (some ⟨g644, 1, none⟩)) (by kernel_rfl) (S_store 3 1 #[.bool bP, .slice (some ⟨g1163, 0, none⟩) (List.length l1169) cap1164] hM1168 (by kernel_rfl) (fun w1171 hM1172 => S_nil (R_inBlock (R_region (S_val (.int .i64 k) (by kernel_rfl) (S_int (IntKind.i64.wrap (k + 1)) .i64 (by kernel_rfl) (fun x1173 h1174 => S_val (.int .i64 x1173) (by kernel_rfl) (S_nil (?_)))))))))
                have HE1078 := hq_lt HE1078 h1174
                have hw_x1173 := h1174; rw [wrI] at hw_x1173; unfold wrap64 at hw_x1173
                have hw_x649 := h650; rw [gmax_eq] at hw_x649
                have hw_x665 := h666; rw [wrI] at hw_x665; unfold wrap64 at hw_x665
                have hw_x663 := h664; rw [wrI] at hw_x663; unfold wrap64 at hw_x663
                have hw_x1083 := h1084; rw [gmax_eq] at hw_x1083
                have hw_x1099 := h1100; rw [wrI] at hw_x1099; unfold wrap64 at hw_x1099
                have hw_x1097 := h1098; rw [wrI] at hw_x1097; unfold wrap64 at hw_x1097
                have hM1175 := hM1172.re [0, 2, 3, 4, 5, 6] (by decide) (by kernel_rfl)
                exact hnext1076 f1071 _ _ (Nat.lt_succ_self _) ⟨x1173, 0, l1169, g1163, cap1164, rest1165, [.int .i64 x1099, .int .i64 k, .pointer (some ⟨g1, 1, none⟩), .slice AP (List.length lP) cP, .int .i64 (List.length lP : Int), .pointer (some ⟨g4, 1, none⟩), .slice AQ (List.length lQ) cQ, .int .i64 (List.length lQ : Int), .int .i64 x1083, .bool true, .int .i64 k, .int .i64 x1173, .agg #[.bool bP, .slice AP (List.length lP) cP], .int .i64 k, .int .i64 r1091, .agg #[.bool bQ, .slice AQ (List.length lQ) cQ], .int .i64 k, .int .i64 r1095, .int .i64 x1097, .int .i64 carry, .int .i64 x1099, .pointer (some ⟨g1, 0, none⟩), .bool bP, .pointer (some ⟨g4, 0, none⟩), .bool bQ, .bool false, (gv u8 26), (gv u8 27), (gv u8 28), (gv u8 29), (gv u8 30), (gv u8 31), (gv u8 32), (gv u8 33), (gv u8 34), .int .i64 x1099, .bool false, (gv u8 37), (gv u8 38), .int .i64 x1099, .bool false, (gv u8 41), (gv u8 42), .pointer (some ⟨g644, 1, none⟩), .slice (some ⟨g1079, 0, none⟩) (List.length o) cap1080, .int .i64 x1099, .slice (some ⟨g1160, 0, none⟩) 1 1, .slice (some ⟨g1163, 0, none⟩) (List.length l1169) cap1164, .pointer (some ⟨g644, 1, none⟩)], by kernel_rfl, hM1175, by omega, ok1167, (by omega), HE1078⟩
          · refine S_nil (R_no (by kernel_rfl) (R_exit rfl (?_)))
            have HE1078 := hq_neg HE1078 c1085
            subst HE1078
            refine R_seq (R_seq (R_region (S_val (.int .i64 carry) (by kernel_rfl) (?_))))
            refine S_dec (carry > 0) (by kernel_rfl) (fun c791 => ?_) (fun c791 => ?_)
            · refine S_nil (R_yes (by kernel_rfl) (R_region (S_val (.pointer (some ⟨g644, 1, none⟩)) (by kernel_rfl) (S_load 2 1 (.slice (some ⟨g1079, 0, none⟩) (List.length o) cap1080) hM1075 (by kernel_rfl) (S_val (.int .i64 carry) (by kernel_rfl) (S_fresh (some 1) #[.int .i64 carry] 3 hM1075 (by kernel_rfl) (fun g792 w793 hM794 => ?_)))))))
              have HR := hr_pos HR c791
              refine S_appL 1 0 (List.length o) cap1080 1 3 o rest1081 carry hM794 ok1082 rfl (by omega) (by kernel_rfl) (fun g795 l801 h802 cap796 rest797 w798 ok799 hM800 => ?_)
              have hlen_l801 : List.length l801 = List.length o + 1 := by rw [← h802]; simp
              have HR := hr_lt HR h802
              refine S_val (.pointer (some ⟨g644, 1, none⟩)) (by kernel_rfl) (S_store 3 1 #[.bool bP, .slice (some ⟨g795, 0, none⟩) (List.length l801) cap796] hM800 (by kernel_rfl) (fun w803 hM804 => S_nil (R_seq (R_region (S_load 3 0 (.agg #[.bool bP, .slice (some ⟨g795, 0, none⟩) (List.length l801) cap796]) hM804 (by kernel_rfl) (?_))))))
              have hM805 := hM804.freeze 0 l801 rest797 (by kernel_rfl)
              refine S_callN (s_umbraref01_trim bP l801) [((some ⟨g795, 0, none⟩), nv l801)] hM805 (w_umbraref01_trim bP l801 (some ⟨g795, 0, none⟩) (List.length l801) cap796 (by omega) ok799.le (by first | omega | simp) w803 (hM805.ent 0 rfl)) (subc 0 rfl sub0) (by kernel_rfl) (fun r806 h807 A808 cap809 hc810 w811 hM812 => S_store 3 0 #[.bool r806.1, .slice A808 (List.length r806.2) cap809] hM812 (by kernel_rfl) (fun w813 hM814 => S_nil (?_)))
              have HR := hr_lt HR h807
              refine R_ret hM814 rfl (.cons (.cell _ _ 3 0 (.agg #[.bool r806.1, .slice A808 (List.length r806.2) cap809]) (by kernel_rfl)) .nil) rfl ?_
              exact hM814.retN 0 rfl rfl hc810 HR
            · refine S_nil (R_no (by kernel_rfl) (R_skip (R_seq (R_region (S_load 2 0 (.agg #[.bool bP, .slice (some ⟨g1079, 0, none⟩) (List.length o) cap1080]) hM1075 (by kernel_rfl) (?_))))))
              have HR := hr_neg HR c791
              have hM815 := hM1075.freeze 0 o rest1081 (by kernel_rfl)
              refine S_callN (s_umbraref01_trim bP o) [((some ⟨g1079, 0, none⟩), nv o)] hM815 (w_umbraref01_trim bP o (some ⟨g1079, 0, none⟩) (List.length o) cap1080 (by omega) ok1082.le (by first | omega | simp) w1074 (hM815.ent 0 rfl)) (subc 0 rfl sub0) (by kernel_rfl) (fun r816 h817 A818 cap819 hc820 w821 hM822 => S_store 2 0 #[.bool r816.1, .slice A818 (List.length r816.2) cap819] hM822 (by kernel_rfl) (fun w823 hM824 => S_nil (?_)))
              have HR := hr_lt HR h817
              refine R_ret hM824 rfl (.cons (.cell _ _ 2 0 (.agg #[.bool r816.1, .slice A818 (List.length r816.2) cap819]) (by kernel_rfl)) .nil) rfl ?_
              exact hM824.retN 0 rfl rfl hc820 HR
    · refine S_nil (R_no (by kernel_rfl) (R_exit rfl (R_seq (R_seq (R_region (S_val (.int .i64 0) (by kernel_rfl) (S_val (.bool false) (by kernel_rfl) (S_nil (R_no (by kernel_rfl) (R_skip (R_seq (?_))))))))))))
      have HR := hr_neg HR c651
      refine R_region (S_load 0 0 (.agg #[.bool bP, .slice none 0 0]) hM648 (by kernel_rfl) (S_callN (s_umbraref01_trim bP ([])) [(none, nv ([]))] hM648 (w_umbraref01_trim bP ([]) none 0 0 rfl (Nat.le_refl _) (by first | omega | simp) w647 (hM648.ent 0 rfl)) (subc 0 rfl sub0) (by kernel_rfl) (fun r1176 h1177 A1178 cap1179 hc1180 w1181 hM1182 => S_store 1 0 #[.bool r1176.1, .slice A1178 (List.length r1176.2) cap1179] hM1182 (by kernel_rfl) (fun w1183 hM1184 => S_nil (?_)))))
      have HR := hr_lt HR h1177
      refine R_ret hM1184 rfl (.cons (.cell _ _ 1 0 (.agg #[.bool r1176.1, .slice A1178 (List.length r1176.2) cap1179]) (by kernel_rfl)) .nil) rfl ?_
      exact hM1184.retN 0 rfl rfl hc1180 HR

end Go.Proofs.Ytlpnklcnheafoaa
