/- Walks: the document's numbers in digits (umbraref01): trim, From, digit, size, Sum, Times, Power, half. -/
import Derived.Test.YtognbeejobfpfaaGoC
import Derived.Test.YtognbeejobfpfaaGoH
import Derived.Test.YtognbeejobfpfaaGoQ
namespace Go.Proofs.Ytognbeejobfpfaa
open Go.RowKit Go.Sort
set_option linter.unusedVariables false
set_option linter.unusedSimpArgs false

def e_umbraref01_digit (r : Int) : Value := .int .i64 r
def s_umbraref01_digit (bP : Bool) (lP : List (Int)) (i : Int) : Int :=
  if i < (List.length lP : Int) then
    (gd 0 lP i)
  else
    0
set_option maxRecDepth 100000 in
set_option maxHeartbeats 4000000 in
theorem w_umbraref01_digit (bP : Bool) (lP : List (Int)) (i : Int)  (AP : Option Addr) (nP cP : Nat) (hnP : nP = List.length lP) (hcP : nP ≤ cP) (hi : 0 ≤ i) (w : World) (hAP : Ent w (AP, nv lP)) : Calls Try.prog 86 #[.agg #[.bool bP, .slice AP nP cP], .int .i64 i] w (Ret (e_umbraref01_digit (s_umbraref01_digit bP lP i)) w) := by
  subst hnP
  obtain ⟨R, HR⟩ : ∃ R, e_umbraref01_digit (s_umbraref01_digit bP lP i) = R := ⟨_, rfl⟩
  rw [HR]
  unfold s_umbraref01_digit at HR
  have hM0 := St.startN (w := w) [(AP, nv lP)] (ents hAP ents0)
  refine calls_run Try.func86 rfl ?_
  refine R_seq (R_region (S_fresh none #[.bool bP, .slice AP (List.length lP) cP] 113 hM0 (by kernel_rfl) (fun g1 w2 hM3 => S_val (.int .i64 0) (by kernel_rfl) (S_nil (R_seq (R_seq (R_region (S_val (.int .i64 i) (by kernel_rfl) (S_val (.pointer (some ⟨g1, 1, none⟩)) (by kernel_rfl) (S_load 0 1 (.slice AP (List.length lP) cP) hM3 (by kernel_rfl) (S_val (.int .i64 (List.length lP : Int)) (by kernel_rfl) (?_))))))))))))
  refine S_dec (i < (List.length lP : Int)) (by kernel_rfl) (fun c4 => ?_) (fun c4 => ?_)
  · refine S_nil (R_yes (by kernel_rfl) (R_seq (R_region (S_val (.pointer (some ⟨g1, 1, none⟩)) (by kernel_rfl) (S_load 0 1 (.slice AP (List.length lP) cP) hM3 (by kernel_rfl) (S_val (.int .i64 i) (by kernel_rfl) (?_)))))))
    have HR := hr_pos HR c4
    obtain ⟨b5, off6, rfl⟩ := Rd.op (i := i) (hM3.rd 1 rfl) (by omega)
    refine S_idx 3 1 b5 off6 (List.length lP) cP i (by omega) (by kernel_rfl) (S_loadR iE 1 0 i 0 b5 off6 (.int .i64 (gd 0 lP i)) (hM3.rd 1 rfl) iE_len (by omega) (by kernel_rfl) (S_val (.int .i64 (gd 0 lP i)) (by kernel_rfl) (S_nil (?_))))
    refine R_ret hM3 rfl (.cons (.tmp _ (.int .i64 (gd 0 lP i)) (by kernel_rfl)) .nil) rfl ?_
    exact ⟨congrArg Ending.returned HR, hM3.below⟩
  · refine S_nil (R_no (by kernel_rfl) (R_skip (R_seq (R_region (S_val (.int .i64 0) (by kernel_rfl) (S_nil (?_)))))))
    have HR := hr_neg HR c4
    refine R_ret hM3 rfl (.cons (.tmp _ (.int .i64 0) (by kernel_rfl)) .nil) rfl ?_
    exact ⟨congrArg Ending.returned HR, hM3.below⟩

def e_umbraref01_trim (r : Bool × List Int) : Bool × List Int := r
def L2_umbraref01_trim (bP : Bool) (lP : List (Int)) : Nat → (Int) → Int
  | 0, _ => default
  | f7 + 1, k =>
    if k > 0 then
      lt (IntKind.i64.wrap (k - 1)) fun x16 =>
      if (gd 0 lP x16) = 0 then
        lt (IntKind.i64.wrap (k - 1)) fun x21 =>
        L2_umbraref01_trim bP lP f7 x21
      else
        k
    else
      k
def s_umbraref01_trim (bP : Bool) (lP : List (Int)) : Bool × List Int :=
  lt (L2_umbraref01_trim bP lP (Int.toNat ((List.length lP : Int)) + 1) (List.length lP : Int)) fun E13 =>
  if E13 = 0 then
    (false, List.take (Int.toNat E13) lP)
  else
    (bP, List.take (Int.toNat E13) lP)
set_option maxRecDepth 100000 in
set_option maxHeartbeats 4000000 in
theorem w_umbraref01_trim (bP : Bool) (lP : List (Int))  (AP : Option Addr) (nP cP : Nat) (hnP : nP = List.length lP) (hcP : nP ≤ cP) (hl : List.length lP ≤ 100000) (w : World) (hAP : Ent w (AP, nv lP)) : Calls Try.prog 87 #[.agg #[.bool bP, .slice AP nP cP]] w (RetN w [(AP, nv lP)] (e_umbraref01_trim (s_umbraref01_trim bP lP))) := by
  subst hnP
  obtain ⟨R, HR⟩ : ∃ R, e_umbraref01_trim (s_umbraref01_trim bP lP) = R := ⟨_, rfl⟩
  rw [HR]
  unfold s_umbraref01_trim at HR
  have hM0 := St.startN (w := w) [(AP, nv lP)] (ents hAP ents0)
  refine calls_run Try.func87 rfl ?_
  refine R_seq (R_region (S_fresh none #[.bool bP, .slice AP (List.length lP) cP] 113 hM0 (by kernel_rfl) (fun g1 w2 hM3 => S_fresh none #[.bool false, .slice none 0 0] 113 hM3 (by kernel_rfl) (fun g4 w5 hM6 => S_nil (R_seq (R_region (S_val (.pointer (some ⟨g1, 1, none⟩)) (by kernel_rfl) (S_load 1 1 (.slice AP (List.length lP) cP) hM6 (by kernel_rfl) (S_val (.int .i64 (List.length lP : Int)) (by kernel_rfl) (S_val (.int .i64 (List.length lP : Int)) (by kernel_rfl) (S_nil (?_))))))))))))
  refine R_seq (R_block (?_))
  obtain ⟨E13, HE14⟩ : ∃ E, L2_umbraref01_trim bP lP (Int.toNat ((List.length lP : Int)) + 1) (List.length lP : Int) = E := ⟨_, rfl⟩
  have HR := hr_lt HR HE14
  refine R_fuel (fun m8 a9 w10 => ∃ (k : Int) (u1 : List Value), a9 = { tmps := #[.agg #[.bool bP, .slice AP (List.length lP) cP], .pointer (some ⟨g1, 0, none⟩), .pointer (some ⟨g4, 0, none⟩), .int .i64 k, .pointer (some ⟨g1, 1, none⟩), .slice AP (List.length lP) cP, .int .i64 (List.length lP : Int), (gv u1 0), (gv u1 1), (gv u1 2), (gv u1 3), (gv u1 4), (gv u1 5), (gv u1 6), (gv u1 7), (gv u1 8), (gv u1 9), (gv u1 10), (gv u1 11), (gv u1 12), undef, undef, undef, undef, undef, undef, undef, undef, undef], defers := [] } ∧ St ⟨w, [(AP, nv lP)], [(none, nv ([])), (AP, nv lP)]⟩ [⟨g4, #[.bool false, .slice none 0 0], 113, (0, 0), true⟩, ⟨g1, #[.bool bP, .slice AP (List.length lP) cP], 113, (0, 0), true⟩] w10 ∧ k < (m8 : Int) ∧ ((0 ≤ k ∧ k ≤ (List.length lP : Int))) ∧ L2_umbraref01_trim bP lP m8 k = E13) (Int.toNat ((List.length lP : Int)) + 1) ⟨(List.length lP : Int), [undef, undef, undef, undef, undef, undef, undef, undef, undef, undef, undef, undef, undef], by kernel_rfl, hM6, by omega, (by omega), HE14⟩ ?_
  rintro m8 a9 w10 ⟨k, u1, rfl, hM11, hmu1, hk_1, HE14⟩ hnext12
  obtain ⟨f7, rfl⟩ : ∃ f, m8 = f + 1 := ⟨m8 - 1, by omega⟩
  rw [L2_umbraref01_trim] at HE14
  refine R_seq (R_seq (R_region (S_val (.int .i64 k) (by kernel_rfl) (?_))))
  refine S_dec (k > 0) (by kernel_rfl) (fun c15 => ?_) (fun c15 => ?_)
  · refine S_val (.bool true) (by kernel_rfl) (S_val (.pointer (some ⟨g1, 1, none⟩)) (by kernel_rfl) (S_load 1 1 (.slice AP (List.length lP) cP) hM11 (by kernel_rfl) (S_val (.int .i64 k) (by kernel_rfl) (S_int (IntKind.i64.wrap (k - 1)) .i64 (by kernel_rfl) (fun x16 h17 => ?_)))))
    have HE14 := hq_pos HE14 c15
    have HE14 := hq_lt HE14 h17
    have hw_x16 := h17; rw [wrI] at hw_x16; unfold wrap64 at hw_x16
    obtain ⟨b18, off19, rfl⟩ := Rd.op (i := x16) (hM11.rd 1 rfl) (by omega)
    refine S_idx 3 1 b18 off19 (List.length lP) cP x16 (by omega) (by kernel_rfl) (S_loadR iE 1 0 x16 0 b18 off19 (.int .i64 (gd 0 lP x16)) (hM11.rd 1 rfl) iE_len (by omega) (by kernel_rfl) (?_))
    refine S_dec ((gd 0 lP x16) = 0) (by kernel_rfl) (fun c20 => ?_) (fun c20 => ?_)
    · refine S_val (.bool true) (by kernel_rfl) (S_nil (R_yes (by kernel_rfl) (R_skip (R_block (R_region (S_val (.int .i64 k) (by kernel_rfl) (S_int (IntKind.i64.wrap (k - 1)) .i64 (by kernel_rfl) (fun x21 h22 => S_val (.int .i64 x21) (by kernel_rfl) (S_nil (R_inBlock (?_)))))))))))
      have HE14 := hq_pos HE14 c20
      have HE14 := hq_lt HE14 h22
      have hw_x21 := h22; rw [wrI] at hw_x21; unfold wrap64 at hw_x21
      have hw_x16 := h17; rw [wrI] at hw_x16; unfold wrap64 at hw_x16
      exact hnext12 f7 _ _ (Nat.lt_succ_self _) ⟨x21, [.int .i64 k, .bool true, .bool true, .pointer (some ⟨g1, 1, none⟩), .slice (some ⟨b18, off19, none⟩) (List.length lP) cP, .int .i64 k, .int .i64 x16, .pointer (some ⟨b18, off19 + Int.toNat x16 * 1 + 0, none⟩), .int .i64 (gd 0 lP x16), .bool true, .bool true, .int .i64 k, .int .i64 x21], by kernel_rfl, hM11, by omega, (by omega), HE14⟩
    · refine S_val (.bool false) (by kernel_rfl) (S_nil (R_no (by kernel_rfl) (R_exit rfl (?_))))
      have HE14 := hq_neg HE14 c20
      subst HE14
      refine R_seq (R_region (S_val (.pointer (some ⟨g1, 1, none⟩)) (by kernel_rfl) (S_load 1 1 (.slice (some ⟨b18, off19, none⟩) (List.length lP) cP) hM11 (by kernel_rfl) (S_val (.int .i64 k) (by kernel_rfl) (?_)))))
      have hM23 := hM11.know ((hM11.fz 1 rfl).cut (Int.toNat k))
      refine S_cut 3 (some ⟨b18, off19, none⟩) (List.length lP) cP k (by omega) (by kernel_rfl) (S_val (.pointer (some ⟨g1, 1, none⟩)) (by kernel_rfl) (S_store 1 1 #[.bool bP, .slice (some ⟨b18, off19, none⟩) (Int.toNat k) cP] hM23 (by kernel_rfl) (fun w24 hM25 => S_nil (R_seq (R_seq (R_region (S_val (.int .i64 k) (by kernel_rfl) (?_))))))))
      refine S_dec (k = 0) (by kernel_rfl) (fun c26 => ?_) (fun c26 => ?_)
      · refine S_nil (R_yes (by kernel_rfl) (R_region (S_val (.pointer (some ⟨g1, 0, none⟩)) (by kernel_rfl) (S_store 1 0 #[.bool false, .slice (some ⟨b18, off19, none⟩) (Int.toNat k) cP] hM25 (by kernel_rfl) (fun w27 hM28 => S_nil (R_seq (R_region (S_load 1 0 (.agg #[.bool false, .slice (some ⟨b18, off19, none⟩) (Int.toNat k) cP]) hM28 (by kernel_rfl) (S_store 0 0 #[.bool false, .slice (some ⟨b18, off19, none⟩) (Int.toNat k) cP] hM28 (by kernel_rfl) (fun w29 hM30 => S_nil (?_)))))))))))
        have HR := hr_pos HR c26
        refine R_ret hM30 rfl (.cons (.cell _ _ 0 0 (.agg #[.bool false, .slice (some ⟨b18, off19, none⟩) (Int.toNat k) cP]) (by kernel_rfl)) .nil) rfl ?_
        exact hM30.retN 0 rfl (by rw [List.length_take]; omega) (by omega) HR
      · refine S_nil (R_no (by kernel_rfl) (R_skip (R_seq (R_region (S_load 1 0 (.agg #[.bool bP, .slice (some ⟨b18, off19, none⟩) (Int.toNat k) cP]) hM25 (by kernel_rfl) (S_store 0 0 #[.bool bP, .slice (some ⟨b18, off19, none⟩) (Int.toNat k) cP] hM25 (by kernel_rfl) (fun w31 hM32 => S_nil (?_))))))))
        have HR := hr_neg HR c26
        refine R_ret hM32 rfl (.cons (.cell _ _ 0 0 (.agg #[.bool bP, .slice (some ⟨b18, off19, none⟩) (Int.toNat k) cP]) (by kernel_rfl)) .nil) rfl ?_
        exact hM32.retN 0 rfl (by rw [List.length_take]; omega) (by omega) HR
  · refine S_val (.bool false) (by kernel_rfl) (S_skip (by kernel_rfl) (S_skip (by kernel_rfl) (S_skip (by kernel_rfl) (S_skip (by kernel_rfl) (S_skip (by kernel_rfl) (S_skip (by kernel_rfl) (S_skip (by kernel_rfl) (S_val (.bool false) (by kernel_rfl) (S_nil (R_no (by kernel_rfl) (R_exit rfl (?_))))))))))))
    have HE14 := hq_neg HE14 c15
    subst HE14
    refine R_seq (R_region (S_val (.pointer (some ⟨g1, 1, none⟩)) (by kernel_rfl) (S_load 1 1 (.slice AP (List.length lP) cP) hM11 (by kernel_rfl) (S_val (.int .i64 k) (by kernel_rfl) (?_)))))
    have hM23 := hM11.know ((hM11.fz 1 rfl).cut (Int.toNat k))
    refine S_cut 3 AP (List.length lP) cP k (by omega) (by kernel_rfl) (S_val (.pointer (some ⟨g1, 1, none⟩)) (by kernel_rfl) (S_store 1 1 #[.bool bP, .slice AP (Int.toNat k) cP] hM23 (by kernel_rfl) (fun w24 hM25 => S_nil (R_seq (R_seq (R_region (S_val (.int .i64 k) (by kernel_rfl) (?_))))))))
    refine S_dec (k = 0) (by kernel_rfl) (fun c26 => ?_) (fun c26 => ?_)
    · refine S_nil (R_yes (by kernel_rfl) (R_region (S_val (.pointer (some ⟨g1, 0, none⟩)) (by kernel_rfl) (S_store 1 0 #[.bool false, .slice AP (Int.toNat k) cP] hM25 (by kernel_rfl) (fun w27 hM28 => S_nil (R_seq (R_region (S_load 1 0 (.agg #[.bool false, .slice AP (Int.toNat k) cP]) hM28 (by kernel_rfl) (S_store 0 0 #[.bool false, .slice AP (Int.toNat k) cP] hM28 (by kernel_rfl) (fun w29 hM30 => S_nil (?_)))))))))))
      have HR := hr_pos HR c26
      refine R_ret hM30 rfl (.cons (.cell _ _ 0 0 (.agg #[.bool false, .slice AP (Int.toNat k) cP]) (by kernel_rfl)) .nil) rfl ?_
      exact hM30.retN 0 rfl (by rw [List.length_take]; omega) (by omega) HR
    · refine S_nil (R_no (by kernel_rfl) (R_skip (R_seq (R_region (S_load 1 0 (.agg #[.bool bP, .slice AP (Int.toNat k) cP]) hM25 (by kernel_rfl) (S_store 0 0 #[.bool bP, .slice AP (Int.toNat k) cP] hM25 (by kernel_rfl) (fun w31 hM32 => S_nil (?_))))))))
      have HR := hr_neg HR c26
      refine R_ret hM32 rfl (.cons (.cell _ _ 0 0 (.agg #[.bool bP, .slice AP (Int.toNat k) cP]) (by kernel_rfl)) .nil) rfl ?_
      exact hM32.retN 0 rfl (by rw [List.length_take]; omega) (by omega) HR

def e_umbraref01_From (r : Bool × List Int) : Bool × List Int := r
def s_umbraref01_From (u : Int) : Bool × List Int :=
  lt (bits .and .u64 u 65535) fun x4 =>
  lt (IntKind.i64.wrap x4) fun x6 =>
  lt (Int.fdiv u (2 ^ 16)) fun x8 =>
  lt (bits .and .u64 x8 65535) fun x10 =>
  lt (IntKind.i64.wrap x10) fun x12 =>
  lt (Int.fdiv u (2 ^ 32)) fun x14 =>
  lt (bits .and .u64 x14 65535) fun x16 =>
  lt (IntKind.i64.wrap x16) fun x18 =>
  lt (Int.fdiv u (2 ^ 48)) fun x20 =>
  lt (IntKind.i64.wrap x20) fun x22 =>
  lt (s_umbraref01_trim false ([x6, x12, x18, x22])) fun r28 =>
  (r28.1, r28.2)
set_option maxRecDepth 100000 in
set_option maxHeartbeats 4000000 in
theorem w_umbraref01_From (u : Int) (h_u : InU u)    (w : World)  : Calls Try.prog 88 #[.int .u64 u] w (RetN w [] (e_umbraref01_From (s_umbraref01_From u))) := by
  obtain ⟨R, HR⟩ : ∃ R, e_umbraref01_From (s_umbraref01_From u) = R := ⟨_, rfl⟩
  rw [HR]
  unfold s_umbraref01_From at HR
  have hM0 := St.startN (w := w) [] ents0
  refine calls_run Try.func88 rfl ?_
  refine R_seq (R_region (S_fresh none #[.bool false, .slice none 0 0] 113 hM0 (by kernel_rfl) (fun g1 w2 hM3 => S_nil (R_seq (R_region (S_val (.int .u64 u) (by kernel_rfl) (S_int (bits .and .u64 u 65535) .u64 (by kernel_rfl) (fun x4 h5 => S_int (IntKind.i64.wrap x4) .i64 (by kernel_rfl) (fun x6 h7 => S_val (.int .u64 u) (by kernel_rfl) (S_int (Int.fdiv u (2 ^ 16)) .u64 (by kernel_rfl) (fun x8 h9 => S_int (bits .and .u64 x8 65535) .u64 (by kernel_rfl) (fun x10 h11 => ?_))))))))))))
  have HR := hr_lt HR h5
  have HR := hr_lt HR h7
  have HR := hr_lt HR h9
  have HR := hr_lt HR h11
  refine S_int (IntKind.i64.wrap x10) .i64 (by kernel_rfl) (fun x12 h13 => S_val (.int .u64 u) (by kernel_rfl) (S_int (Int.fdiv u (2 ^ 32)) .u64 (by kernel_rfl) (fun x14 h15 => S_int (bits .and .u64 x14 65535) .u64 (by kernel_rfl) (fun x16 h17 => S_int (IntKind.i64.wrap x16) .i64 (by kernel_rfl) (fun x18 h19 => S_val (.int .u64 u) (by kernel_rfl) (S_int (Int.fdiv u (2 ^ 48)) .u64 (by kernel_rfl) (fun x20 h21 => S_int (IntKind.i64.wrap x20) .i64 (by kernel_rfl) (fun x22 h23 => S_fresh (some 4) #[.int .i64 x6, .int .i64 x12, .int .i64 x18, .int .i64 x22] 3 hM3 (by kernel_rfl) (fun g24 w25 hM26 => S_val (.agg #[.bool false, .slice (some ⟨g24, 0, none⟩) 4 4]) (by kernel_rfl) (?_))))))))))
  have HR := hr_lt HR h13
  have HR := hr_lt HR h15
  have HR := hr_lt HR h17
  have HR := hr_lt HR h19
  have HR := hr_lt HR h21
  have HR := hr_lt HR h23
  have hM27 := hM26.freeze 0 ([x6, x12, x18, x22]) [] (by kernel_rfl)
  refine S_callN (s_umbraref01_trim false ([x6, x12, x18, x22])) [((some ⟨g24, 0, none⟩), nv ([x6, x12, x18, x22]))] hM27 (w_umbraref01_trim false ([x6, x12, x18, x22]) (some ⟨g24, 0, none⟩) 4 4 rfl (by decide) (by first | omega | simp) w25 (hM27.ent 0 rfl)) (subc 0 rfl sub0) (by kernel_rfl) (fun r28 h29 A30 cap31 hc32 w33 hM34 => S_store 0 0 #[.bool r28.1, .slice A30 (List.length r28.2) cap31] hM34 (by kernel_rfl) (fun w35 hM36 => S_nil (?_)))
  have HR := hr_lt HR h29
  refine R_ret hM36 rfl (.cons (.cell _ _ 0 0 (.agg #[.bool r28.1, .slice A30 (List.length r28.2) cap31]) (by kernel_rfl)) .nil) rfl ?_
  exact hM36.retN 0 rfl rfl hc32 HR

def e_umbraref01_size (r : Int) : Value := .int .i64 r
def L2_umbraref01_size (bP : Bool) (lP : List (Int)) (bQ : Bool) (lQ : List (Int)) : Nat → (Int) → Int
  | 0, _ => default
  | f11 + 1, k =>
    if k ≥ 0 then
      lt (s_umbraref01_digit bP lP k) fun r23 =>
      lt (s_umbraref01_digit bQ lQ k) fun r27 =>
      if r23 < r27 then
        (-1)
      else
        if r23 > r27 then
          1
        else
          lt (IntKind.i64.wrap (k - 1)) fun x33 =>
          L2_umbraref01_size bP lP bQ lQ f11 x33
    else
      0
def s_umbraref01_size (bP : Bool) (lP : List (Int)) (bQ : Bool) (lQ : List (Int)) : Int :=
  lt (gmax (List.length lP : Int) (List.length lQ : Int)) fun x7 =>
  lt (IntKind.i64.wrap (x7 - 1)) fun x9 =>
  L2_umbraref01_size bP lP bQ lQ (Int.toNat (x9 + 1) + 1) x9
set_option maxRecDepth 100000 in
set_option maxHeartbeats 4000000 in
theorem w_umbraref01_size (bP : Bool) (lP : List (Int)) (bQ : Bool) (lQ : List (Int))  (AP : Option Addr) (nP cP : Nat) (AQ : Option Addr) (nQ cQ : Nat) (hnP : nP = List.length lP) (hcP : nP ≤ cP) (hnQ : nQ = List.length lQ) (hcQ : nQ ≤ cQ) (hl : List.length lP ≤ 1000) (hm : List.length lQ ≤ 1000) (w : World) (hAP : Ent w (AP, nv lP)) (hAQ : Ent w (AQ, nv lQ)) : Calls Try.prog 85 #[.agg #[.bool bP, .slice AP nP cP], .agg #[.bool bQ, .slice AQ nQ cQ]] w (Ret (e_umbraref01_size (s_umbraref01_size bP lP bQ lQ)) w) := by
  subst hnP
  subst hnQ
  obtain ⟨R, HR⟩ : ∃ R, e_umbraref01_size (s_umbraref01_size bP lP bQ lQ) = R := ⟨_, rfl⟩
  rw [HR]
  unfold s_umbraref01_size at HR
  have hM0 := St.startN (w := w) [(AP, nv lP), (AQ, nv lQ)] (ents hAP (ents hAQ ents0))
  refine calls_run Try.func85 rfl ?_
  refine R_seq (R_region (S_fresh none #[.bool bP, .slice AP (List.length lP) cP] 113 hM0 (by kernel_rfl) (fun g1 w2 hM3 => S_fresh none #[.bool bQ, .slice AQ (List.length lQ) cQ] 113 hM3 (by kernel_rfl) (fun g4 w5 hM6 => S_val (.int .i64 0) (by kernel_rfl) (S_nil (R_seq (R_seq (R_region (S_val (.pointer (some ⟨g1, 1, none⟩)) (by kernel_rfl) (S_load 1 1 (.slice AP (List.length lP) cP) hM6 (by kernel_rfl) (S_val (.int .i64 (List.length lP : Int)) (by kernel_rfl) (?_))))))))))))
  refine S_val (.pointer (some ⟨g4, 1, none⟩)) (by kernel_rfl) (S_load 0 1 (.slice AQ (List.length lQ) cQ) hM6 (by kernel_rfl) (S_val (.int .i64 (List.length lQ : Int)) (by kernel_rfl) (S_int (gmax (List.length lP : Int) (List.length lQ : Int)) .i64 (by kernel_rfl) (fun x7 h8 => S_int (IntKind.i64.wrap (x7 - 1)) .i64 (by kernel_rfl) (fun x9 h10 => S_val (.int .i64 x9) (by kernel_rfl) (S_nil (R_block (?_))))))))
  have HR := hr_lt HR h8
  have HR := hr_lt HR h10
  have hw_x9 := h10; rw [wrI] at hw_x9; unfold wrap64 at hw_x9
  have hw_x7 := h8; rw [gmax_eq] at hw_x7
  refine R_fuel (fun m12 a13 w14 => ∃ (k : Int) (u1 : List Value), a13 = { tmps := #[.agg #[.bool bP, .slice AP (List.length lP) cP], .agg #[.bool bQ, .slice AQ (List.length lQ) cQ], .pointer (some ⟨g1, 0, none⟩), .pointer (some ⟨g4, 0, none⟩), (gv u1 0), .int .i64 k, (gv u1 1), (gv u1 2), .pointer (some ⟨g1, 1, none⟩), .slice AP (List.length lP) cP, .int .i64 (List.length lP : Int), .pointer (some ⟨g4, 1, none⟩), .slice AQ (List.length lQ) cQ, .int .i64 (List.length lQ : Int), .int .i64 x7, .int .i64 x9, (gv u1 3), (gv u1 4), (gv u1 5), (gv u1 6), (gv u1 7), (gv u1 8), (gv u1 9), (gv u1 10), (gv u1 11), (gv u1 12), (gv u1 13), (gv u1 14), (gv u1 15), (gv u1 16), (gv u1 17), (gv u1 18)], defers := [] } ∧ St ⟨w, [(AP, nv lP), (AQ, nv lQ)], [(none, nv ([])), (AP, nv lP), (AQ, nv lQ)]⟩ [⟨g4, #[.bool bQ, .slice AQ (List.length lQ) cQ], 113, (0, 0), true⟩, ⟨g1, #[.bool bP, .slice AP (List.length lP) cP], 113, (0, 0), true⟩] w14 ∧ k + 1 < (m12 : Int) ∧ ((-1 ≤ k ∧ k < 1000)) ∧ e_umbraref01_size (L2_umbraref01_size bP lP bQ lQ m12 k) = R) (Int.toNat (x9 + 1) + 1) ⟨x9, [.int .i64 0, undef, undef, undef, undef, undef, undef, undef, undef, undef, undef, undef, undef, undef, undef, undef, undef, undef, undef], by kernel_rfl, hM6, by omega, (by omega), HR⟩ ?_
  rintro m12 a13 w14 ⟨k, u1, rfl, hM15, hmu1, hk_1, HR⟩ hnext16
  obtain ⟨f11, rfl⟩ : ∃ f, m12 = f + 1 := ⟨m12 - 1, by omega⟩
  rw [L2_umbraref01_size] at HR
  refine R_seq (R_seq (R_region (S_val (.int .i64 k) (by kernel_rfl) (?_))))
  refine S_dec (k ≥ 0) (by kernel_rfl) (fun c17 => ?_) (fun c17 => ?_)
  · refine S_nil (R_yes (by kernel_rfl) (R_skip (R_seq (R_block (R_seq (R_drawF 8 (by kernel_rfl) (fun F18 U19 hL20 => F_load 1 0 (.agg #[.bool bP, .slice AP (List.length lP) cP]) hM15 (by kernel_rfl) (F_val (.int .i64 k) (fun _ => by kernel_rfl) (F_call (s_umbraref01_digit bP lP k) (fun r : Int => .int .i64 r) hM15 hL20 (fun w' hM' => w_umbraref01_digit bP lP k AP (List.length lP) cP rfl hcP (by omega) w' (hM'.ent 1 rfl)) (by kernel_rfl) (fun _ => by kernel_rfl) (fun r23 h24 => F_load 0 0 (.agg #[.bool bQ, .slice AQ (List.length lQ) cQ]) hM15 (by kernel_rfl) (F_val (.int .i64 k) (fun _ => by kernel_rfl) (?_))))))))))))
    have HR := hr_pos HR c17
    have HR := hr_lt HR h24
    refine F_call (s_umbraref01_digit bQ lQ k) (fun r : Int => .int .i64 r) hM15 hL20 (fun w' hM' => w_umbraref01_digit bQ lQ k AQ (List.length lQ) cQ rfl hcQ (by omega) w' (hM'.ent 2 rfl)) (by kernel_rfl) (fun _ => by kernel_rfl) (fun r27 h28 => F_val (.int .i64 r23) (fun _ => by kernel_rfl) (F_val (.int .i64 r27) (fun _ => by kernel_rfl) (F_nil hM15 hL20 (fun w29 hM30 => S_nil (R_seq (R_seq (R_region (S_val (.int .i64 r23) (by kernel_rfl) (S_val (.int .i64 r27) (by kernel_rfl) (?_))))))))))
    have HR := hr_lt HR h28
    refine S_dec (r23 < r27) (by kernel_rfl) (fun c31 => ?_) (fun c31 => ?_)
    · refine S_nil (R_yes (by kernel_rfl) (R_seq (R_region (S_val (.int .i64 (-1)) (by kernel_rfl) (S_nil (?_))))))
      have HR := hr_pos HR c31
      refine R_ret hM30 rfl (.cons (.tmp _ (.int .i64 (-1)) (by kernel_rfl)) .nil) rfl ?_
      exact ⟨congrArg Ending.returned HR, hM30.below⟩
    · refine S_nil (R_no (by kernel_rfl) (R_skip (R_seq (R_region (S_val (.int .i64 r23) (by kernel_rfl) (S_val (.int .i64 r27) (by kernel_rfl) (?_)))))))
      have HR := hr_neg HR c31
      refine S_dec (r23 > r27) (by kernel_rfl) (fun c32 => ?_) (fun c32 => ?_)
      · refine S_nil (R_yes (by kernel_rfl) (R_seq (R_region (S_val (.int .i64 1) (by kernel_rfl) (S_nil (?_))))))
        have HR := hr_pos HR c32
        refine R_ret hM30 rfl (.cons (.tmp _ (.int .i64 1) (by kernel_rfl)) .nil) rfl ?_
        exact ⟨congrArg Ending.returned HR, hM30.below⟩
      · refine S_nil (R_no (by kernel_rfl) (R_skip (R_inBlock (R_region (S_val (.int .i64 k) (by kernel_rfl) (S_int (IntKind.i64.wrap (k - 1)) .i64 (by kernel_rfl) (fun x33 h34 => S_val (.int .i64 x33) (by kernel_rfl) (S_nil (?_)))))))))
        have HR := hr_neg HR c32
        have HR := hr_lt HR h34
        have hw_x33 := h34; rw [wrI] at hw_x33; unfold wrap64 at hw_x33
        exact hnext16 f11 _ _ (Nat.lt_succ_self _) ⟨x33, [(gv u1 0), .int .i64 r23, .int .i64 r27, .int .i64 k, .bool true, .int .i64 k, .int .i64 x33, .agg #[.bool bP, .slice AP (List.length lP) cP], .int .i64 k, .int .i64 r23, .agg #[.bool bQ, .slice AQ (List.length lQ) cQ], .int .i64 k, .int .i64 r27, .int .i64 r23, .int .i64 r27, .bool false, .int .i64 r23, .int .i64 r27, .bool false], by kernel_rfl, hM30, by omega, (by omega), HR⟩
  · refine S_nil (R_no (by kernel_rfl) (R_exit rfl (R_seq (R_region (S_val (.int .i64 0) (by kernel_rfl) (S_nil (?_)))))))
    have HR := hr_neg HR c17
    refine R_ret hM15 rfl (.cons (.tmp _ (.int .i64 0) (by kernel_rfl)) .nil) rfl ?_
    exact ⟨congrArg Ending.returned HR, hM15.below⟩

def e_umbraref01_Sum_1 (r : Bool × List Int) : Bool × List Int := r
def L6_umbraref01_Sum_1_d (bP : Bool) (lP : List (Int)) (bQ : Bool) (lQ : List (Int)) : Nat → (Int) → (Int) → (List Int) → (Int × Int × List Int)
  | 0, _, _, _ => default
  | f31 + 1, k, carry, o =>
    lt (gmax (List.length lP : Int) (List.length lQ : Int)) fun x43 =>
    if k < x43 then
      lt (s_umbraref01_digit bP lP k) fun r51 =>
      lt (s_umbraref01_digit bQ lQ k) fun r55 =>
      lt (IntKind.i64.wrap (r51 + r55)) fun x57 =>
      lt (IntKind.i64.wrap (x57 + carry)) fun x59 =>
      lt (s_umbraref01_digit bP lP k) fun r68 =>
      lt (s_umbraref01_digit bQ lQ k) fun r72 =>
      lt (IntKind.i64.wrap (r68 - r72)) fun x74 =>
      lt (IntKind.i64.wrap (x74 + carry)) fun x76 =>
      if x76 < 0 then
        lt (IntKind.i64.wrap (x76 + 65536)) fun x81 =>
        if x81 > 65535 then
          lt (IntKind.i64.wrap (x81 - 65536)) fun x84 =>
          lt (o ++ [x84]) fun l95 =>
          lt (IntKind.i64.wrap (k + 1)) fun x99 =>
          L6_umbraref01_Sum_1_d bP lP bQ lQ f31 x99 1 l95
        else
          lt (o ++ [x81]) fun l111 =>
          lt (IntKind.i64.wrap (k + 1)) fun x115 =>
          L6_umbraref01_Sum_1_d bP lP bQ lQ f31 x115 (-1) l111
      else
        if x76 > 65535 then
          lt (IntKind.i64.wrap (x76 - 65536)) fun x119 =>
          lt (o ++ [x119]) fun l130 =>
          lt (IntKind.i64.wrap (k + 1)) fun x134 =>
          L6_umbraref01_Sum_1_d bP lP bQ lQ f31 x134 1 l130
        else
          lt (o ++ [x76]) fun l146 =>
          lt (IntKind.i64.wrap (k + 1)) fun x150 =>
          L6_umbraref01_Sum_1_d bP lP bQ lQ f31 x150 0 l146
    else
      (k, carry, o)
def L6_umbraref01_Sum_1_s (bP : Bool) (lP : List (Int)) (bQ : Bool) (lQ : List (Int)) : Nat → (Int) → (Int) → (List Int) → (Int × Int × List Int)
  | 0, _, _, _ => default
  | f303 + 1, k, carry, o =>
    lt (gmax (List.length lP : Int) (List.length lQ : Int)) fun x315 =>
    if k < x315 then
      lt (s_umbraref01_digit bP lP k) fun r323 =>
      lt (s_umbraref01_digit bQ lQ k) fun r327 =>
      lt (IntKind.i64.wrap (r323 + r327)) fun x329 =>
      lt (IntKind.i64.wrap (x329 + carry)) fun x331 =>
      if x331 < 0 then
        lt (IntKind.i64.wrap (x331 + 65536)) fun x336 =>
        if x336 > 65535 then
          lt (IntKind.i64.wrap (x336 - 65536)) fun x339 =>
          lt (o ++ [x339]) fun l350 =>
          lt (IntKind.i64.wrap (k + 1)) fun x354 =>
          L6_umbraref01_Sum_1_s bP lP bQ lQ f303 x354 1 l350
        else
          lt (o ++ [x336]) fun l366 =>
          lt (IntKind.i64.wrap (k + 1)) fun x370 =>
          L6_umbraref01_Sum_1_s bP lP bQ lQ f303 x370 (-1) l366
      else
        if x331 > 65535 then
          lt (IntKind.i64.wrap (x331 - 65536)) fun x374 =>
          lt (o ++ [x374]) fun l385 =>
          lt (IntKind.i64.wrap (k + 1)) fun x389 =>
          L6_umbraref01_Sum_1_s bP lP bQ lQ f303 x389 1 l385
        else
          lt (o ++ [x331]) fun l401 =>
          lt (IntKind.i64.wrap (k + 1)) fun x405 =>
          L6_umbraref01_Sum_1_s bP lP bQ lQ f303 x405 0 l401
    else
      (k, carry, o)
def s_umbraref01_Sum_1 (bP : Bool) (lP : List (Int)) (bQ : Bool) (lQ : List (Int)) : Bool × List Int :=
  if bP = bQ then
    lt (gmax (List.length lP : Int) (List.length lQ : Int)) fun x442 =>
    if 0 < x442 then
      lt (s_umbraref01_digit bP lP 0) fun r450 =>
      lt (s_umbraref01_digit bQ lQ 0) fun r454 =>
      lt (IntKind.i64.wrap (r450 + r454)) fun x456 =>
      lt (IntKind.i64.wrap (x456 + 0)) fun x458 =>
      if x458 < 0 then
        lt (IntKind.i64.wrap (x458 + 65536)) fun x463 =>
        if x463 > 65535 then
          lt (IntKind.i64.wrap (x463 - 65536)) fun x466 =>
          lt (L6_umbraref01_Sum_1_s bP lP bQ lQ (Int.toNat (1000 - 1) + 1) 1 1 ([x466])) fun E309 =>
          if E309.2.1 > 0 then
            lt (E309.2.2 ++ [E309.2.1]) fun l418 =>
            lt (s_umbraref01_trim bP l418) fun r423 =>
            (r423.1, r423.2)
          else
            lt (s_umbraref01_trim bP E309.2.2) fun r433 =>
            (r433.1, r433.2)
        else
          lt (L6_umbraref01_Sum_1_s bP lP bQ lQ (Int.toNat (1000 - 1) + 1) 1 (-1) ([x463])) fun E309 =>
          if E309.2.1 > 0 then
            lt (E309.2.2 ++ [E309.2.1]) fun l418 =>
            lt (s_umbraref01_trim bP l418) fun r423 =>
            (r423.1, r423.2)
          else
            lt (s_umbraref01_trim bP E309.2.2) fun r433 =>
            (r433.1, r433.2)
      else
        if x458 > 65535 then
          lt (IntKind.i64.wrap (x458 - 65536)) fun x493 =>
          lt (L6_umbraref01_Sum_1_s bP lP bQ lQ (Int.toNat (1000 - 1) + 1) 1 1 ([x493])) fun E309 =>
          if E309.2.1 > 0 then
            lt (E309.2.2 ++ [E309.2.1]) fun l418 =>
            lt (s_umbraref01_trim bP l418) fun r423 =>
            (r423.1, r423.2)
          else
            lt (s_umbraref01_trim bP E309.2.2) fun r433 =>
            (r433.1, r433.2)
        else
          lt (L6_umbraref01_Sum_1_s bP lP bQ lQ (Int.toNat (1000 - 1) + 1) 1 0 ([x458])) fun E309 =>
          if E309.2.1 > 0 then
            lt (E309.2.2 ++ [E309.2.1]) fun l418 =>
            lt (s_umbraref01_trim bP l418) fun r423 =>
            (r423.1, r423.2)
          else
            lt (s_umbraref01_trim bP E309.2.2) fun r433 =>
            (r433.1, r433.2)
    else
      lt (s_umbraref01_trim bP ([])) fun r519 =>
      (r519.1, r519.2)
  else
    lt (s_umbraref01_size bP lP bQ lQ) fun r13 =>
    if r13 < 0 then
      default
    else
      lt (gmax (List.length lP : Int) (List.length lQ : Int)) fun x187 =>
      if 0 < x187 then
        lt (s_umbraref01_digit bP lP 0) fun r195 =>
        lt (s_umbraref01_digit bQ lQ 0) fun r199 =>
        lt (IntKind.i64.wrap (r195 + r199)) fun x201 =>
        lt (IntKind.i64.wrap (x201 + 0)) fun x203 =>
        lt (s_umbraref01_digit bP lP 0) fun r212 =>
        lt (s_umbraref01_digit bQ lQ 0) fun r216 =>
        lt (IntKind.i64.wrap (r212 - r216)) fun x218 =>
        lt (IntKind.i64.wrap (x218 + 0)) fun x220 =>
        if x220 < 0 then
          lt (IntKind.i64.wrap (x220 + 65536)) fun x225 =>
          if x225 > 65535 then
            lt (IntKind.i64.wrap (x225 - 65536)) fun x228 =>
            lt (L6_umbraref01_Sum_1_d bP lP bQ lQ (Int.toNat (1000 - 1) + 1) 1 1 ([x228])) fun E37 =>
            if E37.2.1 > 0 then
              lt (E37.2.2 ++ [E37.2.1]) fun l163 =>
              lt (s_umbraref01_trim bP l163) fun r168 =>
              (r168.1, r168.2)
            else
              lt (s_umbraref01_trim bP E37.2.2) fun r178 =>
              (r178.1, r178.2)
          else
            lt (L6_umbraref01_Sum_1_d bP lP bQ lQ (Int.toNat (1000 - 1) + 1) 1 (-1) ([x225])) fun E37 =>
            if E37.2.1 > 0 then
              lt (E37.2.2 ++ [E37.2.1]) fun l163 =>
              lt (s_umbraref01_trim bP l163) fun r168 =>
              (r168.1, r168.2)
            else
              lt (s_umbraref01_trim bP E37.2.2) fun r178 =>
              (r178.1, r178.2)
        else
          if x220 > 65535 then
            lt (IntKind.i64.wrap (x220 - 65536)) fun x255 =>
            lt (L6_umbraref01_Sum_1_d bP lP bQ lQ (Int.toNat (1000 - 1) + 1) 1 1 ([x255])) fun E37 =>
            if E37.2.1 > 0 then
              lt (E37.2.2 ++ [E37.2.1]) fun l163 =>
              lt (s_umbraref01_trim bP l163) fun r168 =>
              (r168.1, r168.2)
            else
              lt (s_umbraref01_trim bP E37.2.2) fun r178 =>
              (r178.1, r178.2)
          else
            lt (L6_umbraref01_Sum_1_d bP lP bQ lQ (Int.toNat (1000 - 1) + 1) 1 0 ([x220])) fun E37 =>
            if E37.2.1 > 0 then
              lt (E37.2.2 ++ [E37.2.1]) fun l163 =>
              lt (s_umbraref01_trim bP l163) fun r168 =>
              (r168.1, r168.2)
            else
              lt (s_umbraref01_trim bP E37.2.2) fun r178 =>
              (r178.1, r178.2)
      else
        lt (s_umbraref01_trim bP ([])) fun r281 =>
        (r281.1, r281.2)
set_option maxRecDepth 100000 in
set_option maxHeartbeats 4000000 in
theorem w_umbraref01_Sum_1 (bP : Bool) (lP : List (Int)) (bQ : Bool) (lQ : List (Int))  (AP : Option Addr) (nP cP : Nat) (AQ : Option Addr) (nQ cQ : Nat) (hnP : nP = List.length lP) (hcP : nP ≤ cP) (hnQ : nQ = List.length lQ) (hcQ : nQ ≤ cQ) (hl : List.length lP ≤ 1000) (hm : List.length lQ ≤ 1000) (hsz : ¬ (¬ bP = bQ ∧ s_umbraref01_size bP lP bQ lQ < 0)) (w : World) (hAP : Ent w (AP, nv lP)) (hAQ : Ent w (AQ, nv lQ)) : Calls Try.prog 55 #[.agg #[.bool bP, .slice AP nP cP], .agg #[.bool bQ, .slice AQ nQ cQ]] w (RetN w [(AP, nv lP), (AQ, nv lQ)] (e_umbraref01_Sum_1 (s_umbraref01_Sum_1 bP lP bQ lQ))) := by
  subst hnP
  subst hnQ
  obtain ⟨R, HR⟩ : ∃ R, e_umbraref01_Sum_1 (s_umbraref01_Sum_1 bP lP bQ lQ) = R := ⟨_, rfl⟩
  rw [HR]
  unfold s_umbraref01_Sum_1 at HR
  have hM0 := St.startN (w := w) [(AP, nv lP), (AQ, nv lQ)] (ents hAP (ents hAQ ents0))
  refine calls_run Try.func55 rfl ?_
  refine R_seq (R_region (S_fresh none #[.bool bP, .slice AP (List.length lP) cP] 113 hM0 (by kernel_rfl) (fun g1 w2 hM3 => S_fresh none #[.bool bQ, .slice AQ (List.length lQ) cQ] 113 hM3 (by kernel_rfl) (fun g4 w5 hM6 => S_fresh none #[.bool false, .slice none 0 0] 113 hM6 (by kernel_rfl) (fun g7 w8 hM9 => S_nil (R_seq (R_seq (R_region (S_val (.pointer (some ⟨g1, 0, none⟩)) (by kernel_rfl) (S_load 2 0 (.bool bP) hM9 (by kernel_rfl) (S_val (.pointer (some ⟨g4, 0, none⟩)) (by kernel_rfl) (?_))))))))))))
  refine S_load 1 0 (.bool bQ) hM9 (by kernel_rfl) (?_)
  refine S_decn (bP = bQ) (by kernel_rfl) (fun c10 => ?_) (fun c10 => ?_)
  · refine S_val (.bool true) (by kernel_rfl) (S_load 2 0 (.agg #[.bool bP, .slice AP (List.length lP) cP]) hM9 (by kernel_rfl) (S_load 1 0 (.agg #[.bool bQ, .slice AQ (List.length lQ) cQ]) hM9 (by kernel_rfl) (S_call (s_umbraref01_size bP lP bQ lQ) (fun r : Int => .int .i64 r) hM9 (w_umbraref01_size bP lP bQ lQ AP (List.length lP) cP AQ (List.length lQ) cQ rfl hcP rfl hcQ (by omega) (by omega) w8 (hM9.ent 1 rfl) (hM9.ent 2 rfl)) (by kernel_rfl) (fun r13 h14 w15 hM16 => ?_))))
    have HR := hr_neg HR c10
    have HR := hr_lt HR h14
    refine S_dec (r13 < 0) (by kernel_rfl) (fun c17 => ?_) (fun c17 => ?_)
    · exact absurd ⟨c10, by rw [h14]; exact c17⟩ hsz
    · refine S_val (.bool false) (by kernel_rfl) (S_nil (R_no (by kernel_rfl) (R_skip (R_seq (R_region (S_val (.pointer (some ⟨g1, 0, none⟩)) (by kernel_rfl) (S_load 2 0 (.bool bP) hM16 (by kernel_rfl) (S_val (.agg #[.bool bP, .slice none 0 0]) (by kernel_rfl) (S_fresh none #[.bool false, .slice none 0 0] 113 hM16 (by kernel_rfl) (fun g18 w19 hM20 => S_store 0 0 #[.bool bP, .slice none 0 0] hM20 (by kernel_rfl) (fun w21 hM22 => S_nil (?_))))))))))))
      have HR := hr_neg HR c17
      refine R_seq (R_region (S_val (.int .i64 0) (by kernel_rfl) (S_nil (R_seq (R_seq (R_region (S_val (.int .i64 0) (by kernel_rfl) (S_nil (R_block (?_))))))))))
      refine R_peelJ (fun a30 w23 => ∃ (c0 : Int) (y0 : Int) (g26 : Nat) (cap27 : Nat) (rest28 : List Value) (u1 : List Value), a30 = { tmps := #[.agg #[.bool bP, .slice AP (List.length lP) cP], .agg #[.bool bQ, .slice AQ (List.length lQ) cQ], .pointer (some ⟨g1, 0, none⟩), .pointer (some ⟨g4, 0, none⟩), .pointer (some ⟨g7, 0, none⟩), .pointer (some ⟨g18, 0, none⟩), .int .i64 c0, .int .i64 1, (gv u1 1), .pointer (some ⟨g1, 0, none⟩), .bool bP, .pointer (some ⟨g4, 0, none⟩), .bool bQ, .bool true, .bool true, .agg #[.bool bP, .slice AP (List.length lP) cP], .agg #[.bool bQ, .slice AQ (List.length lQ) cQ], .int .i64 r13, .bool false, .bool false, undef, undef, undef, .pointer (some ⟨g1, 0, none⟩), .bool bP, .agg #[.bool bP, .slice none 0 0], (gv u1 2), (gv u1 3), (gv u1 4), (gv u1 5), (gv u1 6), (gv u1 7), (gv u1 8), (gv u1 9), (gv u1 10), (gv u1 11), (gv u1 12), (gv u1 13), (gv u1 14), (gv u1 15), (gv u1 16), (gv u1 17), (gv u1 18), (gv u1 19), (gv u1 20), (gv u1 21), (gv u1 22), (gv u1 23), (gv u1 24), (gv u1 25), (gv u1 26), (gv u1 27), (gv u1 28), (gv u1 29), (gv u1 30), (gv u1 31), (gv u1 32), (gv u1 33), (gv u1 34), (gv u1 35), (gv u1 36), (gv u1 37), (gv u1 38), (gv u1 39), (gv u1 40), (gv u1 41), (gv u1 42), (gv u1 43), (gv u1 44), (gv u1 45), (gv u1 46), (gv u1 47), (gv u1 48), (gv u1 49), undef, undef, undef, undef, undef, undef, undef, undef, undef, undef], defers := [] } ∧ St ⟨w, [(AP, nv lP), (AQ, nv lQ)], [(none, nv ([])), (AP, nv lP), (AQ, nv lQ)]⟩ [⟨g26, ⟨nv ([y0]) ++ rest28⟩, 3, (0, 0), true⟩, ⟨g18, #[.bool bP, .slice (some ⟨g26, 0, none⟩) 1 cap27], 113, (0, 0), true⟩, ⟨g7, #[.bool false, .slice none 0 0], 113, (0, 0), true⟩, ⟨g4, #[.bool bQ, .slice AQ (List.length lQ) cQ], 113, (0, 0), true⟩, ⟨g1, #[.bool bP, .slice AP (List.length lP) cP], 113, (0, 0), true⟩] w23 ∧ SlOk 1 1 cap27 rest28 ∧ e_umbraref01_Sum_1 (
          lt (L6_umbraref01_Sum_1_d bP lP bQ lQ (Int.toNat (1000 - 1) + 1) 1 c0 ([y0])) fun E37 =>
          if E37.2.1 > 0 then
            lt (E37.2.2 ++ [E37.2.1]) fun l163 =>
            lt (s_umbraref01_trim bP l163) fun r168 =>
            (r168.1, r168.2)
          else
            lt (s_umbraref01_trim bP E37.2.2) fun r178 =>
            (r178.1, r178.2)
      ) = R) ?_ (fun hn25 => ?_)
      · rintro _ w23 ⟨c0, y0, g26, cap27, rest28, u1, rfl, hM24, ok29, HR⟩
        obtain ⟨E37, HE38⟩ : ∃ E, L6_umbraref01_Sum_1_d bP lP bQ lQ (Int.toNat (1000 - 1) + 1) 1 c0 ([y0]) = E := ⟨_, rfl⟩
        have HR := hr_lt HR HE38
        refine R_fuelI (fun m32 a33 w34 => ∃ (k : Int) (carry : Int) (o : List Int) (g39 : Nat) (cap40 : Nat) (rest41 : List Value) (u2 : List Value), a33 = { tmps := #[.agg #[.bool bP, .slice AP (List.length lP) cP], .agg #[.bool bQ, .slice AQ (List.length lQ) cQ], .pointer (some ⟨g1, 0, none⟩), .pointer (some ⟨g4, 0, none⟩), .pointer (some ⟨g7, 0, none⟩), .pointer (some ⟨g18, 0, none⟩), .int .i64 carry, .int .i64 k, (gv u2 0), .pointer (some ⟨g1, 0, none⟩), .bool bP, .pointer (some ⟨g4, 0, none⟩), .bool bQ, .bool true, .bool true, .agg #[.bool bP, .slice AP (List.length lP) cP], .agg #[.bool bQ, .slice AQ (List.length lQ) cQ], .int .i64 r13, .bool false, .bool false, undef, undef, undef, .pointer (some ⟨g1, 0, none⟩), .bool bP, .agg #[.bool bP, .slice none 0 0], (gv u2 1), (gv u2 2), (gv u2 3), (gv u2 4), (gv u2 5), (gv u2 6), (gv u2 7), (gv u2 8), (gv u2 9), (gv u2 10), (gv u2 11), (gv u2 12), (gv u2 13), (gv u2 14), (gv u2 15), (gv u2 16), (gv u2 17), (gv u2 18), (gv u2 19), (gv u2 20), (gv u2 21), (gv u2 22), (gv u2 23), (gv u2 24), (gv u2 25), (gv u2 26), (gv u2 27), (gv u2 28), (gv u2 29), (gv u2 30), (gv u2 31), (gv u2 32), (gv u2 33), (gv u2 34), (gv u2 35), (gv u2 36), (gv u2 37), (gv u2 38), (gv u2 39), (gv u2 40), (gv u2 41), (gv u2 42), (gv u2 43), (gv u2 44), (gv u2 45), (gv u2 46), (gv u2 47), (gv u2 48), undef, undef, undef, undef, undef, undef, undef, undef, undef, undef], defers := [] } ∧ St ⟨w, [(AP, nv lP), (AQ, nv lQ)], [(none, nv ([])), (AP, nv lP), (AQ, nv lQ)]⟩ [⟨g39, ⟨nv o ++ rest41⟩, 3, (0, 0), true⟩, ⟨g18, #[.bool bP, .slice (some ⟨g39, 0, none⟩) (List.length o) cap40], 113, (0, 0), true⟩, ⟨g7, #[.bool false, .slice none 0 0], 113, (0, 0), true⟩, ⟨g4, #[.bool bQ, .slice AQ (List.length lQ) cQ], 113, (0, 0), true⟩, ⟨g1, #[.bool bP, .slice AP (List.length lP) cP], 113, (0, 0), true⟩] w34 ∧ 1000 - k < (m32 : Int) ∧ (SlOk 1 (List.length o) cap40 rest41) ∧ ((1 ≤ k ∧ k ≤ 1000 ∧ (List.length o : Int) = k)) ∧ L6_umbraref01_Sum_1_d bP lP bQ lQ m32 k carry o = E37) (Int.toNat (1000 - 1) + 1) ⟨1, c0, ([y0]), g26, cap27, rest28, [(gv u1 1), (gv u1 2), (gv u1 3), (gv u1 4), (gv u1 5), (gv u1 6), (gv u1 7), (gv u1 8), (gv u1 9), (gv u1 10), (gv u1 11), (gv u1 12), (gv u1 13), (gv u1 14), (gv u1 15), (gv u1 16), (gv u1 17), (gv u1 18), (gv u1 19), (gv u1 20), (gv u1 21), (gv u1 22), (gv u1 23), (gv u1 24), (gv u1 25), (gv u1 26), (gv u1 27), (gv u1 28), (gv u1 29), (gv u1 30), (gv u1 31), (gv u1 32), (gv u1 33), (gv u1 34), (gv u1 35), (gv u1 36), (gv u1 37), (gv u1 38), (gv u1 39), (gv u1 40), (gv u1 41), (gv u1 42), (gv u1 43), (gv u1 44), (gv u1 45), (gv u1 46), (gv u1 47), (gv u1 48), (gv u1 49)], by kernel_rfl, hM24, by omega, ok29, (by simp only [List.length_cons, List.length_nil]; omega), HE38⟩ ?_
        rintro m32 a33 w34 ⟨k, carry, o, g39, cap40, rest41, u2, rfl, hM35, hmu2, ok42, hk_2, HE38⟩ hnext36
        obtain ⟨f31, rfl⟩ : ∃ f, m32 = f + 1 := ⟨m32 - 1, by omega⟩
        rw [L6_umbraref01_Sum_1_d] at HE38
        refine R_seq (R_seq (R_region (S_val (.int .i64 k) (by kernel_rfl) (S_val (.pointer (some ⟨g1, 1, none⟩)) (by kernel_rfl) (S_load 4 1 (.slice AP (List.length lP) cP) hM35 (by kernel_rfl) (S_val (.int .i64 (List.length lP : Int)) (by kernel_rfl) (S_val (.pointer (some ⟨g4, 1, none⟩)) (by kernel_rfl) (S_load 3 1 (.slice AQ (List.length lQ) cQ) hM35 (by kernel_rfl) (S_val (.int .i64 (List.length lQ : Int)) (by kernel_rfl) (S_int (gmax (List.length lP : Int) (List.length lQ : Int)) .i64 (by kernel_rfl) (fun x43 h44 => ?_)))))))))))
        have HE38 := hq_lt HE38 h44
        refine S_dec (k < x43) (by kernel_rfl) (fun c45 => ?_) (fun c45 => ?_)
        · refine S_nil (R_yes (by kernel_rfl) (R_skip (R_seq (R_block (R_seq (R_drawF 10 (by kernel_rfl) (fun F46 U47 hL48 => F_load 4 0 (.agg #[.bool bP, .slice AP (List.length lP) cP]) hM35 (by kernel_rfl) (F_val (.int .i64 k) (fun _ => by kernel_rfl) (F_call (s_umbraref01_digit bP lP k) (fun r : Int => .int .i64 r) hM35 hL48 (fun w' hM' => w_umbraref01_digit bP lP k AP (List.length lP) cP rfl hcP (by omega) w' (hM'.ent 1 rfl)) (by kernel_rfl) (fun _ => by kernel_rfl) (fun r51 h52 => F_load 3 0 (.agg #[.bool bQ, .slice AQ (List.length lQ) cQ]) hM35 (by kernel_rfl) (F_val (.int .i64 k) (fun _ => by kernel_rfl) (?_))))))))))))
          have HE38 := hq_pos HE38 c45
          have HE38 := hq_lt HE38 h52
          refine F_call (s_umbraref01_digit bQ lQ k) (fun r : Int => .int .i64 r) hM35 hL48 (fun w' hM' => w_umbraref01_digit bQ lQ k AQ (List.length lQ) cQ rfl hcQ (by omega) w' (hM'.ent 2 rfl)) (by kernel_rfl) (fun _ => by kernel_rfl) (fun r55 h56 => F_int (IntKind.i64.wrap (r51 + r55)) .i64 (fun _ => by kernel_rfl) (fun x57 h58 => F_val (.int .i64 carry) (fun _ => by kernel_rfl) (F_int (IntKind.i64.wrap (x57 + carry)) .i64 (fun _ => by kernel_rfl) (fun x59 h60 => F_val (.int .i64 x59) (fun _ => by kernel_rfl) (F_nil hM35 hL48 (fun w61 hM62 => S_nil (R_seq (R_seq (R_region (S_val (.pointer (some ⟨g1, 0, none⟩)) (by kernel_rfl) (S_load 4 0 (.bool bP) hM62 (by kernel_rfl) (?_))))))))))))
          have HE38 := hq_lt HE38 h56
          have HE38 := hq_lt HE38 h58
          have HE38 := hq_lt HE38 h60
          refine S_val (.pointer (some ⟨g4, 0, none⟩)) (by kernel_rfl) (S_load 3 0 (.bool bQ) hM62 (by kernel_rfl) (S_val (.bool true) (knF' c10 (by kernel_rfl)) (S_nil (R_yes (by kernel_rfl) (R_drawF 10 (by kernel_rfl) (fun F63 U64 hL65 => F_load 4 0 (.agg #[.bool bP, .slice AP (List.length lP) cP]) hM62 (by kernel_rfl) (F_val (.int .i64 k) (fun _ => by kernel_rfl) (F_call (s_umbraref01_digit bP lP k) (fun r : Int => .int .i64 r) hM62 hL65 (fun w' hM' => w_umbraref01_digit bP lP k AP (List.length lP) cP rfl hcP (by omega) w' (hM'.ent 1 rfl)) (by kernel_rfl) (fun _ => by kernel_rfl) (fun r68 h69 => F_load 3 0 (.agg #[.bool bQ, .slice AQ (List.length lQ) cQ]) hM62 (by kernel_rfl) (F_val (.int .i64 k) (fun _ => by kernel_rfl) (F_call (s_umbraref01_digit bQ lQ k) (fun r : Int => .int .i64 r) hM62 hL65 (fun w' hM' => w_umbraref01_digit bQ lQ k AQ (List.length lQ) cQ rfl hcQ (by omega) w' (hM'.ent 2 rfl)) (by kernel_rfl) (fun _ => by kernel_rfl) (fun r72 h73 => ?_))))))))))))
          have HE38 := hq_lt HE38 h69
          have HE38 := hq_lt HE38 h73
          refine F_int (IntKind.i64.wrap (r68 - r72)) .i64 (fun _ => by kernel_rfl) (fun x74 h75 => F_val (.int .i64 carry) (fun _ => by kernel_rfl) (F_int (IntKind.i64.wrap (x74 + carry)) .i64 (fun _ => by kernel_rfl) (fun x76 h77 => F_val (.int .i64 x76) (fun _ => by kernel_rfl) (F_nil hM62 hL65 (fun w78 hM79 => S_nil (R_seq (R_region (S_val (.int .i64 0) (by kernel_rfl) (S_nil (R_seq (R_seq (?_))))))))))))
          have HE38 := hq_lt HE38 h75
          have HE38 := hq_lt HE38 h77
          refine R_region (S_val (.int .i64 x76) (by kernel_rfl) (?_))
          refine S_dec (x76 < 0) (by kernel_rfl) (fun c80 => ?_) (fun c80 => ?_)
          · refine S_nil (R_yes (by kernel_rfl) (R_seq (R_region (S_val (.int .i64 x76) (by kernel_rfl) (S_int (IntKind.i64.wrap (x76 + 65536)) .i64 (by kernel_rfl) (fun x81 h82 => S_val (.int .i64 x81) (by kernel_rfl) (S_nil (R_region (S_val (.int .i64 (-1)) (by kernel_rfl) (S_nil (R_seq (?_))))))))))))
            have HE38 := hq_pos HE38 c80
            have HE38 := hq_lt HE38 h82
            refine R_seq (R_region (S_val (.int .i64 x81) (by kernel_rfl) (?_)))
            refine S_dec (x81 > 65535) (by kernel_rfl) (fun c83 => ?_) (fun c83 => ?_)
            · refine S_nil (R_yes (by kernel_rfl) (R_seq (R_region (S_val (.int .i64 x81) (by kernel_rfl) (S_int (IntKind.i64.wrap (x81 - 65536)) .i64 (by kernel_rfl) (fun x84 h85 => S_val (.int .i64 x84) (by kernel_rfl) (S_nil (R_region (S_val (.int .i64 1) (by kernel_rfl) (S_nil (R_region (?_))))))))))))
              have HE38 := hq_pos HE38 c83
              have HE38 := hq_lt HE38 h85
              refine S_val (.pointer (some ⟨g18, 1, none⟩)) (by kernel_rfl) (S_load 1 1 (.slice (some ⟨g39, 0, none⟩) (List.length o) cap40) hM79 (by kernel_rfl) (S_val (.int .i64 x84) (by kernel_rfl) (S_fresh (some 1) #[.int .i64 x84] 3 hM79 (by kernel_rfl) (fun g86 w87 hM88 => ?_))))
              refine S_appL 1 0 (List.length o) cap40 1 3 o rest41 x84 hM88 ok42 rfl (by omega) (by kernel_rfl) (fun g89 l95 h96 cap90 rest91 w92 ok93 hM94 => ?_)
              have hlen_l95 : List.length l95 = List.length o + 1 := by rw [← h96]; simp
              have HE38 := hq_lt HE38 h96
              refine S_val (.pointer (some ⟨g18, 1, none⟩)) (by kernel_rfl) (S_store 2 1 #[.bool bP, .slice (some ⟨g89, 0, none⟩) (List.length l95) cap90] hM94 (by kernel_rfl) (fun w97 hM98 => S_nil (R_inBlock (R_region (S_val (.int .i64 k) (by kernel_rfl) (S_int (IntKind.i64.wrap (k + 1)) .i64 (by kernel_rfl) (fun x99 h100 => S_val (.int .i64 x99) (by kernel_rfl) (S_nil (?_)))))))))
              have HE38 := hq_lt HE38 h100
              have hw_x99 := h100; rw [wrI] at hw_x99; unfold wrap64 at hw_x99
              have hw_x43 := h44; rw [gmax_eq] at hw_x43
              have hw_x76 := h77; rw [wrI] at hw_x76; unfold wrap64 at hw_x76
              have hw_x74 := h75; rw [wrI] at hw_x74; unfold wrap64 at hw_x74
              have hw_x81 := h82; rw [wrI] at hw_x81; unfold wrap64 at hw_x81
              have hM101 := hM98.re [0, 2, 3, 4, 5] (by decide) (by kernel_rfl)
              exact hnext36 f31 _ _ (Nat.lt_succ_self _) ⟨x99, 1, l95, g89, cap90, rest91, [.int .i64 x84, .int .i64 k, .pointer (some ⟨g1, 1, none⟩), .slice AP (List.length lP) cP, .int .i64 (List.length lP : Int), .pointer (some ⟨g4, 1, none⟩), .slice AQ (List.length lQ) cQ, .int .i64 (List.length lQ : Int), .int .i64 x43, .bool true, .int .i64 k, .int .i64 x99, .agg #[.bool bP, .slice AP (List.length lP) cP], .int .i64 k, .int .i64 r51, .agg #[.bool bQ, .slice AQ (List.length lQ) cQ], .int .i64 k, .int .i64 r55, .int .i64 x57, .int .i64 carry, .int .i64 x59, .pointer (some ⟨g1, 0, none⟩), .bool bP, .pointer (some ⟨g4, 0, none⟩), .bool bQ, .bool true, .agg #[.bool bP, .slice AP (List.length lP) cP], .int .i64 k, .int .i64 r68, .agg #[.bool bQ, .slice AQ (List.length lQ) cQ], .int .i64 k, .int .i64 r72, .int .i64 x74, .int .i64 carry, .int .i64 x76, .int .i64 x76, .bool true, .int .i64 x76, .int .i64 x81, .int .i64 x81, .bool true, .int .i64 x81, .int .i64 x84, .pointer (some ⟨g18, 1, none⟩), .slice (some ⟨g39, 0, none⟩) (List.length o) cap40, .int .i64 x84, .slice (some ⟨g86, 0, none⟩) 1 1, .slice (some ⟨g89, 0, none⟩) (List.length l95) cap90, .pointer (some ⟨g18, 1, none⟩)], by kernel_rfl, hM101, by omega, ok93, (by omega), HE38⟩
            · refine S_nil (R_no (by kernel_rfl) (R_skip (R_region (S_val (.pointer (some ⟨g18, 1, none⟩)) (by kernel_rfl) (S_load 1 1 (.slice (some ⟨g39, 0, none⟩) (List.length o) cap40) hM79 (by kernel_rfl) (S_val (.int .i64 x81) (by kernel_rfl) (S_fresh (some 1) #[.int .i64 x81] 3 hM79 (by kernel_rfl) (fun g102 w103 hM104 => ?_))))))))
              have HE38 := hq_neg HE38 c83
              refine S_appL 1 0 (List.length o) cap40 1 3 o rest41 x81 hM104 ok42 rfl (by omega) (by kernel_rfl) (fun g105 l111 h112 cap106 rest107 w108 ok109 hM110 => ?_)
              have hlen_l111 : List.length l111 = List.length o + 1 := by rw [← h112]; simp
              have HE38 := hq_lt HE38 h112
              refine S_val (.pointer (some ⟨g18, 1, none⟩)) (by kernel_rfl) (S_store 2 1 #[.bool bP, .slice (some ⟨g105, 0, none⟩) (List.length l111) cap106] hM110 (by kernel_rfl) (fun w113 hM114 => S_nil (R_inBlock (R_region (S_val (.int .i64 k) (by kernel_rfl) (S_int (IntKind.i64.wrap (k + 1)) .i64 (by kernel_rfl) (fun x115 h116 => S_val (.int .i64 x115) (by kernel_rfl) (S_nil (?_)))))))))
              have HE38 := hq_lt HE38 h116
              have hw_x115 := h116; rw [wrI] at hw_x115; unfold wrap64 at hw_x115
              have hw_x43 := h44; rw [gmax_eq] at hw_x43
              have hw_x76 := h77; rw [wrI] at hw_x76; unfold wrap64 at hw_x76
              have hw_x74 := h75; rw [wrI] at hw_x74; unfold wrap64 at hw_x74
              have hw_x81 := h82; rw [wrI] at hw_x81; unfold wrap64 at hw_x81
              have hM117 := hM114.re [0, 2, 3, 4, 5] (by decide) (by kernel_rfl)
              exact hnext36 f31 _ _ (Nat.lt_succ_self _) ⟨x115, (-1), l111, g105, cap106, rest107, [.int .i64 x81, .int .i64 k, .pointer (some ⟨g1, 1, none⟩), .slice AP (List.length lP) cP, .int .i64 (List.length lP : Int), .pointer (some ⟨g4, 1, none⟩), .slice AQ (List.length lQ) cQ, .int .i64 (List.length lQ : Int), .int .i64 x43, .bool true, .int .i64 k, .int .i64 x115, .agg #[.bool bP, .slice AP (List.length lP) cP], .int .i64 k, .int .i64 r51, .agg #[.bool bQ, .slice AQ (List.length lQ) cQ], .int .i64 k, .int .i64 r55, .int .i64 x57, .int .i64 carry, .int .i64 x59, .pointer (some ⟨g1, 0, none⟩), .bool bP, .pointer (some ⟨g4, 0, none⟩), .bool bQ, .bool true, .agg #[.bool bP, .slice AP (List.length lP) cP], .int .i64 k, .int .i64 r68, .agg #[.bool bQ, .slice AQ (List.length lQ) cQ], .int .i64 k, .int .i64 r72, .int .i64 x74, .int .i64 carry, .int .i64 x76, .int .i64 x76, .bool true, .int .i64 x76, .int .i64 x81, .int .i64 x81, .bool false, (gv u2 41), (gv u2 42), .pointer (some ⟨g18, 1, none⟩), .slice (some ⟨g39, 0, none⟩) (List.length o) cap40, .int .i64 x81, .slice (some ⟨g102, 0, none⟩) 1 1, .slice (some ⟨g105, 0, none⟩) (List.length l111) cap106, .pointer (some ⟨g18, 1, none⟩)], by kernel_rfl, hM117, by omega, ok109, (by omega), HE38⟩
          · refine S_nil (R_no (by kernel_rfl) (R_skip (R_seq (R_seq (R_region (S_val (.int .i64 x76) (by kernel_rfl) (?_)))))))
            have HE38 := hq_neg HE38 c80
            refine S_dec (x76 > 65535) (by kernel_rfl) (fun c118 => ?_) (fun c118 => ?_)
            · refine S_nil (R_yes (by kernel_rfl) (R_seq (R_region (S_val (.int .i64 x76) (by kernel_rfl) (S_int (IntKind.i64.wrap (x76 - 65536)) .i64 (by kernel_rfl) (fun x119 h120 => S_val (.int .i64 x119) (by kernel_rfl) (S_nil (R_region (S_val (.int .i64 1) (by kernel_rfl) (S_nil (R_region (?_))))))))))))
              have HE38 := hq_pos HE38 c118
              have HE38 := hq_lt HE38 h120
              refine S_val (.pointer (some ⟨g18, 1, none⟩)) (by kernel_rfl) (S_load 1 1 (.slice (some ⟨g39, 0, none⟩) (List.length o) cap40) hM79 (by kernel_rfl) (S_val (.int .i64 x119) (by kernel_rfl) (S_fresh (some 1) #[.int .i64 x119] 3 hM79 (by kernel_rfl) (fun g121 w122 hM123 => ?_))))
              refine S_appL 1 0 (List.length o) cap40 1 3 o rest41 x119 hM123 ok42 rfl (by omega) (by kernel_rfl) (fun g124 l130 h131 cap125 rest126 w127 ok128 hM129 => ?_)
              have hlen_l130 : List.length l130 = List.length o + 1 := by rw [← h131]; simp
              have HE38 := hq_lt HE38 h131
              refine S_val (.pointer (some ⟨g18, 1, none⟩)) (by kernel_rfl) (S_store 2 1 #[.bool bP, .slice (some ⟨g124, 0, none⟩) (List.length l130) cap125] hM129 (by kernel_rfl) (fun w132 hM133 => S_nil (R_inBlock (R_region (S_val (.int .i64 k) (by kernel_rfl) (S_int (IntKind.i64.wrap (k + 1)) .i64 (by kernel_rfl) (fun x134 h135 => S_val (.int .i64 x134) (by kernel_rfl) (S_nil (?_)))))))))
              have HE38 := hq_lt HE38 h135
              have hw_x134 := h135; rw [wrI] at hw_x134; unfold wrap64 at hw_x134
              have hw_x43 := h44; rw [gmax_eq] at hw_x43
              have hw_x76 := h77; rw [wrI] at hw_x76; unfold wrap64 at hw_x76
              have hw_x74 := h75; rw [wrI] at hw_x74; unfold wrap64 at hw_x74
              have hM136 := hM133.re [0, 2, 3, 4, 5] (by decide) (by kernel_rfl)
              exact hnext36 f31 _ _ (Nat.lt_succ_self _) ⟨x134, 1, l130, g124, cap125, rest126, [.int .i64 x119, .int .i64 k, .pointer (some ⟨g1, 1, none⟩), .slice AP (List.length lP) cP, .int .i64 (List.length lP : Int), .pointer (some ⟨g4, 1, none⟩), .slice AQ (List.length lQ) cQ, .int .i64 (List.length lQ : Int), .int .i64 x43, .bool true, .int .i64 k, .int .i64 x134, .agg #[.bool bP, .slice AP (List.length lP) cP], .int .i64 k, .int .i64 r51, .agg #[.bool bQ, .slice AQ (List.length lQ) cQ], .int .i64 k, .int .i64 r55, .int .i64 x57, .int .i64 carry, .int .i64 x59, .pointer (some ⟨g1, 0, none⟩), .bool bP, .pointer (some ⟨g4, 0, none⟩), .bool bQ, .bool true, .agg #[.bool bP, .slice AP (List.length lP) cP], .int .i64 k, .int .i64 r68, .agg #[.bool bQ, .slice AQ (List.length lQ) cQ], .int .i64 k, .int .i64 r72, .int .i64 x74, .int .i64 carry, .int .i64 x76, .int .i64 x76, .bool false, (gv u2 37), (gv u2 38), .int .i64 x76, .bool true, .int .i64 x76, .int .i64 x119, .pointer (some ⟨g18, 1, none⟩), .slice (some ⟨g39, 0, none⟩) (List.length o) cap40, .int .i64 x119, .slice (some ⟨g121, 0, none⟩) 1 1, .slice (some ⟨g124, 0, none⟩) (List.length l130) cap125, .pointer (some ⟨g18, 1, none⟩)], by kernel_rfl, hM136, by omega, ok128, (by omega), HE38⟩
            · refine S_nil (R_no (by kernel_rfl) (R_skip (R_region (S_val (.pointer (some ⟨g18, 1, none⟩)) (by kernel_rfl) (S_load 1 1 (.slice (some ⟨g39, 0, none⟩) (List.length o) cap40) hM79 (by kernel_rfl) (S_val (.int .i64 x76) (by kernel_rfl) (S_fresh (some 1) #[.int .i64 x76] 3 hM79 (by kernel_rfl) (fun g137 w138 hM139 => ?_))))))))
              have HE38 := hq_neg HE38 c118
              refine S_appL 1 0 (List.length o) cap40 1 3 o rest41 x76 hM139 ok42 rfl (by omega) (by kernel_rfl) (fun g140 l146 h147 cap141 rest142 w143 ok144 hM145 => ?_)
              have hlen_l146 : List.length l146 = List.length o + 1 := by rw [← h147]; simp
              have HE38 := hq_lt HE38 h147
              refine S_val (.pointer (some ⟨g18, 1, none⟩)) (by kernel_rfl) (S_store 2 1 #[.bool bP, .slice (some ⟨g140, 0, none⟩) (List.length l146) cap141] hM145 (by kernel_rfl) (fun w148 hM149 => S_nil (R_inBlock (R_region (S_val (.int .i64 k) (by kernel_rfl) (S_int (IntKind.i64.wrap (k + 1)) .i64 (by kernel_rfl) (fun x150 h151 => S_val (.int .i64 x150) (by kernel_rfl) (S_nil (?_)))))))))
              have HE38 := hq_lt HE38 h151
              have hw_x150 := h151; rw [wrI] at hw_x150; unfold wrap64 at hw_x150
              have hw_x43 := h44; rw [gmax_eq] at hw_x43
              have hw_x76 := h77; rw [wrI] at hw_x76; unfold wrap64 at hw_x76
              have hw_x74 := h75; rw [wrI] at hw_x74; unfold wrap64 at hw_x74
              have hM152 := hM149.re [0, 2, 3, 4, 5] (by decide) (by kernel_rfl)
              exact hnext36 f31 _ _ (Nat.lt_succ_self _) ⟨x150, 0, l146, g140, cap141, rest142, [.int .i64 x76, .int .i64 k, .pointer (some ⟨g1, 1, none⟩), .slice AP (List.length lP) cP, .int .i64 (List.length lP : Int), .pointer (some ⟨g4, 1, none⟩), .slice AQ (List.length lQ) cQ, .int .i64 (List.length lQ : Int), .int .i64 x43, .bool true, .int .i64 k, .int .i64 x150, .agg #[.bool bP, .slice AP (List.length lP) cP], .int .i64 k, .int .i64 r51, .agg #[.bool bQ, .slice AQ (List.length lQ) cQ], .int .i64 k, .int .i64 r55, .int .i64 x57, .int .i64 carry, .int .i64 x59, .pointer (some ⟨g1, 0, none⟩), .bool bP, .pointer (some ⟨g4, 0, none⟩), .bool bQ, .bool true, .agg #[.bool bP, .slice AP (List.length lP) cP], .int .i64 k, .int .i64 r68, .agg #[.bool bQ, .slice AQ (List.length lQ) cQ], .int .i64 k, .int .i64 r72, .int .i64 x74, .int .i64 carry, .int .i64 x76, .int .i64 x76, .bool false, (gv u2 37), (gv u2 38), .int .i64 x76, .bool false, (gv u2 41), (gv u2 42), .pointer (some ⟨g18, 1, none⟩), .slice (some ⟨g39, 0, none⟩) (List.length o) cap40, .int .i64 x76, .slice (some ⟨g137, 0, none⟩) 1 1, .slice (some ⟨g140, 0, none⟩) (List.length l146) cap141, .pointer (some ⟨g18, 1, none⟩)], by kernel_rfl, hM152, by omega, ok144, (by omega), HE38⟩
        · refine S_nil (R_no (by kernel_rfl) (R_exit rfl (?_)))
          have HE38 := hq_neg HE38 c45
          subst HE38
          refine R_seq (R_seq (R_region (S_val (.int .i64 carry) (by kernel_rfl) (?_))))
          refine S_dec (carry > 0) (by kernel_rfl) (fun c153 => ?_) (fun c153 => ?_)
          · refine S_nil (R_yes (by kernel_rfl) (R_region (S_val (.pointer (some ⟨g18, 1, none⟩)) (by kernel_rfl) (S_load 1 1 (.slice (some ⟨g39, 0, none⟩) (List.length o) cap40) hM35 (by kernel_rfl) (S_val (.int .i64 carry) (by kernel_rfl) (S_fresh (some 1) #[.int .i64 carry] 3 hM35 (by kernel_rfl) (fun g154 w155 hM156 => ?_)))))))
            have HR := hr_pos HR c153
            refine S_appL 1 0 (List.length o) cap40 1 3 o rest41 carry hM156 ok42 rfl (by omega) (by kernel_rfl) (fun g157 l163 h164 cap158 rest159 w160 ok161 hM162 => ?_)
            have hlen_l163 : List.length l163 = List.length o + 1 := by rw [← h164]; simp
            have HR := hr_lt HR h164
            refine S_val (.pointer (some ⟨g18, 1, none⟩)) (by kernel_rfl) (S_store 2 1 #[.bool bP, .slice (some ⟨g157, 0, none⟩) (List.length l163) cap158] hM162 (by kernel_rfl) (fun w165 hM166 => S_nil (R_seq (R_region (S_load 2 0 (.agg #[.bool bP, .slice (some ⟨g157, 0, none⟩) (List.length l163) cap158]) hM166 (by kernel_rfl) (?_))))))
            have hM167 := hM166.freeze 0 l163 rest159 (by kernel_rfl)
            refine S_callN (s_umbraref01_trim bP l163) [((some ⟨g157, 0, none⟩), nv l163)] hM167 (w_umbraref01_trim bP l163 (some ⟨g157, 0, none⟩) (List.length l163) cap158 (by omega) ok161.le (by first | omega | simp) w165 (hM167.ent 0 rfl)) (subc 0 rfl sub0) (by kernel_rfl) (fun r168 h169 A170 cap171 hc172 w173 hM174 => S_store 2 0 #[.bool r168.1, .slice A170 (List.length r168.2) cap171] hM174 (by kernel_rfl) (fun w175 hM176 => S_nil (?_)))
            have HR := hr_lt HR h169
            refine R_ret hM176 rfl (.cons (.cell _ _ 2 0 (.agg #[.bool r168.1, .slice A170 (List.length r168.2) cap171]) (by kernel_rfl)) .nil) rfl ?_
            exact hM176.retN 0 rfl rfl hc172 HR
          · refine S_nil (R_no (by kernel_rfl) (R_skip (R_seq (R_region (S_load 1 0 (.agg #[.bool bP, .slice (some ⟨g39, 0, none⟩) (List.length o) cap40]) hM35 (by kernel_rfl) (?_))))))
            have HR := hr_neg HR c153
            have hM177 := hM35.freeze 0 o rest41 (by kernel_rfl)
            refine S_callN (s_umbraref01_trim bP o) [((some ⟨g39, 0, none⟩), nv o)] hM177 (w_umbraref01_trim bP o (some ⟨g39, 0, none⟩) (List.length o) cap40 (by omega) ok42.le (by first | omega | simp) w34 (hM177.ent 0 rfl)) (subc 0 rfl sub0) (by kernel_rfl) (fun r178 h179 A180 cap181 hc182 w183 hM184 => S_store 1 0 #[.bool r178.1, .slice A180 (List.length r178.2) cap181] hM184 (by kernel_rfl) (fun w185 hM186 => S_nil (?_)))
            have HR := hr_lt HR h179
            refine R_ret hM186 rfl (.cons (.cell _ _ 1 0 (.agg #[.bool r178.1, .slice A180 (List.length r178.2) cap181]) (by kernel_rfl)) .nil) rfl ?_
            exact hM186.retN 0 rfl rfl hc182 HR
      · refine R_seq (R_seq (R_region (S_val (.int .i64 0) (by kernel_rfl) (S_val (.pointer (some ⟨g1, 1, none⟩)) (by kernel_rfl) (S_load 3 1 (.slice AP (List.length lP) cP) hM22 (by kernel_rfl) (S_val (.int .i64 (List.length lP : Int)) (by kernel_rfl) (S_val (.pointer (some ⟨g4, 1, none⟩)) (by kernel_rfl) (S_load 2 1 (.slice AQ (List.length lQ) cQ) hM22 (by kernel_rfl) (S_val (.int .i64 (List.length lQ : Int)) (by kernel_rfl) (S_int (gmax (List.length lP : Int) (List.length lQ : Int)) .i64 (by kernel_rfl) (fun x187 h188 => ?_)))))))))))
        have HR := hr_lt HR h188
        refine S_dec (0 < x187) (by kernel_rfl) (fun c189 => ?_) (fun c189 => ?_)
        · refine S_nil (R_yes (by kernel_rfl) (R_skip (R_seq (R_block (R_seq (R_drawF 10 (by kernel_rfl) (fun F190 U191 hL192 => F_load 3 0 (.agg #[.bool bP, .slice AP (List.length lP) cP]) hM22 (by kernel_rfl) (F_val (.int .i64 0) (fun _ => by kernel_rfl) (F_call (s_umbraref01_digit bP lP 0) (fun r : Int => .int .i64 r) hM22 hL192 (fun w' hM' => w_umbraref01_digit bP lP 0 AP (List.length lP) cP rfl hcP (by omega) w' (hM'.ent 1 rfl)) (by kernel_rfl) (fun _ => by kernel_rfl) (fun r195 h196 => F_load 2 0 (.agg #[.bool bQ, .slice AQ (List.length lQ) cQ]) hM22 (by kernel_rfl) (F_val (.int .i64 0) (fun _ => by kernel_rfl) (?_))))))))))))
          have HR := hr_pos HR c189
          have HR := hr_lt HR h196
          refine F_call (s_umbraref01_digit bQ lQ 0) (fun r : Int => .int .i64 r) hM22 hL192 (fun w' hM' => w_umbraref01_digit bQ lQ 0 AQ (List.length lQ) cQ rfl hcQ (by omega) w' (hM'.ent 2 rfl)) (by kernel_rfl) (fun _ => by kernel_rfl) (fun r199 h200 => F_int (IntKind.i64.wrap (r195 + r199)) .i64 (fun _ => by kernel_rfl) (fun x201 h202 => F_val (.int .i64 0) (fun _ => by kernel_rfl) (F_int (IntKind.i64.wrap (x201 + 0)) .i64 (fun _ => by kernel_rfl) (fun x203 h204 => F_val (.int .i64 x203) (fun _ => by kernel_rfl) (F_nil hM22 hL192 (fun w205 hM206 => S_nil (R_seq (R_seq (R_region (S_val (.pointer (some ⟨g1, 0, none⟩)) (by kernel_rfl) (S_load 3 0 (.bool bP) hM206 (by kernel_rfl) (?_))))))))))))
          have HR := hr_lt HR h200
          have HR := hr_lt HR h202
          have HR := hr_lt HR h204
          refine S_val (.pointer (some ⟨g4, 0, none⟩)) (by kernel_rfl) (S_load 2 0 (.bool bQ) hM206 (by kernel_rfl) (S_val (.bool true) (knF' c10 (by kernel_rfl)) (S_nil (R_yes (by kernel_rfl) (R_drawF 10 (by kernel_rfl) (fun F207 U208 hL209 => F_load 3 0 (.agg #[.bool bP, .slice AP (List.length lP) cP]) hM206 (by kernel_rfl) (F_val (.int .i64 0) (fun _ => by kernel_rfl) (F_call (s_umbraref01_digit bP lP 0) (fun r : Int => .int .i64 r) hM206 hL209 (fun w' hM' => w_umbraref01_digit bP lP 0 AP (List.length lP) cP rfl hcP (by omega) w' (hM'.ent 1 rfl)) (by kernel_rfl) (fun _ => by kernel_rfl) (fun r212 h213 => F_load 2 0 (.agg #[.bool bQ, .slice AQ (List.length lQ) cQ]) hM206 (by kernel_rfl) (F_val (.int .i64 0) (fun _ => by kernel_rfl) (F_call (s_umbraref01_digit bQ lQ 0) (fun r : Int => .int .i64 r) hM206 hL209 (fun w' hM' => w_umbraref01_digit bQ lQ 0 AQ (List.length lQ) cQ rfl hcQ (by omega) w' (hM'.ent 2 rfl)) (by kernel_rfl) (fun _ => by kernel_rfl) (fun r216 h217 => ?_))))))))))))
          have HR := hr_lt HR h213
          have HR := hr_lt HR h217
          refine F_int (IntKind.i64.wrap (r212 - r216)) .i64 (fun _ => by kernel_rfl) (fun x218 h219 => F_val (.int .i64 0) (fun _ => by kernel_rfl) (F_int (IntKind.i64.wrap (x218 + 0)) .i64 (fun _ => by kernel_rfl) (fun x220 h221 => F_val (.int .i64 x220) (fun _ => by kernel_rfl) (F_nil hM206 hL209 (fun w222 hM223 => S_nil (R_seq (R_region (S_val (.int .i64 0) (by kernel_rfl) (S_nil (R_seq (R_seq (?_))))))))))))
          have HR := hr_lt HR h219
          have HR := hr_lt HR h221
          refine R_region (S_val (.int .i64 x220) (by kernel_rfl) (?_))
          refine S_dec (x220 < 0) (by kernel_rfl) (fun c224 => ?_) (fun c224 => ?_)
          · refine S_nil (R_yes (by kernel_rfl) (R_seq (R_region (S_val (.int .i64 x220) (by kernel_rfl) (S_int (IntKind.i64.wrap (x220 + 65536)) .i64 (by kernel_rfl) (fun x225 h226 => S_val (.int .i64 x225) (by kernel_rfl) (S_nil (R_region (S_val (.int .i64 (-1)) (by kernel_rfl) (S_nil (R_seq (?_))))))))))))
            have HR := hr_pos HR c224
            have HR := hr_lt HR h226
            refine R_seq (R_region (S_val (.int .i64 x225) (by kernel_rfl) (?_)))
            refine S_dec (x225 > 65535) (by kernel_rfl) (fun c227 => ?_) (fun c227 => ?_)
            · refine S_nil (R_yes (by kernel_rfl) (R_seq (R_region (S_val (.int .i64 x225) (by kernel_rfl) (S_int (IntKind.i64.wrap (x225 - 65536)) .i64 (by kernel_rfl) (fun x228 h229 => S_val (.int .i64 x228) (by kernel_rfl) (S_nil (R_region (S_val (.int .i64 1) (by kernel_rfl) (S_nil (R_region (?_))))))))))))
              have HR := hr_pos HR c227
              have HR := hr_lt HR h229
              refine S_val (.pointer (some ⟨g18, 1, none⟩)) (by kernel_rfl) (S_load 0 1 (.slice none 0 0) hM223 (by kernel_rfl) (S_val (.int .i64 x228) (by kernel_rfl) (S_fresh (some 1) #[.int .i64 x228] 3 hM223 (by kernel_rfl) (fun g230 w231 hM232 => ?_))))
              refine S_app0 0 1 1 3 1 8 (.int .i64 0) [.int .i64 x228] hM232 (by kernel_rfl) (by kernel_rfl) (fun g233 cap234 rest235 w236 ok237 hM238 => S_val (.pointer (some ⟨g18, 1, none⟩)) (by kernel_rfl) (S_store 2 1 #[.bool bP, .slice (some ⟨g233, 0, none⟩) 1 cap234] hM238 (by kernel_rfl) (fun w239 hM240 => S_nil (R_inBlock (R_region (S_val (.int .i64 0) (by kernel_rfl) (S_val (.int .i64 1) (by kernel_rfl) (S_val (.int .i64 1) (by kernel_rfl) (S_nil (?_))))))))))
              have hM241 := hM240.re [0, 2, 3, 4, 5] (by decide) (by kernel_rfl)
              exact hn25 _ _ ⟨1, x228, g233, cap234, rest235, [.int .i64 1, .int .i64 x228, .int .i64 0, .pointer (some ⟨g1, 1, none⟩), .slice AP (List.length lP) cP, .int .i64 (List.length lP : Int), .pointer (some ⟨g4, 1, none⟩), .slice AQ (List.length lQ) cQ, .int .i64 (List.length lQ : Int), .int .i64 x187, .bool true, .int .i64 0, .int .i64 1, .agg #[.bool bP, .slice AP (List.length lP) cP], .int .i64 0, .int .i64 r195, .agg #[.bool bQ, .slice AQ (List.length lQ) cQ], .int .i64 0, .int .i64 r199, .int .i64 x201, .int .i64 0, .int .i64 x203, .pointer (some ⟨g1, 0, none⟩), .bool bP, .pointer (some ⟨g4, 0, none⟩), .bool bQ, .bool true, .agg #[.bool bP, .slice AP (List.length lP) cP], .int .i64 0, .int .i64 r212, .agg #[.bool bQ, .slice AQ (List.length lQ) cQ], .int .i64 0, .int .i64 r216, .int .i64 x218, .int .i64 0, .int .i64 x220, .int .i64 x220, .bool true, .int .i64 x220, .int .i64 x225, .int .i64 x225, .bool true, .int .i64 x225, .int .i64 x228, .pointer (some ⟨g18, 1, none⟩), .slice none 0 0, .int .i64 x228, .slice (some ⟨g230, 0, none⟩) 1 1, .slice (some ⟨g233, 0, none⟩) 1 cap234, .pointer (some ⟨g18, 1, none⟩)], by kernel_rfl, hM241, ok237, HR⟩
            · refine S_nil (R_no (by kernel_rfl) (R_skip (R_region (S_val (.pointer (some ⟨g18, 1, none⟩)) (by kernel_rfl) (S_load 0 1 (.slice none 0 0) hM223 (by kernel_rfl) (S_val (.int .i64 x225) (by kernel_rfl) (S_fresh (some 1) #[.int .i64 x225] 3 hM223 (by kernel_rfl) (fun g242 w243 hM244 => ?_))))))))
              have HR := hr_neg HR c227
              refine S_app0 0 1 1 3 1 8 (.int .i64 0) [.int .i64 x225] hM244 (by kernel_rfl) (by kernel_rfl) (fun g245 cap246 rest247 w248 ok249 hM250 => S_val (.pointer (some ⟨g18, 1, none⟩)) (by kernel_rfl) (S_store 2 1 #[.bool bP, .slice (some ⟨g245, 0, none⟩) 1 cap246] hM250 (by kernel_rfl) (fun w251 hM252 => S_nil (R_inBlock (R_region (S_val (.int .i64 0) (by kernel_rfl) (S_val (.int .i64 1) (by kernel_rfl) (S_val (.int .i64 1) (by kernel_rfl) (S_nil (?_))))))))))
              have hM253 := hM252.re [0, 2, 3, 4, 5] (by decide) (by kernel_rfl)
              exact hn25 _ _ ⟨(-1), x225, g245, cap246, rest247, [.int .i64 1, .int .i64 x225, .int .i64 0, .pointer (some ⟨g1, 1, none⟩), .slice AP (List.length lP) cP, .int .i64 (List.length lP : Int), .pointer (some ⟨g4, 1, none⟩), .slice AQ (List.length lQ) cQ, .int .i64 (List.length lQ : Int), .int .i64 x187, .bool true, .int .i64 0, .int .i64 1, .agg #[.bool bP, .slice AP (List.length lP) cP], .int .i64 0, .int .i64 r195, .agg #[.bool bQ, .slice AQ (List.length lQ) cQ], .int .i64 0, .int .i64 r199, .int .i64 x201, .int .i64 0, .int .i64 x203, .pointer (some ⟨g1, 0, none⟩), .bool bP, .pointer (some ⟨g4, 0, none⟩), .bool bQ, .bool true, .agg #[.bool bP, .slice AP (List.length lP) cP], .int .i64 0, .int .i64 r212, .agg #[.bool bQ, .slice AQ (List.length lQ) cQ], .int .i64 0, .int .i64 r216, .int .i64 x218, .int .i64 0, .int .i64 x220, .int .i64 x220, .bool true, .int .i64 x220, .int .i64 x225, .int .i64 x225, .bool false, undef, undef, .pointer (some ⟨g18, 1, none⟩), .slice none 0 0, .int .i64 x225, .slice (some ⟨g242, 0, none⟩) 1 1, .slice (some ⟨g245, 0, none⟩) 1 cap246, .pointer (some ⟨g18, 1, none⟩)], by kernel_rfl, hM253, ok249, HR⟩
          · refine S_nil (R_no (by kernel_rfl) (R_skip (R_seq (R_seq (R_region (S_val (.int .i64 x220) (by kernel_rfl) (?_)))))))
            have HR := hr_neg HR c224
            refine S_dec (x220 > 65535) (by kernel_rfl) (fun c254 => ?_) (fun c254 => ?_)
            · refine S_nil (R_yes (by kernel_rfl) (R_seq (R_region (S_val (.int .i64 x220) (by kernel_rfl) (S_int (IntKind.i64.wrap (x220 - 65536)) .i64 (by kernel_rfl) (fun x255 h256 => S_val (.int .i64 x255) (by kernel_rfl) (S_nil (R_region (S_val (.int .i64 1) (by kernel_rfl) (S_nil (R_region (?_))))))))))))
              have HR := hr_pos HR c254
              have HR := hr_lt HR h256
              refine S_val (.pointer (some ⟨g18, 1, none⟩)) (by kernel_rfl) (S_load 0 1 (.slice none 0 0) hM223 (by kernel_rfl) (S_val (.int .i64 x255) (by kernel_rfl) (S_fresh (some 1) #[.int .i64 x255] 3 hM223 (by kernel_rfl) (fun g257 w258 hM259 => ?_))))
              refine S_app0 0 1 1 3 1 8 (.int .i64 0) [.int .i64 x255] hM259 (by kernel_rfl) (by kernel_rfl) (fun g260 cap261 rest262 w263 ok264 hM265 => S_val (.pointer (some ⟨g18, 1, none⟩)) (by kernel_rfl) (S_store 2 1 #[.bool bP, .slice (some ⟨g260, 0, none⟩) 1 cap261] hM265 (by kernel_rfl) (fun w266 hM267 => S_nil (R_inBlock (R_region (S_val (.int .i64 0) (by kernel_rfl) (S_val (.int .i64 1) (by kernel_rfl) (S_val (.int .i64 1) (by kernel_rfl) (S_nil (?_))))))))))
              have hM268 := hM267.re [0, 2, 3, 4, 5] (by decide) (by kernel_rfl)
              exact hn25 _ _ ⟨1, x255, g260, cap261, rest262, [.int .i64 1, .int .i64 x255, .int .i64 0, .pointer (some ⟨g1, 1, none⟩), .slice AP (List.length lP) cP, .int .i64 (List.length lP : Int), .pointer (some ⟨g4, 1, none⟩), .slice AQ (List.length lQ) cQ, .int .i64 (List.length lQ : Int), .int .i64 x187, .bool true, .int .i64 0, .int .i64 1, .agg #[.bool bP, .slice AP (List.length lP) cP], .int .i64 0, .int .i64 r195, .agg #[.bool bQ, .slice AQ (List.length lQ) cQ], .int .i64 0, .int .i64 r199, .int .i64 x201, .int .i64 0, .int .i64 x203, .pointer (some ⟨g1, 0, none⟩), .bool bP, .pointer (some ⟨g4, 0, none⟩), .bool bQ, .bool true, .agg #[.bool bP, .slice AP (List.length lP) cP], .int .i64 0, .int .i64 r212, .agg #[.bool bQ, .slice AQ (List.length lQ) cQ], .int .i64 0, .int .i64 r216, .int .i64 x218, .int .i64 0, .int .i64 x220, .int .i64 x220, .bool false, undef, undef, .int .i64 x220, .bool true, .int .i64 x220, .int .i64 x255, .pointer (some ⟨g18, 1, none⟩), .slice none 0 0, .int .i64 x255, .slice (some ⟨g257, 0, none⟩) 1 1, .slice (some ⟨g260, 0, none⟩) 1 cap261, .pointer (some ⟨g18, 1, none⟩)], by kernel_rfl, hM268, ok264, HR⟩
            · refine S_nil (R_no (by kernel_rfl) (R_skip (R_region (S_val (.pointer (some ⟨g18, 1, none⟩)) (by kernel_rfl) (S_load 0 1 (.slice none 0 0) hM223 (by kernel_rfl) (S_val (.int .i64 x220) (by kernel_rfl) (S_fresh (some 1) #[.int .i64 x220] 3 hM223 (by kernel_rfl) (fun g269 w270 hM271 => ?_))))))))
              have HR := hr_neg HR c254
              refine S_app0 0 1 1 3 1 8 (.int .i64 0) [.int .i64 x220] hM271 (by kernel_rfl) (by kernel_rfl) (fun g272 cap273 rest274 w275 ok276 hM277 => S_val (.pointer (some ⟨g18, 1, none⟩)) (by kernel_rfl) (S_store 2 1 #[.bool bP, .slice (some ⟨g272, 0, none⟩) 1 cap273] hM277 (by kernel_rfl) (fun w278 hM279 => S_nil (R_inBlock (R_region (S_val (.int .i64 0) (by kernel_rfl) (S_val (.int .i64 1) (by kernel_rfl) (S_val (.int .i64 1) (by kernel_rfl) (S_nil (?_))))))))))
              have hM280 := hM279.re [0, 2, 3, 4, 5] (by decide) (by kernel_rfl)
              exact hn25 _ _ ⟨0, x220, g272, cap273, rest274, [.int .i64 1, .int .i64 x220, .int .i64 0, .pointer (some ⟨g1, 1, none⟩), .slice AP (List.length lP) cP, .int .i64 (List.length lP : Int), .pointer (some ⟨g4, 1, none⟩), .slice AQ (List.length lQ) cQ, .int .i64 (List.length lQ : Int), .int .i64 x187, .bool true, .int .i64 0, .int .i64 1, .agg #[.bool bP, .slice AP (List.length lP) cP], .int .i64 0, .int .i64 r195, .agg #[.bool bQ, .slice AQ (List.length lQ) cQ], .int .i64 0, .int .i64 r199, .int .i64 x201, .int .i64 0, .int .i64 x203, .pointer (some ⟨g1, 0, none⟩), .bool bP, .pointer (some ⟨g4, 0, none⟩), .bool bQ, .bool true, .agg #[.bool bP, .slice AP (List.length lP) cP], .int .i64 0, .int .i64 r212, .agg #[.bool bQ, .slice AQ (List.length lQ) cQ], .int .i64 0, .int .i64 r216, .int .i64 x218, .int .i64 0, .int .i64 x220, .int .i64 x220, .bool false, undef, undef, .int .i64 x220, .bool false, undef, undef, .pointer (some ⟨g18, 1, none⟩), .slice none 0 0, .int .i64 x220, .slice (some ⟨g269, 0, none⟩) 1 1, .slice (some ⟨g272, 0, none⟩) 1 cap273, .pointer (some ⟨g18, 1, none⟩)], by kernel_rfl, hM280, ok276, HR⟩
        · refine S_nil (R_no (by kernel_rfl) (R_exit rfl (R_seq (R_seq (R_region (S_val (.int .i64 0) (by kernel_rfl) (S_val (.bool false) (by kernel_rfl) (S_nil (R_no (by kernel_rfl) (R_skip (R_seq (?_))))))))))))
          have HR := hr_neg HR c189
          refine R_region (S_load 0 0 (.agg #[.bool bP, .slice none 0 0]) hM22 (by kernel_rfl) (S_callN (s_umbraref01_trim bP ([])) [(none, nv ([]))] hM22 (w_umbraref01_trim bP ([]) none 0 0 rfl (Nat.le_refl _) (by first | omega | simp) w21 (hM22.ent 0 rfl)) (subc 0 rfl sub0) (by kernel_rfl) (fun r281 h282 A283 cap284 hc285 w286 hM287 => S_store 1 0 #[.bool r281.1, .slice A283 (List.length r281.2) cap284] hM287 (by kernel_rfl) (fun w288 hM289 => S_nil (?_)))))
          have HR := hr_lt HR h282
          refine R_ret hM289 rfl (.cons (.cell _ _ 1 0 (.agg #[.bool r281.1, .slice A283 (List.length r281.2) cap284]) (by kernel_rfl)) .nil) rfl ?_
          exact hM289.retN 0 rfl rfl hc285 HR
  · refine S_val (.bool false) (by kernel_rfl) (S_skip (by kernel_rfl) (S_skip (by kernel_rfl) (S_skip (by kernel_rfl) (S_skip (by kernel_rfl) (S_val (.bool false) (by kernel_rfl) (S_nil (R_no (by kernel_rfl) (R_skip (R_seq (R_region (S_val (.pointer (some ⟨g1, 0, none⟩)) (by kernel_rfl) (?_))))))))))))
    have HR := hr_pos HR c10
    refine S_load 2 0 (.bool bP) hM9 (by kernel_rfl) (S_val (.agg #[.bool bP, .slice none 0 0]) (by kernel_rfl) (S_fresh none #[.bool false, .slice none 0 0] 113 hM9 (by kernel_rfl) (fun g290 w291 hM292 => S_store 0 0 #[.bool bP, .slice none 0 0] hM292 (by kernel_rfl) (fun w293 hM294 => S_nil (R_seq (R_region (S_val (.int .i64 0) (by kernel_rfl) (S_nil (R_seq (R_seq (R_region (?_))))))))))))
    refine S_val (.int .i64 0) (by kernel_rfl) (S_nil (R_block (?_)))
    refine R_peelJ (fun a302 w295 => ∃ (c0 : Int) (y0 : Int) (g298 : Nat) (cap299 : Nat) (rest300 : List Value) (u3 : List Value), a302 = { tmps := #[.agg #[.bool bP, .slice AP (List.length lP) cP], .agg #[.bool bQ, .slice AQ (List.length lQ) cQ], .pointer (some ⟨g1, 0, none⟩), .pointer (some ⟨g4, 0, none⟩), .pointer (some ⟨g7, 0, none⟩), .pointer (some ⟨g290, 0, none⟩), .int .i64 c0, .int .i64 1, (gv u3 1), .pointer (some ⟨g1, 0, none⟩), .bool bP, .pointer (some ⟨g4, 0, none⟩), .bool bQ, .bool false, .bool false, undef, undef, undef, undef, .bool false, undef, undef, undef, .pointer (some ⟨g1, 0, none⟩), .bool bP, .agg #[.bool bP, .slice none 0 0], (gv u3 2), (gv u3 3), (gv u3 4), (gv u3 5), (gv u3 6), (gv u3 7), (gv u3 8), (gv u3 9), (gv u3 10), (gv u3 11), (gv u3 12), (gv u3 13), (gv u3 14), (gv u3 15), (gv u3 16), (gv u3 17), (gv u3 18), (gv u3 19), (gv u3 20), (gv u3 21), (gv u3 22), (gv u3 23), (gv u3 24), (gv u3 25), (gv u3 26), (gv u3 27), (gv u3 28), (gv u3 29), (gv u3 30), (gv u3 31), (gv u3 32), (gv u3 33), (gv u3 34), (gv u3 35), (gv u3 36), (gv u3 37), (gv u3 38), (gv u3 39), (gv u3 40), (gv u3 41), (gv u3 42), (gv u3 43), (gv u3 44), (gv u3 45), (gv u3 46), (gv u3 47), (gv u3 48), (gv u3 49), undef, undef, undef, undef, undef, undef, undef, undef, undef, undef], defers := [] } ∧ St ⟨w, [(AP, nv lP), (AQ, nv lQ)], [(none, nv ([])), (AP, nv lP), (AQ, nv lQ)]⟩ [⟨g298, ⟨nv ([y0]) ++ rest300⟩, 3, (0, 0), true⟩, ⟨g290, #[.bool bP, .slice (some ⟨g298, 0, none⟩) 1 cap299], 113, (0, 0), true⟩, ⟨g7, #[.bool false, .slice none 0 0], 113, (0, 0), true⟩, ⟨g4, #[.bool bQ, .slice AQ (List.length lQ) cQ], 113, (0, 0), true⟩, ⟨g1, #[.bool bP, .slice AP (List.length lP) cP], 113, (0, 0), true⟩] w295 ∧ SlOk 1 1 cap299 rest300 ∧ e_umbraref01_Sum_1 (
        lt (L6_umbraref01_Sum_1_s bP lP bQ lQ (Int.toNat (1000 - 1) + 1) 1 c0 ([y0])) fun E309 =>
        if E309.2.1 > 0 then
          lt (E309.2.2 ++ [E309.2.1]) fun l418 =>
          lt (s_umbraref01_trim bP l418) fun r423 =>
          (r423.1, r423.2)
        else
          lt (s_umbraref01_trim bP E309.2.2) fun r433 =>
          (r433.1, r433.2)
    ) = R) ?_ (fun hn297 => ?_)
    · rintro _ w295 ⟨c0, y0, g298, cap299, rest300, u3, rfl, hM296, ok301, HR⟩
      obtain ⟨E309, HE310⟩ : ∃ E, L6_umbraref01_Sum_1_s bP lP bQ lQ (Int.toNat (1000 - 1) + 1) 1 c0 ([y0]) = E := ⟨_, rfl⟩
      have HR := hr_lt HR HE310
      refine R_fuelI (fun m304 a305 w306 => ∃ (k : Int) (carry : Int) (o : List Int) (g311 : Nat) (cap312 : Nat) (rest313 : List Value) (u4 : List Value), a305 = { tmps := #[.agg #[.bool bP, .slice AP (List.length lP) cP], .agg #[.bool bQ, .slice AQ (List.length lQ) cQ], .pointer (some ⟨g1, 0, none⟩), .pointer (some ⟨g4, 0, none⟩), .pointer (some ⟨g7, 0, none⟩), .pointer (some ⟨g290, 0, none⟩), .int .i64 carry, .int .i64 k, (gv u4 0), .pointer (some ⟨g1, 0, none⟩), .bool bP, .pointer (some ⟨g4, 0, none⟩), .bool bQ, .bool false, .bool false, undef, undef, undef, undef, .bool false, undef, undef, undef, .pointer (some ⟨g1, 0, none⟩), .bool bP, .agg #[.bool bP, .slice none 0 0], (gv u4 1), (gv u4 2), (gv u4 3), (gv u4 4), (gv u4 5), (gv u4 6), (gv u4 7), (gv u4 8), (gv u4 9), (gv u4 10), (gv u4 11), (gv u4 12), (gv u4 13), (gv u4 14), (gv u4 15), (gv u4 16), (gv u4 17), (gv u4 18), (gv u4 19), (gv u4 20), (gv u4 21), (gv u4 22), (gv u4 23), (gv u4 24), (gv u4 25), (gv u4 26), (gv u4 27), (gv u4 28), (gv u4 29), (gv u4 30), (gv u4 31), (gv u4 32), (gv u4 33), (gv u4 34), (gv u4 35), (gv u4 36), (gv u4 37), (gv u4 38), (gv u4 39), (gv u4 40), (gv u4 41), (gv u4 42), (gv u4 43), (gv u4 44), (gv u4 45), (gv u4 46), (gv u4 47), (gv u4 48), undef, undef, undef, undef, undef, undef, undef, undef, undef, undef], defers := [] } ∧ St ⟨w, [(AP, nv lP), (AQ, nv lQ)], [(none, nv ([])), (AP, nv lP), (AQ, nv lQ)]⟩ [⟨g311, ⟨nv o ++ rest313⟩, 3, (0, 0), true⟩, ⟨g290, #[.bool bP, .slice (some ⟨g311, 0, none⟩) (List.length o) cap312], 113, (0, 0), true⟩, ⟨g7, #[.bool false, .slice none 0 0], 113, (0, 0), true⟩, ⟨g4, #[.bool bQ, .slice AQ (List.length lQ) cQ], 113, (0, 0), true⟩, ⟨g1, #[.bool bP, .slice AP (List.length lP) cP], 113, (0, 0), true⟩] w306 ∧ 1000 - k < (m304 : Int) ∧ (SlOk 1 (List.length o) cap312 rest313) ∧ ((1 ≤ k ∧ k ≤ 1000 ∧ (List.length o : Int) = k)) ∧ L6_umbraref01_Sum_1_s bP lP bQ lQ m304 k carry o = E309) (Int.toNat (1000 - 1) + 1) ⟨1, c0, ([y0]), g298, cap299, rest300, [(gv u3 1), (gv u3 2), (gv u3 3), (gv u3 4), (gv u3 5), (gv u3 6), (gv u3 7), (gv u3 8), (gv u3 9), (gv u3 10), (gv u3 11), (gv u3 12), (gv u3 13), (gv u3 14), (gv u3 15), (gv u3 16), (gv u3 17), (gv u3 18), (gv u3 19), (gv u3 20), (gv u3 21), (gv u3 22), (gv u3 23), (gv u3 24), (gv u3 25), (gv u3 26), (gv u3 27), (gv u3 28), (gv u3 29), (gv u3 30), (gv u3 31), (gv u3 32), (gv u3 33), (gv u3 34), (gv u3 35), (gv u3 36), (gv u3 37), (gv u3 38), (gv u3 39), (gv u3 40), (gv u3 41), (gv u3 42), (gv u3 43), (gv u3 44), (gv u3 45), (gv u3 46), (gv u3 47), (gv u3 48), (gv u3 49)], by kernel_rfl, hM296, by omega, ok301, (by simp only [List.length_cons, List.length_nil]; omega), HE310⟩ ?_
      rintro m304 a305 w306 ⟨k, carry, o, g311, cap312, rest313, u4, rfl, hM307, hmu4, ok314, hk_4, HE310⟩ hnext308
      obtain ⟨f303, rfl⟩ : ∃ f, m304 = f + 1 := ⟨m304 - 1, by omega⟩
      rw [L6_umbraref01_Sum_1_s] at HE310
      refine R_seq (R_seq (R_region (S_val (.int .i64 k) (by kernel_rfl) (S_val (.pointer (some ⟨g1, 1, none⟩)) (by kernel_rfl) (S_load 4 1 (.slice AP (List.length lP) cP) hM307 (by kernel_rfl) (S_val (.int .i64 (List.length lP : Int)) (by kernel_rfl) (S_val (.pointer (some ⟨g4, 1, none⟩)) (by kernel_rfl) (S_load 3 1 (.slice AQ (List.length lQ) cQ) hM307 (by kernel_rfl) (S_val (.int .i64 (List.length lQ : Int)) (by kernel_rfl) (S_int (gmax (List.length lP : Int) (List.length lQ : Int)) .i64 (by kernel_rfl) (fun x315 h316 => ?_)))))))))))
      have HE310 := hq_lt HE310 h316
      refine S_dec (k < x315) (by kernel_rfl) (fun c317 => ?_) (fun c317 => ?_)
      · refine S_nil (R_yes (by kernel_rfl) (R_skip (R_seq (R_block (R_seq (R_drawF 10 (by kernel_rfl) (fun F318 U319 hL320 => F_load 4 0 (.agg #[.bool bP, .slice AP (List.length lP) cP]) hM307 (by kernel_rfl) (F_val (.int .i64 k) (fun _ => by kernel_rfl) (F_call (s_umbraref01_digit bP lP k) (fun r : Int => .int .i64 r) hM307 hL320 (fun w' hM' => w_umbraref01_digit bP lP k AP (List.length lP) cP rfl hcP (by omega) w' (hM'.ent 1 rfl)) (by kernel_rfl) (fun _ => by kernel_rfl) (fun r323 h324 => F_load 3 0 (.agg #[.bool bQ, .slice AQ (List.length lQ) cQ]) hM307 (by kernel_rfl) (F_val (.int .i64 k) (fun _ => by kernel_rfl) (?_))))))))))))
        have HE310 := hq_pos HE310 c317
        have HE310 := hq_lt HE310 h324
        refine F_call (s_umbraref01_digit bQ lQ k) (fun r : Int => .int .i64 r) hM307 hL320 (fun w' hM' => w_umbraref01_digit bQ lQ k AQ (List.length lQ) cQ rfl hcQ (by omega) w' (hM'.ent 2 rfl)) (by kernel_rfl) (fun _ => by kernel_rfl) (fun r327 h328 => F_int (IntKind.i64.wrap (r323 + r327)) .i64 (fun _ => by kernel_rfl) (fun x329 h330 => F_val (.int .i64 carry) (fun _ => by kernel_rfl) (F_int (IntKind.i64.wrap (x329 + carry)) .i64 (fun _ => by kernel_rfl) (fun x331 h332 => F_val (.int .i64 x331) (fun _ => by kernel_rfl) (F_nil hM307 hL320 (fun w333 hM334 => S_nil (R_seq (R_seq (R_region (S_val (.pointer (some ⟨g1, 0, none⟩)) (by kernel_rfl) (S_load 4 0 (.bool bP) hM334 (by kernel_rfl) (?_))))))))))))
        have HE310 := hq_lt HE310 h328
        have HE310 := hq_lt HE310 h330
        have HE310 := hq_lt HE310 h332
        refine S_val (.pointer (some ⟨g4, 0, none⟩)) (by kernel_rfl) (S_load 3 0 (.bool bQ) hM334 (by kernel_rfl) (S_val (.bool false) (knT' c10 (by kernel_rfl)) (S_nil (R_no (by kernel_rfl) (R_skip (R_seq (R_region (S_val (.int .i64 0) (by kernel_rfl) (S_nil (R_seq (R_seq (?_))))))))))))
        refine R_region (S_val (.int .i64 x331) (by kernel_rfl) (?_))
        refine S_dec (x331 < 0) (by kernel_rfl) (fun c335 => ?_) (fun c335 => ?_)
        · refine S_nil (R_yes (by kernel_rfl) (R_seq (R_region (S_val (.int .i64 x331) (by kernel_rfl) (S_int (IntKind.i64.wrap (x331 + 65536)) .i64 (by kernel_rfl) (fun x336 h337 => S_val (.int .i64 x336) (by kernel_rfl) (S_nil (R_region (S_val (.int .i64 (-1)) (by kernel_rfl) (S_nil (R_seq (?_))))))))))))
          have HE310 := hq_pos HE310 c335
          have HE310 := hq_lt HE310 h337
          refine R_seq (R_region (S_val (.int .i64 x336) (by kernel_rfl) (?_)))
          refine S_dec (x336 > 65535) (by kernel_rfl) (fun c338 => ?_) (fun c338 => ?_)
          · refine S_nil (R_yes (by kernel_rfl) (R_seq (R_region (S_val (.int .i64 x336) (by kernel_rfl) (S_int (IntKind.i64.wrap (x336 - 65536)) .i64 (by kernel_rfl) (fun x339 h340 => S_val (.int .i64 x339) (by kernel_rfl) (S_nil (R_region (S_val (.int .i64 1) (by kernel_rfl) (S_nil (R_region (?_))))))))))))
            have HE310 := hq_pos HE310 c338
            have HE310 := hq_lt HE310 h340
            refine S_val (.pointer (some ⟨g290, 1, none⟩)) (by kernel_rfl) (S_load 1 1 (.slice (some ⟨g311, 0, none⟩) (List.length o) cap312) hM334 (by kernel_rfl) (S_val (.int .i64 x339) (by kernel_rfl) (S_fresh (some 1) #[.int .i64 x339] 3 hM334 (by kernel_rfl) (fun g341 w342 hM343 => ?_))))
            refine S_appL 1 0 (List.length o) cap312 1 3 o rest313 x339 hM343 ok314 rfl (by omega) (by kernel_rfl) (fun g344 l350 h351 cap345 rest346 w347 ok348 hM349 => ?_)
            have hlen_l350 : List.length l350 = List.length o + 1 := by rw [← h351]; simp
            have HE310 := hq_lt HE310 h351
            refine S_val (.pointer (some ⟨g290, 1, none⟩)) (by kernel_rfl) (S_store 2 1 #[.bool bP, .slice (some ⟨g344, 0, none⟩) (List.length l350) cap345] hM349 (by kernel_rfl) (fun w352 hM353 => S_nil (R_inBlock (R_region (S_val (.int .i64 k) (by kernel_rfl) (S_int (IntKind.i64.wrap (k + 1)) .i64 (by kernel_rfl) (fun x354 h355 => S_val (.int .i64 x354) (by kernel_rfl) (S_nil (?_)))))))))
            have HE310 := hq_lt HE310 h355
            have hw_x354 := h355; rw [wrI] at hw_x354; unfold wrap64 at hw_x354
            have hw_x315 := h316; rw [gmax_eq] at hw_x315
            have hw_x331 := h332; rw [wrI] at hw_x331; unfold wrap64 at hw_x331
            have hw_x329 := h330; rw [wrI] at hw_x329; unfold wrap64 at hw_x329
            have hw_x336 := h337; rw [wrI] at hw_x336; unfold wrap64 at hw_x336
            have hM356 := hM353.re [0, 2, 3, 4, 5] (by decide) (by kernel_rfl)
            exact hnext308 f303 _ _ (Nat.lt_succ_self _) ⟨x354, 1, l350, g344, cap345, rest346, [.int .i64 x339, .int .i64 k, .pointer (some ⟨g1, 1, none⟩), .slice AP (List.length lP) cP, .int .i64 (List.length lP : Int), .pointer (some ⟨g4, 1, none⟩), .slice AQ (List.length lQ) cQ, .int .i64 (List.length lQ : Int), .int .i64 x315, .bool true, .int .i64 k, .int .i64 x354, .agg #[.bool bP, .slice AP (List.length lP) cP], .int .i64 k, .int .i64 r323, .agg #[.bool bQ, .slice AQ (List.length lQ) cQ], .int .i64 k, .int .i64 r327, .int .i64 x329, .int .i64 carry, .int .i64 x331, .pointer (some ⟨g1, 0, none⟩), .bool bP, .pointer (some ⟨g4, 0, none⟩), .bool bQ, .bool false, (gv u4 26), (gv u4 27), (gv u4 28), (gv u4 29), (gv u4 30), (gv u4 31), (gv u4 32), (gv u4 33), (gv u4 34), .int .i64 x331, .bool true, .int .i64 x331, .int .i64 x336, .int .i64 x336, .bool true, .int .i64 x336, .int .i64 x339, .pointer (some ⟨g290, 1, none⟩), .slice (some ⟨g311, 0, none⟩) (List.length o) cap312, .int .i64 x339, .slice (some ⟨g341, 0, none⟩) 1 1, .slice (some ⟨g344, 0, none⟩) (List.length l350) cap345, .pointer (some ⟨g290, 1, none⟩)], by kernel_rfl, hM356, by omega, ok348, (by omega), HE310⟩
          · refine S_nil (R_no (by kernel_rfl) (R_skip (R_region (S_val (.pointer (some ⟨g290, 1, none⟩)) (by kernel_rfl) (S_load 1 1 (.slice (some ⟨g311, 0, none⟩) (List.length o) cap312) hM334 (by kernel_rfl) (S_val (.int .i64 x336) (by kernel_rfl) (S_fresh (some 1) #[.int .i64 x336] 3 hM334 (by kernel_rfl) (fun g357 w358 hM359 => ?_))))))))
            have HE310 := hq_neg HE310 c338
            refine S_appL 1 0 (List.length o) cap312 1 3 o rest313 x336 hM359 ok314 rfl (by omega) (by kernel_rfl) (fun g360 l366 h367 cap361 rest362 w363 ok364 hM365 => ?_)
            have hlen_l366 : List.length l366 = List.length o + 1 := by rw [← h367]; simp
            have HE310 := hq_lt HE310 h367
            refine S_val (.pointer (some ⟨g290, 1, none⟩)) (by kernel_rfl) (S_store 2 1 #[.bool bP, .slice (some ⟨g360, 0, none⟩) (List.length l366) cap361] hM365 (by kernel_rfl) (fun w368 hM369 => S_nil (R_inBlock (R_region (S_val (.int .i64 k) (by kernel_rfl) (S_int (IntKind.i64.wrap (k + 1)) .i64 (by kernel_rfl) (fun x370 h371 => S_val (.int .i64 x370) (by kernel_rfl) (S_nil (?_)))))))))
            have HE310 := hq_lt HE310 h371
            have hw_x370 := h371; rw [wrI] at hw_x370; unfold wrap64 at hw_x370
            have hw_x315 := h316; rw [gmax_eq] at hw_x315
            have hw_x331 := h332; rw [wrI] at hw_x331; unfold wrap64 at hw_x331
            have hw_x329 := h330; rw [wrI] at hw_x329; unfold wrap64 at hw_x329
            have hw_x336 := h337; rw [wrI] at hw_x336; unfold wrap64 at hw_x336
            have hM372 := hM369.re [0, 2, 3, 4, 5] (by decide) (by kernel_rfl)
            exact hnext308 f303 _ _ (Nat.lt_succ_self _) ⟨x370, (-1), l366, g360, cap361, rest362, [.int .i64 x336, .int .i64 k, .pointer (some ⟨g1, 1, none⟩), .slice AP (List.length lP) cP, .int .i64 (List.length lP : Int), .pointer (some ⟨g4, 1, none⟩), .slice AQ (List.length lQ) cQ, .int .i64 (List.length lQ : Int), .int .i64 x315, .bool true, .int .i64 k, .int .i64 x370, .agg #[.bool bP, .slice AP (List.length lP) cP], .int .i64 k, .int .i64 r323, .agg #[.bool bQ, .slice AQ (List.length lQ) cQ], .int .i64 k, .int .i64 r327, .int .i64 x329, .int .i64 carry, .int .i64 x331, .pointer (some ⟨g1, 0, none⟩), .bool bP, .pointer (some ⟨g4, 0, none⟩), .bool bQ, .bool false, (gv u4 26), (gv u4 27), (gv u4 28), (gv u4 29), (gv u4 30), (gv u4 31), (gv u4 32), (gv u4 33), (gv u4 34), .int .i64 x331, .bool true, .int .i64 x331, .int .i64 x336, .int .i64 x336, .bool false, (gv u4 41), (gv u4 42), .pointer (some ⟨g290, 1, none⟩), .slice (some ⟨g311, 0, none⟩) (List.length o) cap312, .int .i64 x336, .slice (some ⟨g357, 0, none⟩) 1 1, .slice (some ⟨g360, 0, none⟩) (List.length l366) cap361, .pointer (some ⟨g290, 1, none⟩)], by kernel_rfl, hM372, by omega, ok364, (by omega), HE310⟩
        · refine S_nil (R_no (by kernel_rfl) (R_skip (R_seq (R_seq (R_region (S_val (.int .i64 x331) (by kernel_rfl) (?_)))))))
          have HE310 := hq_neg HE310 c335
          refine S_dec (x331 > 65535) (by kernel_rfl) (fun c373 => ?_) (fun c373 => ?_)
          · refine S_nil (R_yes (by kernel_rfl) (R_seq (R_region (S_val (.int .i64 x331) (by kernel_rfl) (S_int (IntKind.i64.wrap (x331 - 65536)) .i64 (by kernel_rfl) (fun x374 h375 => S_val (.int .i64 x374) (by kernel_rfl) (S_nil (R_region (S_val (.int .i64 1) (by kernel_rfl) (S_nil (R_region (?_))))))))))))
            have HE310 := hq_pos HE310 c373
            have HE310 := hq_lt HE310 h375
            refine S_val (.pointer (some ⟨g290, 1, none⟩)) (by kernel_rfl) (S_load 1 1 (.slice (some ⟨g311, 0, none⟩) (List.length o) cap312) hM334 (by kernel_rfl) (S_val (.int .i64 x374) (by kernel_rfl) (S_fresh (some 1) #[.int .i64 x374] 3 hM334 (by kernel_rfl) (fun g376 w377 hM378 => ?_))))
            refine S_appL 1 0 (List.length o) cap312 1 3 o rest313 x374 hM378 ok314 rfl (by omega) (by kernel_rfl) (fun g379 l385 h386 cap380 rest381 w382 ok383 hM384 => ?_)
            have hlen_l385 : List.length l385 = List.length o + 1 := by rw [← h386]; simp
            have HE310 := hq_lt HE310 h386
            refine S_val (.pointer (some ⟨g290, 1, none⟩)) (by kernel_rfl) (S_store 2 1 #[.bool bP, .slice (some ⟨g379, 0, none⟩) (List.length l385) cap380] hM384 (by kernel_rfl) (fun w387 hM388 => S_nil (R_inBlock (R_region (S_val (.int .i64 k) (by kernel_rfl) (S_int (IntKind.i64.wrap (k + 1)) .i64 (by kernel_rfl) (fun x389 h390 => S_val (.int .i64 x389) (by kernel_rfl) (S_nil (?_)))))))))
            have HE310 := hq_lt HE310 h390
            have hw_x389 := h390; rw [wrI] at hw_x389; unfold wrap64 at hw_x389
            have hw_x315 := h316; rw [gmax_eq] at hw_x315
            have hw_x331 := h332; rw [wrI] at hw_x331; unfold wrap64 at hw_x331
            have hw_x329 := h330; rw [wrI] at hw_x329; unfold wrap64 at hw_x329
            have hM391 := hM388.re [0, 2, 3, 4, 5] (by decide) (by kernel_rfl)
            exact hnext308 f303 _ _ (Nat.lt_succ_self _) ⟨x389, 1, l385, g379, cap380, rest381, [.int .i64 x374, .int .i64 k, .pointer (some ⟨g1, 1, none⟩), .slice AP (List.length lP) cP, .int .i64 (List.length lP : Int), .pointer (some ⟨g4, 1, none⟩), .slice AQ (List.length lQ) cQ, .int .i64 (List.length lQ : Int), .int .i64 x315, .bool true, .int .i64 k, .int .i64 x389, .agg #[.bool bP, .slice AP (List.length lP) cP], .int .i64 k, .int .i64 r323, .agg #[.bool bQ, .slice AQ (List.length lQ) cQ], .int .i64 k, .int .i64 r327, .int .i64 x329, .int .i64 carry, .int .i64 x331, .pointer (some ⟨g1, 0, none⟩), .bool bP, .pointer (some ⟨g4, 0, none⟩), .bool bQ, .bool false, (gv u4 26), (gv u4 27), (gv u4 28), (gv u4 29), (gv u4 30), (gv u4 31), (gv u4 32), (gv u4 33), (gv u4 34), .int .i64 x331, .bool false, (gv u4 37), (gv u4 38), .int .i64 x331, .bool true, .int .i64 x331, .int .i64 x374, .pointer (some ⟨g290, 1, none⟩), .slice (some ⟨g311, 0, none⟩) (List.length o) cap312, .int .i64 x374, .slice (some ⟨g376, 0, none⟩) 1 1, .slice (some ⟨g379, 0, none⟩) (List.length l385) cap380, .pointer (some ⟨g290, 1, none⟩)], by kernel_rfl, hM391, by omega, ok383, (by omega), HE310⟩
          · refine S_nil (R_no (by kernel_rfl) (R_skip (R_region (S_val (.pointer (some ⟨g290, 1, none⟩)) (by kernel_rfl) (S_load 1 1 (.slice (some ⟨g311, 0, none⟩) (List.length o) cap312) hM334 (by kernel_rfl) (S_val (.int .i64 x331) (by kernel_rfl) (S_fresh (some 1) #[.int .i64 x331] 3 hM334 (by kernel_rfl) (fun g392 w393 hM394 => ?_))))))))
            have HE310 := hq_neg HE310 c373
            refine S_appL 1 0 (List.length o) cap312 1 3 o rest313 x331 hM394 ok314 rfl (by omega) (by kernel_rfl) (fun g395 l401 h402 cap396 rest397 w398 ok399 hM400 => ?_)
            have hlen_l401 : List.length l401 = List.length o + 1 := by rw [← h402]; simp
            have HE310 := hq_lt HE310 h402
            refine S_val (.pointer (some ⟨g290, 1, none⟩)) (by kernel_rfl) (S_store 2 1 #[.bool bP, .slice (some ⟨g395, 0, none⟩) (List.length l401) cap396] hM400 (by kernel_rfl) (fun w403 hM404 => S_nil (R_inBlock (R_region (S_val (.int .i64 k) (by kernel_rfl) (S_int (IntKind.i64.wrap (k + 1)) .i64 (by kernel_rfl) (fun x405 h406 => S_val (.int .i64 x405) (by kernel_rfl) (S_nil (?_)))))))))
            have HE310 := hq_lt HE310 h406
            have hw_x405 := h406; rw [wrI] at hw_x405; unfold wrap64 at hw_x405
            have hw_x315 := h316; rw [gmax_eq] at hw_x315
            have hw_x331 := h332; rw [wrI] at hw_x331; unfold wrap64 at hw_x331
            have hw_x329 := h330; rw [wrI] at hw_x329; unfold wrap64 at hw_x329
            have hM407 := hM404.re [0, 2, 3, 4, 5] (by decide) (by kernel_rfl)
            exact hnext308 f303 _ _ (Nat.lt_succ_self _) ⟨x405, 0, l401, g395, cap396, rest397, [.int .i64 x331, .int .i64 k, .pointer (some ⟨g1, 1, none⟩), .slice AP (List.length lP) cP, .int .i64 (List.length lP : Int), .pointer (some ⟨g4, 1, none⟩), .slice AQ (List.length lQ) cQ, .int .i64 (List.length lQ : Int), .int .i64 x315, .bool true, .int .i64 k, .int .i64 x405, .agg #[.bool bP, .slice AP (List.length lP) cP], .int .i64 k, .int .i64 r323, .agg #[.bool bQ, .slice AQ (List.length lQ) cQ], .int .i64 k, .int .i64 r327, .int .i64 x329, .int .i64 carry, .int .i64 x331, .pointer (some ⟨g1, 0, none⟩), .bool bP, .pointer (some ⟨g4, 0, none⟩), .bool bQ, .bool false, (gv u4 26), (gv u4 27), (gv u4 28), (gv u4 29), (gv u4 30), (gv u4 31), (gv u4 32), (gv u4 33), (gv u4 34), .int .i64 x331, .bool false, (gv u4 37), (gv u4 38), .int .i64 x331, .bool false, (gv u4 41), (gv u4 42), .pointer (some ⟨g290, 1, none⟩), .slice (some ⟨g311, 0, none⟩) (List.length o) cap312, .int .i64 x331, .slice (some ⟨g392, 0, none⟩) 1 1, .slice (some ⟨g395, 0, none⟩) (List.length l401) cap396, .pointer (some ⟨g290, 1, none⟩)], by kernel_rfl, hM407, by omega, ok399, (by omega), HE310⟩
      · refine S_nil (R_no (by kernel_rfl) (R_exit rfl (?_)))
        have HE310 := hq_neg HE310 c317
        subst HE310
        refine R_seq (R_seq (R_region (S_val (.int .i64 carry) (by kernel_rfl) (?_))))
        refine S_dec (carry > 0) (by kernel_rfl) (fun c408 => ?_) (fun c408 => ?_)
        · refine S_nil (R_yes (by kernel_rfl) (R_region (S_val (.pointer (some ⟨g290, 1, none⟩)) (by kernel_rfl) (S_load 1 1 (.slice (some ⟨g311, 0, none⟩) (List.length o) cap312) hM307 (by kernel_rfl) (S_val (.int .i64 carry) (by kernel_rfl) (S_fresh (some 1) #[.int .i64 carry] 3 hM307 (by kernel_rfl) (fun g409 w410 hM411 => ?_)))))))
          have HR := hr_pos HR c408
          refine S_appL 1 0 (List.length o) cap312 1 3 o rest313 carry hM411 ok314 rfl (by omega) (by kernel_rfl) (fun g412 l418 h419 cap413 rest414 w415 ok416 hM417 => ?_)
          have hlen_l418 : List.length l418 = List.length o + 1 := by rw [← h419]; simp
          have HR := hr_lt HR h419
          refine S_val (.pointer (some ⟨g290, 1, none⟩)) (by kernel_rfl) (S_store 2 1 #[.bool bP, .slice (some ⟨g412, 0, none⟩) (List.length l418) cap413] hM417 (by kernel_rfl) (fun w420 hM421 => S_nil (R_seq (R_region (S_load 2 0 (.agg #[.bool bP, .slice (some ⟨g412, 0, none⟩) (List.length l418) cap413]) hM421 (by kernel_rfl) (?_))))))
          have hM422 := hM421.freeze 0 l418 rest414 (by kernel_rfl)
          refine S_callN (s_umbraref01_trim bP l418) [((some ⟨g412, 0, none⟩), nv l418)] hM422 (w_umbraref01_trim bP l418 (some ⟨g412, 0, none⟩) (List.length l418) cap413 (by omega) ok416.le (by first | omega | simp) w420 (hM422.ent 0 rfl)) (subc 0 rfl sub0) (by kernel_rfl) (fun r423 h424 A425 cap426 hc427 w428 hM429 => S_store 2 0 #[.bool r423.1, .slice A425 (List.length r423.2) cap426] hM429 (by kernel_rfl) (fun w430 hM431 => S_nil (?_)))
          have HR := hr_lt HR h424
          refine R_ret hM431 rfl (.cons (.cell _ _ 2 0 (.agg #[.bool r423.1, .slice A425 (List.length r423.2) cap426]) (by kernel_rfl)) .nil) rfl ?_
          exact hM431.retN 0 rfl rfl hc427 HR
        · refine S_nil (R_no (by kernel_rfl) (R_skip (R_seq (R_region (S_load 1 0 (.agg #[.bool bP, .slice (some ⟨g311, 0, none⟩) (List.length o) cap312]) hM307 (by kernel_rfl) (?_))))))
          have HR := hr_neg HR c408
          have hM432 := hM307.freeze 0 o rest313 (by kernel_rfl)
          refine S_callN (s_umbraref01_trim bP o) [((some ⟨g311, 0, none⟩), nv o)] hM432 (w_umbraref01_trim bP o (some ⟨g311, 0, none⟩) (List.length o) cap312 (by omega) ok314.le (by first | omega | simp) w306 (hM432.ent 0 rfl)) (subc 0 rfl sub0) (by kernel_rfl) (fun r433 h434 A435 cap436 hc437 w438 hM439 => S_store 1 0 #[.bool r433.1, .slice A435 (List.length r433.2) cap436] hM439 (by kernel_rfl) (fun w440 hM441 => S_nil (?_)))
          have HR := hr_lt HR h434
          refine R_ret hM441 rfl (.cons (.cell _ _ 1 0 (.agg #[.bool r433.1, .slice A435 (List.length r433.2) cap436]) (by kernel_rfl)) .nil) rfl ?_
          exact hM441.retN 0 rfl rfl hc437 HR
    · refine R_seq (R_seq (R_region (S_val (.int .i64 0) (by kernel_rfl) (S_val (.pointer (some ⟨g1, 1, none⟩)) (by kernel_rfl) (S_load 3 1 (.slice AP (List.length lP) cP) hM294 (by kernel_rfl) (S_val (.int .i64 (List.length lP : Int)) (by kernel_rfl) (S_val (.pointer (some ⟨g4, 1, none⟩)) (by kernel_rfl) (S_load 2 1 (.slice AQ (List.length lQ) cQ) hM294 (by kernel_rfl) (S_val (.int .i64 (List.length lQ : Int)) (by kernel_rfl) (S_int (gmax (List.length lP : Int) (List.length lQ : Int)) .i64 (by kernel_rfl) (fun x442 h443 => ?_)))))))))))
      have HR := hr_lt HR h443
      refine S_dec (0 < x442) (by kernel_rfl) (fun c444 => ?_) (fun c444 => ?_)
      · refine S_nil (R_yes (by kernel_rfl) (R_skip (R_seq (R_block (R_seq (R_drawF 10 (by kernel_rfl) (fun F445 U446 hL447 => F_load 3 0 (.agg #[.bool bP, .slice AP (List.length lP) cP]) hM294 (by kernel_rfl) (F_val (.int .i64 0) (fun _ => by kernel_rfl) (F_call (s_umbraref01_digit bP lP 0) (fun r : Int => .int .i64 r) hM294 hL447 (fun w' hM' => w_umbraref01_digit bP lP 0 AP (List.length lP) cP rfl hcP (by omega) w' (hM'.ent 1 rfl)) (by kernel_rfl) (fun _ => by kernel_rfl) (fun r450 h451 => F_load 2 0 (.agg #[.bool bQ, .slice AQ (List.length lQ) cQ]) hM294 (by kernel_rfl) (F_val (.int .i64 0) (fun _ => by kernel_rfl) (?_))))))))))))
        have HR := hr_pos HR c444
        have HR := hr_lt HR h451
        refine F_call (s_umbraref01_digit bQ lQ 0) (fun r : Int => .int .i64 r) hM294 hL447 (fun w' hM' => w_umbraref01_digit bQ lQ 0 AQ (List.length lQ) cQ rfl hcQ (by omega) w' (hM'.ent 2 rfl)) (by kernel_rfl) (fun _ => by kernel_rfl) (fun r454 h455 => F_int (IntKind.i64.wrap (r450 + r454)) .i64 (fun _ => by kernel_rfl) (fun x456 h457 => F_val (.int .i64 0) (fun _ => by kernel_rfl) (F_int (IntKind.i64.wrap (x456 + 0)) .i64 (fun _ => by kernel_rfl) (fun x458 h459 => F_val (.int .i64 x458) (fun _ => by kernel_rfl) (F_nil hM294 hL447 (fun w460 hM461 => S_nil (R_seq (R_seq (R_region (S_val (.pointer (some ⟨g1, 0, none⟩)) (by kernel_rfl) (S_load 3 0 (.bool bP) hM461 (by kernel_rfl) (?_))))))))))))
        have HR := hr_lt HR h455
        have HR := hr_lt HR h457
        have HR := hr_lt HR h459
        refine S_val (.pointer (some ⟨g4, 0, none⟩)) (by kernel_rfl) (S_load 2 0 (.bool bQ) hM461 (by kernel_rfl) (S_val (.bool false) (knT' c10 (by kernel_rfl)) (S_nil (R_no (by kernel_rfl) (R_skip (R_seq (R_region (S_val (.int .i64 0) (by kernel_rfl) (S_nil (R_seq (R_seq (?_))))))))))))
        refine R_region (S_val (.int .i64 x458) (by kernel_rfl) (?_))
        refine S_dec (x458 < 0) (by kernel_rfl) (fun c462 => ?_) (fun c462 => ?_)
        · refine S_nil (R_yes (by kernel_rfl) (R_seq (R_region (S_val (.int .i64 x458) (by kernel_rfl) (S_int (IntKind.i64.wrap (x458 + 65536)) .i64 (by kernel_rfl) (fun x463 h464 => S_val (.int .i64 x463) (by kernel_rfl) (S_nil (R_region (S_val (.int .i64 (-1)) (by kernel_rfl) (S_nil (R_seq (?_))))))))))))
          have HR := hr_pos HR c462
          have HR := hr_lt HR h464
          refine R_seq (R_region (S_val (.int .i64 x463) (by kernel_rfl) (?_)))
          refine S_dec (x463 > 65535) (by kernel_rfl) (fun c465 => ?_) (fun c465 => ?_)
          · refine S_nil (R_yes (by kernel_rfl) (R_seq (R_region (S_val (.int .i64 x463) (by kernel_rfl) (S_int (IntKind.i64.wrap (x463 - 65536)) .i64 (by kernel_rfl) (fun x466 h467 => S_val (.int .i64 x466) (by kernel_rfl) (S_nil (R_region (S_val (.int .i64 1) (by kernel_rfl) (S_nil (R_region (?_))))))))))))
            have HR := hr_pos HR c465
            have HR := hr_lt HR h467
            refine S_val (.pointer (some ⟨g290, 1, none⟩)) (by kernel_rfl) (S_load 0 1 (.slice none 0 0) hM461 (by kernel_rfl) (S_val (.int .i64 x466) (by kernel_rfl) (S_fresh (some 1) #[.int .i64 x466] 3 hM461 (by kernel_rfl) (fun g468 w469 hM470 => ?_))))
            refine S_app0 0 1 1 3 1 8 (.int .i64 0) [.int .i64 x466] hM470 (by kernel_rfl) (by kernel_rfl) (fun g471 cap472 rest473 w474 ok475 hM476 => S_val (.pointer (some ⟨g290, 1, none⟩)) (by kernel_rfl) (S_store 2 1 #[.bool bP, .slice (some ⟨g471, 0, none⟩) 1 cap472] hM476 (by kernel_rfl) (fun w477 hM478 => S_nil (R_inBlock (R_region (S_val (.int .i64 0) (by kernel_rfl) (S_val (.int .i64 1) (by kernel_rfl) (S_val (.int .i64 1) (by kernel_rfl) (S_nil (?_))))))))))
            have hM479 := hM478.re [0, 2, 3, 4, 5] (by decide) (by kernel_rfl)
            exact hn297 _ _ ⟨1, x466, g471, cap472, rest473, [.int .i64 1, .int .i64 x466, .int .i64 0, .pointer (some ⟨g1, 1, none⟩), .slice AP (List.length lP) cP, .int .i64 (List.length lP : Int), .pointer (some ⟨g4, 1, none⟩), .slice AQ (List.length lQ) cQ, .int .i64 (List.length lQ : Int), .int .i64 x442, .bool true, .int .i64 0, .int .i64 1, .agg #[.bool bP, .slice AP (List.length lP) cP], .int .i64 0, .int .i64 r450, .agg #[.bool bQ, .slice AQ (List.length lQ) cQ], .int .i64 0, .int .i64 r454, .int .i64 x456, .int .i64 0, .int .i64 x458, .pointer (some ⟨g1, 0, none⟩), .bool bP, .pointer (some ⟨g4, 0, none⟩), .bool bQ, .bool false, undef, undef, undef, undef, undef, undef, undef, undef, undef, .int .i64 x458, .bool true, .int .i64 x458, .int .i64 x463, .int .i64 x463, .bool true, .int .i64 x463, .int .i64 x466, .pointer (some ⟨g290, 1, none⟩), .slice none 0 0, .int .i64 x466, .slice (some ⟨g468, 0, none⟩) 1 1, .slice (some ⟨g471, 0, none⟩) 1 cap472, .pointer (some ⟨g290, 1, none⟩)], by kernel_rfl, hM479, ok475, HR⟩
          · refine S_nil (R_no (by kernel_rfl) (R_skip (R_region (S_val (.pointer (some ⟨g290, 1, none⟩)) (by kernel_rfl) (S_load 0 1 (.slice none 0 0) hM461 (by kernel_rfl) (S_val (.int .i64 x463) (by kernel_rfl) (S_fresh (some 1) #[.int .i64 x463] 3 hM461 (by kernel_rfl) (fun g480 w481 hM482 => ?_))))))))
            have HR := hr_neg HR c465
            refine S_app0 0 1 1 3 1 8 (.int .i64 0) [.int .i64 x463] hM482 (by kernel_rfl) (by kernel_rfl) (fun g483 cap484 rest485 w486 ok487 hM488 => S_val (.pointer (some ⟨g290, 1, none⟩)) (by kernel_rfl) (S_store 2 1 #[.bool bP, .slice (some ⟨g483, 0, none⟩) 1 cap484] hM488 (by kernel_rfl) (fun w489 hM490 => S_nil (R_inBlock (R_region (S_val (.int .i64 0) (by kernel_rfl) (S_val (.int .i64 1) (by kernel_rfl) (S_val (.int .i64 1) (by kernel_rfl) (S_nil (?_))))))))))
            have hM491 := hM490.re [0, 2, 3, 4, 5] (by decide) (by kernel_rfl)
            exact hn297 _ _ ⟨(-1), x463, g483, cap484, rest485, [.int .i64 1, .int .i64 x463, .int .i64 0, .pointer (some ⟨g1, 1, none⟩), .slice AP (List.length lP) cP, .int .i64 (List.length lP : Int), .pointer (some ⟨g4, 1, none⟩), .slice AQ (List.length lQ) cQ, .int .i64 (List.length lQ : Int), .int .i64 x442, .bool true, .int .i64 0, .int .i64 1, .agg #[.bool bP, .slice AP (List.length lP) cP], .int .i64 0, .int .i64 r450, .agg #[.bool bQ, .slice AQ (List.length lQ) cQ], .int .i64 0, .int .i64 r454, .int .i64 x456, .int .i64 0, .int .i64 x458, .pointer (some ⟨g1, 0, none⟩), .bool bP, .pointer (some ⟨g4, 0, none⟩), .bool bQ, .bool false, undef, undef, undef, undef, undef, undef, undef, undef, undef, .int .i64 x458, .bool true, .int .i64 x458, .int .i64 x463, .int .i64 x463, .bool false, undef, undef, .pointer (some ⟨g290, 1, none⟩), .slice none 0 0, .int .i64 x463, .slice (some ⟨g480, 0, none⟩) 1 1, .slice (some ⟨g483, 0, none⟩) 1 cap484, .pointer (some ⟨g290, 1, none⟩)], by kernel_rfl, hM491, ok487, HR⟩
        · refine S_nil (R_no (by kernel_rfl) (R_skip (R_seq (R_seq (R_region (S_val (.int .i64 x458) (by kernel_rfl) (?_)))))))
          have HR := hr_neg HR c462
          refine S_dec (x458 > 65535) (by kernel_rfl) (fun c492 => ?_) (fun c492 => ?_)
          · refine S_nil (R_yes (by kernel_rfl) (R_seq (R_region (S_val (.int .i64 x458) (by kernel_rfl) (S_int (IntKind.i64.wrap (x458 - 65536)) .i64 (by kernel_rfl) (fun x493 h494 => S_val (.int .i64 x493) (by kernel_rfl) (S_nil (R_region (S_val (.int .i64 1) (by kernel_rfl) (S_nil (R_region (?_))))))))))))
            have HR := hr_pos HR c492
            have HR := hr_lt HR h494
            refine S_val (.pointer (some ⟨g290, 1, none⟩)) (by kernel_rfl) (S_load 0 1 (.slice none 0 0) hM461 (by kernel_rfl) (S_val (.int .i64 x493) (by kernel_rfl) (S_fresh (some 1) #[.int .i64 x493] 3 hM461 (by kernel_rfl) (fun g495 w496 hM497 => ?_))))
            refine S_app0 0 1 1 3 1 8 (.int .i64 0) [.int .i64 x493] hM497 (by kernel_rfl) (by kernel_rfl) (fun g498 cap499 rest500 w501 ok502 hM503 => S_val (.pointer (some ⟨g290, 1, none⟩)) (by kernel_rfl) (S_store 2 1 #[.bool bP, .slice (some ⟨g498, 0, none⟩) 1 cap499] hM503 (by kernel_rfl) (fun w504 hM505 => S_nil (R_inBlock (R_region (S_val (.int .i64 0) (by kernel_rfl) (S_val (.int .i64 1) (by kernel_rfl) (S_val (.int .i64 1) (by kernel_rfl) (S_nil (?_))))))))))
            have hM506 := hM505.re [0, 2, 3, 4, 5] (by decide) (by kernel_rfl)
            exact hn297 _ _ ⟨1, x493, g498, cap499, rest500, [.int .i64 1, .int .i64 x493, .int .i64 0, .pointer (some ⟨g1, 1, none⟩), .slice AP (List.length lP) cP, .int .i64 (List.length lP : Int), .pointer (some ⟨g4, 1, none⟩), .slice AQ (List.length lQ) cQ, .int .i64 (List.length lQ : Int), .int .i64 x442, .bool true, .int .i64 0, .int .i64 1, .agg #[.bool bP, .slice AP (List.length lP) cP], .int .i64 0, .int .i64 r450, .agg #[.bool bQ, .slice AQ (List.length lQ) cQ], .int .i64 0, .int .i64 r454, .int .i64 x456, .int .i64 0, .int .i64 x458, .pointer (some ⟨g1, 0, none⟩), .bool bP, .pointer (some ⟨g4, 0, none⟩), .bool bQ, .bool false, undef, undef, undef, undef, undef, undef, undef, undef, undef, .int .i64 x458, .bool false, undef, undef, .int .i64 x458, .bool true, .int .i64 x458, .int .i64 x493, .pointer (some ⟨g290, 1, none⟩), .slice none 0 0, .int .i64 x493, .slice (some ⟨g495, 0, none⟩) 1 1, .slice (some ⟨g498, 0, none⟩) 1 cap499, .pointer (some ⟨g290, 1, none⟩)], by kernel_rfl, hM506, ok502, HR⟩
          · refine S_nil (R_no (by kernel_rfl) (R_skip (R_region (S_val (.pointer (some ⟨g290, 1, none⟩)) (by kernel_rfl) (S_load 0 1 (.slice none 0 0) hM461 (by kernel_rfl) (S_val (.int .i64 x458) (by kernel_rfl) (S_fresh (some 1) #[.int .i64 x458] 3 hM461 (by kernel_rfl) (fun g507 w508 hM509 => ?_))))))))
            have HR := hr_neg HR c492
            refine S_app0 0 1 1 3 1 8 (.int .i64 0) [.int .i64 x458] hM509 (by kernel_rfl) (by kernel_rfl) (fun g510 cap511 rest512 w513 ok514 hM515 => S_val (.pointer (some ⟨g290, 1, none⟩)) (by kernel_rfl) (S_store 2 1 #[.bool bP, .slice (some ⟨g510, 0, none⟩) 1 cap511] hM515 (by kernel_rfl) (fun w516 hM517 => S_nil (R_inBlock (R_region (S_val (.int .i64 0) (by kernel_rfl) (S_val (.int .i64 1) (by kernel_rfl) (S_val (.int .i64 1) (by kernel_rfl) (S_nil (?_))))))))))
            have hM518 := hM517.re [0, 2, 3, 4, 5] (by decide) (by kernel_rfl)
            exact hn297 _ _ ⟨0, x458, g510, cap511, rest512, [.int .i64 1, .int .i64 x458, .int .i64 0, .pointer (some ⟨g1, 1, none⟩), .slice AP (List.length lP) cP, .int .i64 (List.length lP : Int), .pointer (some ⟨g4, 1, none⟩), .slice AQ (List.length lQ) cQ, .int .i64 (List.length lQ : Int), .int .i64 x442, .bool true, .int .i64 0, .int .i64 1, .agg #[.bool bP, .slice AP (List.length lP) cP], .int .i64 0, .int .i64 r450, .agg #[.bool bQ, .slice AQ (List.length lQ) cQ], .int .i64 0, .int .i64 r454, .int .i64 x456, .int .i64 0, .int .i64 x458, .pointer (some ⟨g1, 0, none⟩), .bool bP, .pointer (some ⟨g4, 0, none⟩), .bool bQ, .bool false, undef, undef, undef, undef, undef, undef, undef, undef, undef, .int .i64 x458, .bool false, undef, undef, .int .i64 x458, .bool false, undef, undef, .pointer (some ⟨g290, 1, none⟩), .slice none 0 0, .int .i64 x458, .slice (some ⟨g507, 0, none⟩) 1 1, .slice (some ⟨g510, 0, none⟩) 1 cap511, .pointer (some ⟨g290, 1, none⟩)], by kernel_rfl, hM518, ok514, HR⟩
      · refine S_nil (R_no (by kernel_rfl) (R_exit rfl (R_seq (R_seq (R_region (S_val (.int .i64 0) (by kernel_rfl) (S_val (.bool false) (by kernel_rfl) (S_nil (R_no (by kernel_rfl) (R_skip (R_seq (?_))))))))))))
        have HR := hr_neg HR c444
        refine R_region (S_load 0 0 (.agg #[.bool bP, .slice none 0 0]) hM294 (by kernel_rfl) (S_callN (s_umbraref01_trim bP ([])) [(none, nv ([]))] hM294 (w_umbraref01_trim bP ([]) none 0 0 rfl (Nat.le_refl _) (by first | omega | simp) w293 (hM294.ent 0 rfl)) (subc 0 rfl sub0) (by kernel_rfl) (fun r519 h520 A521 cap522 hc523 w524 hM525 => S_store 1 0 #[.bool r519.1, .slice A521 (List.length r519.2) cap522] hM525 (by kernel_rfl) (fun w526 hM527 => S_nil (?_)))))
        have HR := hr_lt HR h520
        refine R_ret hM527 rfl (.cons (.cell _ _ 1 0 (.agg #[.bool r519.1, .slice A521 (List.length r519.2) cap522]) (by kernel_rfl)) .nil) rfl ?_
        exact hM527.retN 0 rfl rfl hc523 HR

end Go.Proofs.Ytognbeejobfpfaa
