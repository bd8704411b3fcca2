/- Walks: texel.Bary; the chapter's example of layer 25. -/
import Derived.Test.YtognbeejobfpfaaGoC
import Derived.Test.YtognbeejobfpfaaGoK
import Derived.Test.YtognbeejobfpfaaGoM
namespace Go.Proofs.Ytognbeejobfpfaa
open Go.RowKit Go.Sort
set_option linter.unusedVariables false
set_option linter.unusedSimpArgs false

def InM (m : Int × Int × Int × Int) : Prop := InI m.1 ∧ InI m.2.1 ∧ InI m.2.2.1 ∧ InI m.2.2.2

def e_slices_Index_g_c (r : Int) : Value := .int .i64 r
def s_slices_Index_g_c  : Int :=
  1
set_option maxRecDepth 100000 in
set_option maxHeartbeats 4000000 in
theorem w_slices_Index_g_c  (B0 : Nat) (T0 : TypeId) (fr0 : Nat × Nat) (w : World) (hB0 : Has B0 (.cells #[.int .i64 1, .int .i64 2, .int .i64 4, .int .i64 8, .int .i64 16] T0 fr0) w) : Calls Try.prog 75 #[.slice (some ⟨B0, 0, none⟩) 5 5, .int .i64 2] w (Ret (e_slices_Index_g_c (s_slices_Index_g_c )) w) := by
  obtain ⟨R, HR⟩ : ∃ R, e_slices_Index_g_c (s_slices_Index_g_c ) = R := ⟨_, rfl⟩
  rw [HR]
  unfold s_slices_Index_g_c at HR
  have hM0 := St.start1 hB0
  refine calls_run Try.func75 rfl ?_
  refine R_seq (R_region (S_val (.int .i64 0) (by kernel_rfl) (S_nil (R_seq (R_seq (R_region (S_val (.slice (some ⟨B0, 0, none⟩) 5 5) (by kernel_rfl) (S_val (.int .i64 5) (by kernel_rfl) (S_val (.int .i64 0) (by kernel_rfl) (S_nil (R_block (?_))))))))))))
  refine R_loop (R_seq (R_region (S_val (.bool true) (by kernel_rfl) (S_nil (R_seq (R_yes (by kernel_rfl) (R_skip (R_seq (R_block (R_seq (R_region (?_))))))))))))
  refine S_val (.int .i64 0) (by kernel_rfl) (S_val (.int .i64 0) (by kernel_rfl) (S_nil (R_seq (R_region (S_val (.int .i64 2) (by kernel_rfl) (S_val (.slice (some ⟨B0, 0, none⟩) 5 5) (by kernel_rfl) (S_val (.int .i64 0) (by kernel_rfl) (S_val (.pointer (some ⟨B0, 0, none⟩)) (by kernel_rfl) (S_load 0 0 (.int .i64 1) hM0 (by kernel_rfl) (S_val (.bool false) (by kernel_rfl) (S_nil (?_))))))))))))
  refine R_no (by kernel_rfl) (R_skip (R_inBlock (R_region (S_val (.int .i64 1) (by kernel_rfl) (S_val (.int .i64 1) (by kernel_rfl) (S_nil (R_inLoop (R_seq (R_region (S_val (.bool true) (by kernel_rfl) (S_nil (?_))))))))))))
  refine R_seq (R_yes (by kernel_rfl) (R_skip (R_seq (R_block (R_seq (R_region (S_val (.int .i64 1) (by kernel_rfl) (S_val (.int .i64 1) (by kernel_rfl) (S_nil (R_seq (R_region (?_))))))))))))
  refine S_val (.int .i64 2) (by kernel_rfl) (S_val (.slice (some ⟨B0, 0, none⟩) 5 5) (by kernel_rfl) (S_val (.int .i64 1) (by kernel_rfl) (S_val (.pointer (some ⟨B0, 1, none⟩)) (by kernel_rfl) (S_load 0 1 (.int .i64 2) hM0 (by kernel_rfl) (S_val (.bool true) (by kernel_rfl) (S_nil (R_yes (by kernel_rfl) (R_seq (R_region (S_val (.int .i64 1) (by kernel_rfl) (S_val (.int .i64 1) (by kernel_rfl) (?_))))))))))))
  refine S_nil (?_)
  refine R_ret hM0 rfl (.cons (.tmp _ (.int .i64 1) (by kernel_rfl)) .nil) rfl ?_
  exact ⟨congrArg Ending.returned HR, hM0.below⟩

def P_slices_Index_g_c (r : Int) : Prop := InI r
theorem i_slices_Index_g_c  : P_slices_Index_g_c (s_slices_Index_g_c ) := by
  unfold s_slices_Index_g_c
  exact (show InI 1 from (show InI 1 from by unfold InI; omega))

def e_slices_Contains_g_c (r : Bool) : Value := .bool r
def s_slices_Contains_g_c  : Bool :=
  lt (s_slices_Index_g_c) fun r1 =>
  if r1 ≥ 0 then
    true
  else
    false
set_option maxRecDepth 100000 in
set_option maxHeartbeats 4000000 in
theorem w_slices_Contains_g_c  (B0 : Nat) (T0 : TypeId) (fr0 : Nat × Nat) (w : World) (hB0 : Has B0 (.cells #[.int .i64 1, .int .i64 2, .int .i64 4, .int .i64 8, .int .i64 16] T0 fr0) w) : Calls Try.prog 40 #[.slice (some ⟨B0, 0, none⟩) 5 5, .int .i64 2] w (Ret (e_slices_Contains_g_c (s_slices_Contains_g_c )) w) := by
  obtain ⟨R, HR⟩ : ∃ R, e_slices_Contains_g_c (s_slices_Contains_g_c ) = R := ⟨_, rfl⟩
  rw [HR]
  unfold s_slices_Contains_g_c at HR
  have hM0 := St.start1 hB0
  refine calls_run Try.func40 rfl ?_
  refine R_seq (R_region (S_val (.bool false) (by kernel_rfl) (S_nil (R_seq (R_region (S_val (.slice (some ⟨B0, 0, none⟩) 5 5) (by kernel_rfl) (S_val (.int .i64 2) (by kernel_rfl) (S_call (s_slices_Index_g_c) (fun r : Int => .int .i64 r) hM0 (w_slices_Index_g_c B0 _ _ w (hM0.at 0 rfl)) (by kernel_rfl) (fun r1 h2 w3 hM4 => ?_)))))))))
  have HR := hr_lt HR h2
  refine S_dec (r1 ≥ 0) (by kernel_rfl) (fun c5 => ?_) (fun c5 => ?_)
  · refine S_val (.bool true) (by kernel_rfl) (S_nil (?_))
    have HR := hr_pos HR c5
    refine R_ret hM4 rfl (.cons (.tmp _ (.bool true) (by kernel_rfl)) .nil) rfl ?_
    exact ⟨congrArg Ending.returned HR, hM4.below⟩
  · refine S_val (.bool false) (by kernel_rfl) (S_nil (?_))
    have HR := hr_neg HR c5
    refine R_ret hM4 rfl (.cons (.tmp _ (.bool false) (by kernel_rfl)) .nil) rfl ?_
    exact ⟨congrArg Ending.returned HR, hM4.below⟩

def e_texture_Check_c (r : Int) : Value := .int .i64 r
def s_texture_Check_c  : Int :=
  lt (s_slices_Contains_g_c) fun r7 =>
  if r7 = true then
    0
  else
    5
set_option maxRecDepth 100000 in
set_option maxHeartbeats 4000000 in
theorem w_texture_Check_c  (B0 : Nat) (T0 : TypeId) (fr0 : Nat × Nat) (w : World) (hB0 : Has B0 (.cells #[.int .i64 0, .int .i64 0, .int .i64 0, .int .i64 255, .int .i64 0, .int .i64 0, .int .i64 0, .int .i64 0, .int .i64 0, .int .i64 255, .int .i64 0, .int .i64 0] T0 fr0) w) : Calls Try.prog 15 #[.agg #[.int .i64 2, .slice (some ⟨B0, 0, none⟩) 4 4]] w (Ret (e_texture_Check_c (s_texture_Check_c )) w) := by
  obtain ⟨R, HR⟩ : ∃ R, e_texture_Check_c (s_texture_Check_c ) = R := ⟨_, rfl⟩
  rw [HR]
  unfold s_texture_Check_c at HR
  have hM0 := St.start1 hB0
  refine calls_run Try.func15 rfl ?_
  refine R_seq (R_region (S_fresh none #[.int .i64 2, .slice (some ⟨B0, 0, none⟩) 4 4] 24 hM0 (by kernel_rfl) (fun g1 w2 hM3 => S_val (.int .i64 0) (by kernel_rfl) (S_nil (R_seq (R_seq (R_region (S_fresh (some 5) #[.int .i64 1, .int .i64 2, .int .i64 4, .int .i64 8, .int .i64 16] 3 hM3 (by kernel_rfl) (fun g4 w5 hM6 => S_val (.pointer (some ⟨g1, 0, none⟩)) (by kernel_rfl) (S_load 1 0 (.int .i64 2) hM6 (by kernel_rfl) (S_call (s_slices_Contains_g_c) (fun r : Bool => .bool r) hM6 (w_slices_Contains_g_c g4 _ _ w5 (hM6.at 0 rfl)) (by kernel_rfl) (fun r7 h8 w9 hM10 => ?_))))))))))))
  have HR := hr_lt HR h8
  cases r7
  · refine S_val (.bool true) (by kernel_rfl) (S_val (.bool true) (by kernel_rfl) (S_skip (by kernel_rfl) (S_skip (by kernel_rfl) (S_skip (by kernel_rfl) (S_skip (by kernel_rfl) (S_skip (by kernel_rfl) (S_skip (by kernel_rfl) (S_skip (by kernel_rfl) (S_skip (by kernel_rfl) (S_skip (by kernel_rfl) (S_val (.bool true) (by kernel_rfl) (?_))))))))))))
    have HR := hr_neg HR Bool.false_ne_true
    refine S_nil (R_yes (by kernel_rfl) (R_seq (R_region (S_val (.int .i64 5) (by kernel_rfl) (S_nil (?_))))))
    refine R_ret hM10 rfl (.cons (.tmp _ (.int .i64 5) (by kernel_rfl)) .nil) rfl ?_
    exact ⟨congrArg Ending.returned HR, hM10.below⟩
  · refine S_val (.bool false) (by kernel_rfl) (S_val (.bool false) (by kernel_rfl) (S_val (.pointer (some ⟨g1, 1, none⟩)) (by kernel_rfl) (S_load 1 1 (.slice (some ⟨B0, 0, none⟩) 4 4) hM10 (by kernel_rfl) (S_val (.int .i64 4) (by kernel_rfl) (S_val (.pointer (some ⟨g1, 0, none⟩)) (by kernel_rfl) (S_load 1 0 (.int .i64 2) hM10 (by kernel_rfl) (S_val (.pointer (some ⟨g1, 0, none⟩)) (by kernel_rfl) (S_load 1 0 (.int .i64 2) hM10 (by kernel_rfl) (S_val (.int .i64 4) (by kernel_rfl) (S_val (.bool false) (by kernel_rfl) (S_val (.bool false) (by kernel_rfl) (?_))))))))))))
    have HR := hr_pos HR rfl
    refine S_nil (R_no (by kernel_rfl) (R_skip (R_seq (R_seq (R_region (S_val (.pointer (some ⟨g1, 1, none⟩)) (by kernel_rfl) (S_load 1 1 (.slice (some ⟨B0, 0, none⟩) 4 4) hM10 (by kernel_rfl) (S_val (.int .i64 4) (by kernel_rfl) (S_val (.int .i64 0) (by kernel_rfl) (S_nil (R_block (?_))))))))))))
    refine R_loop (R_seq (R_region (S_val (.bool true) (by kernel_rfl) (S_nil (R_seq (R_yes (by kernel_rfl) (R_skip (R_seq (R_block (R_seq (R_region (?_))))))))))))
    refine S_val (.pointer (some ⟨B0, 0, none⟩)) (by kernel_rfl) (S_load 2 0 (.agg #[.int .i64 0, .int .i64 0, .int .i64 0]) hM10 (by kernel_rfl) (S_fresh none #[.int .i64 0, .int .i64 0, .int .i64 0] 36 hM10 (by kernel_rfl) (fun g11 w12 hM13 => S_store 0 0 #[.int .i64 0, .int .i64 0, .int .i64 0] hM13 (by kernel_rfl) (fun w14 hM15 => S_nil (R_seq (R_region (S_val (.pointer (some ⟨g11, 0, none⟩)) (by kernel_rfl) (S_load 0 0 (.int .i64 0) hM15 (by kernel_rfl) (S_val (.pointer (some ⟨g11, 1, none⟩)) (by kernel_rfl) (S_load 0 1 (.int .i64 0) hM15 (by kernel_rfl) (S_val (.pointer (some ⟨g11, 2, none⟩)) (by kernel_rfl) (?_))))))))))))
    refine S_load 0 2 (.int .i64 0) hM15 (by kernel_rfl) (S_val (.int .i64 0) (by kernel_rfl) (S_val (.bool false) (by kernel_rfl) (S_val (.bool false) (by kernel_rfl) (S_val (.pointer (some ⟨g11, 0, none⟩)) (by kernel_rfl) (S_load 0 0 (.int .i64 0) hM15 (by kernel_rfl) (S_val (.pointer (some ⟨g11, 1, none⟩)) (by kernel_rfl) (S_load 0 1 (.int .i64 0) hM15 (by kernel_rfl) (S_val (.pointer (some ⟨g11, 2, none⟩)) (by kernel_rfl) (S_load 0 2 (.int .i64 0) hM15 (by kernel_rfl) (S_val (.int .i64 0) (by kernel_rfl) (S_val (.bool false) (by kernel_rfl) (?_))))))))))))
    refine S_val (.bool false) (by kernel_rfl) (S_nil (R_no (by kernel_rfl) (R_skip (R_inBlock (R_region (S_val (.int .i64 1) (by kernel_rfl) (S_val (.int .i64 1) (by kernel_rfl) (S_nil (R_inLoop (R_seq (R_region (?_))))))))))))
    refine S_val (.bool true) (by kernel_rfl) (S_nil (R_seq (R_yes (by kernel_rfl) (R_skip (R_seq (R_block (R_seq (R_region (S_val (.pointer (some ⟨B0, 3, none⟩)) (by kernel_rfl) (S_load 3 3 (.agg #[.int .i64 255, .int .i64 0, .int .i64 0]) hM15 (by kernel_rfl) (S_fresh none #[.int .i64 0, .int .i64 0, .int .i64 0] 36 hM15 (by kernel_rfl) (fun g16 w17 hM18 => ?_))))))))))))
    refine S_store 0 0 #[.int .i64 255, .int .i64 0, .int .i64 0] hM18 (by kernel_rfl) (fun w19 hM20 => S_nil (R_seq (R_region (S_val (.pointer (some ⟨g16, 0, none⟩)) (by kernel_rfl) (S_load 0 0 (.int .i64 255) hM20 (by kernel_rfl) (S_val (.pointer (some ⟨g16, 1, none⟩)) (by kernel_rfl) (S_load 0 1 (.int .i64 0) hM20 (by kernel_rfl) (S_val (.pointer (some ⟨g16, 2, none⟩)) (by kernel_rfl) (S_load 0 2 (.int .i64 0) hM20 (by kernel_rfl) (S_val (.int .i64 0) (by kernel_rfl) (S_val (.bool false) (by kernel_rfl) (?_))))))))))))
    refine S_val (.bool false) (by kernel_rfl) (S_val (.pointer (some ⟨g16, 0, none⟩)) (by kernel_rfl) (S_load 0 0 (.int .i64 255) hM20 (by kernel_rfl) (S_val (.pointer (some ⟨g16, 1, none⟩)) (by kernel_rfl) (S_load 0 1 (.int .i64 0) hM20 (by kernel_rfl) (S_val (.pointer (some ⟨g16, 2, none⟩)) (by kernel_rfl) (S_load 0 2 (.int .i64 0) hM20 (by kernel_rfl) (S_val (.int .i64 255) (by kernel_rfl) (S_val (.bool false) (by kernel_rfl) (S_val (.bool false) (by kernel_rfl) (S_nil (R_no (by kernel_rfl) (?_))))))))))))
    refine R_skip (R_inBlock (R_region (S_val (.int .i64 2) (by kernel_rfl) (S_val (.int .i64 2) (by kernel_rfl) (S_nil (R_inLoop (R_seq (R_region (S_val (.bool true) (by kernel_rfl) (S_nil (R_seq (?_))))))))))))
    refine R_yes (by kernel_rfl) (R_skip (R_seq (R_block (R_seq (R_region (S_val (.pointer (some ⟨B0, 6, none⟩)) (by kernel_rfl) (S_load 4 6 (.agg #[.int .i64 0, .int .i64 0, .int .i64 0]) hM20 (by kernel_rfl) (S_fresh none #[.int .i64 0, .int .i64 0, .int .i64 0] 36 hM20 (by kernel_rfl) (fun g21 w22 hM23 => S_store 0 0 #[.int .i64 0, .int .i64 0, .int .i64 0] hM23 (by kernel_rfl) (fun w24 hM25 => S_nil (R_seq (?_))))))))))))
    refine R_region (S_val (.pointer (some ⟨g21, 0, none⟩)) (by kernel_rfl) (S_load 0 0 (.int .i64 0) hM25 (by kernel_rfl) (S_val (.pointer (some ⟨g21, 1, none⟩)) (by kernel_rfl) (S_load 0 1 (.int .i64 0) hM25 (by kernel_rfl) (S_val (.pointer (some ⟨g21, 2, none⟩)) (by kernel_rfl) (S_load 0 2 (.int .i64 0) hM25 (by kernel_rfl) (S_val (.int .i64 0) (by kernel_rfl) (S_val (.bool false) (by kernel_rfl) (S_val (.bool false) (by kernel_rfl) (S_val (.pointer (some ⟨g21, 0, none⟩)) (by kernel_rfl) (S_load 0 0 (.int .i64 0) hM25 (by kernel_rfl) (?_))))))))))))
    refine S_val (.pointer (some ⟨g21, 1, none⟩)) (by kernel_rfl) (S_load 0 1 (.int .i64 0) hM25 (by kernel_rfl) (S_val (.pointer (some ⟨g21, 2, none⟩)) (by kernel_rfl) (S_load 0 2 (.int .i64 0) hM25 (by kernel_rfl) (S_val (.int .i64 0) (by kernel_rfl) (S_val (.bool false) (by kernel_rfl) (S_val (.bool false) (by kernel_rfl) (S_nil (R_no (by kernel_rfl) (R_skip (R_inBlock (R_region (?_))))))))))))
    refine S_val (.int .i64 3) (by kernel_rfl) (S_val (.int .i64 3) (by kernel_rfl) (S_nil (R_inLoop (R_seq (R_region (S_val (.bool true) (by kernel_rfl) (S_nil (R_seq (R_yes (by kernel_rfl) (R_skip (R_seq (?_))))))))))))
    refine R_block (R_seq (R_region (S_val (.pointer (some ⟨B0, 9, none⟩)) (by kernel_rfl) (S_load 5 9 (.agg #[.int .i64 255, .int .i64 0, .int .i64 0]) hM25 (by kernel_rfl) (S_fresh none #[.int .i64 0, .int .i64 0, .int .i64 0] 36 hM25 (by kernel_rfl) (fun g26 w27 hM28 => S_store 0 0 #[.int .i64 255, .int .i64 0, .int .i64 0] hM28 (by kernel_rfl) (fun w29 hM30 => S_nil (R_seq (R_region (S_val (.pointer (some ⟨g26, 0, none⟩)) (by kernel_rfl) (S_load 0 0 (.int .i64 255) hM30 (by kernel_rfl) (?_))))))))))))
    refine S_val (.pointer (some ⟨g26, 1, none⟩)) (by kernel_rfl) (S_load 0 1 (.int .i64 0) hM30 (by kernel_rfl) (S_val (.pointer (some ⟨g26, 2, none⟩)) (by kernel_rfl) (S_load 0 2 (.int .i64 0) hM30 (by kernel_rfl) (S_val (.int .i64 0) (by kernel_rfl) (S_val (.bool false) (by kernel_rfl) (S_val (.bool false) (by kernel_rfl) (S_val (.pointer (some ⟨g26, 0, none⟩)) (by kernel_rfl) (S_load 0 0 (.int .i64 255) hM30 (by kernel_rfl) (S_val (.pointer (some ⟨g26, 1, none⟩)) (by kernel_rfl) (S_load 0 1 (.int .i64 0) hM30 (by kernel_rfl) (S_val (.pointer (some ⟨g26, 2, none⟩)) (by kernel_rfl) (?_))))))))))))
    refine S_load 0 2 (.int .i64 0) hM30 (by kernel_rfl) (S_val (.int .i64 255) (by kernel_rfl) (S_val (.bool false) (by kernel_rfl) (S_val (.bool false) (by kernel_rfl) (S_nil (R_no (by kernel_rfl) (R_skip (R_inBlock (R_region (S_val (.int .i64 4) (by kernel_rfl) (S_val (.int .i64 4) (by kernel_rfl) (S_nil (?_))))))))))))
    refine R_inLoop (R_seq (R_region (S_val (.bool false) (by kernel_rfl) (S_nil (R_seq (R_no (by kernel_rfl) (R_exit rfl (R_seq (R_region (S_val (.int .i64 0) (by kernel_rfl) (S_nil (?_))))))))))))
    refine R_ret hM30 rfl (.cons (.tmp _ (.int .i64 0) (by kernel_rfl)) .nil) rfl ?_
    exact ⟨congrArg Ending.returned HR, hM30.below⟩

def P_texture_Check_c (r : Int) : Prop := InI r
theorem i_texture_Check_c  : P_texture_Check_c (s_texture_Check_c ) := by
  unfold s_texture_Check_c
  exact (lt_P fun r7 h8 => (ite_P (fun c31 => (show InI 0 from (show InI 0 from by unfold InI; omega))) (fun c31 => (show InI 5 from (show InI 5 from by unfold InI; omega)))))

def e_texture_at_c0_0 (r : Int × Int × Int) : Value := .agg #[.int .i64 r.1, .int .i64 r.2.1, .int .i64 r.2.2]
def s_texture_at_c0_0  : Int × Int × Int :=
  (0, 0, 0)
set_option maxRecDepth 100000 in
set_option maxHeartbeats 4000000 in
theorem w_texture_at_c0_0  (B0 : Nat) (T0 : TypeId) (fr0 : Nat × Nat) (w : World) (hB0 : Has B0 (.cells #[.int .i64 0, .int .i64 0, .int .i64 0, .int .i64 255, .int .i64 0, .int .i64 0, .int .i64 0, .int .i64 0, .int .i64 0, .int .i64 255, .int .i64 0, .int .i64 0] T0 fr0) w) : Calls Try.prog 50 #[.agg #[.int .i64 2, .slice (some ⟨B0, 0, none⟩) 4 4], .int .i64 0, .int .i64 0] w (Ret (e_texture_at_c0_0 (s_texture_at_c0_0 )) w) := by
  obtain ⟨R, HR⟩ : ∃ R, e_texture_at_c0_0 (s_texture_at_c0_0 ) = R := ⟨_, rfl⟩
  rw [HR]
  unfold s_texture_at_c0_0 at HR
  have hM0 := St.start1 hB0
  refine calls_run Try.func50 rfl ?_
  refine R_seq (R_region (S_fresh none #[.int .i64 2, .slice (some ⟨B0, 0, none⟩) 4 4] 24 hM0 (by kernel_rfl) (fun g1 w2 hM3 => S_fresh none #[.int .i64 0, .int .i64 0, .int .i64 0] 36 hM3 (by kernel_rfl) (fun g4 w5 hM6 => S_nil (R_seq (R_region (S_val (.pointer (some ⟨g1, 1, none⟩)) (by kernel_rfl) (S_load 1 1 (.slice (some ⟨B0, 0, none⟩) 4 4) hM6 (by kernel_rfl) (S_val (.int .i64 0) (by kernel_rfl) (S_val (.pointer (some ⟨g1, 0, none⟩)) (by kernel_rfl) (S_load 1 0 (.int .i64 2) hM6 (by kernel_rfl) (?_))))))))))))
  refine S_val (.int .i64 1) (by kernel_rfl) (S_val (.int .i64 0) (by kernel_rfl) (S_val (.pointer (some ⟨g1, 0, none⟩)) (by kernel_rfl) (S_load 1 0 (.int .i64 2) hM6 (by kernel_rfl) (S_val (.int .i64 0) (by kernel_rfl) (S_val (.int .i64 0) (by kernel_rfl) (S_val (.pointer (some ⟨g1, 0, none⟩)) (by kernel_rfl) (S_load 1 0 (.int .i64 2) hM6 (by kernel_rfl) (S_val (.int .i64 1) (by kernel_rfl) (S_val (.int .i64 0) (by kernel_rfl) (S_val (.int .i64 0) (by kernel_rfl) (S_val (.pointer (some ⟨B0, 0, none⟩)) (by kernel_rfl) (?_))))))))))))
  refine S_load 2 0 (.agg #[.int .i64 0, .int .i64 0, .int .i64 0]) hM6 (by kernel_rfl) (S_store 0 0 #[.int .i64 0, .int .i64 0, .int .i64 0] hM6 (by kernel_rfl) (fun w7 hM8 => S_nil (?_)))
  refine R_ret hM8 rfl (.cons (.cell _ _ 0 0 (.agg #[.int .i64 0, .int .i64 0, .int .i64 0]) (by kernel_rfl)) .nil) rfl ?_
  exact ⟨congrArg Ending.returned HR, hM8.below⟩

def P_texture_at_c0_0 (r : Int × Int × Int) : Prop := InV r
theorem i_texture_at_c0_0  : P_texture_at_c0_0 (s_texture_at_c0_0 ) := by
  unfold s_texture_at_c0_0
  exact (show InV (0, 0, 0) from ⟨(show InI 0 from by unfold InI; omega), (show InI 0 from by unfold InI; omega), (show InI 0 from by unfold InI; omega)⟩)

def e_texture_At_c0_0 (r : (Int × Int × Int) × Int) : Value := .tuple #[.agg #[.int .i64 r.1.1, .int .i64 r.1.2.1, .int .i64 r.1.2.2], .int .i64 r.2]
def s_texture_At_c0_0  : (Int × Int × Int) × Int :=
  lt (s_texture_Check_c) fun r7 =>
  if r7 = 0 then
    lt (s_texture_at_c0_0) fun r14 =>
    (r14, 0)
  else
    ((0, 0, 0), r7)
set_option maxRecDepth 100000 in
set_option maxHeartbeats 4000000 in
theorem w_texture_At_c0_0  (B0 : Nat) (T0 : TypeId) (fr0 : Nat × Nat) (w : World) (hB0 : Has B0 (.cells #[.int .i64 0, .int .i64 0, .int .i64 0, .int .i64 255, .int .i64 0, .int .i64 0, .int .i64 0, .int .i64 0, .int .i64 0, .int .i64 255, .int .i64 0, .int .i64 0] T0 fr0) w) : Calls Try.prog 22 #[.agg #[.int .i64 2, .slice (some ⟨B0, 0, none⟩) 4 4], .int .i64 0, .int .i64 0] w (Ret (e_texture_At_c0_0 (s_texture_At_c0_0 )) w) := by
  obtain ⟨R, HR⟩ : ∃ R, e_texture_At_c0_0 (s_texture_At_c0_0 ) = R := ⟨_, rfl⟩
  rw [HR]
  unfold s_texture_At_c0_0 at HR
  have hM0 := St.start1 hB0
  refine calls_run Try.func22 rfl ?_
  refine R_seq (R_region (S_fresh none #[.int .i64 2, .slice (some ⟨B0, 0, none⟩) 4 4] 24 hM0 (by kernel_rfl) (fun g1 w2 hM3 => S_fresh none #[.int .i64 0, .int .i64 0, .int .i64 0] 36 hM3 (by kernel_rfl) (fun g4 w5 hM6 => S_val (.int .i64 0) (by kernel_rfl) (S_nil (R_seq (R_seq (R_region (S_load 1 0 (.agg #[.int .i64 2, .slice (some ⟨B0, 0, none⟩) 4 4]) hM6 (by kernel_rfl) (S_call (s_texture_Check_c) (fun r : Int => .int .i64 r) hM6 (w_texture_Check_c B0 _ _ w5 (hM6.at 2 rfl)) (by kernel_rfl) (fun r7 h8 w9 hM10 => S_val (.int .i64 r7) (by kernel_rfl) (?_))))))))))))
  have HR := hr_lt HR h8
  refine S_nil (R_seq (R_region (S_val (.int .i64 r7) (by kernel_rfl) (?_))))
  refine S_decn (r7 = 0) (by kernel_rfl) (fun c11 => ?_) (fun c11 => ?_)
  · refine S_nil (R_yes (by kernel_rfl) (R_seq (R_region (S_val (.agg #[.int .i64 0, .int .i64 0, .int .i64 0]) (by kernel_rfl) (S_val (.int .i64 r7) (by kernel_rfl) (S_store 0 0 #[.int .i64 0, .int .i64 0, .int .i64 0] hM10 (by kernel_rfl) (fun w12 hM13 => S_val (.int .i64 r7) (by kernel_rfl) (S_nil (?_)))))))))
    have HR := hr_neg HR c11
    refine R_ret hM13 rfl (.cons (.cell _ _ 0 0 (.agg #[.int .i64 0, .int .i64 0, .int .i64 0]) (by kernel_rfl)) (.cons (.tmp _ (.int .i64 r7) (by kernel_rfl)) .nil)) rfl ?_
    exact ⟨congrArg Ending.returned HR, hM13.below⟩
  · refine S_nil (R_no (by kernel_rfl) (R_skip (R_seq (R_region (S_load 1 0 (.agg #[.int .i64 2, .slice (some ⟨B0, 0, none⟩) 4 4]) hM10 (by kernel_rfl) (S_val (.int .i64 0) (by kernel_rfl) (S_val (.int .i64 0) (by kernel_rfl) (S_call (s_texture_at_c0_0) (fun r : Int × Int × Int => .agg #[.int .i64 r.1, .int .i64 r.2.1, .int .i64 r.2.2]) hM10 (w_texture_at_c0_0 B0 _ _ w9 (hM10.at 2 rfl)) (by kernel_rfl) (fun r14 h15 w16 hM17 => S_store 0 0 #[.int .i64 r14.1, .int .i64 r14.2.1, .int .i64 r14.2.2] hM17 (by kernel_rfl) (fun w18 hM19 => S_val (.int .i64 0) (by kernel_rfl) (S_nil (?_))))))))))))
    have HR := hr_pos HR c11
    have HR := hr_lt HR h15
    refine R_ret hM19 rfl (.cons (.cell _ _ 0 0 (.agg #[.int .i64 r14.1, .int .i64 r14.2.1, .int .i64 r14.2.2]) (by kernel_rfl)) (.cons (.tmp _ (.int .i64 0) (by kernel_rfl)) .nil)) rfl ?_
    exact ⟨congrArg Ending.returned HR, hM19.below⟩

def P_texture_At_c0_0 (r : (Int × Int × Int) × Int) : Prop := (InV r.1 ∧ InI r.2)
theorem i_texture_At_c0_0  : P_texture_At_c0_0 (s_texture_At_c0_0 ) := by
  unfold s_texture_At_c0_0
  exact (lt_P fun r7 h8 => (ite_P (fun c11 => (lt_P fun r14 h15 => (show (InV r14 ∧ InI 0) from ⟨(tr (P := fun r : Int × Int × Int => InV r) h15 i_texture_at_c0_0).out, (show InI 0 from by unfold InI; omega)⟩))) (fun c11 => (show (InV (0, 0, 0) ∧ InI r7) from ⟨⟨(show InI 0 from by unfold InI; omega), (show InI 0 from by unfold InI; omega), (show InI 0 from by unfold InI; omega)⟩, (tr (P := fun r : Int => InI r) h8 i_texture_Check_c).out⟩))))

def e_texel_Sample_1_c0_0 (r : Int × Int × Int) : Value := .agg #[.int .i64 r.1, .int .i64 r.2.1, .int .i64 r.2.2]
def s_texel_Sample_1_c0_0  : Int × Int × Int :=
  lt (s_texture_At_c0_0) fun r4 =>
  r4.1
set_option maxRecDepth 100000 in
set_option maxHeartbeats 4000000 in
theorem w_texel_Sample_1_c0_0  (B0 : Nat) (T0 : TypeId) (fr0 : Nat × Nat) (B1 : Nat) (T1 : TypeId) (fr1 : Nat × Nat) (B2 : Nat) (T2 : TypeId) (fr2 : Nat × Nat) (B3 : Nat) (T3 : TypeId) (fr3 : Nat × Nat) (w : World) (hB0 : Has B0 (.cells #[.int .i64 0, .int .i64 0, .int .i64 0, .int .i64 255, .int .i64 0, .int .i64 0, .int .i64 0, .int .i64 0, .int .i64 0, .int .i64 255, .int .i64 0, .int .i64 0] T0 fr0) w) (hB1 : Has B1 (.cells #[.int .i64 2, .slice (some ⟨B0, 0, none⟩) 4 4] T1 fr1) w) (hB2 : Has B2 (.cells #[.int .i64 32768] T2 fr2) w) (hB3 : Has B3 (.cells #[.int .i64 0] T3 fr3) w) (n1_0 : B1 ≠ B0) (n2_0 : B2 ≠ B0) (n2_1 : B2 ≠ B1) (n3_0 : B3 ≠ B0) (n3_1 : B3 ≠ B1) (n3_2 : B3 ≠ B2) : Calls Try.prog 39 #[.int .i64 0, .int .i64 0, .pointer (some ⟨B1, 0, none⟩), .pointer (some ⟨B2, 0, none⟩), .pointer (some ⟨B3, 0, none⟩)] w (Ret (e_texel_Sample_1_c0_0 (s_texel_Sample_1_c0_0 )) w) := by
  obtain ⟨R, HR⟩ : ∃ R, e_texel_Sample_1_c0_0 (s_texel_Sample_1_c0_0 ) = R := ⟨_, rfl⟩
  rw [HR]
  unfold s_texel_Sample_1_c0_0 at HR
  have hM0 := St.start2 (St.start2 (St.start2 (St.start1 hB0) hB1 (by simp only [List.map_cons, List.map_nil, List.mem_cons, List.not_mem_nil, or_false, not_or]; exact n1_0)) hB2 (by simp only [List.map_cons, List.map_nil, List.mem_cons, List.not_mem_nil, or_false, not_or]; exact ⟨n2_1, n2_0⟩)) hB3 (by simp only [List.map_cons, List.map_nil, List.mem_cons, List.not_mem_nil, or_false, not_or]; exact ⟨n3_2, n3_1, n3_0⟩)
  refine calls_run Try.func39 rfl ?_
  refine R_seq (R_region (S_fresh none #[.int .i64 0, .int .i64 0, .int .i64 0] 36 hM0 (by kernel_rfl) (fun g1 w2 hM3 => S_nil (R_seq (R_region (S_load 3 0 (.agg #[.int .i64 2, .slice (some ⟨B0, 0, none⟩) 4 4]) hM3 (by kernel_rfl) (S_load 2 0 (.int .i64 32768) hM3 (by kernel_rfl) (S_val (.int .i64 0) (by kernel_rfl) (S_val (.int .i64 0) (by kernel_rfl) (S_val (.int .i64 0) (by kernel_rfl) (S_load 1 0 (.int .i64 0) hM3 (by kernel_rfl) (?_))))))))))))
  refine S_val (.int .i64 0) (by kernel_rfl) (S_val (.int .i64 0) (by kernel_rfl) (S_val (.int .i64 0) (by kernel_rfl) (S_call (s_texture_At_c0_0) (fun r : (Int × Int × Int) × Int => .tuple #[.agg #[.int .i64 r.1.1, .int .i64 r.1.2.1, .int .i64 r.1.2.2], .int .i64 r.2]) hM3 (w_texture_At_c0_0 B0 _ _ w2 (hM3.at 4 rfl)) (by kernel_rfl) (fun r4 h5 w6 hM7 => S_val (.tuple #[.agg #[.int .i64 r4.1.1, .int .i64 r4.1.2.1, .int .i64 r4.1.2.2], .int .i64 r4.2]) (by kernel_rfl) (S_val (.agg #[.int .i64 r4.1.1, .int .i64 r4.1.2.1, .int .i64 r4.1.2.2]) (by kernel_rfl) (S_val (.int .i64 r4.2) (by kernel_rfl) (S_fresh none #[.int .i64 0, .int .i64 0, .int .i64 0] 36 hM7 (by kernel_rfl) (fun g8 w9 hM10 => S_store 0 0 #[.int .i64 r4.1.1, .int .i64 r4.1.2.1, .int .i64 r4.1.2.2] hM10 (by kernel_rfl) (fun w11 hM12 => S_val (.int .i64 r4.2) (by kernel_rfl) (S_nil (R_seq (?_))))))))))))
  have HR := hr_lt HR h5
  refine R_region (S_load 0 0 (.agg #[.int .i64 r4.1.1, .int .i64 r4.1.2.1, .int .i64 r4.1.2.2]) hM12 (by kernel_rfl) (S_store 1 0 #[.int .i64 r4.1.1, .int .i64 r4.1.2.1, .int .i64 r4.1.2.2] hM12 (by kernel_rfl) (fun w13 hM14 => S_nil (?_))))
  refine R_ret hM14 rfl (.cons (.cell _ _ 1 0 (.agg #[.int .i64 r4.1.1, .int .i64 r4.1.2.1, .int .i64 r4.1.2.2]) (by kernel_rfl)) .nil) rfl ?_
  exact ⟨congrArg Ending.returned HR, hM14.below⟩

def P_texel_Sample_1_c0_0 (r : Int × Int × Int) : Prop := InV r
theorem i_texel_Sample_1_c0_0  : P_texel_Sample_1_c0_0 (s_texel_Sample_1_c0_0 ) := by
  unfold s_texel_Sample_1_c0_0
  exact (lt_P fun r4 h5 => (show InV r4.1 from (tr (P := fun r : (Int × Int × Int) × Int => (InV r.1 ∧ InI r.2)) h5 i_texture_At_c0_0).out.1))

def e_texture_at_c1_0 (r : Int × Int × Int) : Value := .agg #[.int .i64 r.1, .int .i64 r.2.1, .int .i64 r.2.2]
def s_texture_at_c1_0  : Int × Int × Int :=
  (255, 0, 0)
set_option maxRecDepth 100000 in
set_option maxHeartbeats 4000000 in
theorem w_texture_at_c1_0  (B0 : Nat) (T0 : TypeId) (fr0 : Nat × Nat) (w : World) (hB0 : Has B0 (.cells #[.int .i64 0, .int .i64 0, .int .i64 0, .int .i64 255, .int .i64 0, .int .i64 0, .int .i64 0, .int .i64 0, .int .i64 0, .int .i64 255, .int .i64 0, .int .i64 0] T0 fr0) w) : Calls Try.prog 50 #[.agg #[.int .i64 2, .slice (some ⟨B0, 0, none⟩) 4 4], .int .i64 1, .int .i64 0] w (Ret (e_texture_at_c1_0 (s_texture_at_c1_0 )) w) := by
  obtain ⟨R, HR⟩ : ∃ R, e_texture_at_c1_0 (s_texture_at_c1_0 ) = R := ⟨_, rfl⟩
  rw [HR]
  unfold s_texture_at_c1_0 at HR
  have hM0 := St.start1 hB0
  refine calls_run Try.func50 rfl ?_
  refine R_seq (R_region (S_fresh none #[.int .i64 2, .slice (some ⟨B0, 0, none⟩) 4 4] 24 hM0 (by kernel_rfl) (fun g1 w2 hM3 => S_fresh none #[.int .i64 0, .int .i64 0, .int .i64 0] 36 hM3 (by kernel_rfl) (fun g4 w5 hM6 => S_nil (R_seq (R_region (S_val (.pointer (some ⟨g1, 1, none⟩)) (by kernel_rfl) (S_load 1 1 (.slice (some ⟨B0, 0, none⟩) 4 4) hM6 (by kernel_rfl) (S_val (.int .i64 0) (by kernel_rfl) (S_val (.pointer (some ⟨g1, 0, none⟩)) (by kernel_rfl) (S_load 1 0 (.int .i64 2) hM6 (by kernel_rfl) (?_))))))))))))
  refine S_val (.int .i64 1) (by kernel_rfl) (S_val (.int .i64 0) (by kernel_rfl) (S_val (.pointer (some ⟨g1, 0, none⟩)) (by kernel_rfl) (S_load 1 0 (.int .i64 2) hM6 (by kernel_rfl) (S_val (.int .i64 0) (by kernel_rfl) (S_val (.int .i64 1) (by kernel_rfl) (S_val (.pointer (some ⟨g1, 0, none⟩)) (by kernel_rfl) (S_load 1 0 (.int .i64 2) hM6 (by kernel_rfl) (S_val (.int .i64 1) (by kernel_rfl) (S_val (.int .i64 1) (by kernel_rfl) (S_val (.int .i64 1) (by kernel_rfl) (S_val (.pointer (some ⟨B0, 3, none⟩)) (by kernel_rfl) (?_))))))))))))
  refine S_load 2 3 (.agg #[.int .i64 255, .int .i64 0, .int .i64 0]) hM6 (by kernel_rfl) (S_store 0 0 #[.int .i64 255, .int .i64 0, .int .i64 0] hM6 (by kernel_rfl) (fun w7 hM8 => S_nil (?_)))
  refine R_ret hM8 rfl (.cons (.cell _ _ 0 0 (.agg #[.int .i64 255, .int .i64 0, .int .i64 0]) (by kernel_rfl)) .nil) rfl ?_
  exact ⟨congrArg Ending.returned HR, hM8.below⟩

def P_texture_at_c1_0 (r : Int × Int × Int) : Prop := InV r
theorem i_texture_at_c1_0  : P_texture_at_c1_0 (s_texture_at_c1_0 ) := by
  unfold s_texture_at_c1_0
  exact (show InV (255, 0, 0) from ⟨(show InI 255 from by unfold InI; omega), (show InI 0 from by unfold InI; omega), (show InI 0 from by unfold InI; omega)⟩)

def e_texture_At_c1_0 (r : (Int × Int × Int) × Int) : Value := .tuple #[.agg #[.int .i64 r.1.1, .int .i64 r.1.2.1, .int .i64 r.1.2.2], .int .i64 r.2]
def s_texture_At_c1_0  : (Int × Int × Int) × Int :=
  lt (s_texture_Check_c) fun r7 =>
  if r7 = 0 then
    lt (s_texture_at_c1_0) fun r14 =>
    (r14, 0)
  else
    ((0, 0, 0), r7)
set_option maxRecDepth 100000 in
set_option maxHeartbeats 4000000 in
theorem w_texture_At_c1_0  (B0 : Nat) (T0 : TypeId) (fr0 : Nat × Nat) (w : World) (hB0 : Has B0 (.cells #[.int .i64 0, .int .i64 0, .int .i64 0, .int .i64 255, .int .i64 0, .int .i64 0, .int .i64 0, .int .i64 0, .int .i64 0, .int .i64 255, .int .i64 0, .int .i64 0] T0 fr0) w) : Calls Try.prog 22 #[.agg #[.int .i64 2, .slice (some ⟨B0, 0, none⟩) 4 4], .int .i64 1, .int .i64 0] w (Ret (e_texture_At_c1_0 (s_texture_At_c1_0 )) w) := by
  obtain ⟨R, HR⟩ : ∃ R, e_texture_At_c1_0 (s_texture_At_c1_0 ) = R := ⟨_, rfl⟩
  rw [HR]
  unfold s_texture_At_c1_0 at HR
  have hM0 := St.start1 hB0
  refine calls_run Try.func22 rfl ?_
  refine R_seq (R_region (S_fresh none #[.int .i64 2, .slice (some ⟨B0, 0, none⟩) 4 4] 24 hM0 (by kernel_rfl) (fun g1 w2 hM3 => S_fresh none #[.int .i64 0, .int .i64 0, .int .i64 0] 36 hM3 (by kernel_rfl) (fun g4 w5 hM6 => S_val (.int .i64 0) (by kernel_rfl) (S_nil (R_seq (R_seq (R_region (S_load 1 0 (.agg #[.int .i64 2, .slice (some ⟨B0, 0, none⟩) 4 4]) hM6 (by kernel_rfl) (S_call (s_texture_Check_c) (fun r : Int => .int .i64 r) hM6 (w_texture_Check_c B0 _ _ w5 (hM6.at 2 rfl)) (by kernel_rfl) (fun r7 h8 w9 hM10 => S_val (.int .i64 r7) (by kernel_rfl) (?_))))))))))))
  have HR := hr_lt HR h8
  refine S_nil (R_seq (R_region (S_val (.int .i64 r7) (by kernel_rfl) (?_))))
  refine S_decn (r7 = 0) (by kernel_rfl) (fun c11 => ?_) (fun c11 => ?_)
  · refine S_nil (R_yes (by kernel_rfl) (R_seq (R_region (S_val (.agg #[.int .i64 0, .int .i64 0, .int .i64 0]) (by kernel_rfl) (S_val (.int .i64 r7) (by kernel_rfl) (S_store 0 0 #[.int .i64 0, .int .i64 0, .int .i64 0] hM10 (by kernel_rfl) (fun w12 hM13 => S_val (.int .i64 r7) (by kernel_rfl) (S_nil (?_)))))))))
    have HR := hr_neg HR c11
    refine R_ret hM13 rfl (.cons (.cell _ _ 0 0 (.agg #[.int .i64 0, .int .i64 0, .int .i64 0]) (by kernel_rfl)) (.cons (.tmp _ (.int .i64 r7) (by kernel_rfl)) .nil)) rfl ?_
    exact ⟨congrArg Ending.returned HR, hM13.below⟩
  · refine S_nil (R_no (by kernel_rfl) (R_skip (R_seq (R_region (S_load 1 0 (.agg #[.int .i64 2, .slice (some ⟨B0, 0, none⟩) 4 4]) hM10 (by kernel_rfl) (S_val (.int .i64 1) (by kernel_rfl) (S_val (.int .i64 0) (by kernel_rfl) (S_call (s_texture_at_c1_0) (fun r : Int × Int × Int => .agg #[.int .i64 r.1, .int .i64 r.2.1, .int .i64 r.2.2]) hM10 (w_texture_at_c1_0 B0 _ _ w9 (hM10.at 2 rfl)) (by kernel_rfl) (fun r14 h15 w16 hM17 => S_store 0 0 #[.int .i64 r14.1, .int .i64 r14.2.1, .int .i64 r14.2.2] hM17 (by kernel_rfl) (fun w18 hM19 => S_val (.int .i64 0) (by kernel_rfl) (S_nil (?_))))))))))))
    have HR := hr_pos HR c11
    have HR := hr_lt HR h15
    refine R_ret hM19 rfl (.cons (.cell _ _ 0 0 (.agg #[.int .i64 r14.1, .int .i64 r14.2.1, .int .i64 r14.2.2]) (by kernel_rfl)) (.cons (.tmp _ (.int .i64 0) (by kernel_rfl)) .nil)) rfl ?_
    exact ⟨congrArg Ending.returned HR, hM19.below⟩

def P_texture_At_c1_0 (r : (Int × Int × Int) × Int) : Prop := (InV r.1 ∧ InI r.2)
theorem i_texture_At_c1_0  : P_texture_At_c1_0 (s_texture_At_c1_0 ) := by
  unfold s_texture_At_c1_0
  exact (lt_P fun r7 h8 => (ite_P (fun c11 => (lt_P fun r14 h15 => (show (InV r14 ∧ InI 0) from ⟨(tr (P := fun r : Int × Int × Int => InV r) h15 i_texture_at_c1_0).out, (show InI 0 from by unfold InI; omega)⟩))) (fun c11 => (show (InV (0, 0, 0) ∧ InI r7) from ⟨⟨(show InI 0 from by unfold InI; omega), (show InI 0 from by unfold InI; omega), (show InI 0 from by unfold InI; omega)⟩, (tr (P := fun r : Int => InI r) h8 i_texture_Check_c).out⟩))))

def e_texel_Sample_1_c1_0 (r : Int × Int × Int) : Value := .agg #[.int .i64 r.1, .int .i64 r.2.1, .int .i64 r.2.2]
def s_texel_Sample_1_c1_0  : Int × Int × Int :=
  lt (s_texture_At_c1_0) fun r4 =>
  r4.1
set_option maxRecDepth 100000 in
set_option maxHeartbeats 4000000 in
theorem w_texel_Sample_1_c1_0  (B0 : Nat) (T0 : TypeId) (fr0 : Nat × Nat) (B1 : Nat) (T1 : TypeId) (fr1 : Nat × Nat) (B2 : Nat) (T2 : TypeId) (fr2 : Nat × Nat) (B3 : Nat) (T3 : TypeId) (fr3 : Nat × Nat) (w : World) (hB0 : Has B0 (.cells #[.int .i64 0, .int .i64 0, .int .i64 0, .int .i64 255, .int .i64 0, .int .i64 0, .int .i64 0, .int .i64 0, .int .i64 0, .int .i64 255, .int .i64 0, .int .i64 0] T0 fr0) w) (hB1 : Has B1 (.cells #[.int .i64 2, .slice (some ⟨B0, 0, none⟩) 4 4] T1 fr1) w) (hB2 : Has B2 (.cells #[.int .i64 32768] T2 fr2) w) (hB3 : Has B3 (.cells #[.int .i64 0] T3 fr3) w) (n1_0 : B1 ≠ B0) (n2_0 : B2 ≠ B0) (n2_1 : B2 ≠ B1) (n3_0 : B3 ≠ B0) (n3_1 : B3 ≠ B1) (n3_2 : B3 ≠ B2) : Calls Try.prog 39 #[.int .i64 1, .int .i64 0, .pointer (some ⟨B1, 0, none⟩), .pointer (some ⟨B2, 0, none⟩), .pointer (some ⟨B3, 0, none⟩)] w (Ret (e_texel_Sample_1_c1_0 (s_texel_Sample_1_c1_0 )) w) := by
  obtain ⟨R, HR⟩ : ∃ R, e_texel_Sample_1_c1_0 (s_texel_Sample_1_c1_0 ) = R := ⟨_, rfl⟩
  rw [HR]
  unfold s_texel_Sample_1_c1_0 at HR
  have hM0 := St.start2 (St.start2 (St.start2 (St.start1 hB0) hB1 (by simp only [List.map_cons, List.map_nil, List.mem_cons, List.not_mem_nil, or_false, not_or]; exact n1_0)) hB2 (by simp only [List.map_cons, List.map_nil, List.mem_cons, List.not_mem_nil, or_false, not_or]; exact ⟨n2_1, n2_0⟩)) hB3 (by simp only [List.map_cons, List.map_nil, List.mem_cons, List.not_mem_nil, or_false, not_or]; exact ⟨n3_2, n3_1, n3_0⟩)
  refine calls_run Try.func39 rfl ?_
  refine R_seq (R_region (S_fresh none #[.int .i64 0, .int .i64 0, .int .i64 0] 36 hM0 (by kernel_rfl) (fun g1 w2 hM3 => S_nil (R_seq (R_region (S_load 3 0 (.agg #[.int .i64 2, .slice (some ⟨B0, 0, none⟩) 4 4]) hM3 (by kernel_rfl) (S_load 2 0 (.int .i64 32768) hM3 (by kernel_rfl) (S_val (.int .i64 0) (by kernel_rfl) (S_val (.int .i64 1) (by kernel_rfl) (S_val (.int .i64 1) (by kernel_rfl) (S_load 1 0 (.int .i64 0) hM3 (by kernel_rfl) (?_))))))))))))
  refine S_val (.int .i64 0) (by kernel_rfl) (S_val (.int .i64 0) (by kernel_rfl) (S_val (.int .i64 0) (by kernel_rfl) (S_call (s_texture_At_c1_0) (fun r : (Int × Int × Int) × Int => .tuple #[.agg #[.int .i64 r.1.1, .int .i64 r.1.2.1, .int .i64 r.1.2.2], .int .i64 r.2]) hM3 (w_texture_At_c1_0 B0 _ _ w2 (hM3.at 4 rfl)) (by kernel_rfl) (fun r4 h5 w6 hM7 => S_val (.tuple #[.agg #[.int .i64 r4.1.1, .int .i64 r4.1.2.1, .int .i64 r4.1.2.2], .int .i64 r4.2]) (by kernel_rfl) (S_val (.agg #[.int .i64 r4.1.1, .int .i64 r4.1.2.1, .int .i64 r4.1.2.2]) (by kernel_rfl) (S_val (.int .i64 r4.2) (by kernel_rfl) (S_fresh none #[.int .i64 0, .int .i64 0, .int .i64 0] 36 hM7 (by kernel_rfl) (fun g8 w9 hM10 => S_store 0 0 #[.int .i64 r4.1.1, .int .i64 r4.1.2.1, .int .i64 r4.1.2.2] hM10 (by kernel_rfl) (fun w11 hM12 => S_val (.int .i64 r4.2) (by kernel_rfl) (S_nil (R_seq (?_))))))))))))
  have HR := hr_lt HR h5
  refine R_region (S_load 0 0 (.agg #[.int .i64 r4.1.1, .int .i64 r4.1.2.1, .int .i64 r4.1.2.2]) hM12 (by kernel_rfl) (S_store 1 0 #[.int .i64 r4.1.1, .int .i64 r4.1.2.1, .int .i64 r4.1.2.2] hM12 (by kernel_rfl) (fun w13 hM14 => S_nil (?_))))
  refine R_ret hM14 rfl (.cons (.cell _ _ 1 0 (.agg #[.int .i64 r4.1.1, .int .i64 r4.1.2.1, .int .i64 r4.1.2.2]) (by kernel_rfl)) .nil) rfl ?_
  exact ⟨congrArg Ending.returned HR, hM14.below⟩

def P_texel_Sample_1_c1_0 (r : Int × Int × Int) : Prop := InV r
theorem i_texel_Sample_1_c1_0  : P_texel_Sample_1_c1_0 (s_texel_Sample_1_c1_0 ) := by
  unfold s_texel_Sample_1_c1_0
  exact (lt_P fun r4 h5 => (show InV r4.1 from (tr (P := fun r : (Int × Int × Int) × Int => (InV r.1 ∧ InI r.2)) h5 i_texture_At_c1_0).out.1))

def e_texture_at_c0_1 (r : Int × Int × Int) : Value := .agg #[.int .i64 r.1, .int .i64 r.2.1, .int .i64 r.2.2]
def s_texture_at_c0_1  : Int × Int × Int :=
  (0, 0, 0)
set_option maxRecDepth 100000 in
set_option maxHeartbeats 4000000 in
theorem w_texture_at_c0_1  (B0 : Nat) (T0 : TypeId) (fr0 : Nat × Nat) (w : World) (hB0 : Has B0 (.cells #[.int .i64 0, .int .i64 0, .int .i64 0, .int .i64 255, .int .i64 0, .int .i64 0, .int .i64 0, .int .i64 0, .int .i64 0, .int .i64 255, .int .i64 0, .int .i64 0] T0 fr0) w) : Calls Try.prog 50 #[.agg #[.int .i64 2, .slice (some ⟨B0, 0, none⟩) 4 4], .int .i64 0, .int .i64 1] w (Ret (e_texture_at_c0_1 (s_texture_at_c0_1 )) w) := by
  obtain ⟨R, HR⟩ : ∃ R, e_texture_at_c0_1 (s_texture_at_c0_1 ) = R := ⟨_, rfl⟩
  rw [HR]
  unfold s_texture_at_c0_1 at HR
  have hM0 := St.start1 hB0
  refine calls_run Try.func50 rfl ?_
  refine R_seq (R_region (S_fresh none #[.int .i64 2, .slice (some ⟨B0, 0, none⟩) 4 4] 24 hM0 (by kernel_rfl) (fun g1 w2 hM3 => S_fresh none #[.int .i64 0, .int .i64 0, .int .i64 0] 36 hM3 (by kernel_rfl) (fun g4 w5 hM6 => S_nil (R_seq (R_region (S_val (.pointer (some ⟨g1, 1, none⟩)) (by kernel_rfl) (S_load 1 1 (.slice (some ⟨B0, 0, none⟩) 4 4) hM6 (by kernel_rfl) (S_val (.int .i64 1) (by kernel_rfl) (S_val (.pointer (some ⟨g1, 0, none⟩)) (by kernel_rfl) (S_load 1 0 (.int .i64 2) hM6 (by kernel_rfl) (?_))))))))))))
  refine S_val (.int .i64 1) (by kernel_rfl) (S_val (.int .i64 1) (by kernel_rfl) (S_val (.pointer (some ⟨g1, 0, none⟩)) (by kernel_rfl) (S_load 1 0 (.int .i64 2) hM6 (by kernel_rfl) (S_val (.int .i64 2) (by kernel_rfl) (S_val (.int .i64 0) (by kernel_rfl) (S_val (.pointer (some ⟨g1, 0, none⟩)) (by kernel_rfl) (S_load 1 0 (.int .i64 2) hM6 (by kernel_rfl) (S_val (.int .i64 1) (by kernel_rfl) (S_val (.int .i64 0) (by kernel_rfl) (S_val (.int .i64 2) (by kernel_rfl) (S_val (.pointer (some ⟨B0, 6, none⟩)) (by kernel_rfl) (?_))))))))))))
  refine S_load 2 6 (.agg #[.int .i64 0, .int .i64 0, .int .i64 0]) hM6 (by kernel_rfl) (S_store 0 0 #[.int .i64 0, .int .i64 0, .int .i64 0] hM6 (by kernel_rfl) (fun w7 hM8 => S_nil (?_)))
  refine R_ret hM8 rfl (.cons (.cell _ _ 0 0 (.agg #[.int .i64 0, .int .i64 0, .int .i64 0]) (by kernel_rfl)) .nil) rfl ?_
  exact ⟨congrArg Ending.returned HR, hM8.below⟩

def P_texture_at_c0_1 (r : Int × Int × Int) : Prop := InV r
theorem i_texture_at_c0_1  : P_texture_at_c0_1 (s_texture_at_c0_1 ) := by
  unfold s_texture_at_c0_1
  exact (show InV (0, 0, 0) from ⟨(show InI 0 from by unfold InI; omega), (show InI 0 from by unfold InI; omega), (show InI 0 from by unfold InI; omega)⟩)

def e_texture_At_c0_1 (r : (Int × Int × Int) × Int) : Value := .tuple #[.agg #[.int .i64 r.1.1, .int .i64 r.1.2.1, .int .i64 r.1.2.2], .int .i64 r.2]
def s_texture_At_c0_1  : (Int × Int × Int) × Int :=
  lt (s_texture_Check_c) fun r7 =>
  if r7 = 0 then
    lt (s_texture_at_c0_1) fun r14 =>
    (r14, 0)
  else
    ((0, 0, 0), r7)
set_option maxRecDepth 100000 in
set_option maxHeartbeats 4000000 in
theorem w_texture_At_c0_1  (B0 : Nat) (T0 : TypeId) (fr0 : Nat × Nat) (w : World) (hB0 : Has B0 (.cells #[.int .i64 0, .int .i64 0, .int .i64 0, .int .i64 255, .int .i64 0, .int .i64 0, .int .i64 0, .int .i64 0, .int .i64 0, .int .i64 255, .int .i64 0, .int .i64 0] T0 fr0) w) : Calls Try.prog 22 #[.agg #[.int .i64 2, .slice (some ⟨B0, 0, none⟩) 4 4], .int .i64 0, .int .i64 1] w (Ret (e_texture_At_c0_1 (s_texture_At_c0_1 )) w) := by
  obtain ⟨R, HR⟩ : ∃ R, e_texture_At_c0_1 (s_texture_At_c0_1 ) = R := ⟨_, rfl⟩
  rw [HR]
  unfold s_texture_At_c0_1 at HR
  have hM0 := St.start1 hB0
  refine calls_run Try.func22 rfl ?_
  refine R_seq (R_region (S_fresh none #[.int .i64 2, .slice (some ⟨B0, 0, none⟩) 4 4] 24 hM0 (by kernel_rfl) (fun g1 w2 hM3 => S_fresh none #[.int .i64 0, .int .i64 0, .int .i64 0] 36 hM3 (by kernel_rfl) (fun g4 w5 hM6 => S_val (.int .i64 0) (by kernel_rfl) (S_nil (R_seq (R_seq (R_region (S_load 1 0 (.agg #[.int .i64 2, .slice (some ⟨B0, 0, none⟩) 4 4]) hM6 (by kernel_rfl) (S_call (s_texture_Check_c) (fun r : Int => .int .i64 r) hM6 (w_texture_Check_c B0 _ _ w5 (hM6.at 2 rfl)) (by kernel_rfl) (fun r7 h8 w9 hM10 => S_val (.int .i64 r7) (by kernel_rfl) (?_))))))))))))
  have HR := hr_lt HR h8
  refine S_nil (R_seq (R_region (S_val (.int .i64 r7) (by kernel_rfl) (?_))))
  refine S_decn (r7 = 0) (by kernel_rfl) (fun c11 => ?_) (fun c11 => ?_)
  · refine S_nil (R_yes (by kernel_rfl) (R_seq (R_region (S_val (.agg #[.int .i64 0, .int .i64 0, .int .i64 0]) (by kernel_rfl) (S_val (.int .i64 r7) (by kernel_rfl) (S_store 0 0 #[.int .i64 0, .int .i64 0, .int .i64 0] hM10 (by kernel_rfl) (fun w12 hM13 => S_val (.int .i64 r7) (by kernel_rfl) (S_nil (?_)))))))))
    have HR := hr_neg HR c11
    refine R_ret hM13 rfl (.cons (.cell _ _ 0 0 (.agg #[.int .i64 0, .int .i64 0, .int .i64 0]) (by kernel_rfl)) (.cons (.tmp _ (.int .i64 r7) (by kernel_rfl)) .nil)) rfl ?_
    exact ⟨congrArg Ending.returned HR, hM13.below⟩
  · refine S_nil (R_no (by kernel_rfl) (R_skip (R_seq (R_region (S_load 1 0 (.agg #[.int .i64 2, .slice (some ⟨B0, 0, none⟩) 4 4]) hM10 (by kernel_rfl) (S_val (.int .i64 0) (by kernel_rfl) (S_val (.int .i64 1) (by kernel_rfl) (S_call (s_texture_at_c0_1) (fun r : Int × Int × Int => .agg #[.int .i64 r.1, .int .i64 r.2.1, .int .i64 r.2.2]) hM10 (w_texture_at_c0_1 B0 _ _ w9 (hM10.at 2 rfl)) (by kernel_rfl) (fun r14 h15 w16 hM17 => S_store 0 0 #[.int .i64 r14.1, .int .i64 r14.2.1, .int .i64 r14.2.2] hM17 (by kernel_rfl) (fun w18 hM19 => S_val (.int .i64 0) (by kernel_rfl) (S_nil (?_))))))))))))
    have HR := hr_pos HR c11
    have HR := hr_lt HR h15
    refine R_ret hM19 rfl (.cons (.cell _ _ 0 0 (.agg #[.int .i64 r14.1, .int .i64 r14.2.1, .int .i64 r14.2.2]) (by kernel_rfl)) (.cons (.tmp _ (.int .i64 0) (by kernel_rfl)) .nil)) rfl ?_
    exact ⟨congrArg Ending.returned HR, hM19.below⟩

def P_texture_At_c0_1 (r : (Int × Int × Int) × Int) : Prop := (InV r.1 ∧ InI r.2)
theorem i_texture_At_c0_1  : P_texture_At_c0_1 (s_texture_At_c0_1 ) := by
  unfold s_texture_At_c0_1
  exact (lt_P fun r7 h8 => (ite_P (fun c11 => (lt_P fun r14 h15 => (show (InV r14 ∧ InI 0) from ⟨(tr (P := fun r : Int × Int × Int => InV r) h15 i_texture_at_c0_1).out, (show InI 0 from by unfold InI; omega)⟩))) (fun c11 => (show (InV (0, 0, 0) ∧ InI r7) from ⟨⟨(show InI 0 from by unfold InI; omega), (show InI 0 from by unfold InI; omega), (show InI 0 from by unfold InI; omega)⟩, (tr (P := fun r : Int => InI r) h8 i_texture_Check_c).out⟩))))

def e_texel_Sample_1_c0_1 (r : Int × Int × Int) : Value := .agg #[.int .i64 r.1, .int .i64 r.2.1, .int .i64 r.2.2]
def s_texel_Sample_1_c0_1  : Int × Int × Int :=
  lt (s_texture_At_c0_1) fun r4 =>
  r4.1
set_option maxRecDepth 100000 in
set_option maxHeartbeats 4000000 in
theorem w_texel_Sample_1_c0_1  (B0 : Nat) (T0 : TypeId) (fr0 : Nat × Nat) (B1 : Nat) (T1 : TypeId) (fr1 : Nat × Nat) (B2 : Nat) (T2 : TypeId) (fr2 : Nat × Nat) (B3 : Nat) (T3 : TypeId) (fr3 : Nat × Nat) (w : World) (hB0 : Has B0 (.cells #[.int .i64 0, .int .i64 0, .int .i64 0, .int .i64 255, .int .i64 0, .int .i64 0, .int .i64 0, .int .i64 0, .int .i64 0, .int .i64 255, .int .i64 0, .int .i64 0] T0 fr0) w) (hB1 : Has B1 (.cells #[.int .i64 2, .slice (some ⟨B0, 0, none⟩) 4 4] T1 fr1) w) (hB2 : Has B2 (.cells #[.int .i64 32768] T2 fr2) w) (hB3 : Has B3 (.cells #[.int .i64 0] T3 fr3) w) (n1_0 : B1 ≠ B0) (n2_0 : B2 ≠ B0) (n2_1 : B2 ≠ B1) (n3_0 : B3 ≠ B0) (n3_1 : B3 ≠ B1) (n3_2 : B3 ≠ B2) : Calls Try.prog 39 #[.int .i64 0, .int .i64 1, .pointer (some ⟨B1, 0, none⟩), .pointer (some ⟨B2, 0, none⟩), .pointer (some ⟨B3, 0, none⟩)] w (Ret (e_texel_Sample_1_c0_1 (s_texel_Sample_1_c0_1 )) w) := by
  obtain ⟨R, HR⟩ : ∃ R, e_texel_Sample_1_c0_1 (s_texel_Sample_1_c0_1 ) = R := ⟨_, rfl⟩
  rw [HR]
  unfold s_texel_Sample_1_c0_1 at HR
  have hM0 := St.start2 (St.start2 (St.start2 (St.start1 hB0) hB1 (by simp only [List.map_cons, List.map_nil, List.mem_cons, List.not_mem_nil, or_false, not_or]; exact n1_0)) hB2 (by simp only [List.map_cons, List.map_nil, List.mem_cons, List.not_mem_nil, or_false, not_or]; exact ⟨n2_1, n2_0⟩)) hB3 (by simp only [List.map_cons, List.map_nil, List.mem_cons, List.not_mem_nil, or_false, not_or]; exact ⟨n3_2, n3_1, n3_0⟩)
  refine calls_run Try.func39 rfl ?_
  refine R_seq (R_region (S_fresh none #[.int .i64 0, .int .i64 0, .int .i64 0] 36 hM0 (by kernel_rfl) (fun g1 w2 hM3 => S_nil (R_seq (R_region (S_load 3 0 (.agg #[.int .i64 2, .slice (some ⟨B0, 0, none⟩) 4 4]) hM3 (by kernel_rfl) (S_load 2 0 (.int .i64 32768) hM3 (by kernel_rfl) (S_val (.int .i64 0) (by kernel_rfl) (S_val (.int .i64 0) (by kernel_rfl) (S_val (.int .i64 0) (by kernel_rfl) (S_load 1 0 (.int .i64 0) hM3 (by kernel_rfl) (?_))))))))))))
  refine S_val (.int .i64 0) (by kernel_rfl) (S_val (.int .i64 1) (by kernel_rfl) (S_val (.int .i64 1) (by kernel_rfl) (S_call (s_texture_At_c0_1) (fun r : (Int × Int × Int) × Int => .tuple #[.agg #[.int .i64 r.1.1, .int .i64 r.1.2.1, .int .i64 r.1.2.2], .int .i64 r.2]) hM3 (w_texture_At_c0_1 B0 _ _ w2 (hM3.at 4 rfl)) (by kernel_rfl) (fun r4 h5 w6 hM7 => S_val (.tuple #[.agg #[.int .i64 r4.1.1, .int .i64 r4.1.2.1, .int .i64 r4.1.2.2], .int .i64 r4.2]) (by kernel_rfl) (S_val (.agg #[.int .i64 r4.1.1, .int .i64 r4.1.2.1, .int .i64 r4.1.2.2]) (by kernel_rfl) (S_val (.int .i64 r4.2) (by kernel_rfl) (S_fresh none #[.int .i64 0, .int .i64 0, .int .i64 0] 36 hM7 (by kernel_rfl) (fun g8 w9 hM10 => S_store 0 0 #[.int .i64 r4.1.1, .int .i64 r4.1.2.1, .int .i64 r4.1.2.2] hM10 (by kernel_rfl) (fun w11 hM12 => S_val (.int .i64 r4.2) (by kernel_rfl) (S_nil (R_seq (?_))))))))))))
  have HR := hr_lt HR h5
  refine R_region (S_load 0 0 (.agg #[.int .i64 r4.1.1, .int .i64 r4.1.2.1, .int .i64 r4.1.2.2]) hM12 (by kernel_rfl) (S_store 1 0 #[.int .i64 r4.1.1, .int .i64 r4.1.2.1, .int .i64 r4.1.2.2] hM12 (by kernel_rfl) (fun w13 hM14 => S_nil (?_))))
  refine R_ret hM14 rfl (.cons (.cell _ _ 1 0 (.agg #[.int .i64 r4.1.1, .int .i64 r4.1.2.1, .int .i64 r4.1.2.2]) (by kernel_rfl)) .nil) rfl ?_
  exact ⟨congrArg Ending.returned HR, hM14.below⟩

def P_texel_Sample_1_c0_1 (r : Int × Int × Int) : Prop := InV r
theorem i_texel_Sample_1_c0_1  : P_texel_Sample_1_c0_1 (s_texel_Sample_1_c0_1 ) := by
  unfold s_texel_Sample_1_c0_1
  exact (lt_P fun r4 h5 => (show InV r4.1 from (tr (P := fun r : (Int × Int × Int) × Int => (InV r.1 ∧ InI r.2)) h5 i_texture_At_c0_1).out.1))

def e_texture_at_c1_1 (r : Int × Int × Int) : Value := .agg #[.int .i64 r.1, .int .i64 r.2.1, .int .i64 r.2.2]
def s_texture_at_c1_1  : Int × Int × Int :=
  (255, 0, 0)
set_option maxRecDepth 100000 in
set_option maxHeartbeats 4000000 in
theorem w_texture_at_c1_1  (B0 : Nat) (T0 : TypeId) (fr0 : Nat × Nat) (w : World) (hB0 : Has B0 (.cells #[.int .i64 0, .int .i64 0, .int .i64 0, .int .i64 255, .int .i64 0, .int .i64 0, .int .i64 0, .int .i64 0, .int .i64 0, .int .i64 255, .int .i64 0, .int .i64 0] T0 fr0) w) : Calls Try.prog 50 #[.agg #[.int .i64 2, .slice (some ⟨B0, 0, none⟩) 4 4], .int .i64 1, .int .i64 1] w (Ret (e_texture_at_c1_1 (s_texture_at_c1_1 )) w) := by
  obtain ⟨R, HR⟩ : ∃ R, e_texture_at_c1_1 (s_texture_at_c1_1 ) = R := ⟨_, rfl⟩
  rw [HR]
  unfold s_texture_at_c1_1 at HR
  have hM0 := St.start1 hB0
  refine calls_run Try.func50 rfl ?_
  refine R_seq (R_region (S_fresh none #[.int .i64 2, .slice (some ⟨B0, 0, none⟩) 4 4] 24 hM0 (by kernel_rfl) (fun g1 w2 hM3 => S_fresh none #[.int .i64 0, .int .i64 0, .int .i64 0] 36 hM3 (by kernel_rfl) (fun g4 w5 hM6 => S_nil (R_seq (R_region (S_val (.pointer (some ⟨g1, 1, none⟩)) (by kernel_rfl) (S_load 1 1 (.slice (some ⟨B0, 0, none⟩) 4 4) hM6 (by kernel_rfl) (S_val (.int .i64 1) (by kernel_rfl) (S_val (.pointer (some ⟨g1, 0, none⟩)) (by kernel_rfl) (S_load 1 0 (.int .i64 2) hM6 (by kernel_rfl) (?_))))))))))))
  refine S_val (.int .i64 1) (by kernel_rfl) (S_val (.int .i64 1) (by kernel_rfl) (S_val (.pointer (some ⟨g1, 0, none⟩)) (by kernel_rfl) (S_load 1 0 (.int .i64 2) hM6 (by kernel_rfl) (S_val (.int .i64 2) (by kernel_rfl) (S_val (.int .i64 1) (by kernel_rfl) (S_val (.pointer (some ⟨g1, 0, none⟩)) (by kernel_rfl) (S_load 1 0 (.int .i64 2) hM6 (by kernel_rfl) (S_val (.int .i64 1) (by kernel_rfl) (S_val (.int .i64 1) (by kernel_rfl) (S_val (.int .i64 3) (by kernel_rfl) (S_val (.pointer (some ⟨B0, 9, none⟩)) (by kernel_rfl) (?_))))))))))))
  refine S_load 2 9 (.agg #[.int .i64 255, .int .i64 0, .int .i64 0]) hM6 (by kernel_rfl) (S_store 0 0 #[.int .i64 255, .int .i64 0, .int .i64 0] hM6 (by kernel_rfl) (fun w7 hM8 => S_nil (?_)))
  refine R_ret hM8 rfl (.cons (.cell _ _ 0 0 (.agg #[.int .i64 255, .int .i64 0, .int .i64 0]) (by kernel_rfl)) .nil) rfl ?_
  exact ⟨congrArg Ending.returned HR, hM8.below⟩

def P_texture_at_c1_1 (r : Int × Int × Int) : Prop := InV r
theorem i_texture_at_c1_1  : P_texture_at_c1_1 (s_texture_at_c1_1 ) := by
  unfold s_texture_at_c1_1
  exact (show InV (255, 0, 0) from ⟨(show InI 255 from by unfold InI; omega), (show InI 0 from by unfold InI; omega), (show InI 0 from by unfold InI; omega)⟩)

def e_texture_At_c1_1 (r : (Int × Int × Int) × Int) : Value := .tuple #[.agg #[.int .i64 r.1.1, .int .i64 r.1.2.1, .int .i64 r.1.2.2], .int .i64 r.2]
def s_texture_At_c1_1  : (Int × Int × Int) × Int :=
  lt (s_texture_Check_c) fun r7 =>
  if r7 = 0 then
    lt (s_texture_at_c1_1) fun r14 =>
    (r14, 0)
  else
    ((0, 0, 0), r7)
set_option maxRecDepth 100000 in
set_option maxHeartbeats 4000000 in
theorem w_texture_At_c1_1  (B0 : Nat) (T0 : TypeId) (fr0 : Nat × Nat) (w : World) (hB0 : Has B0 (.cells #[.int .i64 0, .int .i64 0, .int .i64 0, .int .i64 255, .int .i64 0, .int .i64 0, .int .i64 0, .int .i64 0, .int .i64 0, .int .i64 255, .int .i64 0, .int .i64 0] T0 fr0) w) : Calls Try.prog 22 #[.agg #[.int .i64 2, .slice (some ⟨B0, 0, none⟩) 4 4], .int .i64 1, .int .i64 1] w (Ret (e_texture_At_c1_1 (s_texture_At_c1_1 )) w) := by
  obtain ⟨R, HR⟩ : ∃ R, e_texture_At_c1_1 (s_texture_At_c1_1 ) = R := ⟨_, rfl⟩
  rw [HR]
  unfold s_texture_At_c1_1 at HR
  have hM0 := St.start1 hB0
  refine calls_run Try.func22 rfl ?_
  refine R_seq (R_region (S_fresh none #[.int .i64 2, .slice (some ⟨B0, 0, none⟩) 4 4] 24 hM0 (by kernel_rfl) (fun g1 w2 hM3 => S_fresh none #[.int .i64 0, .int .i64 0, .int .i64 0] 36 hM3 (by kernel_rfl) (fun g4 w5 hM6 => S_val (.int .i64 0) (by kernel_rfl) (S_nil (R_seq (R_seq (R_region (S_load 1 0 (.agg #[.int .i64 2, .slice (some ⟨B0, 0, none⟩) 4 4]) hM6 (by kernel_rfl) (S_call (s_texture_Check_c) (fun r : Int => .int .i64 r) hM6 (w_texture_Check_c B0 _ _ w5 (hM6.at 2 rfl)) (by kernel_rfl) (fun r7 h8 w9 hM10 => S_val (.int .i64 r7) (by kernel_rfl) (?_))))))))))))
  have HR := hr_lt HR h8
  refine S_nil (R_seq (R_region (S_val (.int .i64 r7) (by kernel_rfl) (?_))))
  refine S_decn (r7 = 0) (by kernel_rfl) (fun c11 => ?_) (fun c11 => ?_)
  · refine S_nil (R_yes (by kernel_rfl) (R_seq (R_region (S_val (.agg #[.int .i64 0, .int .i64 0, .int .i64 0]) (by kernel_rfl) (S_val (.int .i64 r7) (by kernel_rfl) (S_store 0 0 #[.int .i64 0, .int .i64 0, .int .i64 0] hM10 (by kernel_rfl) (fun w12 hM13 => S_val (.int .i64 r7) (by kernel_rfl) (S_nil (?_)))))))))
    have HR := hr_neg HR c11
    refine R_ret hM13 rfl (.cons (.cell _ _ 0 0 (.agg #[.int .i64 0, .int .i64 0, .int .i64 0]) (by kernel_rfl)) (.cons (.tmp _ (.int .i64 r7) (by kernel_rfl)) .nil)) rfl ?_
    exact ⟨congrArg Ending.returned HR, hM13.below⟩
  · refine S_nil (R_no (by kernel_rfl) (R_skip (R_seq (R_region (S_load 1 0 (.agg #[.int .i64 2, .slice (some ⟨B0, 0, none⟩) 4 4]) hM10 (by kernel_rfl) (S_val (.int .i64 1) (by kernel_rfl) (S_val (.int .i64 1) (by kernel_rfl) (S_call (s_texture_at_c1_1) (fun r : Int × Int × Int => .agg #[.int .i64 r.1, .int .i64 r.2.1, .int .i64 r.2.2]) hM10 (w_texture_at_c1_1 B0 _ _ w9 (hM10.at 2 rfl)) (by kernel_rfl) (fun r14 h15 w16 hM17 => S_store 0 0 #[.int .i64 r14.1, .int .i64 r14.2.1, .int .i64 r14.2.2] hM17 (by kernel_rfl) (fun w18 hM19 => S_val (.int .i64 0) (by kernel_rfl) (S_nil (?_))))))))))))
    have HR := hr_pos HR c11
    have HR := hr_lt HR h15
    refine R_ret hM19 rfl (.cons (.cell _ _ 0 0 (.agg #[.int .i64 r14.1, .int .i64 r14.2.1, .int .i64 r14.2.2]) (by kernel_rfl)) (.cons (.tmp _ (.int .i64 0) (by kernel_rfl)) .nil)) rfl ?_
    exact ⟨congrArg Ending.returned HR, hM19.below⟩

def P_texture_At_c1_1 (r : (Int × Int × Int) × Int) : Prop := (InV r.1 ∧ InI r.2)
theorem i_texture_At_c1_1  : P_texture_At_c1_1 (s_texture_At_c1_1 ) := by
  unfold s_texture_At_c1_1
  exact (lt_P fun r7 h8 => (ite_P (fun c11 => (lt_P fun r14 h15 => (show (InV r14 ∧ InI 0) from ⟨(tr (P := fun r : Int × Int × Int => InV r) h15 i_texture_at_c1_1).out, (show InI 0 from by unfold InI; omega)⟩))) (fun c11 => (show (InV (0, 0, 0) ∧ InI r7) from ⟨⟨(show InI 0 from by unfold InI; omega), (show InI 0 from by unfold InI; omega), (show InI 0 from by unfold InI; omega)⟩, (tr (P := fun r : Int => InI r) h8 i_texture_Check_c).out⟩))))

def e_texel_Sample_1_c1_1 (r : Int × Int × Int) : Value := .agg #[.int .i64 r.1, .int .i64 r.2.1, .int .i64 r.2.2]
def s_texel_Sample_1_c1_1  : Int × Int × Int :=
  lt (s_texture_At_c1_1) fun r4 =>
  r4.1
set_option maxRecDepth 100000 in
set_option maxHeartbeats 4000000 in
theorem w_texel_Sample_1_c1_1  (B0 : Nat) (T0 : TypeId) (fr0 : Nat × Nat) (B1 : Nat) (T1 : TypeId) (fr1 : Nat × Nat) (B2 : Nat) (T2 : TypeId) (fr2 : Nat × Nat) (B3 : Nat) (T3 : TypeId) (fr3 : Nat × Nat) (w : World) (hB0 : Has B0 (.cells #[.int .i64 0, .int .i64 0, .int .i64 0, .int .i64 255, .int .i64 0, .int .i64 0, .int .i64 0, .int .i64 0, .int .i64 0, .int .i64 255, .int .i64 0, .int .i64 0] T0 fr0) w) (hB1 : Has B1 (.cells #[.int .i64 2, .slice (some ⟨B0, 0, none⟩) 4 4] T1 fr1) w) (hB2 : Has B2 (.cells #[.int .i64 32768] T2 fr2) w) (hB3 : Has B3 (.cells #[.int .i64 0] T3 fr3) w) (n1_0 : B1 ≠ B0) (n2_0 : B2 ≠ B0) (n2_1 : B2 ≠ B1) (n3_0 : B3 ≠ B0) (n3_1 : B3 ≠ B1) (n3_2 : B3 ≠ B2) : Calls Try.prog 39 #[.int .i64 1, .int .i64 1, .pointer (some ⟨B1, 0, none⟩), .pointer (some ⟨B2, 0, none⟩), .pointer (some ⟨B3, 0, none⟩)] w (Ret (e_texel_Sample_1_c1_1 (s_texel_Sample_1_c1_1 )) w) := by
  obtain ⟨R, HR⟩ : ∃ R, e_texel_Sample_1_c1_1 (s_texel_Sample_1_c1_1 ) = R := ⟨_, rfl⟩
  rw [HR]
  unfold s_texel_Sample_1_c1_1 at HR
  have hM0 := St.start2 (St.start2 (St.start2 (St.start1 hB0) hB1 (by simp only [List.map_cons, List.map_nil, List.mem_cons, List.not_mem_nil, or_false, not_or]; exact n1_0)) hB2 (by simp only [List.map_cons, List.map_nil, List.mem_cons, List.not_mem_nil, or_false, not_or]; exact ⟨n2_1, n2_0⟩)) hB3 (by simp only [List.map_cons, List.map_nil, List.mem_cons, List.not_mem_nil, or_false, not_or]; exact ⟨n3_2, n3_1, n3_0⟩)
  refine calls_run Try.func39 rfl ?_
  refine R_seq (R_region (S_fresh none #[.int .i64 0, .int .i64 0, .int .i64 0] 36 hM0 (by kernel_rfl) (fun g1 w2 hM3 => S_nil (R_seq (R_region (S_load 3 0 (.agg #[.int .i64 2, .slice (some ⟨B0, 0, none⟩) 4 4]) hM3 (by kernel_rfl) (S_load 2 0 (.int .i64 32768) hM3 (by kernel_rfl) (S_val (.int .i64 0) (by kernel_rfl) (S_val (.int .i64 1) (by kernel_rfl) (S_val (.int .i64 1) (by kernel_rfl) (S_load 1 0 (.int .i64 0) hM3 (by kernel_rfl) (?_))))))))))))
  refine S_val (.int .i64 0) (by kernel_rfl) (S_val (.int .i64 1) (by kernel_rfl) (S_val (.int .i64 1) (by kernel_rfl) (S_call (s_texture_At_c1_1) (fun r : (Int × Int × Int) × Int => .tuple #[.agg #[.int .i64 r.1.1, .int .i64 r.1.2.1, .int .i64 r.1.2.2], .int .i64 r.2]) hM3 (w_texture_At_c1_1 B0 _ _ w2 (hM3.at 4 rfl)) (by kernel_rfl) (fun r4 h5 w6 hM7 => S_val (.tuple #[.agg #[.int .i64 r4.1.1, .int .i64 r4.1.2.1, .int .i64 r4.1.2.2], .int .i64 r4.2]) (by kernel_rfl) (S_val (.agg #[.int .i64 r4.1.1, .int .i64 r4.1.2.1, .int .i64 r4.1.2.2]) (by kernel_rfl) (S_val (.int .i64 r4.2) (by kernel_rfl) (S_fresh none #[.int .i64 0, .int .i64 0, .int .i64 0] 36 hM7 (by kernel_rfl) (fun g8 w9 hM10 => S_store 0 0 #[.int .i64 r4.1.1, .int .i64 r4.1.2.1, .int .i64 r4.1.2.2] hM10 (by kernel_rfl) (fun w11 hM12 => S_val (.int .i64 r4.2) (by kernel_rfl) (S_nil (R_seq (?_))))))))))))
  have HR := hr_lt HR h5
  refine R_region (S_load 0 0 (.agg #[.int .i64 r4.1.1, .int .i64 r4.1.2.1, .int .i64 r4.1.2.2]) hM12 (by kernel_rfl) (S_store 1 0 #[.int .i64 r4.1.1, .int .i64 r4.1.2.1, .int .i64 r4.1.2.2] hM12 (by kernel_rfl) (fun w13 hM14 => S_nil (?_))))
  refine R_ret hM14 rfl (.cons (.cell _ _ 1 0 (.agg #[.int .i64 r4.1.1, .int .i64 r4.1.2.1, .int .i64 r4.1.2.2]) (by kernel_rfl)) .nil) rfl ?_
  exact ⟨congrArg Ending.returned HR, hM14.below⟩

def P_texel_Sample_1_c1_1 (r : Int × Int × Int) : Prop := InV r
theorem i_texel_Sample_1_c1_1  : P_texel_Sample_1_c1_1 (s_texel_Sample_1_c1_1 ) := by
  unfold s_texel_Sample_1_c1_1
  exact (lt_P fun r4 h5 => (show InV r4.1 from (tr (P := fun r : (Int × Int × Int) × Int => (InV r.1 ∧ InI r.2)) h5 i_texture_At_c1_1).out.1))

def e_texel_Sample_c (r : (Int × Int × Int) × Int) : Value := .tuple #[.agg #[.int .i64 r.1.1, .int .i64 r.1.2.1, .int .i64 r.1.2.2], .int .i64 r.2]
def s_texel_Sample_c  : (Int × Int × Int) × Int :=
  lt (s_texture_Check_c) fun r7 =>
  if r7 = 0 then
    lt (s_texel_Sample_1_c0_0) fun r41 =>
    lt (s_texel_Sample_1_c1_0) fun r45 =>
    lt (s_texel_Sample_1_c0_1) fun r49 =>
    lt (s_texel_Sample_1_c1_1) fun r53 =>
    lt (IntKind.i64.wrap (r41.1 * 2147483648)) fun x73 =>
    lt (IntKind.i64.wrap (0 + x73)) fun x75 =>
    lt (IntKind.i64.wrap (r41.2.1 * 2147483648)) fun x84 =>
    lt (IntKind.i64.wrap (0 + x84)) fun x86 =>
    lt (IntKind.i64.wrap (r41.2.2 * 2147483648)) fun x95 =>
    lt (IntKind.i64.wrap (0 + x95)) fun x97 =>
    lt (IntKind.i64.wrap (r45.1 * 2147483648)) fun x111 =>
    lt (IntKind.i64.wrap (x75 + x111)) fun x113 =>
    lt (IntKind.i64.wrap (r45.2.1 * 2147483648)) fun x122 =>
    lt (IntKind.i64.wrap (x86 + x122)) fun x124 =>
    lt (IntKind.i64.wrap (r45.2.2 * 2147483648)) fun x133 =>
    lt (IntKind.i64.wrap (x97 + x133)) fun x135 =>
    lt (IntKind.i64.wrap (r49.1 * 0)) fun x149 =>
    lt (IntKind.i64.wrap (x113 + x149)) fun x151 =>
    lt (IntKind.i64.wrap (r49.2.1 * 0)) fun x160 =>
    lt (IntKind.i64.wrap (x124 + x160)) fun x162 =>
    lt (IntKind.i64.wrap (r49.2.2 * 0)) fun x171 =>
    lt (IntKind.i64.wrap (x135 + x171)) fun x173 =>
    lt (IntKind.i64.wrap (r53.1 * 0)) fun x187 =>
    lt (IntKind.i64.wrap (x151 + x187)) fun x189 =>
    lt (IntKind.i64.wrap (r53.2.1 * 0)) fun x198 =>
    lt (IntKind.i64.wrap (x162 + x198)) fun x200 =>
    lt (IntKind.i64.wrap (r53.2.2 * 0)) fun x209 =>
    lt (IntKind.i64.wrap (x173 + x209)) fun x211 =>
    lt (IntKind.i64.wrap (Int.tdiv x189 255)) fun x217 =>
    lt (IntKind.i64.wrap (Int.tdiv x200 255)) fun x219 =>
    lt (IntKind.i64.wrap (Int.tdiv x211 255)) fun x221 =>
    ((x217, x219, x221), 0)
  else
    ((0, 0, 0), r7)
set_option maxRecDepth 100000 in
set_option maxHeartbeats 4000000 in
theorem w_texel_Sample_c  (B0 : Nat) (T0 : TypeId) (fr0 : Nat × Nat) (w : World) (hB0 : Has B0 (.cells #[.int .i64 0, .int .i64 0, .int .i64 0, .int .i64 255, .int .i64 0, .int .i64 0, .int .i64 0, .int .i64 0, .int .i64 0, .int .i64 255, .int .i64 0, .int .i64 0] T0 fr0) w) : Calls Try.prog 14 #[.agg #[.int .i64 2, .slice (some ⟨B0, 0, none⟩) 4 4], .int .i64 32768, .int .i64 16384] w (Ret (e_texel_Sample_c (s_texel_Sample_c )) w) := by
  obtain ⟨R, HR⟩ : ∃ R, e_texel_Sample_c (s_texel_Sample_c ) = R := ⟨_, rfl⟩
  rw [HR]
  unfold s_texel_Sample_c at HR
  have hM0 := St.start1 hB0
  refine calls_run Try.func14 rfl ?_
  refine R_seq (R_region (S_fresh none #[.int .i64 2, .slice (some ⟨B0, 0, none⟩) 4 4] 24 hM0 (by kernel_rfl) (fun g1 w2 hM3 => S_fresh none #[.int .i64 0, .int .i64 0, .int .i64 0] 29 hM3 (by kernel_rfl) (fun g4 w5 hM6 => S_val (.int .i64 0) (by kernel_rfl) (S_nil (R_seq (R_seq (R_region (S_load 1 0 (.agg #[.int .i64 2, .slice (some ⟨B0, 0, none⟩) 4 4]) hM6 (by kernel_rfl) (S_call (s_texture_Check_c) (fun r : Int => .int .i64 r) hM6 (w_texture_Check_c B0 _ _ w5 (hM6.at 2 rfl)) (by kernel_rfl) (fun r7 h8 w9 hM10 => S_val (.int .i64 r7) (by kernel_rfl) (?_))))))))))))
  have HR := hr_lt HR h8
  refine S_nil (R_seq (R_region (S_val (.int .i64 r7) (by kernel_rfl) (?_))))
  refine S_decn (r7 = 0) (by kernel_rfl) (fun c11 => ?_) (fun c11 => ?_)
  · refine S_nil (R_yes (by kernel_rfl) (R_seq (R_region (S_val (.agg #[.int .i64 0, .int .i64 0, .int .i64 0]) (by kernel_rfl) (S_val (.int .i64 r7) (by kernel_rfl) (S_store 0 0 #[.int .i64 0, .int .i64 0, .int .i64 0] hM10 (by kernel_rfl) (fun w12 hM13 => S_val (.int .i64 r7) (by kernel_rfl) (S_nil (?_)))))))))
    have HR := hr_neg HR c11
    refine R_ret hM13 rfl (.cons (.cell _ _ 0 0 (.agg #[.int .i64 0, .int .i64 0, .int .i64 0]) (by kernel_rfl)) (.cons (.tmp _ (.int .i64 r7) (by kernel_rfl)) .nil)) rfl ?_
    exact ⟨congrArg Ending.returned HR, hM13.below⟩
  · refine S_nil (R_no (by kernel_rfl) (R_skip (R_seq (R_seq (R_region (S_val (.int .i64 32768) (by kernel_rfl) (S_val (.int .i64 16384) (by kernel_rfl) (S_val (.int .i64 16384) (by kernel_rfl) (S_val (.bool false) (by kernel_rfl) (S_val (.bool false) (by kernel_rfl) (S_val (.int .i64 32768) (by kernel_rfl) (?_))))))))))))
    have HR := hr_pos HR c11
    refine S_val (.int .i64 16384) (by kernel_rfl) (S_val (.int .i64 32768) (by kernel_rfl) (S_val (.bool false) (by kernel_rfl) (S_val (.bool false) (by kernel_rfl) (S_nil (R_no (by kernel_rfl) (R_skip (R_seq (R_drawG 14 (by kernel_rfl) (fun F14 U15 hL16 => G_val (.int .i64 32768) (fun _ => by kernel_rfl) (G_val (.pointer (some ⟨g1, 0, none⟩)) (fun _ => by kernel_rfl) (G_load 1 0 (.int .i64 2) hM10 (by kernel_rfl) (?_))))))))))))
    refine G_val (.int .i64 65536) (fun _ => by kernel_rfl) (G_val (.int .i64 32768) (fun _ => by kernel_rfl) (G_val (.int .i64 16384) (fun _ => by kernel_rfl) (G_val (.pointer (some ⟨g1, 0, none⟩)) (fun _ => by kernel_rfl) (G_load 1 0 (.int .i64 2) hM10 (by kernel_rfl) (G_val (.int .i64 32768) (fun _ => by kernel_rfl) (G_val (.int .i64 0) (fun _ => by kernel_rfl) (G_fresh none #[.int .i64 0] 3 hL16 (by kernel_rfl) (fun _ => by kernel_rfl) (fun g17 F18 U19 hL20 => G_fresh none #[.int .i64 0] 3 hL20 (by kernel_rfl) (fun _ => by kernel_rfl) (fun g21 F22 U23 hL24 => G_store 1 0 #[.int .i64 32768] hL24 (by kernel_rfl) (by kernel_rfl) (fun F25 hL26 => G_store 0 0 #[.int .i64 0] hL26 (by kernel_rfl) (by kernel_rfl) (fun F27 hL28 => G_nil hM10 hL28 (fun w29 hM30 => ?_))))))))))))
    refine S_nil (R_seq (R_drawF 6 (by kernel_rfl) (fun F31 U32 hL33 => F_load 1 0 (.int .i64 32768) hM30 (by kernel_rfl) (F_val (.int .i64 32768) (fun _ => by kernel_rfl) (F_load 0 0 (.int .i64 0) hM30 (by kernel_rfl) (F_val (.int .i64 0) (fun _ => by kernel_rfl) (F_val (.int .i64 32768) (fun _ => by kernel_rfl) (F_val (.int .i64 0) (fun _ => by kernel_rfl) (F_nil hM30 hL33 (fun w34 hM35 => S_nil (R_seq (?_))))))))))))
    refine R_region (S_val (.func (.func 39) #[] #[.pointer (some ⟨g1, 0, none⟩), .pointer (some ⟨g17, 0, none⟩), .pointer (some ⟨g21, 0, none⟩)]) (by kernel_rfl) (S_val (.func (.func 39) #[] #[.pointer (some ⟨g1, 0, none⟩), .pointer (some ⟨g17, 0, none⟩), .pointer (some ⟨g21, 0, none⟩)]) (by kernel_rfl) (S_nil (R_seq (R_region (S_val (.int .i64 32768) (by kernel_rfl) (S_val (.int .i64 32768) (by kernel_rfl) (S_val (.int .i64 0) (by kernel_rfl) (S_val (.int .i64 65536) (by kernel_rfl) (S_val (.int .i64 2147483648) (by kernel_rfl) (S_val (.int .i64 32768) (by kernel_rfl) (?_))))))))))))
    refine S_val (.int .i64 0) (by kernel_rfl) (S_val (.int .i64 65536) (by kernel_rfl) (S_val (.int .i64 2147483648) (by kernel_rfl) (S_val (.int .i64 32768) (by kernel_rfl) (S_val (.int .i64 32768) (by kernel_rfl) (S_val (.int .i64 0) (by kernel_rfl) (S_val (.int .i64 0) (by kernel_rfl) (S_val (.int .i64 32768) (by kernel_rfl) (S_val (.int .i64 0) (by kernel_rfl) (S_val (.int .i64 0) (by kernel_rfl) (S_val (.agg #[.int .i64 2147483648, .int .i64 2147483648, .int .i64 0, .int .i64 0]) (by kernel_rfl) (S_fresh none #[.int .i64 0, .int .i64 0, .int .i64 0, .int .i64 0] 41 hM35 (by kernel_rfl) (fun g36 w37 hM38 => ?_))))))))))))
    refine S_store 0 0 #[.int .i64 2147483648, .int .i64 2147483648, .int .i64 0, .int .i64 0] hM38 (by kernel_rfl) (fun w39 hM40 => S_nil (R_seq (R_region (S_val (.func (.func 39) #[] #[.pointer (some ⟨g1, 0, none⟩), .pointer (some ⟨g17, 0, none⟩), .pointer (some ⟨g21, 0, none⟩)]) (by kernel_rfl) (S_call (s_texel_Sample_1_c0_0) (fun r : Int × Int × Int => .agg #[.int .i64 r.1, .int .i64 r.2.1, .int .i64 r.2.2]) hM40 (w_texel_Sample_1_c0_0 B0 _ _ g1 _ _ g17 _ _ g21 _ _ w39 (hM40.at 5 rfl) (hM40.at 4 rfl) (hM40.at 2 rfl) (hM40.at 1 rfl) (hM40.ne 4 5 rfl rfl (by decide)) (hM40.ne 2 5 rfl rfl (by decide)) (hM40.ne 2 4 rfl rfl (by decide)) (hM40.ne 1 5 rfl rfl (by decide)) (hM40.ne 1 4 rfl rfl (by decide)) (hM40.ne 1 2 rfl rfl (by decide))) (by kernel_rfl) (fun r41 h42 w43 hM44 => S_val (.func (.func 39) #[] #[.pointer (some ⟨g1, 0, none⟩), .pointer (some ⟨g17, 0, none⟩), .pointer (some ⟨g21, 0, none⟩)]) (by kernel_rfl) (S_call (s_texel_Sample_1_c1_0) (fun r : Int × Int × Int => .agg #[.int .i64 r.1, .int .i64 r.2.1, .int .i64 r.2.2]) hM44 (w_texel_Sample_1_c1_0 B0 _ _ g1 _ _ g17 _ _ g21 _ _ w43 (hM44.at 5 rfl) (hM44.at 4 rfl) (hM44.at 2 rfl) (hM44.at 1 rfl) (hM44.ne 4 5 rfl rfl (by decide)) (hM44.ne 2 5 rfl rfl (by decide)) (hM44.ne 2 4 rfl rfl (by decide)) (hM44.ne 1 5 rfl rfl (by decide)) (hM44.ne 1 4 rfl rfl (by decide)) (hM44.ne 1 2 rfl rfl (by decide))) (by kernel_rfl) (fun r45 h46 w47 hM48 => S_val (.func (.func 39) #[] #[.pointer (some ⟨g1, 0, none⟩), .pointer (some ⟨g17, 0, none⟩), .pointer (some ⟨g21, 0, none⟩)]) (by kernel_rfl) (S_call (s_texel_Sample_1_c0_1) (fun r : Int × Int × Int => .agg #[.int .i64 r.1, .int .i64 r.2.1, .int .i64 r.2.2]) hM48 (w_texel_Sample_1_c0_1 B0 _ _ g1 _ _ g17 _ _ g21 _ _ w47 (hM48.at 5 rfl) (hM48.at 4 rfl) (hM48.at 2 rfl) (hM48.at 1 rfl) (hM48.ne 4 5 rfl rfl (by decide)) (hM48.ne 2 5 rfl rfl (by decide)) (hM48.ne 2 4 rfl rfl (by decide)) (hM48.ne 1 5 rfl rfl (by decide)) (hM48.ne 1 4 rfl rfl (by decide)) (hM48.ne 1 2 rfl rfl (by decide))) (by kernel_rfl) (fun r49 h50 w51 hM52 => S_val (.func (.func 39) #[] #[.pointer (some ⟨g1, 0, none⟩), .pointer (some ⟨g17, 0, none⟩), .pointer (some ⟨g21, 0, none⟩)]) (by kernel_rfl) (S_call (s_texel_Sample_1_c1_1) (fun r : Int × Int × Int => .agg #[.int .i64 r.1, .int .i64 r.2.1, .int .i64 r.2.2]) hM52 (w_texel_Sample_1_c1_1 B0 _ _ g1 _ _ g17 _ _ g21 _ _ w51 (hM52.at 5 rfl) (hM52.at 4 rfl) (hM52.at 2 rfl) (hM52.at 1 rfl) (hM52.ne 4 5 rfl rfl (by decide)) (hM52.ne 2 5 rfl rfl (by decide)) (hM52.ne 2 4 rfl rfl (by decide)) (hM52.ne 1 5 rfl rfl (by decide)) (hM52.ne 1 4 rfl rfl (by decide)) (hM52.ne 1 2 rfl rfl (by decide))) (by kernel_rfl) (fun r53 h54 w55 hM56 => ?_))))))))))))
    have HR := hr_lt HR h42
    have HR := hr_lt HR h46
    have HR := hr_lt HR h50
    have HR := hr_lt HR h54
    refine S_val (.agg #[.int .i64 r41.1, .int .i64 r41.2.1, .int .i64 r41.2.2, .int .i64 r45.1, .int .i64 r45.2.1, .int .i64 r45.2.2, .int .i64 r49.1, .int .i64 r49.2.1, .int .i64 r49.2.2, .int .i64 r53.1, .int .i64 r53.2.1, .int .i64 r53.2.2]) (by kernel_rfl) (S_fresh none #[.int .i64 0, .int .i64 0, .int .i64 0, .int .i64 0, .int .i64 0, .int .i64 0, .int .i64 0, .int .i64 0, .int .i64 0, .int .i64 0, .int .i64 0, .int .i64 0] 93 hM56 (by kernel_rfl) (fun g57 w58 hM59 => S_store 0 0 #[.int .i64 r41.1, .int .i64 r41.2.1, .int .i64 r41.2.2, .int .i64 r45.1, .int .i64 r45.2.1, .int .i64 r45.2.2, .int .i64 r49.1, .int .i64 r49.2.1, .int .i64 r49.2.2, .int .i64 r53.1, .int .i64 r53.2.1, .int .i64 r53.2.2] hM59 (by kernel_rfl) (fun w60 hM61 => S_nil (R_seq (R_region (S_fresh none #[.int .i64 0, .int .i64 0, .int .i64 0] 36 hM61 (by kernel_rfl) (fun g62 w63 hM64 => S_nil (R_seq (R_seq (R_region (S_load 1 0 (.agg #[.int .i64 r41.1, .int .i64 r41.2.1, .int .i64 r41.2.2, .int .i64 r45.1, .int .i64 r45.2.1, .int .i64 r45.2.2, .int .i64 r49.1, .int .i64 r49.2.1, .int .i64 r49.2.2, .int .i64 r53.1, .int .i64 r53.2.1, .int .i64 r53.2.2]) hM64 (by kernel_rfl) (?_))))))))))))
    refine S_val (.int .i64 0) (by kernel_rfl) (S_nil (R_block (R_loop (R_seq (R_region (S_val (.bool true) (by kernel_rfl) (S_nil (R_seq (R_yes (by kernel_rfl) (R_skip (R_seq (?_))))))))))))
    refine R_block (R_seq (R_region (S_val (.int .i64 0) (by kernel_rfl) (S_val (.agg #[.int .i64 r41.1, .int .i64 r41.2.1, .int .i64 r41.2.2]) (by kernel_rfl) (S_fresh none #[.int .i64 0, .int .i64 0, .int .i64 0] 36 hM64 (by kernel_rfl) (fun g65 w66 hM67 => S_val (.int .i64 0) (by kernel_rfl) (S_store 0 0 #[.int .i64 r41.1, .int .i64 r41.2.1, .int .i64 r41.2.2] hM67 (by kernel_rfl) (fun w68 hM69 => S_nil (R_seq (R_region (S_val (.int .i64 0) (by kernel_rfl) (?_))))))))))))
    refine S_nil (R_block (R_loop (R_seq (R_region (S_val (.bool true) (by kernel_rfl) (S_nil (R_seq (R_yes (by kernel_rfl) (R_skip (R_seq (R_block (?_))))))))))))
    refine R_seq (R_region (S_val (.int .i64 0) (by kernel_rfl) (S_val (.int .i64 0) (by kernel_rfl) (S_nil (R_drawF 12 (by kernel_rfl) (fun F70 U71 hL72 => F_val (.int .i64 0) (fun _ => by kernel_rfl) (F_val (.pointer (some ⟨g62, 0, none⟩)) (fun _ => by kernel_rfl) (F_load 1 0 (.int .i64 0) hM69 (by kernel_rfl) (F_val (.int .i64 0) (fun _ => by kernel_rfl) (F_val (.pointer (some ⟨g65, 0, none⟩)) (fun _ => by kernel_rfl) (F_load 0 0 (.int .i64 r41.1) hM69 (by kernel_rfl) (?_))))))))))))
    refine F_val (.int .i64 0) (fun _ => by kernel_rfl) (F_val (.pointer (some ⟨g36, 0, none⟩)) (fun _ => by kernel_rfl) (F_load 3 0 (.int .i64 2147483648) hM69 (by kernel_rfl) (F_int (IntKind.i64.wrap (r41.1 * 2147483648)) .i64 (fun _ => by kernel_rfl) (fun x73 h74 => F_int (IntKind.i64.wrap (0 + x73)) .i64 (fun _ => by kernel_rfl) (fun x75 h76 => F_val (.pointer (some ⟨g62, 0, none⟩)) (fun _ => by kernel_rfl) (F_nil hM69 hL72 (fun w77 hM78 => S_store 1 0 #[.int .i64 x75, .int .i64 0, .int .i64 0] hM78 (by kernel_rfl) (fun w79 hM80 => S_nil (R_inBlock (R_region (S_val (.int .i64 1) (by kernel_rfl) (?_))))))))))))
    have HR := hr_lt HR h74
    have HR := hr_lt HR h76
    refine S_val (.int .i64 1) (by kernel_rfl) (S_nil (R_inLoop (R_seq (R_region (S_val (.bool true) (by kernel_rfl) (S_nil (R_seq (R_yes (by kernel_rfl) (R_skip (R_seq (R_block (?_))))))))))))
    refine R_seq (R_region (S_val (.int .i64 1) (by kernel_rfl) (S_val (.int .i64 1) (by kernel_rfl) (S_nil (R_drawF 12 (by kernel_rfl) (fun F81 U82 hL83 => F_val (.int .i64 1) (fun _ => by kernel_rfl) (F_val (.pointer (some ⟨g62, 1, none⟩)) (fun _ => by kernel_rfl) (F_load 1 1 (.int .i64 0) hM80 (by kernel_rfl) (F_val (.int .i64 1) (fun _ => by kernel_rfl) (F_val (.pointer (some ⟨g65, 1, none⟩)) (fun _ => by kernel_rfl) (F_load 0 1 (.int .i64 r41.2.1) hM80 (by kernel_rfl) (?_))))))))))))
    refine F_val (.int .i64 0) (fun _ => by kernel_rfl) (F_val (.pointer (some ⟨g36, 0, none⟩)) (fun _ => by kernel_rfl) (F_load 3 0 (.int .i64 2147483648) hM80 (by kernel_rfl) (F_int (IntKind.i64.wrap (r41.2.1 * 2147483648)) .i64 (fun _ => by kernel_rfl) (fun x84 h85 => F_int (IntKind.i64.wrap (0 + x84)) .i64 (fun _ => by kernel_rfl) (fun x86 h87 => F_val (.pointer (some ⟨g62, 1, none⟩)) (fun _ => by kernel_rfl) (F_nil hM80 hL83 (fun w88 hM89 => S_store 1 1 #[.int .i64 x75, .int .i64 x86, .int .i64 0] hM89 (by kernel_rfl) (fun w90 hM91 => S_nil (R_inBlock (R_region (S_val (.int .i64 2) (by kernel_rfl) (?_))))))))))))
    have HR := hr_lt HR h85
    have HR := hr_lt HR h87
    refine S_val (.int .i64 2) (by kernel_rfl) (S_nil (R_inLoop (R_seq (R_region (S_val (.bool true) (by kernel_rfl) (S_nil (R_seq (R_yes (by kernel_rfl) (R_skip (R_seq (R_block (?_))))))))))))
    refine R_seq (R_region (S_val (.int .i64 2) (by kernel_rfl) (S_val (.int .i64 2) (by kernel_rfl) (S_nil (R_drawF 12 (by kernel_rfl) (fun F92 U93 hL94 => F_val (.int .i64 2) (fun _ => by kernel_rfl) (F_val (.pointer (some ⟨g62, 2, none⟩)) (fun _ => by kernel_rfl) (F_load 1 2 (.int .i64 0) hM91 (by kernel_rfl) (F_val (.int .i64 2) (fun _ => by kernel_rfl) (F_val (.pointer (some ⟨g65, 2, none⟩)) (fun _ => by kernel_rfl) (F_load 0 2 (.int .i64 r41.2.2) hM91 (by kernel_rfl) (?_))))))))))))
    refine F_val (.int .i64 0) (fun _ => by kernel_rfl) (F_val (.pointer (some ⟨g36, 0, none⟩)) (fun _ => by kernel_rfl) (F_load 3 0 (.int .i64 2147483648) hM91 (by kernel_rfl) (F_int (IntKind.i64.wrap (r41.2.2 * 2147483648)) .i64 (fun _ => by kernel_rfl) (fun x95 h96 => F_int (IntKind.i64.wrap (0 + x95)) .i64 (fun _ => by kernel_rfl) (fun x97 h98 => F_val (.pointer (some ⟨g62, 2, none⟩)) (fun _ => by kernel_rfl) (F_nil hM91 hL94 (fun w99 hM100 => S_store 1 2 #[.int .i64 x75, .int .i64 x86, .int .i64 x97] hM100 (by kernel_rfl) (fun w101 hM102 => S_nil (R_inBlock (R_region (S_val (.int .i64 3) (by kernel_rfl) (?_))))))))))))
    have HR := hr_lt HR h96
    have HR := hr_lt HR h98
    refine S_val (.int .i64 3) (by kernel_rfl) (S_nil (R_inLoop (R_seq (R_region (S_val (.bool false) (by kernel_rfl) (S_nil (R_seq (R_no (by kernel_rfl) (R_exit rfl (R_inBlock (R_region (?_))))))))))))
    refine S_val (.int .i64 1) (by kernel_rfl) (S_val (.int .i64 1) (by kernel_rfl) (S_nil (R_inLoop (R_seq (R_region (S_val (.bool true) (by kernel_rfl) (S_nil (R_seq (R_yes (by kernel_rfl) (R_skip (R_seq (?_))))))))))))
    refine R_block (R_seq (R_region (S_val (.int .i64 1) (by kernel_rfl) (S_val (.agg #[.int .i64 r45.1, .int .i64 r45.2.1, .int .i64 r45.2.2]) (by kernel_rfl) (S_fresh none #[.int .i64 0, .int .i64 0, .int .i64 0] 36 hM102 (by kernel_rfl) (fun g103 w104 hM105 => S_val (.int .i64 1) (by kernel_rfl) (S_store 0 0 #[.int .i64 r45.1, .int .i64 r45.2.1, .int .i64 r45.2.2] hM105 (by kernel_rfl) (fun w106 hM107 => S_nil (R_seq (R_region (S_val (.int .i64 0) (by kernel_rfl) (?_))))))))))))
    refine S_nil (R_block (R_loop (R_seq (R_region (S_val (.bool true) (by kernel_rfl) (S_nil (R_seq (R_yes (by kernel_rfl) (R_skip (R_seq (R_block (?_))))))))))))
    refine R_seq (R_region (S_val (.int .i64 0) (by kernel_rfl) (S_val (.int .i64 0) (by kernel_rfl) (S_nil (R_drawF 12 (by kernel_rfl) (fun F108 U109 hL110 => F_val (.int .i64 0) (fun _ => by kernel_rfl) (F_val (.pointer (some ⟨g62, 0, none⟩)) (fun _ => by kernel_rfl) (F_load 2 0 (.int .i64 x75) hM107 (by kernel_rfl) (F_val (.int .i64 0) (fun _ => by kernel_rfl) (F_val (.pointer (some ⟨g103, 0, none⟩)) (fun _ => by kernel_rfl) (F_load 0 0 (.int .i64 r45.1) hM107 (by kernel_rfl) (?_))))))))))))
    refine F_val (.int .i64 1) (fun _ => by kernel_rfl) (F_val (.pointer (some ⟨g36, 1, none⟩)) (fun _ => by kernel_rfl) (F_load 4 1 (.int .i64 2147483648) hM107 (by kernel_rfl) (F_int (IntKind.i64.wrap (r45.1 * 2147483648)) .i64 (fun _ => by kernel_rfl) (fun x111 h112 => F_int (IntKind.i64.wrap (x75 + x111)) .i64 (fun _ => by kernel_rfl) (fun x113 h114 => F_val (.pointer (some ⟨g62, 0, none⟩)) (fun _ => by kernel_rfl) (F_nil hM107 hL110 (fun w115 hM116 => S_store 2 0 #[.int .i64 x113, .int .i64 x86, .int .i64 x97] hM116 (by kernel_rfl) (fun w117 hM118 => S_nil (R_inBlock (R_region (S_val (.int .i64 1) (by kernel_rfl) (?_))))))))))))
    have HR := hr_lt HR h112
    have HR := hr_lt HR h114
    refine S_val (.int .i64 1) (by kernel_rfl) (S_nil (R_inLoop (R_seq (R_region (S_val (.bool true) (by kernel_rfl) (S_nil (R_seq (R_yes (by kernel_rfl) (R_skip (R_seq (R_block (?_))))))))))))
    refine R_seq (R_region (S_val (.int .i64 1) (by kernel_rfl) (S_val (.int .i64 1) (by kernel_rfl) (S_nil (R_drawF 12 (by kernel_rfl) (fun F119 U120 hL121 => F_val (.int .i64 1) (fun _ => by kernel_rfl) (F_val (.pointer (some ⟨g62, 1, none⟩)) (fun _ => by kernel_rfl) (F_load 2 1 (.int .i64 x86) hM118 (by kernel_rfl) (F_val (.int .i64 1) (fun _ => by kernel_rfl) (F_val (.pointer (some ⟨g103, 1, none⟩)) (fun _ => by kernel_rfl) (F_load 0 1 (.int .i64 r45.2.1) hM118 (by kernel_rfl) (?_))))))))))))
    refine F_val (.int .i64 1) (fun _ => by kernel_rfl) (F_val (.pointer (some ⟨g36, 1, none⟩)) (fun _ => by kernel_rfl) (F_load 4 1 (.int .i64 2147483648) hM118 (by kernel_rfl) (F_int (IntKind.i64.wrap (r45.2.1 * 2147483648)) .i64 (fun _ => by kernel_rfl) (fun x122 h123 => F_int (IntKind.i64.wrap (x86 + x122)) .i64 (fun _ => by kernel_rfl) (fun x124 h125 => F_val (.pointer (some ⟨g62, 1, none⟩)) (fun _ => by kernel_rfl) (F_nil hM118 hL121 (fun w126 hM127 => S_store 2 1 #[.int .i64 x113, .int .i64 x124, .int .i64 x97] hM127 (by kernel_rfl) (fun w128 hM129 => S_nil (R_inBlock (R_region (S_val (.int .i64 2) (by kernel_rfl) (?_))))))))))))
    have HR := hr_lt HR h123
    have HR := hr_lt HR h125
    refine S_val (.int .i64 2) (by kernel_rfl) (S_nil (R_inLoop (R_seq (R_region (S_val (.bool true) (by kernel_rfl) (S_nil (R_seq (R_yes (by kernel_rfl) (R_skip (R_seq (R_block (?_))))))))))))
    refine R_seq (R_region (S_val (.int .i64 2) (by kernel_rfl) (S_val (.int .i64 2) (by kernel_rfl) (S_nil (R_drawF 12 (by kernel_rfl) (fun F130 U131 hL132 => F_val (.int .i64 2) (fun _ => by kernel_rfl) (F_val (.pointer (some ⟨g62, 2, none⟩)) (fun _ => by kernel_rfl) (F_load 2 2 (.int .i64 x97) hM129 (by kernel_rfl) (F_val (.int .i64 2) (fun _ => by kernel_rfl) (F_val (.pointer (some ⟨g103, 2, none⟩)) (fun _ => by kernel_rfl) (F_load 0 2 (.int .i64 r45.2.2) hM129 (by kernel_rfl) (?_))))))))))))
    refine F_val (.int .i64 1) (fun _ => by kernel_rfl) (F_val (.pointer (some ⟨g36, 1, none⟩)) (fun _ => by kernel_rfl) (F_load 4 1 (.int .i64 2147483648) hM129 (by kernel_rfl) (F_int (IntKind.i64.wrap (r45.2.2 * 2147483648)) .i64 (fun _ => by kernel_rfl) (fun x133 h134 => F_int (IntKind.i64.wrap (x97 + x133)) .i64 (fun _ => by kernel_rfl) (fun x135 h136 => F_val (.pointer (some ⟨g62, 2, none⟩)) (fun _ => by kernel_rfl) (F_nil hM129 hL132 (fun w137 hM138 => S_store 2 2 #[.int .i64 x113, .int .i64 x124, .int .i64 x135] hM138 (by kernel_rfl) (fun w139 hM140 => S_nil (R_inBlock (R_region (S_val (.int .i64 3) (by kernel_rfl) (?_))))))))))))
    have HR := hr_lt HR h134
    have HR := hr_lt HR h136
    refine S_val (.int .i64 3) (by kernel_rfl) (S_nil (R_inLoop (R_seq (R_region (S_val (.bool false) (by kernel_rfl) (S_nil (R_seq (R_no (by kernel_rfl) (R_exit rfl (R_inBlock (R_region (?_))))))))))))
    refine S_val (.int .i64 2) (by kernel_rfl) (S_val (.int .i64 2) (by kernel_rfl) (S_nil (R_inLoop (R_seq (R_region (S_val (.bool true) (by kernel_rfl) (S_nil (R_seq (R_yes (by kernel_rfl) (R_skip (R_seq (?_))))))))))))
    refine R_block (R_seq (R_region (S_val (.int .i64 2) (by kernel_rfl) (S_val (.agg #[.int .i64 r49.1, .int .i64 r49.2.1, .int .i64 r49.2.2]) (by kernel_rfl) (S_fresh none #[.int .i64 0, .int .i64 0, .int .i64 0] 36 hM140 (by kernel_rfl) (fun g141 w142 hM143 => S_val (.int .i64 2) (by kernel_rfl) (S_store 0 0 #[.int .i64 r49.1, .int .i64 r49.2.1, .int .i64 r49.2.2] hM143 (by kernel_rfl) (fun w144 hM145 => S_nil (R_seq (R_region (S_val (.int .i64 0) (by kernel_rfl) (?_))))))))))))
    refine S_nil (R_block (R_loop (R_seq (R_region (S_val (.bool true) (by kernel_rfl) (S_nil (R_seq (R_yes (by kernel_rfl) (R_skip (R_seq (R_block (?_))))))))))))
    refine R_seq (R_region (S_val (.int .i64 0) (by kernel_rfl) (S_val (.int .i64 0) (by kernel_rfl) (S_nil (R_drawF 12 (by kernel_rfl) (fun F146 U147 hL148 => F_val (.int .i64 0) (fun _ => by kernel_rfl) (F_val (.pointer (some ⟨g62, 0, none⟩)) (fun _ => by kernel_rfl) (F_load 3 0 (.int .i64 x113) hM145 (by kernel_rfl) (F_val (.int .i64 0) (fun _ => by kernel_rfl) (F_val (.pointer (some ⟨g141, 0, none⟩)) (fun _ => by kernel_rfl) (F_load 0 0 (.int .i64 r49.1) hM145 (by kernel_rfl) (?_))))))))))))
    refine F_val (.int .i64 2) (fun _ => by kernel_rfl) (F_val (.pointer (some ⟨g36, 2, none⟩)) (fun _ => by kernel_rfl) (F_load 5 2 (.int .i64 0) hM145 (by kernel_rfl) (F_int (IntKind.i64.wrap (r49.1 * 0)) .i64 (fun _ => by kernel_rfl) (fun x149 h150 => F_int (IntKind.i64.wrap (x113 + x149)) .i64 (fun _ => by kernel_rfl) (fun x151 h152 => F_val (.pointer (some ⟨g62, 0, none⟩)) (fun _ => by kernel_rfl) (F_nil hM145 hL148 (fun w153 hM154 => S_store 3 0 #[.int .i64 x151, .int .i64 x124, .int .i64 x135] hM154 (by kernel_rfl) (fun w155 hM156 => S_nil (R_inBlock (R_region (S_val (.int .i64 1) (by kernel_rfl) (?_))))))))))))
    have HR := hr_lt HR h150
    have HR := hr_lt HR h152
    refine S_val (.int .i64 1) (by kernel_rfl) (S_nil (R_inLoop (R_seq (R_region (S_val (.bool true) (by kernel_rfl) (S_nil (R_seq (R_yes (by kernel_rfl) (R_skip (R_seq (R_block (?_))))))))))))
    refine R_seq (R_region (S_val (.int .i64 1) (by kernel_rfl) (S_val (.int .i64 1) (by kernel_rfl) (S_nil (R_drawF 12 (by kernel_rfl) (fun F157 U158 hL159 => F_val (.int .i64 1) (fun _ => by kernel_rfl) (F_val (.pointer (some ⟨g62, 1, none⟩)) (fun _ => by kernel_rfl) (F_load 3 1 (.int .i64 x124) hM156 (by kernel_rfl) (F_val (.int .i64 1) (fun _ => by kernel_rfl) (F_val (.pointer (some ⟨g141, 1, none⟩)) (fun _ => by kernel_rfl) (F_load 0 1 (.int .i64 r49.2.1) hM156 (by kernel_rfl) (?_))))))))))))
    refine F_val (.int .i64 2) (fun _ => by kernel_rfl) (F_val (.pointer (some ⟨g36, 2, none⟩)) (fun _ => by kernel_rfl) (F_load 5 2 (.int .i64 0) hM156 (by kernel_rfl) (F_int (IntKind.i64.wrap (r49.2.1 * 0)) .i64 (fun _ => by kernel_rfl) (fun x160 h161 => F_int (IntKind.i64.wrap (x124 + x160)) .i64 (fun _ => by kernel_rfl) (fun x162 h163 => F_val (.pointer (some ⟨g62, 1, none⟩)) (fun _ => by kernel_rfl) (F_nil hM156 hL159 (fun w164 hM165 => S_store 3 1 #[.int .i64 x151, .int .i64 x162, .int .i64 x135] hM165 (by kernel_rfl) (fun w166 hM167 => S_nil (R_inBlock (R_region (S_val (.int .i64 2) (by kernel_rfl) (?_))))))))))))
    have HR := hr_lt HR h161
    have HR := hr_lt HR h163
    refine S_val (.int .i64 2) (by kernel_rfl) (S_nil (R_inLoop (R_seq (R_region (S_val (.bool true) (by kernel_rfl) (S_nil (R_seq (R_yes (by kernel_rfl) (R_skip (R_seq (R_block (?_))))))))))))
    refine R_seq (R_region (S_val (.int .i64 2) (by kernel_rfl) (S_val (.int .i64 2) (by kernel_rfl) (S_nil (R_drawF 12 (by kernel_rfl) (fun F168 U169 hL170 => F_val (.int .i64 2) (fun _ => by kernel_rfl) (F_val (.pointer (some ⟨g62, 2, none⟩)) (fun _ => by kernel_rfl) (F_load 3 2 (.int .i64 x135) hM167 (by kernel_rfl) (F_val (.int .i64 2) (fun _ => by kernel_rfl) (F_val (.pointer (some ⟨g141, 2, none⟩)) (fun _ => by kernel_rfl) (F_load 0 2 (.int .i64 r49.2.2) hM167 (by kernel_rfl) (?_))))))))))))
    refine F_val (.int .i64 2) (fun _ => by kernel_rfl) (F_val (.pointer (some ⟨g36, 2, none⟩)) (fun _ => by kernel_rfl) (F_load 5 2 (.int .i64 0) hM167 (by kernel_rfl) (F_int (IntKind.i64.wrap (r49.2.2 * 0)) .i64 (fun _ => by kernel_rfl) (fun x171 h172 => F_int (IntKind.i64.wrap (x135 + x171)) .i64 (fun _ => by kernel_rfl) (fun x173 h174 => F_val (.pointer (some ⟨g62, 2, none⟩)) (fun _ => by kernel_rfl) (F_nil hM167 hL170 (fun w175 hM176 => S_store 3 2 #[.int .i64 x151, .int .i64 x162, .int .i64 x173] hM176 (by kernel_rfl) (fun w177 hM178 => S_nil (R_inBlock (R_region (S_val (.int .i64 3) (by kernel_rfl) (?_))))))))))))
    have HR := hr_lt HR h172
    have HR := hr_lt HR h174
    refine S_val (.int .i64 3) (by kernel_rfl) (S_nil (R_inLoop (R_seq (R_region (S_val (.bool false) (by kernel_rfl) (S_nil (R_seq (R_no (by kernel_rfl) (R_exit rfl (R_inBlock (R_region (?_))))))))))))
    refine S_val (.int .i64 3) (by kernel_rfl) (S_val (.int .i64 3) (by kernel_rfl) (S_nil (R_inLoop (R_seq (R_region (S_val (.bool true) (by kernel_rfl) (S_nil (R_seq (R_yes (by kernel_rfl) (R_skip (R_seq (?_))))))))))))
    refine R_block (R_seq (R_region (S_val (.int .i64 3) (by kernel_rfl) (S_val (.agg #[.int .i64 r53.1, .int .i64 r53.2.1, .int .i64 r53.2.2]) (by kernel_rfl) (S_fresh none #[.int .i64 0, .int .i64 0, .int .i64 0] 36 hM178 (by kernel_rfl) (fun g179 w180 hM181 => S_val (.int .i64 3) (by kernel_rfl) (S_store 0 0 #[.int .i64 r53.1, .int .i64 r53.2.1, .int .i64 r53.2.2] hM181 (by kernel_rfl) (fun w182 hM183 => S_nil (R_seq (R_region (S_val (.int .i64 0) (by kernel_rfl) (?_))))))))))))
    refine S_nil (R_block (R_loop (R_seq (R_region (S_val (.bool true) (by kernel_rfl) (S_nil (R_seq (R_yes (by kernel_rfl) (R_skip (R_seq (R_block (?_))))))))))))
    refine R_seq (R_region (S_val (.int .i64 0) (by kernel_rfl) (S_val (.int .i64 0) (by kernel_rfl) (S_nil (R_drawF 12 (by kernel_rfl) (fun F184 U185 hL186 => F_val (.int .i64 0) (fun _ => by kernel_rfl) (F_val (.pointer (some ⟨g62, 0, none⟩)) (fun _ => by kernel_rfl) (F_load 4 0 (.int .i64 x151) hM183 (by kernel_rfl) (F_val (.int .i64 0) (fun _ => by kernel_rfl) (F_val (.pointer (some ⟨g179, 0, none⟩)) (fun _ => by kernel_rfl) (F_load 0 0 (.int .i64 r53.1) hM183 (by kernel_rfl) (?_))))))))))))
    refine F_val (.int .i64 3) (fun _ => by kernel_rfl) (F_val (.pointer (some ⟨g36, 3, none⟩)) (fun _ => by kernel_rfl) (F_load 6 3 (.int .i64 0) hM183 (by kernel_rfl) (F_int (IntKind.i64.wrap (r53.1 * 0)) .i64 (fun _ => by kernel_rfl) (fun x187 h188 => F_int (IntKind.i64.wrap (x151 + x187)) .i64 (fun _ => by kernel_rfl) (fun x189 h190 => F_val (.pointer (some ⟨g62, 0, none⟩)) (fun _ => by kernel_rfl) (F_nil hM183 hL186 (fun w191 hM192 => S_store 4 0 #[.int .i64 x189, .int .i64 x162, .int .i64 x173] hM192 (by kernel_rfl) (fun w193 hM194 => S_nil (R_inBlock (R_region (S_val (.int .i64 1) (by kernel_rfl) (?_))))))))))))
    have HR := hr_lt HR h188
    have HR := hr_lt HR h190
    refine S_val (.int .i64 1) (by kernel_rfl) (S_nil (R_inLoop (R_seq (R_region (S_val (.bool true) (by kernel_rfl) (S_nil (R_seq (R_yes (by kernel_rfl) (R_skip (R_seq (R_block (?_))))))))))))
    refine R_seq (R_region (S_val (.int .i64 1) (by kernel_rfl) (S_val (.int .i64 1) (by kernel_rfl) (S_nil (R_drawF 12 (by kernel_rfl) (fun F195 U196 hL197 => F_val (.int .i64 1) (fun _ => by kernel_rfl) (F_val (.pointer (some ⟨g62, 1, none⟩)) (fun _ => by kernel_rfl) (F_load 4 1 (.int .i64 x162) hM194 (by kernel_rfl) (F_val (.int .i64 1) (fun _ => by kernel_rfl) (F_val (.pointer (some ⟨g179, 1, none⟩)) (fun _ => by kernel_rfl) (F_load 0 1 (.int .i64 r53.2.1) hM194 (by kernel_rfl) (?_))))))))))))
    refine F_val (.int .i64 3) (fun _ => by kernel_rfl) (F_val (.pointer (some ⟨g36, 3, none⟩)) (fun _ => by kernel_rfl) (F_load 6 3 (.int .i64 0) hM194 (by kernel_rfl) (F_int (IntKind.i64.wrap (r53.2.1 * 0)) .i64 (fun _ => by kernel_rfl) (fun x198 h199 => F_int (IntKind.i64.wrap (x162 + x198)) .i64 (fun _ => by kernel_rfl) (fun x200 h201 => F_val (.pointer (some ⟨g62, 1, none⟩)) (fun _ => by kernel_rfl) (F_nil hM194 hL197 (fun w202 hM203 => S_store 4 1 #[.int .i64 x189, .int .i64 x200, .int .i64 x173] hM203 (by kernel_rfl) (fun w204 hM205 => S_nil (R_inBlock (R_region (S_val (.int .i64 2) (by kernel_rfl) (?_))))))))))))
    have HR := hr_lt HR h199
    have HR := hr_lt HR h201
    refine S_val (.int .i64 2) (by kernel_rfl) (S_nil (R_inLoop (R_seq (R_region (S_val (.bool true) (by kernel_rfl) (S_nil (R_seq (R_yes (by kernel_rfl) (R_skip (R_seq (R_block (?_))))))))))))
    refine R_seq (R_region (S_val (.int .i64 2) (by kernel_rfl) (S_val (.int .i64 2) (by kernel_rfl) (S_nil (R_drawF 12 (by kernel_rfl) (fun F206 U207 hL208 => F_val (.int .i64 2) (fun _ => by kernel_rfl) (F_val (.pointer (some ⟨g62, 2, none⟩)) (fun _ => by kernel_rfl) (F_load 4 2 (.int .i64 x173) hM205 (by kernel_rfl) (F_val (.int .i64 2) (fun _ => by kernel_rfl) (F_val (.pointer (some ⟨g179, 2, none⟩)) (fun _ => by kernel_rfl) (F_load 0 2 (.int .i64 r53.2.2) hM205 (by kernel_rfl) (?_))))))))))))
    refine F_val (.int .i64 3) (fun _ => by kernel_rfl) (F_val (.pointer (some ⟨g36, 3, none⟩)) (fun _ => by kernel_rfl) (F_load 6 3 (.int .i64 0) hM205 (by kernel_rfl) (F_int (IntKind.i64.wrap (r53.2.2 * 0)) .i64 (fun _ => by kernel_rfl) (fun x209 h210 => F_int (IntKind.i64.wrap (x173 + x209)) .i64 (fun _ => by kernel_rfl) (fun x211 h212 => F_val (.pointer (some ⟨g62, 2, none⟩)) (fun _ => by kernel_rfl) (F_nil hM205 hL208 (fun w213 hM214 => S_store 4 2 #[.int .i64 x189, .int .i64 x200, .int .i64 x211] hM214 (by kernel_rfl) (fun w215 hM216 => S_nil (R_inBlock (R_region (S_val (.int .i64 3) (by kernel_rfl) (?_))))))))))))
    have HR := hr_lt HR h210
    have HR := hr_lt HR h212
    refine S_val (.int .i64 3) (by kernel_rfl) (S_nil (R_inLoop (R_seq (R_region (S_val (.bool false) (by kernel_rfl) (S_nil (R_seq (R_no (by kernel_rfl) (R_exit rfl (R_inBlock (R_region (?_))))))))))))
    refine S_val (.int .i64 4) (by kernel_rfl) (S_val (.int .i64 4) (by kernel_rfl) (S_nil (R_inLoop (R_seq (R_region (S_val (.bool false) (by kernel_rfl) (S_nil (R_seq (R_no (by kernel_rfl) (R_exit rfl (R_seq (?_))))))))))))
    refine R_region (S_val (.pointer (some ⟨g62, 0, none⟩)) (by kernel_rfl) (S_load 4 0 (.int .i64 x189) hM216 (by kernel_rfl) (S_int (IntKind.i64.wrap (Int.tdiv x189 255)) .i64 (by kernel_rfl) (fun x217 h218 => S_val (.pointer (some ⟨g62, 1, none⟩)) (by kernel_rfl) (S_load 4 1 (.int .i64 x200) hM216 (by kernel_rfl) (S_int (IntKind.i64.wrap (Int.tdiv x200 255)) .i64 (by kernel_rfl) (fun x219 h220 => S_val (.pointer (some ⟨g62, 2, none⟩)) (by kernel_rfl) (S_load 4 2 (.int .i64 x211) hM216 (by kernel_rfl) (S_int (IntKind.i64.wrap (Int.tdiv x211 255)) .i64 (by kernel_rfl) (fun x221 h222 => S_val (.agg #[.int .i64 x217, .int .i64 x219, .int .i64 x221]) (by kernel_rfl) (S_store 9 0 #[.int .i64 x217, .int .i64 x219, .int .i64 x221] hM216 (by kernel_rfl) (fun w223 hM224 => ?_))))))))))))
    have HR := hr_lt HR h218
    have HR := hr_lt HR h220
    have HR := hr_lt HR h222
    refine S_val (.int .i64 0) (by kernel_rfl) (S_nil (?_))
    refine R_ret hM224 rfl (.cons (.cell _ _ 9 0 (.agg #[.int .i64 x217, .int .i64 x219, .int .i64 x221]) (by kernel_rfl)) (.cons (.tmp _ (.int .i64 0) (by kernel_rfl)) .nil)) rfl ?_
    exact ⟨congrArg Ending.returned HR, hM224.below⟩

def P_texel_Sample_c (r : (Int × Int × Int) × Int) : Prop := (InV r.1 ∧ InI r.2)
theorem i_texel_Sample_c  : P_texel_Sample_c (s_texel_Sample_c ) := by
  unfold s_texel_Sample_c
  exact (lt_P fun r7 h8 => (ite_P (fun c11 => (lt_P fun r41 h42 => (lt_P fun r45 h46 => (lt_P fun r49 h50 => (lt_P fun r53 h54 => (lt_P fun x73 h74 => (lt_P fun x75 h76 => (lt_P fun x84 h85 => (lt_P fun x86 h87 => (lt_P fun x95 h96 => (lt_P fun x97 h98 => (lt_P fun x111 h112 => (lt_P fun x113 h114 => (lt_P fun x122 h123 => (lt_P fun x124 h125 => (lt_P fun x133 h134 => (lt_P fun x135 h136 => (lt_P fun x149 h150 => (lt_P fun x151 h152 => (lt_P fun x160 h161 => (lt_P fun x162 h163 => (lt_P fun x171 h172 => (lt_P fun x173 h174 => (lt_P fun x187 h188 => (lt_P fun x189 h190 => (lt_P fun x198 h199 => (lt_P fun x200 h201 => (lt_P fun x209 h210 => (lt_P fun x211 h212 => (lt_P fun x217 h218 => (lt_P fun x219 h220 => (lt_P fun x221 h222 => (show (InV (x217, x219, x221) ∧ InI 0) from ⟨⟨(wr_i64 h218), (wr_i64 h220), (wr_i64 h222)⟩, (show InI 0 from by unfold InI; omega)⟩))))))))))))))))))))))))))))))))) (fun c11 => (show (InV (0, 0, 0) ∧ InI r7) from ⟨⟨(show InI 0 from by unfold InI; omega), (show InI 0 from by unfold InI; omega), (show InI 0 from by unfold InI; omega)⟩, (tr (P := fun r : Int => InI r) h8 i_texture_Check_c).out⟩))))

def e_umbralaw25_works (r : Bool) : Value := .bool r
def s_umbralaw25_works  : Bool :=
  lt (s_texel_Sample_c) fun r4 =>
  if r4.2 = 0 then
    if (r4.1 : Int × Int × Int) = (2147483648, 0, 0) then
      true
    else
      false
  else
    false
set_option maxRecDepth 100000 in
set_option maxHeartbeats 4000000 in
theorem w_umbralaw25_works  (w : World) : Calls Try.prog 16 #[] w (Ret (e_umbralaw25_works (s_umbralaw25_works )) w) := by
  obtain ⟨R, HR⟩ : ∃ R, e_umbralaw25_works (s_umbralaw25_works ) = R := ⟨_, rfl⟩
  rw [HR]
  unfold s_umbralaw25_works at HR
  have hM0 := St.start w
  refine calls_run Try.func16 rfl ?_
  refine R_seq (R_region (S_val (.bool false) (by kernel_rfl) (S_nil (R_seq (R_region (S_val (.agg #[.int .i64 0, .int .i64 0, .int .i64 0]) (by kernel_rfl) (S_val (.agg #[.int .i64 255, .int .i64 0, .int .i64 0]) (by kernel_rfl) (S_val (.agg #[.int .i64 0, .int .i64 0, .int .i64 0]) (by kernel_rfl) (S_val (.agg #[.int .i64 255, .int .i64 0, .int .i64 0]) (by kernel_rfl) (S_fresh (some 4) #[.int .i64 0, .int .i64 0, .int .i64 0, .int .i64 255, .int .i64 0, .int .i64 0, .int .i64 0, .int .i64 0, .int .i64 0, .int .i64 255, .int .i64 0, .int .i64 0] 36 hM0 (by kernel_rfl) (fun g1 w2 hM3 => S_val (.agg #[.int .i64 2, .slice (some ⟨g1, 0, none⟩) 4 4]) (by kernel_rfl) (?_))))))))))))
  refine S_call (s_texel_Sample_c) (fun r : (Int × Int × Int) × Int => .tuple #[.agg #[.int .i64 r.1.1, .int .i64 r.1.2.1, .int .i64 r.1.2.2], .int .i64 r.2]) hM3 (w_texel_Sample_c g1 _ _ w2 (hM3.at 0 rfl)) (by kernel_rfl) (fun r4 h5 w6 hM7 => S_val (.tuple #[.agg #[.int .i64 r4.1.1, .int .i64 r4.1.2.1, .int .i64 r4.1.2.2], .int .i64 r4.2]) (by kernel_rfl) (S_val (.agg #[.int .i64 r4.1.1, .int .i64 r4.1.2.1, .int .i64 r4.1.2.2]) (by kernel_rfl) (S_val (.int .i64 r4.2) (by kernel_rfl) (S_fresh none #[.int .i64 0, .int .i64 0, .int .i64 0] 29 hM7 (by kernel_rfl) (fun g8 w9 hM10 => S_store 0 0 #[.int .i64 r4.1.1, .int .i64 r4.1.2.1, .int .i64 r4.1.2.2] hM10 (by kernel_rfl) (fun w11 hM12 => S_val (.int .i64 r4.2) (by kernel_rfl) (S_nil (R_seq (R_region (S_val (.int .i64 r4.2) (by kernel_rfl) (?_)))))))))))
  have HR := hr_lt HR h5
  refine S_dec (r4.2 = 0) (by kernel_rfl) (fun c13 => ?_) (fun c13 => ?_)
  · refine S_val (.bool true) (by kernel_rfl) (S_load 0 0 (.agg #[.int .i64 r4.1.1, .int .i64 r4.1.2.1, .int .i64 r4.1.2.2]) hM12 (by kernel_rfl) (S_val (.agg #[.int .i64 2147483648, .int .i64 0, .int .i64 0]) (by kernel_rfl) (?_)))
    have HR := hr_pos HR c13
    refine S_dec ((r4.1 : Int × Int × Int) = (2147483648, 0, 0)) (eqv_umbra_api_Vec (x := r4.1) (y := (2147483648, 0, 0)) (by kernel_rfl) (by kernel_rfl) (by kernel_rfl)) (fun c14 => ?_) (fun c14 => ?_)
    · refine S_val (.bool true) (by kernel_rfl) (S_val (.bool true) (by kernel_rfl) (S_nil (?_)))
      have HR := hr_pos HR c14
      refine R_ret hM12 rfl (.cons (.tmp _ (.bool true) (by kernel_rfl)) .nil) rfl ?_
      exact ⟨congrArg Ending.returned HR, hM12.below⟩
    · refine S_val (.bool false) (by kernel_rfl) (S_val (.bool false) (by kernel_rfl) (S_nil (?_)))
      have HR := hr_neg HR c14
      refine R_ret hM12 rfl (.cons (.tmp _ (.bool false) (by kernel_rfl)) .nil) rfl ?_
      exact ⟨congrArg Ending.returned HR, hM12.below⟩
  · refine S_val (.bool false) (by kernel_rfl) (S_skip (by kernel_rfl) (S_skip (by kernel_rfl) (S_skip (by kernel_rfl) (S_val (.bool false) (by kernel_rfl) (S_val (.bool false) (by kernel_rfl) (S_nil (?_)))))))
    have HR := hr_neg HR c13
    refine R_ret hM12 rfl (.cons (.tmp _ (.bool false) (by kernel_rfl)) .nil) rfl ?_
    exact ⟨congrArg Ending.returned HR, hM12.below⟩

def e_texel_Bary_1_k0 (r : Int) : Value := .int .i64 r
def s_texel_Bary_1_k0 (m : Int × Int × Int × Int) (uv : (Int × Int) × (Int × Int) × (Int × Int)) : Int :=
  lt (IntKind.i64.wrap (m.2.1 - m.2.2.1)) fun x1 =>
  lt (IntKind.i64.wrap (x1 - m.2.2.2)) fun x3 =>
  lt (x3 * uv.1.1) fun r8 =>
  lt (m.2.2.1 * uv.2.1.1) fun r10 =>
  lt (m.2.2.2 * uv.2.2.1) fun r12 =>
  lt (addW [r8, r10, r12]) fun r18 =>
  if r18.2 = true then
    lt (wdivT r18.1 m.2.1) fun r39 =>
    if r39.2.2 = true then
      lt (wint r39.1) fun r70 =>
      if r70.2 = true then
        lt (gmax r70.1 (-2147483648)) fun x78 =>
        lt (gmin x78 2147483647) fun x80 =>
        x80
      else
        if wHi r39.1 < 0 then
          (-2147483648)
        else
          2147483647
    else
      lt (wint r39.1) fun r52 =>
      if r52.2 = true then
        lt (gmax r52.1 (-2147483648)) fun x60 =>
        lt (gmin x60 2147483647) fun x62 =>
        x62
      else
        if wHi r39.1 < 0 then
          (-2147483648)
        else
          2147483647
  else
    0
set_option maxRecDepth 100000 in
set_option maxHeartbeats 4000000 in
theorem w_texel_Bary_1_k0 (m : Int × Int × Int × Int) (uv : (Int × Int) × (Int × Int) × (Int × Int)) (h_m : InM m) (h_uv : ((InI uv.1.1 ∧ InI uv.1.2) ∧ (InI uv.2.1.1 ∧ InI uv.2.1.2) ∧ (InI uv.2.2.1 ∧ InI uv.2.2.2))) (B0 : Nat) (T0 : TypeId) (fr0 : Nat × Nat) (B1 : Nat) (T1 : TypeId) (fr1 : Nat × Nat) (w : World) (hB0 : Has B0 (.cells #[.int .i64 m.1, .int .i64 m.2.1, .int .i64 m.2.2.1, .int .i64 m.2.2.2] T0 fr0) w) (hB1 : Has B1 (.cells #[.int .i64 uv.1.1, .int .i64 uv.1.2, .int .i64 uv.2.1.1, .int .i64 uv.2.1.2, .int .i64 uv.2.2.1, .int .i64 uv.2.2.2] T1 fr1) w) (hne : B1 ≠ B0) : Calls Try.prog 51 #[.int .i64 0, .pointer (some ⟨B0, 0, none⟩), .pointer (some ⟨B1, 0, none⟩)] w (Ret (e_texel_Bary_1_k0 (s_texel_Bary_1_k0 m uv)) w) := by
  obtain ⟨R, HR⟩ : ∃ R, e_texel_Bary_1_k0 (s_texel_Bary_1_k0 m uv) = R := ⟨_, rfl⟩
  rw [HR]
  unfold s_texel_Bary_1_k0 at HR
  have hM0 := St.start2 (St.start1 hB0) hB1 (by simpa using hne)
  refine calls_run Try.func51 rfl ?_
  refine R_seq (R_region (S_val (.int .i64 0) (by kernel_rfl) (S_nil (R_seq (R_region (S_val (.pointer (some ⟨B0, 1, none⟩)) (by kernel_rfl) (S_load 1 1 (.int .i64 m.2.1) hM0 (by kernel_rfl) (S_val (.pointer (some ⟨B0, 2, none⟩)) (by kernel_rfl) (S_load 1 2 (.int .i64 m.2.2.1) hM0 (by kernel_rfl) (S_int (IntKind.i64.wrap (m.2.1 - m.2.2.1)) .i64 (by kernel_rfl) (fun x1 h2 => S_val (.pointer (some ⟨B0, 3, none⟩)) (by kernel_rfl) (?_))))))))))))
  have HR := hr_lt HR h2
  refine S_load 1 3 (.int .i64 m.2.2.2) hM0 (by kernel_rfl) (S_int (IntKind.i64.wrap (x1 - m.2.2.2)) .i64 (by kernel_rfl) (fun x3 h4 => S_val (.int .i64 x3) (by kernel_rfl) (S_nil (R_seq (R_drawG 28 (by kernel_rfl) (fun F5 U6 hL7 => G_val (.int .i64 x3) (fun _ => by kernel_rfl) (G_val (.int .i64 0) (fun _ => by kernel_rfl) (G_val (.pointer (some ⟨B1, 0, none⟩)) (fun _ => by kernel_rfl) (G_val (.pointer (some ⟨B1, 0, none⟩)) (fun _ => by kernel_rfl) (G_load 0 0 (.int .i64 uv.1.1) hM0 (by kernel_rfl) (G_call (x3 * uv.1.1) (fun r : Int => .agg #[.int .i64 (wHi r), .int .u64 (wLo r)]) hM0 hL7 (fun w' hM' => wMul x3 uv.1.1 (wr_i64 h4) h_uv.1.1 w') (by kernel_rfl) (fun _ => by kernel_rfl) (fun r8 h9 => ?_))))))))))))
  have HR := hr_lt HR h4
  have HR := hr_lt HR h9
  refine G_val (.pointer (some ⟨B0, 2, none⟩)) (fun _ => by kernel_rfl) (G_load 1 2 (.int .i64 m.2.2.1) hM0 (by kernel_rfl) (G_val (.int .i64 0) (fun _ => by kernel_rfl) (G_val (.pointer (some ⟨B1, 2, none⟩)) (fun _ => by kernel_rfl) (G_val (.pointer (some ⟨B1, 2, none⟩)) (fun _ => by kernel_rfl) (G_load 0 2 (.int .i64 uv.2.1.1) hM0 (by kernel_rfl) (G_call (m.2.2.1 * uv.2.1.1) (fun r : Int => .agg #[.int .i64 (wHi r), .int .u64 (wLo r)]) hM0 hL7 (fun w' hM' => wMul m.2.2.1 uv.2.1.1 h_m.2.2.1 h_uv.2.1.1 w') (by kernel_rfl) (fun _ => by kernel_rfl) (fun r10 h11 => G_val (.pointer (some ⟨B0, 3, none⟩)) (fun _ => by kernel_rfl) (G_load 1 3 (.int .i64 m.2.2.2) hM0 (by kernel_rfl) (G_val (.int .i64 0) (fun _ => by kernel_rfl) (G_val (.pointer (some ⟨B1, 4, none⟩)) (fun _ => by kernel_rfl) (G_val (.pointer (some ⟨B1, 4, none⟩)) (fun _ => by kernel_rfl) (?_))))))))))))
  have HR := hr_lt HR h11
  refine G_load 0 4 (.int .i64 uv.2.2.1) hM0 (by kernel_rfl) (G_call (m.2.2.2 * uv.2.2.1) (fun r : Int => .agg #[.int .i64 (wHi r), .int .u64 (wLo r)]) hM0 hL7 (fun w' hM' => wMul m.2.2.2 uv.2.2.1 h_m.2.2.2 h_uv.2.2.1 w') (by kernel_rfl) (fun _ => by kernel_rfl) (fun r12 h13 => G_fresh (some 3) #[.int .i64 (wHi r8), .int .u64 (wLo r8), .int .i64 (wHi r10), .int .u64 (wLo r10), .int .i64 (wHi r12), .int .u64 (wLo r12)] 98 hL7 (by kernel_rfl) (fun _ => by kernel_rfl) (fun g14 F15 U16 hL17 => G_call (addW [r8, r10, r12]) (fun r : Int × Bool => .tuple #[.agg #[.int .i64 (wHi r.1), .int .u64 (wLo r.1)], .bool r.2]) hM0 hL17 (fun w' hM' => wAddL [r8, r10, r12] ⟨(tr (P := fun r : Int => InW r) h9 (mul_InW (wr_i64 h4) h_uv.1.1)).out, (tr (P := fun r : Int => InW r) h11 (mul_InW h_m.2.2.1 h_uv.2.1.1)).out, (tr (P := fun r : Int => InW r) h13 (mul_InW h_m.2.2.2 h_uv.2.2.1)).out, trivial⟩ hM' 0 3 3 rfl (by kernel_rfl) (by kernel_rfl)) (by kernel_rfl) (fun _ => by kernel_rfl) (fun r18 h19 => ?_))))
  have HR := hr_lt HR h13
  have HR := hr_lt HR h19
  obtain ⟨r20, b22⟩ := r18
  cases b22
  · refine G_val (.tuple #[.agg #[.int .i64 (wHi r20), .int .u64 (wLo r20)], .bool false]) (fun _ => by kernel_rfl) (G_val (.agg #[.int .i64 (wHi r20), .int .u64 (wLo r20)]) (fun _ => by kernel_rfl) (G_val (.bool false) (fun _ => by kernel_rfl) (G_fresh none #[.int .i64 0, .int .u64 0] 98 hL17 (by kernel_rfl) (fun _ => by kernel_rfl) (fun g23 F24 U25 hL26 => G_store 0 0 #[.int .i64 (wHi r20), .int .u64 (wLo r20)] hL26 (by kernel_rfl) (by kernel_rfl) (fun F27 hL28 => G_val (.bool false) (fun _ => by kernel_rfl) (G_nil hM0 hL28 (fun w29 hM30 => S_nil (R_seq (R_seq (R_region (S_val (.bool false) (by kernel_rfl) (?_))))))))))))
    have HR := hr_neg HR Bool.false_ne_true
    refine S_val (.bool true) (by kernel_rfl) (S_nil (R_yes (by kernel_rfl) (R_seq (R_region (S_val (.int .i64 0) (by kernel_rfl) (S_nil (?_)))))))
    refine R_ret hM30 rfl (.cons (.tmp _ (.int .i64 0) (by kernel_rfl)) .nil) rfl ?_
    exact ⟨congrArg Ending.returned HR, hM30.below⟩
  · refine G_val (.tuple #[.agg #[.int .i64 (wHi r20), .int .u64 (wLo r20)], .bool true]) (fun _ => by kernel_rfl) (G_val (.agg #[.int .i64 (wHi r20), .int .u64 (wLo r20)]) (fun _ => by kernel_rfl) (G_val (.bool true) (fun _ => by kernel_rfl) (G_fresh none #[.int .i64 0, .int .u64 0] 98 hL17 (by kernel_rfl) (fun _ => by kernel_rfl) (fun g31 F32 U33 hL34 => G_store 0 0 #[.int .i64 (wHi r20), .int .u64 (wLo r20)] hL34 (by kernel_rfl) (by kernel_rfl) (fun F35 hL36 => G_val (.bool true) (fun _ => by kernel_rfl) (G_nil hM0 hL36 (fun w37 hM38 => S_nil (R_seq (R_seq (R_region (S_val (.bool true) (by kernel_rfl) (?_))))))))))))
    have HR := hr_pos HR rfl
    refine S_val (.bool false) (by kernel_rfl) (S_nil (R_no (by kernel_rfl) (R_skip (R_seq (R_region (S_load 0 0 (.agg #[.int .i64 (wHi r20), .int .u64 (wLo r20)]) hM38 (by kernel_rfl) (S_val (.pointer (some ⟨B0, 1, none⟩)) (by kernel_rfl) (S_load 3 1 (.int .i64 m.2.1) hM38 (by kernel_rfl) (S_call (wdivT r20 m.2.1) (fun r : Int × Int × Bool => .tuple #[.agg #[.int .i64 (wHi r.1), .int .u64 (wLo r.1)], .int .i64 r.2.1, .bool r.2.2]) hM38 (c_wide_Div r20 m.2.1 ((tr (P := fun r : Int × Bool => (InW r.1 ∧ True)) h19 (addW_W [r8, r10, r12])).out.1) h_m.2.1 w37) (by kernel_rfl) (fun r39 h40 w41 hM42 => ?_))))))))))
    have HR := hr_lt HR h40
    obtain ⟨r43, r44, b46⟩ := r39
    cases b46
    · refine S_val (.tuple #[.agg #[.int .i64 (wHi r43), .int .u64 (wLo r43)], .int .i64 r44, .bool false]) (by kernel_rfl) (S_val (.agg #[.int .i64 (wHi r43), .int .u64 (wLo r43)]) (by kernel_rfl) (S_val (.int .i64 r44) (by kernel_rfl) (S_val (.bool false) (by kernel_rfl) (S_fresh none #[.int .i64 0, .int .u64 0] 98 hM42 (by kernel_rfl) (fun g47 w48 hM49 => S_store 0 0 #[.int .i64 (wHi r43), .int .u64 (wLo r43)] hM49 (by kernel_rfl) (fun w50 hM51 => S_val (.int .i64 r44) (by kernel_rfl) (S_val (.bool false) (by kernel_rfl) (S_nil (R_seq (R_region (S_load 0 0 (.agg #[.int .i64 (wHi r43), .int .u64 (wLo r43)]) hM51 (by kernel_rfl) (?_))))))))))))
      have HR := hr_neg HR Bool.false_ne_true
      refine S_call (wint r43) (fun r : Int × Bool => .tuple #[.int .i64 r.1, .bool r.2]) hM51 (c_wide_Int r43 ((tr (P := fun r : Int × Int × Bool => (InW r.1 ∧ InI r.2.1 ∧ True)) h40 (wdivT_W ((tr (P := fun r : Int × Bool => (InW r.1 ∧ True)) h19 (addW_W [r8, r10, r12])).out.1) h_m.2.1)).out.1) w50) (by kernel_rfl) (fun r52 h53 w54 hM55 => ?_)
      have HR := hr_lt HR h53
      obtain ⟨r56, b58⟩ := r52
      cases b58
      · refine S_val (.tuple #[.int .i64 r56, .bool false]) (by kernel_rfl) (S_val (.int .i64 r56) (by kernel_rfl) (S_val (.bool false) (by kernel_rfl) (S_val (.int .i64 r56) (by kernel_rfl) (S_val (.bool false) (by kernel_rfl) (S_nil (R_seq (R_block (R_seq (R_region (S_val (.bool false) (by kernel_rfl) (S_val (.bool true) (by kernel_rfl) (?_))))))))))))
        have HR := hr_neg HR Bool.false_ne_true
        refine S_val (.bool true) (by kernel_rfl) (S_val (.pointer (some ⟨g47, 0, none⟩)) (by kernel_rfl) (S_load 0 0 (.int .i64 (wHi r43)) hM55 (by kernel_rfl) (?_)))
        refine S_dec (wHi r43 < 0) (by kernel_rfl) (fun c59 => ?_) (fun c59 => ?_)
        · refine S_val (.bool true) (by kernel_rfl) (S_val (.bool true) (by kernel_rfl) (S_nil (R_yes (by kernel_rfl) (R_seq (R_region (S_val (.int .i64 (-2147483648)) (by kernel_rfl) (S_nil (?_))))))))
          have HR := hr_pos HR c59
          refine R_ret hM55 rfl (.cons (.tmp _ (.int .i64 (-2147483648)) (by kernel_rfl)) .nil) rfl ?_
          exact ⟨congrArg Ending.returned HR, hM55.below⟩
        · refine S_val (.bool false) (by kernel_rfl) (S_val (.bool false) (by kernel_rfl) (S_nil (R_no (by kernel_rfl) (R_seq (R_region (S_val (.bool false) (by kernel_rfl) (S_val (.bool true) (by kernel_rfl) (S_val (.bool true) (by kernel_rfl) (S_nil (R_yes (by kernel_rfl) (R_seq (?_))))))))))))
          have HR := hr_neg HR c59
          refine R_region (S_val (.int .i64 2147483647) (by kernel_rfl) (S_nil (?_)))
          refine R_ret hM55 rfl (.cons (.tmp _ (.int .i64 2147483647) (by kernel_rfl)) .nil) rfl ?_
          exact ⟨congrArg Ending.returned HR, hM55.below⟩
      · refine S_val (.tuple #[.int .i64 r56, .bool true]) (by kernel_rfl) (S_val (.int .i64 r56) (by kernel_rfl) (S_val (.bool true) (by kernel_rfl) (S_val (.int .i64 r56) (by kernel_rfl) (S_val (.bool true) (by kernel_rfl) (S_nil (R_seq (R_block (R_seq (R_region (S_val (.bool true) (by kernel_rfl) (S_val (.bool false) (by kernel_rfl) (?_))))))))))))
        have HR := hr_pos HR rfl
        refine S_val (.bool false) (by kernel_rfl) (S_skip (by kernel_rfl) (S_skip (by kernel_rfl) (S_skip (by kernel_rfl) (S_val (.bool false) (by kernel_rfl) (S_val (.bool false) (by kernel_rfl) (S_nil (R_no (by kernel_rfl) (R_seq (R_region (S_val (.bool true) (by kernel_rfl) (S_val (.bool false) (by kernel_rfl) (?_))))))))))))
        refine S_val (.bool false) (by kernel_rfl) (S_nil (R_no (by kernel_rfl) (R_skip (R_inBlock (R_seq (R_region (S_val (.int .i64 r56) (by kernel_rfl) (S_int (gmax r56 (-2147483648)) .i64 (by kernel_rfl) (fun x60 h61 => S_int (gmin x60 2147483647) .i64 (by kernel_rfl) (fun x62 h63 => S_val (.int .i64 x62) (by kernel_rfl) (S_nil (?_))))))))))))
        have HR := hr_lt HR h61
        have HR := hr_lt HR h63
        refine R_ret hM55 rfl (.cons (.tmp _ (.int .i64 x62) (by kernel_rfl)) .nil) rfl ?_
        exact ⟨congrArg Ending.returned HR, hM55.below⟩
    · refine S_val (.tuple #[.agg #[.int .i64 (wHi r43), .int .u64 (wLo r43)], .int .i64 r44, .bool true]) (by kernel_rfl) (S_val (.agg #[.int .i64 (wHi r43), .int .u64 (wLo r43)]) (by kernel_rfl) (S_val (.int .i64 r44) (by kernel_rfl) (S_val (.bool true) (by kernel_rfl) (S_fresh none #[.int .i64 0, .int .u64 0] 98 hM42 (by kernel_rfl) (fun g65 w66 hM67 => S_store 0 0 #[.int .i64 (wHi r43), .int .u64 (wLo r43)] hM67 (by kernel_rfl) (fun w68 hM69 => S_val (.int .i64 r44) (by kernel_rfl) (S_val (.bool true) (by kernel_rfl) (S_nil (R_seq (R_region (S_load 0 0 (.agg #[.int .i64 (wHi r43), .int .u64 (wLo r43)]) hM69 (by kernel_rfl) (?_))))))))))))
      have HR := hr_pos HR rfl
      refine S_call (wint r43) (fun r : Int × Bool => .tuple #[.int .i64 r.1, .bool r.2]) hM69 (c_wide_Int r43 ((tr (P := fun r : Int × Int × Bool => (InW r.1 ∧ InI r.2.1 ∧ True)) h40 (wdivT_W ((tr (P := fun r : Int × Bool => (InW r.1 ∧ True)) h19 (addW_W [r8, r10, r12])).out.1) h_m.2.1)).out.1) w68) (by kernel_rfl) (fun r70 h71 w72 hM73 => ?_)
      have HR := hr_lt HR h71
      obtain ⟨r74, b76⟩ := r70
      cases b76
      · refine S_val (.tuple #[.int .i64 r74, .bool false]) (by kernel_rfl) (S_val (.int .i64 r74) (by kernel_rfl) (S_val (.bool false) (by kernel_rfl) (S_val (.int .i64 r74) (by kernel_rfl) (S_val (.bool false) (by kernel_rfl) (S_nil (R_seq (R_block (R_seq (R_region (S_val (.bool false) (by kernel_rfl) (S_val (.bool true) (by kernel_rfl) (?_))))))))))))
        have HR := hr_neg HR Bool.false_ne_true
        refine S_val (.bool true) (by kernel_rfl) (S_val (.pointer (some ⟨g65, 0, none⟩)) (by kernel_rfl) (S_load 0 0 (.int .i64 (wHi r43)) hM73 (by kernel_rfl) (?_)))
        refine S_dec (wHi r43 < 0) (by kernel_rfl) (fun c77 => ?_) (fun c77 => ?_)
        · refine S_val (.bool true) (by kernel_rfl) (S_val (.bool true) (by kernel_rfl) (S_nil (R_yes (by kernel_rfl) (R_seq (R_region (S_val (.int .i64 (-2147483648)) (by kernel_rfl) (S_nil (?_))))))))
          have HR := hr_pos HR c77
          refine R_ret hM73 rfl (.cons (.tmp _ (.int .i64 (-2147483648)) (by kernel_rfl)) .nil) rfl ?_
          exact ⟨congrArg Ending.returned HR, hM73.below⟩
        · refine S_val (.bool false) (by kernel_rfl) (S_val (.bool false) (by kernel_rfl) (S_nil (R_no (by kernel_rfl) (R_seq (R_region (S_val (.bool false) (by kernel_rfl) (S_val (.bool true) (by kernel_rfl) (S_val (.bool true) (by kernel_rfl) (S_nil (R_yes (by kernel_rfl) (R_seq (?_))))))))))))
          have HR := hr_neg HR c77
          refine R_region (S_val (.int .i64 2147483647) (by kernel_rfl) (S_nil (?_)))
          refine R_ret hM73 rfl (.cons (.tmp _ (.int .i64 2147483647) (by kernel_rfl)) .nil) rfl ?_
          exact ⟨congrArg Ending.returned HR, hM73.below⟩
      · refine S_val (.tuple #[.int .i64 r74, .bool true]) (by kernel_rfl) (S_val (.int .i64 r74) (by kernel_rfl) (S_val (.bool true) (by kernel_rfl) (S_val (.int .i64 r74) (by kernel_rfl) (S_val (.bool true) (by kernel_rfl) (S_nil (R_seq (R_block (R_seq (R_region (S_val (.bool true) (by kernel_rfl) (S_val (.bool false) (by kernel_rfl) (?_))))))))))))
        have HR := hr_pos HR rfl
        refine S_val (.bool false) (by kernel_rfl) (S_skip (by kernel_rfl) (S_skip (by kernel_rfl) (S_skip (by kernel_rfl) (S_val (.bool false) (by kernel_rfl) (S_val (.bool false) (by kernel_rfl) (S_nil (R_no (by kernel_rfl) (R_seq (R_region (S_val (.bool true) (by kernel_rfl) (S_val (.bool false) (by kernel_rfl) (?_))))))))))))
        refine S_val (.bool false) (by kernel_rfl) (S_nil (R_no (by kernel_rfl) (R_skip (R_inBlock (R_seq (R_region (S_val (.int .i64 r74) (by kernel_rfl) (S_int (gmax r74 (-2147483648)) .i64 (by kernel_rfl) (fun x78 h79 => S_int (gmin x78 2147483647) .i64 (by kernel_rfl) (fun x80 h81 => S_val (.int .i64 x80) (by kernel_rfl) (S_nil (?_))))))))))))
        have HR := hr_lt HR h79
        have HR := hr_lt HR h81
        refine R_ret hM73 rfl (.cons (.tmp _ (.int .i64 x80) (by kernel_rfl)) .nil) rfl ?_
        exact ⟨congrArg Ending.returned HR, hM73.below⟩

def P_texel_Bary_1_k0 (r : Int) : Prop := InI r
theorem i_texel_Bary_1_k0 (m : Int × Int × Int × Int) (uv : (Int × Int) × (Int × Int) × (Int × Int)) (h_m : InM m) (h_uv : ((InI uv.1.1 ∧ InI uv.1.2) ∧ (InI uv.2.1.1 ∧ InI uv.2.1.2) ∧ (InI uv.2.2.1 ∧ InI uv.2.2.2))) : P_texel_Bary_1_k0 (s_texel_Bary_1_k0 m uv) := by
  unfold s_texel_Bary_1_k0
  exact (lt_P fun x1 h2 => (lt_P fun x3 h4 => (lt_P fun r8 h9 => (lt_P fun r10 h11 => (lt_P fun r12 h13 => (lt_P fun r18 h19 => (ite_P (fun c84 => (lt_P fun r39 h40 => (ite_P (fun c83 => (lt_P fun r70 h71 => (ite_P (fun c82 => (lt_P fun x78 h79 => (lt_P fun x80 h81 => (show InI x80 from (tr (P := InI) h81 (gmin_InI (tr (P := InI) h79 (gmax_InI (tr (P := fun r : Int × Bool => (InI r.1 ∧ True)) h71 (wint_I ((tr (P := fun r : Int × Int × Bool => (InW r.1 ∧ InI r.2.1 ∧ True)) h40 (wdivT_W ((tr (P := fun r : Int × Bool => (InW r.1 ∧ True)) h19 (addW_W [r8, r10, r12])).out.1) h_m.2.1)).out.1))).out.1 (show InI (-2147483648) from by unfold InI; omega))).out (show InI 2147483647 from by unfold InI; omega))).out)))) (fun c82 => (ite_P (fun c77 => (show InI (-2147483648) from (show InI (-2147483648) from by unfold InI; omega))) (fun c77 => (show InI 2147483647 from (show InI 2147483647 from by unfold InI; omega)))))))) (fun c83 => (lt_P fun r52 h53 => (ite_P (fun c64 => (lt_P fun x60 h61 => (lt_P fun x62 h63 => (show InI x62 from (tr (P := InI) h63 (gmin_InI (tr (P := InI) h61 (gmax_InI (tr (P := fun r : Int × Bool => (InI r.1 ∧ True)) h53 (wint_I ((tr (P := fun r : Int × Int × Bool => (InW r.1 ∧ InI r.2.1 ∧ True)) h40 (wdivT_W ((tr (P := fun r : Int × Bool => (InW r.1 ∧ True)) h19 (addW_W [r8, r10, r12])).out.1) h_m.2.1)).out.1))).out.1 (show InI (-2147483648) from by unfold InI; omega))).out (show InI 2147483647 from by unfold InI; omega))).out)))) (fun c64 => (ite_P (fun c59 => (show InI (-2147483648) from (show InI (-2147483648) from by unfold InI; omega))) (fun c59 => (show InI 2147483647 from (show InI 2147483647 from by unfold InI; omega))))))))))) (fun c84 => (show InI 0 from (show InI 0 from by unfold InI; omega))))))))))

def e_texel_Bary_1_k1 (r : Int) : Value := .int .i64 r
def s_texel_Bary_1_k1 (m : Int × Int × Int × Int) (uv : (Int × Int) × (Int × Int) × (Int × Int)) : Int :=
  lt (IntKind.i64.wrap (m.2.1 - m.2.2.1)) fun x1 =>
  lt (IntKind.i64.wrap (x1 - m.2.2.2)) fun x3 =>
  lt (x3 * uv.1.2) fun r8 =>
  lt (m.2.2.1 * uv.2.1.2) fun r10 =>
  lt (m.2.2.2 * uv.2.2.2) fun r12 =>
  lt (addW [r8, r10, r12]) fun r18 =>
  if r18.2 = true then
    lt (wdivT r18.1 m.2.1) fun r39 =>
    if r39.2.2 = true then
      lt (wint r39.1) fun r70 =>
      if r70.2 = true then
        lt (gmax r70.1 (-2147483648)) fun x78 =>
        lt (gmin x78 2147483647) fun x80 =>
        x80
      else
        if wHi r39.1 < 0 then
          (-2147483648)
        else
          2147483647
    else
      lt (wint r39.1) fun r52 =>
      if r52.2 = true then
        lt (gmax r52.1 (-2147483648)) fun x60 =>
        lt (gmin x60 2147483647) fun x62 =>
        x62
      else
        if wHi r39.1 < 0 then
          (-2147483648)
        else
          2147483647
  else
    0
set_option maxRecDepth 100000 in
set_option maxHeartbeats 4000000 in
theorem w_texel_Bary_1_k1 (m : Int × Int × Int × Int) (uv : (Int × Int) × (Int × Int) × (Int × Int)) (h_m : InM m) (h_uv : ((InI uv.1.1 ∧ InI uv.1.2) ∧ (InI uv.2.1.1 ∧ InI uv.2.1.2) ∧ (InI uv.2.2.1 ∧ InI uv.2.2.2))) (B0 : Nat) (T0 : TypeId) (fr0 : Nat × Nat) (B1 : Nat) (T1 : TypeId) (fr1 : Nat × Nat) (w : World) (hB0 : Has B0 (.cells #[.int .i64 m.1, .int .i64 m.2.1, .int .i64 m.2.2.1, .int .i64 m.2.2.2] T0 fr0) w) (hB1 : Has B1 (.cells #[.int .i64 uv.1.1, .int .i64 uv.1.2, .int .i64 uv.2.1.1, .int .i64 uv.2.1.2, .int .i64 uv.2.2.1, .int .i64 uv.2.2.2] T1 fr1) w) (hne : B1 ≠ B0) : Calls Try.prog 51 #[.int .i64 1, .pointer (some ⟨B0, 0, none⟩), .pointer (some ⟨B1, 0, none⟩)] w (Ret (e_texel_Bary_1_k1 (s_texel_Bary_1_k1 m uv)) w) := by
  obtain ⟨R, HR⟩ : ∃ R, e_texel_Bary_1_k1 (s_texel_Bary_1_k1 m uv) = R := ⟨_, rfl⟩
  rw [HR]
  unfold s_texel_Bary_1_k1 at HR
  have hM0 := St.start2 (St.start1 hB0) hB1 (by simpa using hne)
  refine calls_run Try.func51 rfl ?_
  refine R_seq (R_region (S_val (.int .i64 0) (by kernel_rfl) (S_nil (R_seq (R_region (S_val (.pointer (some ⟨B0, 1, none⟩)) (by kernel_rfl) (S_load 1 1 (.int .i64 m.2.1) hM0 (by kernel_rfl) (S_val (.pointer (some ⟨B0, 2, none⟩)) (by kernel_rfl) (S_load 1 2 (.int .i64 m.2.2.1) hM0 (by kernel_rfl) (S_int (IntKind.i64.wrap (m.2.1 - m.2.2.1)) .i64 (by kernel_rfl) (fun x1 h2 => S_val (.pointer (some ⟨B0, 3, none⟩)) (by kernel_rfl) (?_))))))))))))
  have HR := hr_lt HR h2
  refine S_load 1 3 (.int .i64 m.2.2.2) hM0 (by kernel_rfl) (S_int (IntKind.i64.wrap (x1 - m.2.2.2)) .i64 (by kernel_rfl) (fun x3 h4 => S_val (.int .i64 x3) (by kernel_rfl) (S_nil (R_seq (R_drawG 28 (by kernel_rfl) (fun F5 U6 hL7 => G_val (.int .i64 x3) (fun _ => by kernel_rfl) (G_val (.int .i64 1) (fun _ => by kernel_rfl) (G_val (.pointer (some ⟨B1, 0, none⟩)) (fun _ => by kernel_rfl) (G_val (.pointer (some ⟨B1, 1, none⟩)) (fun _ => by kernel_rfl) (G_load 0 1 (.int .i64 uv.1.2) hM0 (by kernel_rfl) (G_call (x3 * uv.1.2) (fun r : Int => .agg #[.int .i64 (wHi r), .int .u64 (wLo r)]) hM0 hL7 (fun w' hM' => wMul x3 uv.1.2 (wr_i64 h4) h_uv.1.2 w') (by kernel_rfl) (fun _ => by kernel_rfl) (fun r8 h9 => ?_))))))))))))
  have HR := hr_lt HR h4
  have HR := hr_lt HR h9
  refine G_val (.pointer (some ⟨B0, 2, none⟩)) (fun _ => by kernel_rfl) (G_load 1 2 (.int .i64 m.2.2.1) hM0 (by kernel_rfl) (G_val (.int .i64 1) (fun _ => by kernel_rfl) (G_val (.pointer (some ⟨B1, 2, none⟩)) (fun _ => by kernel_rfl) (G_val (.pointer (some ⟨B1, 3, none⟩)) (fun _ => by kernel_rfl) (G_load 0 3 (.int .i64 uv.2.1.2) hM0 (by kernel_rfl) (G_call (m.2.2.1 * uv.2.1.2) (fun r : Int => .agg #[.int .i64 (wHi r), .int .u64 (wLo r)]) hM0 hL7 (fun w' hM' => wMul m.2.2.1 uv.2.1.2 h_m.2.2.1 h_uv.2.1.2 w') (by kernel_rfl) (fun _ => by kernel_rfl) (fun r10 h11 => G_val (.pointer (some ⟨B0, 3, none⟩)) (fun _ => by kernel_rfl) (G_load 1 3 (.int .i64 m.2.2.2) hM0 (by kernel_rfl) (G_val (.int .i64 1) (fun _ => by kernel_rfl) (G_val (.pointer (some ⟨B1, 4, none⟩)) (fun _ => by kernel_rfl) (G_val (.pointer (some ⟨B1, 5, none⟩)) (fun _ => by kernel_rfl) (?_))))))))))))
  have HR := hr_lt HR h11
  refine G_load 0 5 (.int .i64 uv.2.2.2) hM0 (by kernel_rfl) (G_call (m.2.2.2 * uv.2.2.2) (fun r : Int => .agg #[.int .i64 (wHi r), .int .u64 (wLo r)]) hM0 hL7 (fun w' hM' => wMul m.2.2.2 uv.2.2.2 h_m.2.2.2 h_uv.2.2.2 w') (by kernel_rfl) (fun _ => by kernel_rfl) (fun r12 h13 => G_fresh (some 3) #[.int .i64 (wHi r8), .int .u64 (wLo r8), .int .i64 (wHi r10), .int .u64 (wLo r10), .int .i64 (wHi r12), .int .u64 (wLo r12)] 98 hL7 (by kernel_rfl) (fun _ => by kernel_rfl) (fun g14 F15 U16 hL17 => G_call (addW [r8, r10, r12]) (fun r : Int × Bool => .tuple #[.agg #[.int .i64 (wHi r.1), .int .u64 (wLo r.1)], .bool r.2]) hM0 hL17 (fun w' hM' => wAddL [r8, r10, r12] ⟨(tr (P := fun r : Int => InW r) h9 (mul_InW (wr_i64 h4) h_uv.1.2)).out, (tr (P := fun r : Int => InW r) h11 (mul_InW h_m.2.2.1 h_uv.2.1.2)).out, (tr (P := fun r : Int => InW r) h13 (mul_InW h_m.2.2.2 h_uv.2.2.2)).out, trivial⟩ hM' 0 3 3 rfl (by kernel_rfl) (by kernel_rfl)) (by kernel_rfl) (fun _ => by kernel_rfl) (fun r18 h19 => ?_))))
  have HR := hr_lt HR h13
  have HR := hr_lt HR h19
  obtain ⟨r20, b22⟩ := r18
  cases b22
  · refine G_val (.tuple #[.agg #[.int .i64 (wHi r20), .int .u64 (wLo r20)], .bool false]) (fun _ => by kernel_rfl) (G_val (.agg #[.int .i64 (wHi r20), .int .u64 (wLo r20)]) (fun _ => by kernel_rfl) (G_val (.bool false) (fun _ => by kernel_rfl) (G_fresh none #[.int .i64 0, .int .u64 0] 98 hL17 (by kernel_rfl) (fun _ => by kernel_rfl) (fun g23 F24 U25 hL26 => G_store 0 0 #[.int .i64 (wHi r20), .int .u64 (wLo r20)] hL26 (by kernel_rfl) (by kernel_rfl) (fun F27 hL28 => G_val (.bool false) (fun _ => by kernel_rfl) (G_nil hM0 hL28 (fun w29 hM30 => S_nil (R_seq (R_seq (R_region (S_val (.bool false) (by kernel_rfl) (?_))))))))))))
    have HR := hr_neg HR Bool.false_ne_true
    refine S_val (.bool true) (by kernel_rfl) (S_nil (R_yes (by kernel_rfl) (R_seq (R_region (S_val (.int .i64 0) (by kernel_rfl) (S_nil (?_)))))))
    refine R_ret hM30 rfl (.cons (.tmp _ (.int .i64 0) (by kernel_rfl)) .nil) rfl ?_
    exact ⟨congrArg Ending.returned HR, hM30.below⟩
  · refine G_val (.tuple #[.agg #[.int .i64 (wHi r20), .int .u64 (wLo r20)], .bool true]) (fun _ => by kernel_rfl) (G_val (.agg #[.int .i64 (wHi r20), .int .u64 (wLo r20)]) (fun _ => by kernel_rfl) (G_val (.bool true) (fun _ => by kernel_rfl) (G_fresh none #[.int .i64 0, .int .u64 0] 98 hL17 (by kernel_rfl) (fun _ => by kernel_rfl) (fun g31 F32 U33 hL34 => G_store 0 0 #[.int .i64 (wHi r20), .int .u64 (wLo r20)] hL34 (by kernel_rfl) (by kernel_rfl) (fun F35 hL36 => G_val (.bool true) (fun _ => by kernel_rfl) (G_nil hM0 hL36 (fun w37 hM38 => S_nil (R_seq (R_seq (R_region (S_val (.bool true) (by kernel_rfl) (?_))))))))))))
    have HR := hr_pos HR rfl
    refine S_val (.bool false) (by kernel_rfl) (S_nil (R_no (by kernel_rfl) (R_skip (R_seq (R_region (S_load 0 0 (.agg #[.int .i64 (wHi r20), .int .u64 (wLo r20)]) hM38 (by kernel_rfl) (S_val (.pointer (some ⟨B0, 1, none⟩)) (by kernel_rfl) (S_load 3 1 (.int .i64 m.2.1) hM38 (by kernel_rfl) (S_call (wdivT r20 m.2.1) (fun r : Int × Int × Bool => .tuple #[.agg #[.int .i64 (wHi r.1), .int .u64 (wLo r.1)], .int .i64 r.2.1, .bool r.2.2]) hM38 (c_wide_Div r20 m.2.1 ((tr (P := fun r : Int × Bool => (InW r.1 ∧ True)) h19 (addW_W [r8, r10, r12])).out.1) h_m.2.1 w37) (by kernel_rfl) (fun r39 h40 w41 hM42 => ?_))))))))))
    have HR := hr_lt HR h40
    obtain ⟨r43, r44, b46⟩ := r39
    cases b46
    · refine S_val (.tuple #[.agg #[.int .i64 (wHi r43), .int .u64 (wLo r43)], .int .i64 r44, .bool false]) (by kernel_rfl) (S_val (.agg #[.int .i64 (wHi r43), .int .u64 (wLo r43)]) (by kernel_rfl) (S_val (.int .i64 r44) (by kernel_rfl) (S_val (.bool false) (by kernel_rfl) (S_fresh none #[.int .i64 0, .int .u64 0] 98 hM42 (by kernel_rfl) (fun g47 w48 hM49 => S_store 0 0 #[.int .i64 (wHi r43), .int .u64 (wLo r43)] hM49 (by kernel_rfl) (fun w50 hM51 => S_val (.int .i64 r44) (by kernel_rfl) (S_val (.bool false) (by kernel_rfl) (S_nil (R_seq (R_region (S_load 0 0 (.agg #[.int .i64 (wHi r43), .int .u64 (wLo r43)]) hM51 (by kernel_rfl) (?_))))))))))))
      have HR := hr_neg HR Bool.false_ne_true
      refine S_call (wint r43) (fun r : Int × Bool => .tuple #[.int .i64 r.1, .bool r.2]) hM51 (c_wide_Int r43 ((tr (P := fun r : Int × Int × Bool => (InW r.1 ∧ InI r.2.1 ∧ True)) h40 (wdivT_W ((tr (P := fun r : Int × Bool => (InW r.1 ∧ True)) h19 (addW_W [r8, r10, r12])).out.1) h_m.2.1)).out.1) w50) (by kernel_rfl) (fun r52 h53 w54 hM55 => ?_)
      have HR := hr_lt HR h53
      obtain ⟨r56, b58⟩ := r52
      cases b58
      · refine S_val (.tuple #[.int .i64 r56, .bool false]) (by kernel_rfl) (S_val (.int .i64 r56) (by kernel_rfl) (S_val (.bool false) (by kernel_rfl) (S_val (.int .i64 r56) (by kernel_rfl) (S_val (.bool false) (by kernel_rfl) (S_nil (R_seq (R_block (R_seq (R_region (S_val (.bool false) (by kernel_rfl) (S_val (.bool true) (by kernel_rfl) (?_))))))))))))
        have HR := hr_neg HR Bool.false_ne_true
        refine S_val (.bool true) (by kernel_rfl) (S_val (.pointer (some ⟨g47, 0, none⟩)) (by kernel_rfl) (S_load 0 0 (.int .i64 (wHi r43)) hM55 (by kernel_rfl) (?_)))
        refine S_dec (wHi r43 < 0) (by kernel_rfl) (fun c59 => ?_) (fun c59 => ?_)
        · refine S_val (.bool true) (by kernel_rfl) (S_val (.bool true) (by kernel_rfl) (S_nil (R_yes (by kernel_rfl) (R_seq (R_region (S_val (.int .i64 (-2147483648)) (by kernel_rfl) (S_nil (?_))))))))
          have HR := hr_pos HR c59
          refine R_ret hM55 rfl (.cons (.tmp _ (.int .i64 (-2147483648)) (by kernel_rfl)) .nil) rfl ?_
          exact ⟨congrArg Ending.returned HR, hM55.below⟩
        · refine S_val (.bool false) (by kernel_rfl) (S_val (.bool false) (by kernel_rfl) (S_nil (R_no (by kernel_rfl) (R_seq (R_region (S_val (.bool false) (by kernel_rfl) (S_val (.bool true) (by kernel_rfl) (S_val (.bool true) (by kernel_rfl) (S_nil (R_yes (by kernel_rfl) (R_seq (?_))))))))))))
          have HR := hr_neg HR c59
          refine R_region (S_val (.int .i64 2147483647) (by kernel_rfl) (S_nil (?_)))
          refine R_ret hM55 rfl (.cons (.tmp _ (.int .i64 2147483647) (by kernel_rfl)) .nil) rfl ?_
          exact ⟨congrArg Ending.returned HR, hM55.below⟩
      · refine S_val (.tuple #[.int .i64 r56, .bool true]) (by kernel_rfl) (S_val (.int .i64 r56) (by kernel_rfl) (S_val (.bool true) (by kernel_rfl) (S_val (.int .i64 r56) (by kernel_rfl) (S_val (.bool true) (by kernel_rfl) (S_nil (R_seq (R_block (R_seq (R_region (S_val (.bool true) (by kernel_rfl) (S_val (.bool false) (by kernel_rfl) (?_))))))))))))
        have HR := hr_pos HR rfl
        refine S_val (.bool false) (by kernel_rfl) (S_skip (by kernel_rfl) (S_skip (by kernel_rfl) (S_skip (by kernel_rfl) (S_val (.bool false) (by kernel_rfl) (S_val (.bool false) (by kernel_rfl) (S_nil (R_no (by kernel_rfl) (R_seq (R_region (S_val (.bool true) (by kernel_rfl) (S_val (.bool false) (by kernel_rfl) (?_))))))))))))
        refine S_val (.bool false) (by kernel_rfl) (S_nil (R_no (by kernel_rfl) (R_skip (R_inBlock (R_seq (R_region (S_val (.int .i64 r56) (by kernel_rfl) (S_int (gmax r56 (-2147483648)) .i64 (by kernel_rfl) (fun x60 h61 => S_int (gmin x60 2147483647) .i64 (by kernel_rfl) (fun x62 h63 => S_val (.int .i64 x62) (by kernel_rfl) (S_nil (?_))))))))))))
        have HR := hr_lt HR h61
        have HR := hr_lt HR h63
        refine R_ret hM55 rfl (.cons (.tmp _ (.int .i64 x62) (by kernel_rfl)) .nil) rfl ?_
        exact ⟨congrArg Ending.returned HR, hM55.below⟩
    · refine S_val (.tuple #[.agg #[.int .i64 (wHi r43), .int .u64 (wLo r43)], .int .i64 r44, .bool true]) (by kernel_rfl) (S_val (.agg #[.int .i64 (wHi r43), .int .u64 (wLo r43)]) (by kernel_rfl) (S_val (.int .i64 r44) (by kernel_rfl) (S_val (.bool true) (by kernel_rfl) (S_fresh none #[.int .i64 0, .int .u64 0] 98 hM42 (by kernel_rfl) (fun g65 w66 hM67 => S_store 0 0 #[.int .i64 (wHi r43), .int .u64 (wLo r43)] hM67 (by kernel_rfl) (fun w68 hM69 => S_val (.int .i64 r44) (by kernel_rfl) (S_val (.bool true) (by kernel_rfl) (S_nil (R_seq (R_region (S_load 0 0 (.agg #[.int .i64 (wHi r43), .int .u64 (wLo r43)]) hM69 (by kernel_rfl) (?_))))))))))))
      have HR := hr_pos HR rfl
      refine S_call (wint r43) (fun r : Int × Bool => .tuple #[.int .i64 r.1, .bool r.2]) hM69 (c_wide_Int r43 ((tr (P := fun r : Int × Int × Bool => (InW r.1 ∧ InI r.2.1 ∧ True)) h40 (wdivT_W ((tr (P := fun r : Int × Bool => (InW r.1 ∧ True)) h19 (addW_W [r8, r10, r12])).out.1) h_m.2.1)).out.1) w68) (by kernel_rfl) (fun r70 h71 w72 hM73 => ?_)
      have HR := hr_lt HR h71
      obtain ⟨r74, b76⟩ := r70
      cases b76
      · refine S_val (.tuple #[.int .i64 r74, .bool false]) (by kernel_rfl) (S_val (.int .i64 r74) (by kernel_rfl) (S_val (.bool false) (by kernel_rfl) (S_val (.int .i64 r74) (by kernel_rfl) (S_val (.bool false) (by kernel_rfl) (S_nil (R_seq (R_block (R_seq (R_region (S_val (.bool false) (by kernel_rfl) (S_val (.bool true) (by kernel_rfl) (?_))))))))))))
        have HR := hr_neg HR Bool.false_ne_true
        refine S_val (.bool true) (by kernel_rfl) (S_val (.pointer (some ⟨g65, 0, none⟩)) (by kernel_rfl) (S_load 0 0 (.int .i64 (wHi r43)) hM73 (by kernel_rfl) (?_)))
        refine S_dec (wHi r43 < 0) (by kernel_rfl) (fun c77 => ?_) (fun c77 => ?_)
        · refine S_val (.bool true) (by kernel_rfl) (S_val (.bool true) (by kernel_rfl) (S_nil (R_yes (by kernel_rfl) (R_seq (R_region (S_val (.int .i64 (-2147483648)) (by kernel_rfl) (S_nil (?_))))))))
          have HR := hr_pos HR c77
          refine R_ret hM73 rfl (.cons (.tmp _ (.int .i64 (-2147483648)) (by kernel_rfl)) .nil) rfl ?_
          exact ⟨congrArg Ending.returned HR, hM73.below⟩
        · refine S_val (.bool false) (by kernel_rfl) (S_val (.bool false) (by kernel_rfl) (S_nil (R_no (by kernel_rfl) (R_seq (R_region (S_val (.bool false) (by kernel_rfl) (S_val (.bool true) (by kernel_rfl) (S_val (.bool true) (by kernel_rfl) (S_nil (R_yes (by kernel_rfl) (R_seq (?_))))))))))))
          have HR := hr_neg HR c77
          refine R_region (S_val (.int .i64 2147483647) (by kernel_rfl) (S_nil (?_)))
          refine R_ret hM73 rfl (.cons (.tmp _ (.int .i64 2147483647) (by kernel_rfl)) .nil) rfl ?_
          exact ⟨congrArg Ending.returned HR, hM73.below⟩
      · refine S_val (.tuple #[.int .i64 r74, .bool true]) (by kernel_rfl) (S_val (.int .i64 r74) (by kernel_rfl) (S_val (.bool true) (by kernel_rfl) (S_val (.int .i64 r74) (by kernel_rfl) (S_val (.bool true) (by kernel_rfl) (S_nil (R_seq (R_block (R_seq (R_region (S_val (.bool true) (by kernel_rfl) (S_val (.bool false) (by kernel_rfl) (?_))))))))))))
        have HR := hr_pos HR rfl
        refine S_val (.bool false) (by kernel_rfl) (S_skip (by kernel_rfl) (S_skip (by kernel_rfl) (S_skip (by kernel_rfl) (S_val (.bool false) (by kernel_rfl) (S_val (.bool false) (by kernel_rfl) (S_nil (R_no (by kernel_rfl) (R_seq (R_region (S_val (.bool true) (by kernel_rfl) (S_val (.bool false) (by kernel_rfl) (?_))))))))))))
        refine S_val (.bool false) (by kernel_rfl) (S_nil (R_no (by kernel_rfl) (R_skip (R_inBlock (R_seq (R_region (S_val (.int .i64 r74) (by kernel_rfl) (S_int (gmax r74 (-2147483648)) .i64 (by kernel_rfl) (fun x78 h79 => S_int (gmin x78 2147483647) .i64 (by kernel_rfl) (fun x80 h81 => S_val (.int .i64 x80) (by kernel_rfl) (S_nil (?_))))))))))))
        have HR := hr_lt HR h79
        have HR := hr_lt HR h81
        refine R_ret hM73 rfl (.cons (.tmp _ (.int .i64 x80) (by kernel_rfl)) .nil) rfl ?_
        exact ⟨congrArg Ending.returned HR, hM73.below⟩

def P_texel_Bary_1_k1 (r : Int) : Prop := InI r
theorem i_texel_Bary_1_k1 (m : Int × Int × Int × Int) (uv : (Int × Int) × (Int × Int) × (Int × Int)) (h_m : InM m) (h_uv : ((InI uv.1.1 ∧ InI uv.1.2) ∧ (InI uv.2.1.1 ∧ InI uv.2.1.2) ∧ (InI uv.2.2.1 ∧ InI uv.2.2.2))) : P_texel_Bary_1_k1 (s_texel_Bary_1_k1 m uv) := by
  unfold s_texel_Bary_1_k1
  exact (lt_P fun x1 h2 => (lt_P fun x3 h4 => (lt_P fun r8 h9 => (lt_P fun r10 h11 => (lt_P fun r12 h13 => (lt_P fun r18 h19 => (ite_P (fun c84 => (lt_P fun r39 h40 => (ite_P (fun c83 => (lt_P fun r70 h71 => (ite_P (fun c82 => (lt_P fun x78 h79 => (lt_P fun x80 h81 => (show InI x80 from (tr (P := InI) h81 (gmin_InI (tr (P := InI) h79 (gmax_InI (tr (P := fun r : Int × Bool => (InI r.1 ∧ True)) h71 (wint_I ((tr (P := fun r : Int × Int × Bool => (InW r.1 ∧ InI r.2.1 ∧ True)) h40 (wdivT_W ((tr (P := fun r : Int × Bool => (InW r.1 ∧ True)) h19 (addW_W [r8, r10, r12])).out.1) h_m.2.1)).out.1))).out.1 (show InI (-2147483648) from by unfold InI; omega))).out (show InI 2147483647 from by unfold InI; omega))).out)))) (fun c82 => (ite_P (fun c77 => (show InI (-2147483648) from (show InI (-2147483648) from by unfold InI; omega))) (fun c77 => (show InI 2147483647 from (show InI 2147483647 from by unfold InI; omega)))))))) (fun c83 => (lt_P fun r52 h53 => (ite_P (fun c64 => (lt_P fun x60 h61 => (lt_P fun x62 h63 => (show InI x62 from (tr (P := InI) h63 (gmin_InI (tr (P := InI) h61 (gmax_InI (tr (P := fun r : Int × Bool => (InI r.1 ∧ True)) h53 (wint_I ((tr (P := fun r : Int × Int × Bool => (InW r.1 ∧ InI r.2.1 ∧ True)) h40 (wdivT_W ((tr (P := fun r : Int × Bool => (InW r.1 ∧ True)) h19 (addW_W [r8, r10, r12])).out.1) h_m.2.1)).out.1))).out.1 (show InI (-2147483648) from by unfold InI; omega))).out (show InI 2147483647 from by unfold InI; omega))).out)))) (fun c64 => (ite_P (fun c59 => (show InI (-2147483648) from (show InI (-2147483648) from by unfold InI; omega))) (fun c59 => (show InI 2147483647 from (show InI 2147483647 from by unfold InI; omega))))))))))) (fun c84 => (show InI 0 from (show InI 0 from by unfold InI; omega))))))))))

def e_texel_Bary (r : Int × Int) : Value := .tuple #[.int .i64 r.1, .int .i64 r.2]
def s_texel_Bary (m : Int × Int × Int × Int) (uv : (Int × Int) × (Int × Int) × (Int × Int)) : Int × Int :=
  if m.2.1 < 1 then
    (0, 0)
  else
    lt (gmax (gmax (gmax m.1 m.2.1) m.2.2.1) m.2.2.2) fun x8 =>
    if x8 > 1152921504606846976 then
      (0, 0)
    else
      lt (gmin (gmin m.1 m.2.2.1) m.2.2.2) fun x11 =>
      if x11 < (-1152921504606846976) then
        (0, 0)
      else
        lt (s_texel_Bary_1_k0 m uv) fun r14 =>
        lt (s_texel_Bary_1_k1 m uv) fun r18 =>
        (r14, r18)
set_option maxRecDepth 100000 in
set_option maxHeartbeats 4000000 in
theorem w_texel_Bary (m : Int × Int × Int × Int) (uv : (Int × Int) × (Int × Int) × (Int × Int)) (h_m : InM m) (h_uv : ((InI uv.1.1 ∧ InI uv.1.2) ∧ (InI uv.2.1.1 ∧ InI uv.2.1.2) ∧ (InI uv.2.2.1 ∧ InI uv.2.2.2))) (w : World) : Calls Try.prog 23 #[.agg #[.int .i64 m.1, .int .i64 m.2.1, .int .i64 m.2.2.1, .int .i64 m.2.2.2], .agg #[.int .i64 uv.1.1, .int .i64 uv.1.2, .int .i64 uv.2.1.1, .int .i64 uv.2.1.2, .int .i64 uv.2.2.1, .int .i64 uv.2.2.2]] w (Ret (e_texel_Bary (s_texel_Bary m uv)) w) := by
  obtain ⟨R, HR⟩ : ∃ R, e_texel_Bary (s_texel_Bary m uv) = R := ⟨_, rfl⟩
  rw [HR]
  unfold s_texel_Bary at HR
  have hM0 := St.start w
  refine calls_run Try.func23 rfl ?_
  refine R_seq (R_region (S_fresh none #[.int .i64 m.1, .int .i64 m.2.1, .int .i64 m.2.2.1, .int .i64 m.2.2.2] 50 hM0 (by kernel_rfl) (fun g1 w2 hM3 => S_fresh none #[.int .i64 uv.1.1, .int .i64 uv.1.2, .int .i64 uv.2.1.1, .int .i64 uv.2.1.2, .int .i64 uv.2.2.1, .int .i64 uv.2.2.2] 51 hM3 (by kernel_rfl) (fun g4 w5 hM6 => S_val (.int .i64 0) (by kernel_rfl) (S_val (.int .i64 0) (by kernel_rfl) (S_nil (R_seq (R_seq (R_region (S_val (.pointer (some ⟨g1, 1, none⟩)) (by kernel_rfl) (S_load 1 1 (.int .i64 m.2.1) hM6 (by kernel_rfl) (?_))))))))))))
  refine S_dec (m.2.1 < 1) (by kernel_rfl) (fun c7 => ?_) (fun c7 => ?_)
  · refine S_val (.bool true) (by kernel_rfl) (S_skip (by kernel_rfl) (S_skip (by kernel_rfl) (S_skip (by kernel_rfl) (S_skip (by kernel_rfl) (S_skip (by kernel_rfl) (S_skip (by kernel_rfl) (S_skip (by kernel_rfl) (S_skip (by kernel_rfl) (S_skip (by kernel_rfl) (S_skip (by kernel_rfl) (S_val (.bool true) (by kernel_rfl) (?_))))))))))))
    have HR := hr_pos HR c7
    refine S_val (.bool true) (by kernel_rfl) (S_skip (by kernel_rfl) (S_skip (by kernel_rfl) (S_skip (by kernel_rfl) (S_skip (by kernel_rfl) (S_skip (by kernel_rfl) (S_skip (by kernel_rfl) (S_skip (by kernel_rfl) (S_skip (by kernel_rfl) (S_val (.bool true) (by kernel_rfl) (S_nil (R_yes (by kernel_rfl) (?_))))))))))))
    refine R_seq (R_region (S_val (.int .i64 0) (by kernel_rfl) (S_val (.int .i64 0) (by kernel_rfl) (S_nil (?_)))))
    refine R_ret hM6 rfl (.cons (.tmp _ (.int .i64 0) (by kernel_rfl)) (.cons (.tmp _ (.int .i64 0) (by kernel_rfl)) .nil)) rfl ?_
    exact ⟨congrArg Ending.returned HR, hM6.below⟩
  · refine S_val (.bool false) (by kernel_rfl) (S_val (.pointer (some ⟨g1, 0, none⟩)) (by kernel_rfl) (S_load 1 0 (.int .i64 m.1) hM6 (by kernel_rfl) (S_val (.pointer (some ⟨g1, 1, none⟩)) (by kernel_rfl) (S_load 1 1 (.int .i64 m.2.1) hM6 (by kernel_rfl) (S_val (.pointer (some ⟨g1, 2, none⟩)) (by kernel_rfl) (S_load 1 2 (.int .i64 m.2.2.1) hM6 (by kernel_rfl) (S_val (.pointer (some ⟨g1, 3, none⟩)) (by kernel_rfl) (S_load 1 3 (.int .i64 m.2.2.2) hM6 (by kernel_rfl) (S_int (gmax (gmax (gmax m.1 m.2.1) m.2.2.1) m.2.2.2) .i64 (by kernel_rfl) (fun x8 h9 => ?_))))))))))
    have HR := hr_neg HR c7
    have HR := hr_lt HR h9
    refine S_dec (x8 > 1152921504606846976) (by kernel_rfl) (fun c10 => ?_) (fun c10 => ?_)
    · refine S_val (.bool true) (by kernel_rfl) (S_val (.bool true) (by kernel_rfl) (S_skip (by kernel_rfl) (S_skip (by kernel_rfl) (S_skip (by kernel_rfl) (S_skip (by kernel_rfl) (S_skip (by kernel_rfl) (S_skip (by kernel_rfl) (S_skip (by kernel_rfl) (S_skip (by kernel_rfl) (S_val (.bool true) (by kernel_rfl) (S_nil (?_))))))))))))
      have HR := hr_pos HR c10
      refine R_yes (by kernel_rfl) (R_seq (R_region (S_val (.int .i64 0) (by kernel_rfl) (S_val (.int .i64 0) (by kernel_rfl) (S_nil (?_))))))
      refine R_ret hM6 rfl (.cons (.tmp _ (.int .i64 0) (by kernel_rfl)) (.cons (.tmp _ (.int .i64 0) (by kernel_rfl)) .nil)) rfl ?_
      exact ⟨congrArg Ending.returned HR, hM6.below⟩
    · refine S_val (.bool false) (by kernel_rfl) (S_val (.bool false) (by kernel_rfl) (S_val (.pointer (some ⟨g1, 0, none⟩)) (by kernel_rfl) (S_load 1 0 (.int .i64 m.1) hM6 (by kernel_rfl) (S_val (.pointer (some ⟨g1, 2, none⟩)) (by kernel_rfl) (S_load 1 2 (.int .i64 m.2.2.1) hM6 (by kernel_rfl) (S_val (.pointer (some ⟨g1, 3, none⟩)) (by kernel_rfl) (S_load 1 3 (.int .i64 m.2.2.2) hM6 (by kernel_rfl) (S_int (gmin (gmin m.1 m.2.2.1) m.2.2.2) .i64 (by kernel_rfl) (fun x11 h12 => ?_)))))))))
      have HR := hr_neg HR c10
      have HR := hr_lt HR h12
      refine S_dec (x11 < (-1152921504606846976)) (by kernel_rfl) (fun c13 => ?_) (fun c13 => ?_)
      · refine S_val (.bool true) (by kernel_rfl) (S_nil (R_yes (by kernel_rfl) (R_seq (R_region (S_val (.int .i64 0) (by kernel_rfl) (S_val (.int .i64 0) (by kernel_rfl) (S_nil (?_))))))))
        have HR := hr_pos HR c13
        refine R_ret hM6 rfl (.cons (.tmp _ (.int .i64 0) (by kernel_rfl)) (.cons (.tmp _ (.int .i64 0) (by kernel_rfl)) .nil)) rfl ?_
        exact ⟨congrArg Ending.returned HR, hM6.below⟩
      · refine S_val (.bool false) (by kernel_rfl) (S_nil (R_no (by kernel_rfl) (R_skip (R_seq (R_region (S_val (.func (.func 51) #[] #[.pointer (some ⟨g1, 0, none⟩), .pointer (some ⟨g4, 0, none⟩)]) (by kernel_rfl) (S_val (.func (.func 51) #[] #[.pointer (some ⟨g1, 0, none⟩), .pointer (some ⟨g4, 0, none⟩)]) (by kernel_rfl) (S_nil (R_seq (R_region (S_val (.func (.func 51) #[] #[.pointer (some ⟨g1, 0, none⟩), .pointer (some ⟨g4, 0, none⟩)]) (by kernel_rfl) (?_))))))))))))
        have HR := hr_neg HR c13
        refine S_call (s_texel_Bary_1_k0 m uv) (fun r : Int => .int .i64 r) hM6 (w_texel_Bary_1_k0 m uv h_m h_uv g1 _ _ g4 _ _ w5 (hM6.at 1 rfl) (hM6.at 0 rfl) (hM6.ne 0 1 rfl rfl (by decide))) (by kernel_rfl) (fun r14 h15 w16 hM17 => S_val (.func (.func 51) #[] #[.pointer (some ⟨g1, 0, none⟩), .pointer (some ⟨g4, 0, none⟩)]) (by kernel_rfl) (S_call (s_texel_Bary_1_k1 m uv) (fun r : Int => .int .i64 r) hM17 (w_texel_Bary_1_k1 m uv h_m h_uv g1 _ _ g4 _ _ w16 (hM17.at 1 rfl) (hM17.at 0 rfl) (hM17.ne 0 1 rfl rfl (by decide))) (by kernel_rfl) (fun r18 h19 w20 hM21 => S_val (.int .i64 r14) (by kernel_rfl) (S_val (.int .i64 r18) (by kernel_rfl) (S_nil (?_))))))
        have HR := hr_lt HR h15
        have HR := hr_lt HR h19
        refine R_ret hM21 rfl (.cons (.tmp _ (.int .i64 r14) (by kernel_rfl)) (.cons (.tmp _ (.int .i64 r18) (by kernel_rfl)) .nil)) rfl ?_
        exact ⟨congrArg Ending.returned HR, hM21.below⟩

def P_texel_Bary (r : Int × Int) : Prop := (InI r.1 ∧ InI r.2)
theorem i_texel_Bary (m : Int × Int × Int × Int) (uv : (Int × Int) × (Int × Int) × (Int × Int)) (h_m : InM m) (h_uv : ((InI uv.1.1 ∧ InI uv.1.2) ∧ (InI uv.2.1.1 ∧ InI uv.2.1.2) ∧ (InI uv.2.2.1 ∧ InI uv.2.2.2))) : P_texel_Bary (s_texel_Bary m uv) := by
  unfold s_texel_Bary
  exact (ite_P (fun c7 => (show (InI 0 ∧ InI 0) from ⟨(show InI 0 from by unfold InI; omega), (show InI 0 from by unfold InI; omega)⟩)) (fun c7 => (lt_P fun x8 h9 => (ite_P (fun c10 => (show (InI 0 ∧ InI 0) from ⟨(show InI 0 from by unfold InI; omega), (show InI 0 from by unfold InI; omega)⟩)) (fun c10 => (lt_P fun x11 h12 => (ite_P (fun c13 => (show (InI 0 ∧ InI 0) from ⟨(show InI 0 from by unfold InI; omega), (show InI 0 from by unfold InI; omega)⟩)) (fun c13 => (lt_P fun r14 h15 => (lt_P fun r18 h19 => (show (InI r14 ∧ InI r18) from ⟨(tr (P := fun r : Int => InI r) h15 (i_texel_Bary_1_k0 m uv h_m h_uv)).out, (tr (P := fun r : Int => InI r) h19 (i_texel_Bary_1_k1 m uv h_m h_uv)).out⟩)))))))))))

end Go.Proofs.Ytognbeejobfpfaa
