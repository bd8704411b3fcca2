/- Walks by explicit steps: tri.Hit. -/
import Derived.Test.YtbfgmedjogjkeaaG3a
namespace Go.Proofs.Ytbfgmedjogjkeaa
open Go.RowKit Go.Sort
set_option linter.unusedVariables false
set_option linter.unusedSimpArgs false

def e_tri_Hit_1 (r : Bool) : Value := .bool r
def s_tri_Hit_1 (p : Int × Int × Int) : Bool :=
  lt (s_tri_within p 65536) fun r4 =>
  if r4 = true then
    false
  else
    true
set_option maxRecDepth 100000 in
set_option maxHeartbeats 4000000 in
theorem w_tri_Hit_1 (p : Int × Int × Int) (w : World) : Calls Try.prog 66 #[.agg #[.int .i64 p.1, .int .i64 p.2.1, .int .i64 p.2.2]] w (Ret (e_tri_Hit_1 (s_tri_Hit_1 p)) w) := by
  obtain ⟨R, HR⟩ : ∃ R, e_tri_Hit_1 (s_tri_Hit_1 p) = R := ⟨_, rfl⟩
  rw [HR]
  unfold s_tri_Hit_1 at HR
  have hM0 := St.start w
  refine calls_run Try.func66 rfl ?_
  refine R_seq (R_region (S_fresh none #[.int .i64 p.1, .int .i64 p.2.1, .int .i64 p.2.2] 23 hM0 (by kernel_rfl) (fun g1 w2 hM3 => S_val (.bool false) (by kernel_rfl) (S_nil (R_seq (R_region (S_load 0 0 (.agg #[.int .i64 p.1, .int .i64 p.2.1, .int .i64 p.2.2]) hM3 (by kernel_rfl) (S_call (s_tri_within p 65536) (fun r : Bool => .bool r) hM3 (w_tri_within p 65536 w2) (by kernel_rfl) (fun r4 h5 w6 hM7 => ?_)))))))))
  have HR := hr_lt HR h5
  cases r4
  · refine S_val (.bool true) (by kernel_rfl) (S_val (.bool true) (by kernel_rfl) (S_nil (?_)))
    have HR := hr_neg HR Bool.false_ne_true
    refine R_ret hM7 rfl (.cons (.tmp _ (.bool true) (by kernel_rfl)) .nil) rfl ?_
    exact ⟨congrArg Ending.returned HR, hM7.below⟩
  · refine S_val (.bool false) (by kernel_rfl) (S_val (.bool false) (by kernel_rfl) (S_nil (?_)))
    have HR := hr_pos HR rfl
    refine R_ret hM7 rfl (.cons (.tmp _ (.bool false) (by kernel_rfl)) .nil) rfl ?_
    exact ⟨congrArg Ending.returned HR, hM7.below⟩

def e_slices_IndexFunc_g (r : Int) : Value := .int .i64 r
def s_slices_IndexFunc_g (p : (Int × Int × Int) × (Int × Int × Int) × (Int × Int × Int)) : Int :=
  lt (s_tri_Hit_1 p.1) fun r1 =>
  if r1 = true then
    0
  else
    lt (s_tri_Hit_1 p.2.1) fun r5 =>
    if r5 = true then
      1
    else
      lt (s_tri_Hit_1 p.2.2) fun r9 =>
      if r9 = true then
        2
      else
        (-1)
set_option maxRecDepth 100000 in
set_option maxHeartbeats 4000000 in
theorem w_slices_IndexFunc_g (p : (Int × Int × Int) × (Int × Int × Int) × (Int × Int × Int)) (B : Nat) (T : TypeId) (fr : Nat × Nat) (w : World) (hB : Has B (.cells #[.int .i64 p.1.1, .int .i64 p.1.2.1, .int .i64 p.1.2.2, .int .i64 p.2.1.1, .int .i64 p.2.1.2.1, .int .i64 p.2.1.2.2, .int .i64 p.2.2.1, .int .i64 p.2.2.2.1, .int .i64 p.2.2.2.2] T fr) w) : Calls Try.prog 84 #[.slice (some ⟨B, 0, none⟩) 3 3, .func (.func 66) #[] #[]] w (Ret (e_slices_IndexFunc_g (s_slices_IndexFunc_g p)) w) := by
  obtain ⟨R, HR⟩ : ∃ R, e_slices_IndexFunc_g (s_slices_IndexFunc_g p) = R := ⟨_, rfl⟩
  rw [HR]
  unfold s_slices_IndexFunc_g at HR
  have hM0 := St.start1 hB
  refine calls_run Try.func84 rfl ?_
  refine R_seq (R_region (S_val (.int .i64 0) (by kernel_rfl) (S_nil (R_seq (R_seq (R_region (S_val (.slice (some ⟨B, 0, none⟩) 3 3) (by kernel_rfl) (S_val (.int .i64 3) (by kernel_rfl) (S_val (.int .i64 0) (by kernel_rfl) (S_nil (R_block (?_))))))))))))
  refine R_loop (R_seq (R_region (S_val (.bool true) (by kernel_rfl) (S_nil (R_seq (R_yes (by kernel_rfl) (R_skip (R_seq (R_block (R_seq (R_region (?_))))))))))))
  refine S_val (.int .i64 0) (by kernel_rfl) (S_val (.int .i64 0) (by kernel_rfl) (S_nil (R_seq (R_region (S_val (.func (.func 66) #[] #[]) (by kernel_rfl) (S_val (.slice (some ⟨B, 0, none⟩) 3 3) (by kernel_rfl) (S_val (.int .i64 0) (by kernel_rfl) (S_val (.pointer (some ⟨B, 0, none⟩)) (by kernel_rfl) (S_load 0 0 (.agg #[.int .i64 p.1.1, .int .i64 p.1.2.1, .int .i64 p.1.2.2]) hM0 (by kernel_rfl) (S_call (s_tri_Hit_1 p.1) (fun r : Bool => .bool r) hM0 (w_tri_Hit_1 p.1 w) (by kernel_rfl) (fun r1 h2 w3 hM4 => ?_)))))))))))
  have HR := hr_lt HR h2
  cases r1
  · refine S_nil (R_no (by kernel_rfl) (R_skip (R_inBlock (R_region (S_val (.int .i64 1) (by kernel_rfl) (S_val (.int .i64 1) (by kernel_rfl) (S_nil (R_inLoop (R_seq (R_region (S_val (.bool true) (by kernel_rfl) (?_))))))))))))
    have HR := hr_neg HR Bool.false_ne_true
    refine S_nil (R_seq (R_yes (by kernel_rfl) (R_skip (R_seq (R_block (R_seq (R_region (S_val (.int .i64 1) (by kernel_rfl) (S_val (.int .i64 1) (by kernel_rfl) (S_nil (R_seq (?_))))))))))))
    refine R_region (S_val (.func (.func 66) #[] #[]) (by kernel_rfl) (S_val (.slice (some ⟨B, 0, none⟩) 3 3) (by kernel_rfl) (S_val (.int .i64 1) (by kernel_rfl) (S_val (.pointer (some ⟨B, 3, none⟩)) (by kernel_rfl) (S_load 0 3 (.agg #[.int .i64 p.2.1.1, .int .i64 p.2.1.2.1, .int .i64 p.2.1.2.2]) hM4 (by kernel_rfl) (S_call (s_tri_Hit_1 p.2.1) (fun r : Bool => .bool r) hM4 (w_tri_Hit_1 p.2.1 w3) (by kernel_rfl) (fun r5 h6 w7 hM8 => ?_)))))))
    have HR := hr_lt HR h6
    cases r5
    · refine S_nil (R_no (by kernel_rfl) (R_skip (R_inBlock (R_region (S_val (.int .i64 2) (by kernel_rfl) (S_val (.int .i64 2) (by kernel_rfl) (S_nil (R_inLoop (R_seq (R_region (S_val (.bool true) (by kernel_rfl) (?_))))))))))))
      have HR := hr_neg HR Bool.false_ne_true
      refine S_nil (R_seq (R_yes (by kernel_rfl) (R_skip (R_seq (R_block (R_seq (R_region (S_val (.int .i64 2) (by kernel_rfl) (S_val (.int .i64 2) (by kernel_rfl) (S_nil (R_seq (?_))))))))))))
      refine R_region (S_val (.func (.func 66) #[] #[]) (by kernel_rfl) (S_val (.slice (some ⟨B, 0, none⟩) 3 3) (by kernel_rfl) (S_val (.int .i64 2) (by kernel_rfl) (S_val (.pointer (some ⟨B, 6, none⟩)) (by kernel_rfl) (S_load 0 6 (.agg #[.int .i64 p.2.2.1, .int .i64 p.2.2.2.1, .int .i64 p.2.2.2.2]) hM8 (by kernel_rfl) (S_call (s_tri_Hit_1 p.2.2) (fun r : Bool => .bool r) hM8 (w_tri_Hit_1 p.2.2 w7) (by kernel_rfl) (fun r9 h10 w11 hM12 => ?_)))))))
      have HR := hr_lt HR h10
      cases r9
      · refine S_nil (R_no (by kernel_rfl) (R_skip (R_inBlock (R_region (S_val (.int .i64 3) (by kernel_rfl) (S_val (.int .i64 3) (by kernel_rfl) (S_nil (R_inLoop (R_seq (R_region (S_val (.bool false) (by kernel_rfl) (?_))))))))))))
        have HR := hr_neg HR Bool.false_ne_true
        refine S_nil (R_seq (R_no (by kernel_rfl) (R_exit rfl (R_seq (R_region (S_val (.int .i64 (-1)) (by kernel_rfl) (S_nil (?_))))))))
        refine R_ret hM12 rfl (.cons (.tmp _ (.int .i64 (-1)) (by kernel_rfl)) .nil) rfl ?_
        exact ⟨congrArg Ending.returned HR, hM12.below⟩
      · refine S_nil (R_yes (by kernel_rfl) (R_seq (R_region (S_val (.int .i64 2) (by kernel_rfl) (S_val (.int .i64 2) (by kernel_rfl) (S_nil (?_)))))))
        have HR := hr_pos HR rfl
        refine R_ret hM12 rfl (.cons (.tmp _ (.int .i64 2) (by kernel_rfl)) .nil) rfl ?_
        exact ⟨congrArg Ending.returned HR, hM12.below⟩
    · refine S_nil (R_yes (by kernel_rfl) (R_seq (R_region (S_val (.int .i64 1) (by kernel_rfl) (S_val (.int .i64 1) (by kernel_rfl) (S_nil (?_)))))))
      have HR := hr_pos HR rfl
      refine R_ret hM8 rfl (.cons (.tmp _ (.int .i64 1) (by kernel_rfl)) .nil) rfl ?_
      exact ⟨congrArg Ending.returned HR, hM8.below⟩
  · refine S_nil (R_yes (by kernel_rfl) (R_seq (R_region (S_val (.int .i64 0) (by kernel_rfl) (S_val (.int .i64 0) (by kernel_rfl) (S_nil (?_)))))))
    have HR := hr_pos HR rfl
    refine R_ret hM4 rfl (.cons (.tmp _ (.int .i64 0) (by kernel_rfl)) .nil) rfl ?_
    exact ⟨congrArg Ending.returned HR, hM4.below⟩

def e_slices_ContainsFunc_g (r : Bool) : Value := .bool r
def s_slices_ContainsFunc_g (p : (Int × Int × Int) × (Int × Int × Int) × (Int × Int × Int)) : Bool :=
  lt (s_slices_IndexFunc_g p) fun r1 =>
  if r1 ≥ 0 then
    true
  else
    false
set_option maxRecDepth 100000 in
set_option maxHeartbeats 4000000 in
theorem w_slices_ContainsFunc_g (p : (Int × Int × Int) × (Int × Int × Int) × (Int × Int × Int)) (B : Nat) (T : TypeId) (fr : Nat × Nat) (w : World) (hB : Has B (.cells #[.int .i64 p.1.1, .int .i64 p.1.2.1, .int .i64 p.1.2.2, .int .i64 p.2.1.1, .int .i64 p.2.1.2.1, .int .i64 p.2.1.2.2, .int .i64 p.2.2.1, .int .i64 p.2.2.2.1, .int .i64 p.2.2.2.2] T fr) w) : Calls Try.prog 68 #[.slice (some ⟨B, 0, none⟩) 3 3, .func (.func 66) #[] #[]] w (Ret (e_slices_ContainsFunc_g (s_slices_ContainsFunc_g p)) w) := by
  obtain ⟨R, HR⟩ : ∃ R, e_slices_ContainsFunc_g (s_slices_ContainsFunc_g p) = R := ⟨_, rfl⟩
  rw [HR]
  unfold s_slices_ContainsFunc_g at HR
  have hM0 := St.start1 hB
  refine calls_run Try.func68 rfl ?_
  refine R_seq (R_region (S_val (.bool false) (by kernel_rfl) (S_nil (R_seq (R_region (S_val (.slice (some ⟨B, 0, none⟩) 3 3) (by kernel_rfl) (S_val (.func (.func 66) #[] #[]) (by kernel_rfl) (S_call (s_slices_IndexFunc_g p) (fun r : Int => .int .i64 r) hM0 ((fun w hM => w_slices_IndexFunc_g p B _ _ w (hM.at 0 rfl)) w hM0) (by kernel_rfl) (fun r1 h2 w3 hM4 => ?_)))))))))
  have HR := hr_lt HR h2
  refine S_dec (r1 ≥ 0) (by kernel_rfl) (fun c5 => ?_) (fun c5 => ?_)
  · refine S_val (.bool true) (by kernel_rfl) (S_nil (?_))
    have HR := hr_pos HR c5
    refine R_ret hM4 rfl (.cons (.tmp _ (.bool true) (by kernel_rfl)) .nil) rfl ?_
    exact ⟨congrArg Ending.returned HR, hM4.below⟩
  · refine S_val (.bool false) (by kernel_rfl) (S_nil (?_))
    have HR := hr_neg HR c5
    refine R_ret hM4 rfl (.cons (.tmp _ (.bool false) (by kernel_rfl)) .nil) rfl ?_
    exact ⟨congrArg Ending.returned HR, hM4.below⟩

def e_tri_Hit (r : (Int × Int × Int × Int) × Bool) : Value := .tuple #[.agg #[.int .i64 r.1.1, .int .i64 r.1.2.1, .int .i64 r.1.2.2.1, .int .i64 r.1.2.2.2], .bool r.2]
def s_tri_Hit (o : Int × Int × Int) (d1_ : Int × Int × Int) (p : (Int × Int × Int) × (Int × Int × Int) × (Int × Int × Int)) : (Int × Int × Int × Int) × Bool :=
  lt (s_tri_May o d1_) fun r13 =>
  if r13 = true then
    lt (s_slices_ContainsFunc_g p) fun r19 =>
    if r19 = true then
      ((0, 0, 0, 0), false)
    else
      lt (s_tri_Sub p.2.1 p.1) fun r26 =>
      lt (s_tri_Sub p.2.2 p.1) fun r28 =>
      lt (s_tri_Cross d1_ r28) fun r44 =>
      lt (s_tri_Sub o p.1) fun r53 =>
      lt (s_tri_Cross r53 r26) fun r62 =>
      lt (s_tri_Dot r28 r62) fun r74 =>
      lt (s_tri_Dot r26 r44) fun r76 =>
      lt (s_tri_Dot r53 r44) fun r78 =>
      lt (s_tri_Dot d1_ r62) fun r80 =>
      if r76 < 0 then
        lt (IntKind.i64.wrap (0 - r74)) fun x87 =>
        lt (IntKind.i64.wrap (0 - r76)) fun x89 =>
        lt (IntKind.i64.wrap (0 - r78)) fun x91 =>
        lt (IntKind.i64.wrap (0 - r80)) fun x93 =>
        if x89 = 0 then
          ((0, 0, 0, 0), false)
        else
          if x91 < 0 then
            ((0, 0, 0, 0), false)
          else
            if x93 < 0 then
              ((0, 0, 0, 0), false)
            else
              lt (IntKind.i64.wrap (x91 + x93)) fun x106 =>
              if x106 > x89 then
                ((0, 0, 0, 0), false)
              else
                if x87 ≤ 0 then
                  ((0, 0, 0, 0), false)
                else
                  ((x87, x89, x91, x93), true)
      else
        if r76 = 0 then
          ((0, 0, 0, 0), false)
        else
          if r78 < 0 then
            ((0, 0, 0, 0), false)
          else
            if r80 < 0 then
              ((0, 0, 0, 0), false)
            else
              lt (IntKind.i64.wrap (r78 + r80)) fun x125 =>
              if x125 > r76 then
                ((0, 0, 0, 0), false)
              else
                if r74 ≤ 0 then
                  ((0, 0, 0, 0), false)
                else
                  ((r74, r76, r78, r80), true)
  else
    ((0, 0, 0, 0), false)
set_option maxRecDepth 100000 in
set_option maxHeartbeats 4000000 in
theorem w_tri_Hit (o : Int × Int × Int) (d1_ : Int × Int × Int) (p : (Int × Int × Int) × (Int × Int × Int) × (Int × Int × Int)) (w : World) : Calls Try.prog 32 #[.agg #[.int .i64 o.1, .int .i64 o.2.1, .int .i64 o.2.2], .agg #[.int .i64 d1_.1, .int .i64 d1_.2.1, .int .i64 d1_.2.2], .agg #[.int .i64 p.1.1, .int .i64 p.1.2.1, .int .i64 p.1.2.2, .int .i64 p.2.1.1, .int .i64 p.2.1.2.1, .int .i64 p.2.1.2.2, .int .i64 p.2.2.1, .int .i64 p.2.2.2.1, .int .i64 p.2.2.2.2]] w (Ret (e_tri_Hit (s_tri_Hit o d1_ p)) w) := by
  obtain ⟨R, HR⟩ : ∃ R, e_tri_Hit (s_tri_Hit o d1_ p) = R := ⟨_, rfl⟩
  rw [HR]
  unfold s_tri_Hit at HR
  have hM0 := St.start w
  refine calls_run Try.func32 rfl ?_
  refine R_seq (R_region (S_fresh none #[.int .i64 o.1, .int .i64 o.2.1, .int .i64 o.2.2] 23 hM0 (by kernel_rfl) (fun g1 w2 hM3 => S_fresh none #[.int .i64 d1_.1, .int .i64 d1_.2.1, .int .i64 d1_.2.2] 23 hM3 (by kernel_rfl) (fun g4 w5 hM6 => S_fresh none #[.int .i64 p.1.1, .int .i64 p.1.2.1, .int .i64 p.1.2.2, .int .i64 p.2.1.1, .int .i64 p.2.1.2.1, .int .i64 p.2.1.2.2, .int .i64 p.2.2.1, .int .i64 p.2.2.2.1, .int .i64 p.2.2.2.2] 48 hM6 (by kernel_rfl) (fun g7 w8 hM9 => S_fresh none #[.int .i64 0, .int .i64 0, .int .i64 0, .int .i64 0] 50 hM9 (by kernel_rfl) (fun g10 w11 hM12 => S_val (.bool false) (by kernel_rfl) (S_nil (R_seq (R_region (S_val (.func (.func 66) #[] #[]) (by kernel_rfl) (S_nil (?_))))))))))))
  refine R_seq (R_seq (R_region (S_load 3 0 (.agg #[.int .i64 o.1, .int .i64 o.2.1, .int .i64 o.2.2]) hM12 (by kernel_rfl) (S_load 2 0 (.agg #[.int .i64 d1_.1, .int .i64 d1_.2.1, .int .i64 d1_.2.2]) hM12 (by kernel_rfl) (S_call (s_tri_May o d1_) (fun r : Bool => .bool r) hM12 (w_tri_May o d1_ w11) (by kernel_rfl) (fun r13 h14 w15 hM16 => ?_))))))
  have HR := hr_lt HR h14
  cases r13
  · refine S_val (.bool true) (by kernel_rfl) (S_val (.bool true) (by kernel_rfl) (S_skip (by kernel_rfl) (S_skip (by kernel_rfl) (S_skip (by kernel_rfl) (S_val (.bool true) (by kernel_rfl) (S_nil (R_yes (by kernel_rfl) (R_seq (R_region (S_load 0 0 (.agg #[.int .i64 0, .int .i64 0, .int .i64 0, .int .i64 0]) hM16 (by kernel_rfl) (S_store 0 0 #[.int .i64 0, .int .i64 0, .int .i64 0, .int .i64 0] hM16 (by kernel_rfl) (fun w17 hM18 => ?_))))))))))))
    have HR := hr_neg HR Bool.false_ne_true
    refine S_val (.bool false) (by kernel_rfl) (S_nil (?_))
    refine R_ret hM18 rfl (.cons (.cell _ _ 0 0 (.agg #[.int .i64 0, .int .i64 0, .int .i64 0, .int .i64 0]) (by kernel_rfl)) (.cons (.tmp _ (.bool false) (by kernel_rfl)) .nil)) rfl ?_
    exact ⟨congrArg Ending.returned HR, hM18.below⟩
  · refine S_val (.bool false) (by kernel_rfl) (S_val (.bool false) (by kernel_rfl) (S_val (.slice (some ⟨g7, 0, none⟩) 3 3) (by kernel_rfl) (S_val (.func (.func 66) #[] #[]) (by kernel_rfl) (S_call (s_slices_ContainsFunc_g p) (fun r : Bool => .bool r) hM16 ((fun w hM => w_slices_ContainsFunc_g p g7 _ _ w (hM.at 1 rfl)) w15 hM16) (by kernel_rfl) (fun r19 h20 w21 hM22 => ?_)))))
    have HR := hr_pos HR rfl
    have HR := hr_lt HR h20
    cases r19
    · refine S_val (.bool false) (by kernel_rfl) (S_nil (R_no (by kernel_rfl) (R_skip (R_seq (R_drawF 12 (by kernel_rfl) (fun F23 U24 hL25 => F_val (.pointer (some ⟨g7, 3, none⟩)) (fun _ => by kernel_rfl) (F_load 1 3 (.agg #[.int .i64 p.2.1.1, .int .i64 p.2.1.2.1, .int .i64 p.2.1.2.2]) hM22 (by kernel_rfl) (F_val (.pointer (some ⟨g7, 0, none⟩)) (fun _ => by kernel_rfl) (F_load 1 0 (.agg #[.int .i64 p.1.1, .int .i64 p.1.2.1, .int .i64 p.1.2.2]) hM22 (by kernel_rfl) (F_call (s_tri_Sub p.2.1 p.1) (fun r : Int × Int × Int => .agg #[.int .i64 r.1, .int .i64 r.2.1, .int .i64 r.2.2]) hM22 hL25 (fun w' hM' => w_tri_Sub p.2.1 p.1 w') (by kernel_rfl) (fun _ => by kernel_rfl) (fun r26 h27 => F_val (.pointer (some ⟨g7, 6, none⟩)) (fun _ => by kernel_rfl) (?_))))))))))))
      have HR := hr_neg HR Bool.false_ne_true
      have HR := hr_lt HR h27
      refine F_load 1 6 (.agg #[.int .i64 p.2.2.1, .int .i64 p.2.2.2.1, .int .i64 p.2.2.2.2]) hM22 (by kernel_rfl) (F_val (.pointer (some ⟨g7, 0, none⟩)) (fun _ => by kernel_rfl) (F_load 1 0 (.agg #[.int .i64 p.1.1, .int .i64 p.1.2.1, .int .i64 p.1.2.2]) hM22 (by kernel_rfl) (F_call (s_tri_Sub p.2.2 p.1) (fun r : Int × Int × Int => .agg #[.int .i64 r.1, .int .i64 r.2.1, .int .i64 r.2.2]) hM22 hL25 (fun w' hM' => w_tri_Sub p.2.2 p.1 w') (by kernel_rfl) (fun _ => by kernel_rfl) (fun r28 h29 => F_fresh none #[.int .i64 0, .int .i64 0, .int .i64 0] 23 hL25 (by kernel_rfl) (fun _ => by kernel_rfl) (fun g30 F31 U32 hL33 => F_fresh none #[.int .i64 0, .int .i64 0, .int .i64 0] 23 hL33 (by kernel_rfl) (fun _ => by kernel_rfl) (fun g34 F35 U36 hL37 => F_nil hM22 hL37 (fun w38 hM39 => S_store 1 0 #[.int .i64 r26.1, .int .i64 r26.2.1, .int .i64 r26.2.2] hM39 (by kernel_rfl) (fun w40 hM41 => S_store 0 0 #[.int .i64 r28.1, .int .i64 r28.2.1, .int .i64 r28.2.2] hM41 (by kernel_rfl) (fun w42 hM43 => S_nil (R_seq (R_region (?_))))))))))))
      have HR := hr_lt HR h29
      refine S_load 4 0 (.agg #[.int .i64 d1_.1, .int .i64 d1_.2.1, .int .i64 d1_.2.2]) hM43 (by kernel_rfl) (S_load 0 0 (.agg #[.int .i64 r28.1, .int .i64 r28.2.1, .int .i64 r28.2.2]) hM43 (by kernel_rfl) (S_call (s_tri_Cross d1_ r28) (fun r : Int × Int × Int => .agg #[.int .i64 r.1, .int .i64 r.2.1, .int .i64 r.2.2]) hM43 (w_tri_Cross d1_ r28 w42) (by kernel_rfl) (fun r44 h45 w46 hM47 => S_fresh none #[.int .i64 0, .int .i64 0, .int .i64 0] 23 hM47 (by kernel_rfl) (fun g48 w49 hM50 => S_store 0 0 #[.int .i64 r44.1, .int .i64 r44.2.1, .int .i64 r44.2.2] hM50 (by kernel_rfl) (fun w51 hM52 => S_nil (R_seq (R_region (S_load 6 0 (.agg #[.int .i64 o.1, .int .i64 o.2.1, .int .i64 o.2.2]) hM52 (by kernel_rfl) (S_val (.pointer (some ⟨g7, 0, none⟩)) (by kernel_rfl) (S_load 4 0 (.agg #[.int .i64 p.1.1, .int .i64 p.1.2.1, .int .i64 p.1.2.2]) hM52 (by kernel_rfl) (S_call (s_tri_Sub o p.1) (fun r : Int × Int × Int => .agg #[.int .i64 r.1, .int .i64 r.2.1, .int .i64 r.2.2]) hM52 (w_tri_Sub o p.1 w51) (by kernel_rfl) (fun r53 h54 w55 hM56 => ?_))))))))))))
      have HR := hr_lt HR h45
      have HR := hr_lt HR h54
      refine S_fresh none #[.int .i64 0, .int .i64 0, .int .i64 0] 23 hM56 (by kernel_rfl) (fun g57 w58 hM59 => S_store 0 0 #[.int .i64 r53.1, .int .i64 r53.2.1, .int .i64 r53.2.2] hM59 (by kernel_rfl) (fun w60 hM61 => S_nil (R_seq (R_region (S_load 0 0 (.agg #[.int .i64 r53.1, .int .i64 r53.2.1, .int .i64 r53.2.2]) hM61 (by kernel_rfl) (S_load 3 0 (.agg #[.int .i64 r26.1, .int .i64 r26.2.1, .int .i64 r26.2.2]) hM61 (by kernel_rfl) (S_call (s_tri_Cross r53 r26) (fun r : Int × Int × Int => .agg #[.int .i64 r.1, .int .i64 r.2.1, .int .i64 r.2.2]) hM61 (w_tri_Cross r53 r26 w60) (by kernel_rfl) (fun r62 h63 w64 hM65 => S_fresh none #[.int .i64 0, .int .i64 0, .int .i64 0] 23 hM65 (by kernel_rfl) (fun g66 w67 hM68 => S_store 0 0 #[.int .i64 r62.1, .int .i64 r62.2.1, .int .i64 r62.2.2] hM68 (by kernel_rfl) (fun w69 hM70 => S_nil (R_seq (?_))))))))))))
      have HR := hr_lt HR h63
      refine R_drawF 13 (by kernel_rfl) (fun F71 U72 hL73 => F_load 3 0 (.agg #[.int .i64 r28.1, .int .i64 r28.2.1, .int .i64 r28.2.2]) hM70 (by kernel_rfl) (F_load 0 0 (.agg #[.int .i64 r62.1, .int .i64 r62.2.1, .int .i64 r62.2.2]) hM70 (by kernel_rfl) (F_call (s_tri_Dot r28 r62) (fun r : Int => .int .i64 r) hM70 hL73 (fun w' hM' => w_tri_Dot r28 r62 w') (by kernel_rfl) (fun _ => by kernel_rfl) (fun r74 h75 => F_load 4 0 (.agg #[.int .i64 r26.1, .int .i64 r26.2.1, .int .i64 r26.2.2]) hM70 (by kernel_rfl) (F_load 2 0 (.agg #[.int .i64 r44.1, .int .i64 r44.2.1, .int .i64 r44.2.2]) hM70 (by kernel_rfl) (F_call (s_tri_Dot r26 r44) (fun r : Int => .int .i64 r) hM70 hL73 (fun w' hM' => w_tri_Dot r26 r44 w') (by kernel_rfl) (fun _ => by kernel_rfl) (fun r76 h77 => F_load 1 0 (.agg #[.int .i64 r53.1, .int .i64 r53.2.1, .int .i64 r53.2.2]) hM70 (by kernel_rfl) (F_load 2 0 (.agg #[.int .i64 r44.1, .int .i64 r44.2.1, .int .i64 r44.2.2]) hM70 (by kernel_rfl) (F_call (s_tri_Dot r53 r44) (fun r : Int => .int .i64 r) hM70 hL73 (fun w' hM' => w_tri_Dot r53 r44 w') (by kernel_rfl) (fun _ => by kernel_rfl) (fun r78 h79 => F_load 7 0 (.agg #[.int .i64 d1_.1, .int .i64 d1_.2.1, .int .i64 d1_.2.2]) hM70 (by kernel_rfl) (F_load 0 0 (.agg #[.int .i64 r62.1, .int .i64 r62.2.1, .int .i64 r62.2.2]) hM70 (by kernel_rfl) (?_))))))))))))
      have HR := hr_lt HR h75
      have HR := hr_lt HR h77
      have HR := hr_lt HR h79
      refine F_call (s_tri_Dot d1_ r62) (fun r : Int => .int .i64 r) hM70 hL73 (fun w' hM' => w_tri_Dot d1_ r62 w') (by kernel_rfl) (fun _ => by kernel_rfl) (fun r80 h81 => F_val (.agg #[.int .i64 r74, .int .i64 r76, .int .i64 r78, .int .i64 r80]) (fun _ => by kernel_rfl) (F_nil hM70 hL73 (fun w82 hM83 => S_store 5 0 #[.int .i64 r74, .int .i64 r76, .int .i64 r78, .int .i64 r80] hM83 (by kernel_rfl) (fun w84 hM85 => S_nil (R_seq (R_seq (R_region (S_val (.pointer (some ⟨g10, 1, none⟩)) (by kernel_rfl) (S_load 5 1 (.int .i64 r76) hM85 (by kernel_rfl) (?_))))))))))
      have HR := hr_lt HR h81
      refine S_dec (r76 < 0) (by kernel_rfl) (fun c86 => ?_) (fun c86 => ?_)
      · refine S_nil (R_yes (by kernel_rfl) (R_region (S_val (.pointer (some ⟨g10, 0, none⟩)) (by kernel_rfl) (S_load 5 0 (.int .i64 r74) hM85 (by kernel_rfl) (S_int (IntKind.i64.wrap (0 - r74)) .i64 (by kernel_rfl) (fun x87 h88 => S_val (.pointer (some ⟨g10, 1, none⟩)) (by kernel_rfl) (S_load 5 1 (.int .i64 r76) hM85 (by kernel_rfl) (S_int (IntKind.i64.wrap (0 - r76)) .i64 (by kernel_rfl) (fun x89 h90 => S_val (.pointer (some ⟨g10, 2, none⟩)) (by kernel_rfl) (S_load 5 2 (.int .i64 r78) hM85 (by kernel_rfl) (S_int (IntKind.i64.wrap (0 - r78)) .i64 (by kernel_rfl) (fun x91 h92 => ?_))))))))))))
        have HR := hr_pos HR c86
        have HR := hr_lt HR h88
        have HR := hr_lt HR h90
        have HR := hr_lt HR h92
        refine S_val (.pointer (some ⟨g10, 3, none⟩)) (by kernel_rfl) (S_load 5 3 (.int .i64 r80) hM85 (by kernel_rfl) (S_int (IntKind.i64.wrap (0 - r80)) .i64 (by kernel_rfl) (fun x93 h94 => S_val (.agg #[.int .i64 x87, .int .i64 x89, .int .i64 x91, .int .i64 x93]) (by kernel_rfl) (S_store 5 0 #[.int .i64 x87, .int .i64 x89, .int .i64 x91, .int .i64 x93] hM85 (by kernel_rfl) (fun w95 hM96 => S_nil (R_seq (R_seq (R_region (S_val (.pointer (some ⟨g10, 1, none⟩)) (by kernel_rfl) (S_load 5 1 (.int .i64 x89) hM96 (by kernel_rfl) (?_)))))))))))
        have HR := hr_lt HR h94
        refine S_dec (x89 = 0) (by kernel_rfl) (fun c97 => ?_) (fun c97 => ?_)
        · refine S_val (.bool true) (by kernel_rfl) (S_skip (by kernel_rfl) (S_skip (by kernel_rfl) (S_skip (by kernel_rfl) (S_val (.bool true) (by kernel_rfl) (S_val (.bool true) (by kernel_rfl) (S_skip (by kernel_rfl) (S_skip (by kernel_rfl) (S_skip (by kernel_rfl) (S_val (.bool true) (by kernel_rfl) (S_val (.bool true) (by kernel_rfl) (S_skip (by kernel_rfl) (?_))))))))))))
          have HR := hr_pos HR c97
          refine S_skip (by kernel_rfl) (S_skip (by kernel_rfl) (S_skip (by kernel_rfl) (S_skip (by kernel_rfl) (S_skip (by kernel_rfl) (S_skip (by kernel_rfl) (S_skip (by kernel_rfl) (S_val (.bool true) (by kernel_rfl) (S_val (.bool true) (by kernel_rfl) (S_skip (by kernel_rfl) (S_skip (by kernel_rfl) (S_skip (by kernel_rfl) (?_))))))))))))
          refine S_val (.bool true) (by kernel_rfl) (S_nil (R_yes (by kernel_rfl) (R_seq (R_region (S_val (.agg #[.int .i64 0, .int .i64 0, .int .i64 0, .int .i64 0]) (by kernel_rfl) (S_store 5 0 #[.int .i64 0, .int .i64 0, .int .i64 0, .int .i64 0] hM96 (by kernel_rfl) (fun w98 hM99 => S_val (.bool false) (by kernel_rfl) (S_nil (?_)))))))))
          refine R_ret hM99 rfl (.cons (.cell _ _ 5 0 (.agg #[.int .i64 0, .int .i64 0, .int .i64 0, .int .i64 0]) (by kernel_rfl)) (.cons (.tmp _ (.bool false) (by kernel_rfl)) .nil)) rfl ?_
          exact ⟨congrArg Ending.returned HR, hM99.below⟩
        · refine S_val (.bool false) (by kernel_rfl) (S_val (.pointer (some ⟨g10, 2, none⟩)) (by kernel_rfl) (S_load 5 2 (.int .i64 x91) hM96 (by kernel_rfl) (?_)))
          have HR := hr_neg HR c97
          refine S_dec (x91 < 0) (by kernel_rfl) (fun c100 => ?_) (fun c100 => ?_)
          · refine S_val (.bool true) (by kernel_rfl) (S_val (.bool true) (by kernel_rfl) (S_skip (by kernel_rfl) (S_skip (by kernel_rfl) (S_skip (by kernel_rfl) (S_val (.bool true) (by kernel_rfl) (S_val (.bool true) (by kernel_rfl) (S_skip (by kernel_rfl) (S_skip (by kernel_rfl) (S_skip (by kernel_rfl) (S_skip (by kernel_rfl) (S_skip (by kernel_rfl) (?_))))))))))))
            have HR := hr_pos HR c100
            refine S_skip (by kernel_rfl) (S_skip (by kernel_rfl) (S_skip (by kernel_rfl) (S_val (.bool true) (by kernel_rfl) (S_val (.bool true) (by kernel_rfl) (S_skip (by kernel_rfl) (S_skip (by kernel_rfl) (S_skip (by kernel_rfl) (S_val (.bool true) (by kernel_rfl) (S_nil (R_yes (by kernel_rfl) (R_seq (?_))))))))))))
            refine R_region (S_val (.agg #[.int .i64 0, .int .i64 0, .int .i64 0, .int .i64 0]) (by kernel_rfl) (S_store 5 0 #[.int .i64 0, .int .i64 0, .int .i64 0, .int .i64 0] hM96 (by kernel_rfl) (fun w101 hM102 => S_val (.bool false) (by kernel_rfl) (S_nil (?_)))))
            refine R_ret hM102 rfl (.cons (.cell _ _ 5 0 (.agg #[.int .i64 0, .int .i64 0, .int .i64 0, .int .i64 0]) (by kernel_rfl)) (.cons (.tmp _ (.bool false) (by kernel_rfl)) .nil)) rfl ?_
            exact ⟨congrArg Ending.returned HR, hM102.below⟩
          · refine S_val (.bool false) (by kernel_rfl) (S_val (.bool false) (by kernel_rfl) (S_val (.pointer (some ⟨g10, 3, none⟩)) (by kernel_rfl) (S_load 5 3 (.int .i64 x93) hM96 (by kernel_rfl) (?_))))
            have HR := hr_neg HR c100
            refine S_dec (x93 < 0) (by kernel_rfl) (fun c103 => ?_) (fun c103 => ?_)
            · refine S_val (.bool true) (by kernel_rfl) (S_val (.bool true) (by kernel_rfl) (S_skip (by kernel_rfl) (S_skip (by kernel_rfl) (S_skip (by kernel_rfl) (S_skip (by kernel_rfl) (S_skip (by kernel_rfl) (S_skip (by kernel_rfl) (S_skip (by kernel_rfl) (S_skip (by kernel_rfl) (S_val (.bool true) (by kernel_rfl) (S_val (.bool true) (by kernel_rfl) (?_))))))))))))
              have HR := hr_pos HR c103
              refine S_skip (by kernel_rfl) (S_skip (by kernel_rfl) (S_skip (by kernel_rfl) (S_val (.bool true) (by kernel_rfl) (S_nil (R_yes (by kernel_rfl) (R_seq (R_region (S_val (.agg #[.int .i64 0, .int .i64 0, .int .i64 0, .int .i64 0]) (by kernel_rfl) (S_store 5 0 #[.int .i64 0, .int .i64 0, .int .i64 0, .int .i64 0] hM96 (by kernel_rfl) (fun w104 hM105 => S_val (.bool false) (by kernel_rfl) (S_nil (?_))))))))))))
              refine R_ret hM105 rfl (.cons (.cell _ _ 5 0 (.agg #[.int .i64 0, .int .i64 0, .int .i64 0, .int .i64 0]) (by kernel_rfl)) (.cons (.tmp _ (.bool false) (by kernel_rfl)) .nil)) rfl ?_
              exact ⟨congrArg Ending.returned HR, hM105.below⟩
            · refine S_val (.bool false) (by kernel_rfl) (S_val (.bool false) (by kernel_rfl) (S_val (.pointer (some ⟨g10, 2, none⟩)) (by kernel_rfl) (S_load 5 2 (.int .i64 x91) hM96 (by kernel_rfl) (S_val (.pointer (some ⟨g10, 3, none⟩)) (by kernel_rfl) (S_load 5 3 (.int .i64 x93) hM96 (by kernel_rfl) (S_int (IntKind.i64.wrap (x91 + x93)) .i64 (by kernel_rfl) (fun x106 h107 => S_val (.pointer (some ⟨g10, 1, none⟩)) (by kernel_rfl) (S_load 5 1 (.int .i64 x89) hM96 (by kernel_rfl) (?_)))))))))
              have HR := hr_neg HR c103
              have HR := hr_lt HR h107
              refine S_dec (x106 > x89) (by kernel_rfl) (fun c108 => ?_) (fun c108 => ?_)
              · refine S_val (.bool true) (by kernel_rfl) (S_val (.bool true) (by kernel_rfl) (S_skip (by kernel_rfl) (S_skip (by kernel_rfl) (S_skip (by kernel_rfl) (S_val (.bool true) (by kernel_rfl) (S_nil (R_yes (by kernel_rfl) (R_seq (R_region (S_val (.agg #[.int .i64 0, .int .i64 0, .int .i64 0, .int .i64 0]) (by kernel_rfl) (S_store 5 0 #[.int .i64 0, .int .i64 0, .int .i64 0, .int .i64 0] hM96 (by kernel_rfl) (fun w109 hM110 => ?_))))))))))))
                have HR := hr_pos HR c108
                refine S_val (.bool false) (by kernel_rfl) (S_nil (?_))
                refine R_ret hM110 rfl (.cons (.cell _ _ 5 0 (.agg #[.int .i64 0, .int .i64 0, .int .i64 0, .int .i64 0]) (by kernel_rfl)) (.cons (.tmp _ (.bool false) (by kernel_rfl)) .nil)) rfl ?_
                exact ⟨congrArg Ending.returned HR, hM110.below⟩
              · refine S_val (.bool false) (by kernel_rfl) (S_val (.bool false) (by kernel_rfl) (S_val (.pointer (some ⟨g10, 0, none⟩)) (by kernel_rfl) (S_load 5 0 (.int .i64 x87) hM96 (by kernel_rfl) (?_))))
                have HR := hr_neg HR c108
                refine S_dec (x87 ≤ 0) (by kernel_rfl) (fun c111 => ?_) (fun c111 => ?_)
                · refine S_val (.bool true) (by kernel_rfl) (S_nil (R_yes (by kernel_rfl) (R_seq (R_region (S_val (.agg #[.int .i64 0, .int .i64 0, .int .i64 0, .int .i64 0]) (by kernel_rfl) (S_store 5 0 #[.int .i64 0, .int .i64 0, .int .i64 0, .int .i64 0] hM96 (by kernel_rfl) (fun w112 hM113 => S_val (.bool false) (by kernel_rfl) (S_nil (?_)))))))))
                  have HR := hr_pos HR c111
                  refine R_ret hM113 rfl (.cons (.cell _ _ 5 0 (.agg #[.int .i64 0, .int .i64 0, .int .i64 0, .int .i64 0]) (by kernel_rfl)) (.cons (.tmp _ (.bool false) (by kernel_rfl)) .nil)) rfl ?_
                  exact ⟨congrArg Ending.returned HR, hM113.below⟩
                · refine S_val (.bool false) (by kernel_rfl) (S_nil (R_no (by kernel_rfl) (R_skip (R_seq (R_region (S_load 5 0 (.agg #[.int .i64 x87, .int .i64 x89, .int .i64 x91, .int .i64 x93]) hM96 (by kernel_rfl) (S_store 5 0 #[.int .i64 x87, .int .i64 x89, .int .i64 x91, .int .i64 x93] hM96 (by kernel_rfl) (fun w114 hM115 => S_val (.bool true) (by kernel_rfl) (S_nil (?_))))))))))
                  have HR := hr_neg HR c111
                  refine R_ret hM115 rfl (.cons (.cell _ _ 5 0 (.agg #[.int .i64 x87, .int .i64 x89, .int .i64 x91, .int .i64 x93]) (by kernel_rfl)) (.cons (.tmp _ (.bool true) (by kernel_rfl)) .nil)) rfl ?_
                  exact ⟨congrArg Ending.returned HR, hM115.below⟩
      · refine S_nil (R_no (by kernel_rfl) (R_skip (R_seq (R_seq (R_region (S_val (.pointer (some ⟨g10, 1, none⟩)) (by kernel_rfl) (S_load 5 1 (.int .i64 r76) hM85 (by kernel_rfl) (?_))))))))
        have HR := hr_neg HR c86
        refine S_dec (r76 = 0) (by kernel_rfl) (fun c116 => ?_) (fun c116 => ?_)
        · refine S_val (.bool true) (by kernel_rfl) (S_skip (by kernel_rfl) (S_skip (by kernel_rfl) (S_skip (by kernel_rfl) (S_val (.bool true) (by kernel_rfl) (S_val (.bool true) (by kernel_rfl) (S_skip (by kernel_rfl) (S_skip (by kernel_rfl) (S_skip (by kernel_rfl) (S_val (.bool true) (by kernel_rfl) (S_val (.bool true) (by kernel_rfl) (S_skip (by kernel_rfl) (?_))))))))))))
          have HR := hr_pos HR c116
          refine S_skip (by kernel_rfl) (S_skip (by kernel_rfl) (S_skip (by kernel_rfl) (S_skip (by kernel_rfl) (S_skip (by kernel_rfl) (S_skip (by kernel_rfl) (S_skip (by kernel_rfl) (S_val (.bool true) (by kernel_rfl) (S_val (.bool true) (by kernel_rfl) (S_skip (by kernel_rfl) (S_skip (by kernel_rfl) (S_skip (by kernel_rfl) (?_))))))))))))
          refine S_val (.bool true) (by kernel_rfl) (S_nil (R_yes (by kernel_rfl) (R_seq (R_region (S_val (.agg #[.int .i64 0, .int .i64 0, .int .i64 0, .int .i64 0]) (by kernel_rfl) (S_store 5 0 #[.int .i64 0, .int .i64 0, .int .i64 0, .int .i64 0] hM85 (by kernel_rfl) (fun w117 hM118 => S_val (.bool false) (by kernel_rfl) (S_nil (?_)))))))))
          refine R_ret hM118 rfl (.cons (.cell _ _ 5 0 (.agg #[.int .i64 0, .int .i64 0, .int .i64 0, .int .i64 0]) (by kernel_rfl)) (.cons (.tmp _ (.bool false) (by kernel_rfl)) .nil)) rfl ?_
          exact ⟨congrArg Ending.returned HR, hM118.below⟩
        · refine S_val (.bool false) (by kernel_rfl) (S_val (.pointer (some ⟨g10, 2, none⟩)) (by kernel_rfl) (S_load 5 2 (.int .i64 r78) hM85 (by kernel_rfl) (?_)))
          have HR := hr_neg HR c116
          refine S_dec (r78 < 0) (by kernel_rfl) (fun c119 => ?_) (fun c119 => ?_)
          · refine S_val (.bool true) (by kernel_rfl) (S_val (.bool true) (by kernel_rfl) (S_skip (by kernel_rfl) (S_skip (by kernel_rfl) (S_skip (by kernel_rfl) (S_val (.bool true) (by kernel_rfl) (S_val (.bool true) (by kernel_rfl) (S_skip (by kernel_rfl) (S_skip (by kernel_rfl) (S_skip (by kernel_rfl) (S_skip (by kernel_rfl) (S_skip (by kernel_rfl) (?_))))))))))))
            have HR := hr_pos HR c119
            refine S_skip (by kernel_rfl) (S_skip (by kernel_rfl) (S_skip (by kernel_rfl) (S_val (.bool true) (by kernel_rfl) (S_val (.bool true) (by kernel_rfl) (S_skip (by kernel_rfl) (S_skip (by kernel_rfl) (S_skip (by kernel_rfl) (S_val (.bool true) (by kernel_rfl) (S_nil (R_yes (by kernel_rfl) (R_seq (?_))))))))))))
            refine R_region (S_val (.agg #[.int .i64 0, .int .i64 0, .int .i64 0, .int .i64 0]) (by kernel_rfl) (S_store 5 0 #[.int .i64 0, .int .i64 0, .int .i64 0, .int .i64 0] hM85 (by kernel_rfl) (fun w120 hM121 => S_val (.bool false) (by kernel_rfl) (S_nil (?_)))))
            refine R_ret hM121 rfl (.cons (.cell _ _ 5 0 (.agg #[.int .i64 0, .int .i64 0, .int .i64 0, .int .i64 0]) (by kernel_rfl)) (.cons (.tmp _ (.bool false) (by kernel_rfl)) .nil)) rfl ?_
            exact ⟨congrArg Ending.returned HR, hM121.below⟩
          · refine S_val (.bool false) (by kernel_rfl) (S_val (.bool false) (by kernel_rfl) (S_val (.pointer (some ⟨g10, 3, none⟩)) (by kernel_rfl) (S_load 5 3 (.int .i64 r80) hM85 (by kernel_rfl) (?_))))
            have HR := hr_neg HR c119
            refine S_dec (r80 < 0) (by kernel_rfl) (fun c122 => ?_) (fun c122 => ?_)
            · refine S_val (.bool true) (by kernel_rfl) (S_val (.bool true) (by kernel_rfl) (S_skip (by kernel_rfl) (S_skip (by kernel_rfl) (S_skip (by kernel_rfl) (S_skip (by kernel_rfl) (S_skip (by kernel_rfl) (S_skip (by kernel_rfl) (S_skip (by kernel_rfl) (S_skip (by kernel_rfl) (S_val (.bool true) (by kernel_rfl) (S_val (.bool true) (by kernel_rfl) (?_))))))))))))
              have HR := hr_pos HR c122
              refine S_skip (by kernel_rfl) (S_skip (by kernel_rfl) (S_skip (by kernel_rfl) (S_val (.bool true) (by kernel_rfl) (S_nil (R_yes (by kernel_rfl) (R_seq (R_region (S_val (.agg #[.int .i64 0, .int .i64 0, .int .i64 0, .int .i64 0]) (by kernel_rfl) (S_store 5 0 #[.int .i64 0, .int .i64 0, .int .i64 0, .int .i64 0] hM85 (by kernel_rfl) (fun w123 hM124 => S_val (.bool false) (by kernel_rfl) (S_nil (?_))))))))))))
              refine R_ret hM124 rfl (.cons (.cell _ _ 5 0 (.agg #[.int .i64 0, .int .i64 0, .int .i64 0, .int .i64 0]) (by kernel_rfl)) (.cons (.tmp _ (.bool false) (by kernel_rfl)) .nil)) rfl ?_
              exact ⟨congrArg Ending.returned HR, hM124.below⟩
            · refine S_val (.bool false) (by kernel_rfl) (S_val (.bool false) (by kernel_rfl) (S_val (.pointer (some ⟨g10, 2, none⟩)) (by kernel_rfl) (S_load 5 2 (.int .i64 r78) hM85 (by kernel_rfl) (S_val (.pointer (some ⟨g10, 3, none⟩)) (by kernel_rfl) (S_load 5 3 (.int .i64 r80) hM85 (by kernel_rfl) (S_int (IntKind.i64.wrap (r78 + r80)) .i64 (by kernel_rfl) (fun x125 h126 => S_val (.pointer (some ⟨g10, 1, none⟩)) (by kernel_rfl) (S_load 5 1 (.int .i64 r76) hM85 (by kernel_rfl) (?_)))))))))
              have HR := hr_neg HR c122
              have HR := hr_lt HR h126
              refine S_dec (x125 > r76) (by kernel_rfl) (fun c127 => ?_) (fun c127 => ?_)
              · refine S_val (.bool true) (by kernel_rfl) (S_val (.bool true) (by kernel_rfl) (S_skip (by kernel_rfl) (S_skip (by kernel_rfl) (S_skip (by kernel_rfl) (S_val (.bool true) (by kernel_rfl) (S_nil (R_yes (by kernel_rfl) (R_seq (R_region (S_val (.agg #[.int .i64 0, .int .i64 0, .int .i64 0, .int .i64 0]) (by kernel_rfl) (S_store 5 0 #[.int .i64 0, .int .i64 0, .int .i64 0, .int .i64 0] hM85 (by kernel_rfl) (fun w128 hM129 => ?_))))))))))))
                have HR := hr_pos HR c127
                refine S_val (.bool false) (by kernel_rfl) (S_nil (?_))
                refine R_ret hM129 rfl (.cons (.cell _ _ 5 0 (.agg #[.int .i64 0, .int .i64 0, .int .i64 0, .int .i64 0]) (by kernel_rfl)) (.cons (.tmp _ (.bool false) (by kernel_rfl)) .nil)) rfl ?_
                exact ⟨congrArg Ending.returned HR, hM129.below⟩
              · refine S_val (.bool false) (by kernel_rfl) (S_val (.bool false) (by kernel_rfl) (S_val (.pointer (some ⟨g10, 0, none⟩)) (by kernel_rfl) (S_load 5 0 (.int .i64 r74) hM85 (by kernel_rfl) (?_))))
                have HR := hr_neg HR c127
                refine S_dec (r74 ≤ 0) (by kernel_rfl) (fun c130 => ?_) (fun c130 => ?_)
                · refine S_val (.bool true) (by kernel_rfl) (S_nil (R_yes (by kernel_rfl) (R_seq (R_region (S_val (.agg #[.int .i64 0, .int .i64 0, .int .i64 0, .int .i64 0]) (by kernel_rfl) (S_store 5 0 #[.int .i64 0, .int .i64 0, .int .i64 0, .int .i64 0] hM85 (by kernel_rfl) (fun w131 hM132 => S_val (.bool false) (by kernel_rfl) (S_nil (?_)))))))))
                  have HR := hr_pos HR c130
                  refine R_ret hM132 rfl (.cons (.cell _ _ 5 0 (.agg #[.int .i64 0, .int .i64 0, .int .i64 0, .int .i64 0]) (by kernel_rfl)) (.cons (.tmp _ (.bool false) (by kernel_rfl)) .nil)) rfl ?_
                  exact ⟨congrArg Ending.returned HR, hM132.below⟩
                · refine S_val (.bool false) (by kernel_rfl) (S_nil (R_no (by kernel_rfl) (R_skip (R_seq (R_region (S_load 5 0 (.agg #[.int .i64 r74, .int .i64 r76, .int .i64 r78, .int .i64 r80]) hM85 (by kernel_rfl) (S_store 5 0 #[.int .i64 r74, .int .i64 r76, .int .i64 r78, .int .i64 r80] hM85 (by kernel_rfl) (fun w133 hM134 => S_val (.bool true) (by kernel_rfl) (S_nil (?_))))))))))
                  have HR := hr_neg HR c130
                  refine R_ret hM134 rfl (.cons (.cell _ _ 5 0 (.agg #[.int .i64 r74, .int .i64 r76, .int .i64 r78, .int .i64 r80]) (by kernel_rfl)) (.cons (.tmp _ (.bool true) (by kernel_rfl)) .nil)) rfl ?_
                  exact ⟨congrArg Ending.returned HR, hM134.below⟩
    · refine S_val (.bool true) (by kernel_rfl) (S_nil (R_yes (by kernel_rfl) (R_seq (R_region (S_load 0 0 (.agg #[.int .i64 0, .int .i64 0, .int .i64 0, .int .i64 0]) hM22 (by kernel_rfl) (S_store 0 0 #[.int .i64 0, .int .i64 0, .int .i64 0, .int .i64 0] hM22 (by kernel_rfl) (fun w135 hM136 => S_val (.bool false) (by kernel_rfl) (S_nil (?_)))))))))
      have HR := hr_pos HR rfl
      refine R_ret hM136 rfl (.cons (.cell _ _ 0 0 (.agg #[.int .i64 0, .int .i64 0, .int .i64 0, .int .i64 0]) (by kernel_rfl)) (.cons (.tmp _ (.bool false) (by kernel_rfl)) .nil)) rfl ?_
      exact ⟨congrArg Ending.returned HR, hM136.below⟩

end Go.Proofs.Ytbfgmedjogjkeaa
