/- Walks: umbralaw24. -/
import Derived.Test.YtognbeejobfpfaaG24
namespace Go.Proofs.Ytognbeejobfpfaa
open Go.RowKit Go.Sort
set_option linter.unusedVariables false
set_option linter.unusedSimpArgs false

def e_umbralaw24_works (r : Bool) : Value := .bool r
def s_umbralaw24_works  : Bool :=
  lt (s_umbralaw24_plain ) fun r1 =>
  lt (s_lens_Ray r1 1 1 0 0 (2147483648, 2147483648, 0, 0)) fun r5 =>
  if r5.2.2 = 0 then
    if (r5.1 : Int × Int × Int) = (0, 0, 0) then
      if (r5.2.1 : Int × Int × Int) = (0, 0, 16384) then
        true
      else
        false
    else
      false
  else
    false
set_option maxRecDepth 100000 in
set_option maxHeartbeats 4000000 in
theorem w_umbralaw24_works  (w : World) : Calls Try.prog 31 #[] w (Ret (e_umbralaw24_works (s_umbralaw24_works )) w) := by
  obtain ⟨R, HR⟩ : ∃ R, e_umbralaw24_works (s_umbralaw24_works ) = R := ⟨_, rfl⟩
  rw [HR]
  unfold s_umbralaw24_works at HR
  have hM0 := St.start w
  refine calls_run Try.func31 rfl ?_
  refine R_seq (R_region (S_val (.bool false) (by kernel_rfl) (S_nil (R_seq (R_region (S_call (s_umbralaw24_plain ) (fun r : (Int × Int × Int) × (Int × Int × Int) × (Int × Int × Int) × (Int × Int × Int) × Int × Int => .agg #[.int .i64 r.1.1, .int .i64 r.1.2.1, .int .i64 r.1.2.2, .int .i64 r.2.1.1, .int .i64 r.2.1.2.1, .int .i64 r.2.1.2.2, .int .i64 r.2.2.1.1, .int .i64 r.2.2.1.2.1, .int .i64 r.2.2.1.2.2, .int .i64 r.2.2.2.1.1, .int .i64 r.2.2.2.1.2.1, .int .i64 r.2.2.2.1.2.2, .int .i64 r.2.2.2.2.1, .int .i64 r.2.2.2.2.2]) hM0 (w_umbralaw24_plain  w) (by kernel_rfl) (fun r1 h2 w3 hM4 => S_val (.agg #[.int .u32 2147483648, .int .u32 2147483648, .int .u32 0, .int .u32 0]) (by kernel_rfl) (S_call (s_lens_Ray r1 1 1 0 0 (2147483648, 2147483648, 0, 0)) (fun r : (Int × Int × Int) × (Int × Int × Int) × Int => .tuple #[.agg #[.int .i64 r.1.1, .int .i64 r.1.2.1, .int .i64 r.1.2.2], .agg #[.int .i64 r.2.1.1, .int .i64 r.2.1.2.1, .int .i64 r.2.1.2.2], .int .i64 r.2.2]) hM4 (w_lens_Ray r1 1 1 0 0 (2147483648, 2147483648, 0, 0) ((tr (P := fun r : (Int × Int × Int) × (Int × Int × Int) × (Int × Int × Int) × (Int × Int × Int) × Int × Int => (InV r.1 ∧ InV r.2.1 ∧ InV r.2.2.1 ∧ InV r.2.2.2.1 ∧ InI r.2.2.2.2.1 ∧ InI r.2.2.2.2.2)) h2 (i_umbralaw24_plain )).out) (show InI 1 from by unfold InI; omega) (show InI 1 from by unfold InI; omega) (show InI 0 from by unfold InI; omega) (show InI 0 from by unfold InI; omega) (⟨(show InU32 2147483648 from by unfold InU32; omega), (show InU32 2147483648 from by unfold InU32; omega), (show InU32 0 from by unfold InU32; omega), (show InU32 0 from by unfold InU32; omega)⟩) w3) (by kernel_rfl) (fun r5 h6 w7 hM8 => S_val (.tuple #[.agg #[.int .i64 r5.1.1, .int .i64 r5.1.2.1, .int .i64 r5.1.2.2], .agg #[.int .i64 r5.2.1.1, .int .i64 r5.2.1.2.1, .int .i64 r5.2.1.2.2], .int .i64 r5.2.2]) (by kernel_rfl) (S_val (.agg #[.int .i64 r5.1.1, .int .i64 r5.1.2.1, .int .i64 r5.1.2.2]) (by kernel_rfl) (S_val (.agg #[.int .i64 r5.2.1.1, .int .i64 r5.2.1.2.1, .int .i64 r5.2.1.2.2]) (by kernel_rfl) (?_))))))))))))
  have HR := hr_lt HR h2
  have HR := hr_lt HR h6
  refine S_val (.int .i64 r5.2.2) (by kernel_rfl) (S_fresh none #[.int .i64 0, .int .i64 0, .int .i64 0] 69 hM8 (by kernel_rfl) (fun g9 w10 hM11 => S_fresh none #[.int .i64 0, .int .i64 0, .int .i64 0] 69 hM11 (by kernel_rfl) (fun g12 w13 hM14 => S_store 1 0 #[.int .i64 r5.1.1, .int .i64 r5.1.2.1, .int .i64 r5.1.2.2] hM14 (by kernel_rfl) (fun w15 hM16 => S_store 0 0 #[.int .i64 r5.2.1.1, .int .i64 r5.2.1.2.1, .int .i64 r5.2.1.2.2] hM16 (by kernel_rfl) (fun w17 hM18 => S_val (.int .i64 r5.2.2) (by kernel_rfl) (S_nil (R_seq (R_region (S_val (.int .i64 r5.2.2) (by kernel_rfl) (?_))))))))))
  refine S_dec (r5.2.2 = 0) (by kernel_rfl) (fun c19 => ?_) (fun c19 => ?_)
  · refine S_val (.bool true) (by kernel_rfl) (S_load 1 0 (.agg #[.int .i64 r5.1.1, .int .i64 r5.1.2.1, .int .i64 r5.1.2.2]) hM18 (by kernel_rfl) (S_val (.agg #[.int .i64 0, .int .i64 0, .int .i64 0]) (by kernel_rfl) (?_)))
    have HR := hr_pos HR c19
    refine S_dec ((r5.1 : Int × Int × Int) = (0, 0, 0)) (eqv_umbra_api_Point (x := r5.1) (y := (0, 0, 0)) (by kernel_rfl) (by kernel_rfl) (by kernel_rfl)) (fun c20 => ?_) (fun c20 => ?_)
    · refine S_val (.bool true) (by kernel_rfl) (S_val (.bool true) (by kernel_rfl) (S_load 0 0 (.agg #[.int .i64 r5.2.1.1, .int .i64 r5.2.1.2.1, .int .i64 r5.2.1.2.2]) hM18 (by kernel_rfl) (S_val (.agg #[.int .i64 0, .int .i64 0, .int .i64 16384]) (by kernel_rfl) (?_))))
      have HR := hr_pos HR c20
      refine S_dec ((r5.2.1 : Int × Int × Int) = (0, 0, 16384)) (eqv_umbra_api_Point (x := r5.2.1) (y := (0, 0, 16384)) (by kernel_rfl) (by kernel_rfl) (by kernel_rfl)) (fun c21 => ?_) (fun c21 => ?_)
      · refine S_val (.bool true) (by kernel_rfl) (S_val (.bool true) (by kernel_rfl) (S_nil (?_)))
        have HR := hr_pos HR c21
        refine R_ret hM18 rfl (.cons (.tmp _ (.bool true) (by kernel_rfl)) .nil) rfl ?_
        exact ⟨congrArg Ending.returned HR, hM18.below⟩
      · refine S_val (.bool false) (by kernel_rfl) (S_val (.bool false) (by kernel_rfl) (S_nil (?_)))
        have HR := hr_neg HR c21
        refine R_ret hM18 rfl (.cons (.tmp _ (.bool false) (by kernel_rfl)) .nil) rfl ?_
        exact ⟨congrArg Ending.returned HR, hM18.below⟩
    · refine S_val (.bool false) (by kernel_rfl) (S_val (.bool false) (by kernel_rfl) (S_skip (by kernel_rfl) (S_skip (by kernel_rfl) (S_skip (by kernel_rfl) (S_val (.bool false) (by kernel_rfl) (S_val (.bool false) (by kernel_rfl) (S_nil (?_))))))))
      have HR := hr_neg HR c20
      refine R_ret hM18 rfl (.cons (.tmp _ (.bool false) (by kernel_rfl)) .nil) rfl ?_
      exact ⟨congrArg Ending.returned HR, hM18.below⟩
  · refine S_val (.bool false) (by kernel_rfl) (S_skip (by kernel_rfl) (S_skip (by kernel_rfl) (S_skip (by kernel_rfl) (S_val (.bool false) (by kernel_rfl) (S_val (.bool false) (by kernel_rfl) (S_skip (by kernel_rfl) (S_skip (by kernel_rfl) (S_skip (by kernel_rfl) (S_val (.bool false) (by kernel_rfl) (S_val (.bool false) (by kernel_rfl) (S_nil (?_))))))))))))
    have HR := hr_neg HR c19
    refine R_ret hM18 rfl (.cons (.tmp _ (.bool false) (by kernel_rfl)) .nil) rfl ?_
    exact ⟨congrArg Ending.returned HR, hM18.below⟩

def e_umbralaw24_LensChecks (r : Bool) : Value := .bool r
def s_umbralaw24_LensChecks (c : (Int × Int × Int) × (Int × Int × Int) × (Int × Int × Int) × (Int × Int × Int) × Int × Int) (w1_ : Int) (h2_ : Int) : Bool :=
  lt (s_lens_Check c w1_ h2_) fun r7 =>
  lt (s_umbraref24_Check c w1_ h2_) fun r9 =>
  if r7 = r9 then
    lt (s_umbralaw24_works ) fun r12 =>
    if r12 = true then
      true
    else
      false
  else
    false
set_option maxRecDepth 100000 in
set_option maxHeartbeats 4000000 in
theorem w_umbralaw24_LensChecks (c : (Int × Int × Int) × (Int × Int × Int) × (Int × Int × Int) × (Int × Int × Int) × Int × Int) (w1_ : Int) (h2_ : Int) (h_c : (InV c.1 ∧ InV c.2.1 ∧ InV c.2.2.1 ∧ InV c.2.2.2.1 ∧ InI c.2.2.2.2.1 ∧ InI c.2.2.2.2.2)) (h_w1_ : InI w1_) (h_h2_ : InI h2_) (w : World) : Calls Try.prog 9 #[.agg #[.int .i64 c.1.1, .int .i64 c.1.2.1, .int .i64 c.1.2.2, .int .i64 c.2.1.1, .int .i64 c.2.1.2.1, .int .i64 c.2.1.2.2, .int .i64 c.2.2.1.1, .int .i64 c.2.2.1.2.1, .int .i64 c.2.2.1.2.2, .int .i64 c.2.2.2.1.1, .int .i64 c.2.2.2.1.2.1, .int .i64 c.2.2.2.1.2.2, .int .i64 c.2.2.2.2.1, .int .i64 c.2.2.2.2.2], .int .i64 w1_, .int .i64 h2_] w (Ret (e_umbralaw24_LensChecks (s_umbralaw24_LensChecks c w1_ h2_)) w) := by
  obtain ⟨R, HR⟩ : ∃ R, e_umbralaw24_LensChecks (s_umbralaw24_LensChecks c w1_ h2_) = R := ⟨_, rfl⟩
  rw [HR]
  unfold s_umbralaw24_LensChecks at HR
  have hM0 := St.start w
  refine calls_run Try.func9 rfl ?_
  refine R_seq (R_region (S_fresh none #[.int .i64 c.1.1, .int .i64 c.1.2.1, .int .i64 c.1.2.2, .int .i64 c.2.1.1, .int .i64 c.2.1.2.1, .int .i64 c.2.1.2.2, .int .i64 c.2.2.1.1, .int .i64 c.2.2.1.2.1, .int .i64 c.2.2.1.2.2, .int .i64 c.2.2.2.1.1, .int .i64 c.2.2.2.1.2.1, .int .i64 c.2.2.2.1.2.2, .int .i64 c.2.2.2.2.1, .int .i64 c.2.2.2.2.2] 71 hM0 (by kernel_rfl) (fun g1 w2 hM3 => S_val (.bool false) (by kernel_rfl) (S_nil (R_seq (R_drawF 13 (by kernel_rfl) (fun F4 U5 hL6 => F_load 0 0 (.agg #[.int .i64 c.1.1, .int .i64 c.1.2.1, .int .i64 c.1.2.2, .int .i64 c.2.1.1, .int .i64 c.2.1.2.1, .int .i64 c.2.1.2.2, .int .i64 c.2.2.1.1, .int .i64 c.2.2.1.2.1, .int .i64 c.2.2.1.2.2, .int .i64 c.2.2.2.1.1, .int .i64 c.2.2.2.1.2.1, .int .i64 c.2.2.2.1.2.2, .int .i64 c.2.2.2.2.1, .int .i64 c.2.2.2.2.2]) hM3 (by kernel_rfl) (F_val (.int .i64 w1_) (fun _ => by kernel_rfl) (F_val (.int .i64 h2_) (fun _ => by kernel_rfl) (F_call (s_lens_Check c w1_ h2_) (fun r : Int => .int .i64 r) hM3 hL6 (fun w' hM' => w_lens_Check c w1_ h2_ h_c h_w1_ h_h2_ w') (by kernel_rfl) (fun _ => by kernel_rfl) (fun r7 h8 => F_load 0 0 (.agg #[.int .i64 c.1.1, .int .i64 c.1.2.1, .int .i64 c.1.2.2, .int .i64 c.2.1.1, .int .i64 c.2.1.2.1, .int .i64 c.2.1.2.2, .int .i64 c.2.2.1.1, .int .i64 c.2.2.1.2.1, .int .i64 c.2.2.1.2.2, .int .i64 c.2.2.2.1.1, .int .i64 c.2.2.2.1.2.1, .int .i64 c.2.2.2.1.2.2, .int .i64 c.2.2.2.2.1, .int .i64 c.2.2.2.2.2]) hM3 (by kernel_rfl) (?_))))))))))))
  have HR := hr_lt HR h8
  refine F_val (.int .i64 w1_) (fun _ => by kernel_rfl) (F_val (.int .i64 h2_) (fun _ => by kernel_rfl) (F_call (s_umbraref24_Check c w1_ h2_) (fun r : Int => .int .i64 r) hM3 hL6 (fun w' hM' => w_umbraref24_Check c w1_ h2_ h_c h_w1_ h_h2_ w') (by kernel_rfl) (fun _ => by kernel_rfl) (fun r9 h10 => ?_)))
  have HR := hr_lt HR h10
  refine F_dec (r7 = r9) (fun _ => by kernel_rfl) (fun c11 => ?_) (fun c11 => ?_)
  · refine F_val (.bool true) (fun _ => by kernel_rfl) (F_call (s_umbralaw24_works ) (fun r : Bool => .bool r) hM3 hL6 (fun w' hM' => w_umbralaw24_works  w') (by kernel_rfl) (fun _ => by kernel_rfl) (fun r12 h13 => ?_))
    have HR := hr_pos HR c11
    have HR := hr_lt HR h13
    cases r12
    · refine F_val (.bool false) (fun _ => by kernel_rfl) (F_val (.bool false) (fun _ => by kernel_rfl) (F_nil hM3 hL6 (fun w14 hM15 => S_nil (?_))))
      have HR := hr_neg HR Bool.false_ne_true
      refine R_ret hM15 rfl (.cons (.tmp _ (.bool false) (by kernel_rfl)) .nil) rfl ?_
      exact ⟨congrArg Ending.returned HR, hM15.below⟩
    · refine F_val (.bool true) (fun _ => by kernel_rfl) (F_val (.bool true) (fun _ => by kernel_rfl) (F_nil hM3 hL6 (fun w16 hM17 => S_nil (?_))))
      have HR := hr_pos HR rfl
      refine R_ret hM17 rfl (.cons (.tmp _ (.bool true) (by kernel_rfl)) .nil) rfl ?_
      exact ⟨congrArg Ending.returned HR, hM17.below⟩
  · refine F_val (.bool false) (fun _ => by kernel_rfl) (F_skip (by kernel_rfl) (F_val (.bool false) (fun _ => by kernel_rfl) (F_val (.bool false) (fun _ => by kernel_rfl) (F_nil hM3 hL6 (fun w19 hM20 => S_nil (?_))))))
    have HR := hr_neg HR c11
    refine R_ret hM20 rfl (.cons (.tmp _ (.bool false) (by kernel_rfl)) .nil) rfl ?_
    exact ⟨congrArg Ending.returned HR, hM20.below⟩

def e_umbralaw24_LensMiddle (r : Bool) : Value := .bool r
def s_umbralaw24_LensMiddle (c : (Int × Int × Int) × (Int × Int × Int) × (Int × Int × Int) × (Int × Int × Int) × Int × Int) (w1_ : Int) (h2_ : Int) : Bool :=
  lt (Int.tmod w1_ 64) fun x4 =>
  lt (IntKind.i64.wrap x4) fun x6 =>
  lt (IntKind.i64.wrap (x6 + 1)) fun x8 =>
  lt (Int.tmod h2_ 64) fun x10 =>
  lt (IntKind.i64.wrap x10) fun x12 =>
  lt (IntKind.i64.wrap (x12 + 1)) fun x14 =>
  lt (IntKind.i64.wrap (Int.tdiv x8 2)) fun x16 =>
  lt (IntKind.i64.wrap (Int.tdiv x14 2)) fun x18 =>
  lt (Int.tmod x8 2) fun x20 =>
  lt (IntKind.u32.wrap x20) fun x22 =>
  lt (IntKind.u32.wrap (x22 * 2 ^ 31)) fun x24 =>
  lt (Int.tmod x14 2) fun x26 =>
  lt (IntKind.u32.wrap x26) fun x28 =>
  lt (IntKind.u32.wrap (x28 * 2 ^ 31)) fun x30 =>
  lt (s_lens_Toward c x8 x14 x16 x18 (x24, x30)) fun r32 =>
  if r32.2 = 0 then
    lt (vof c.2.2.2.1) fun r55 =>
    if (r32.1 : Int × Int × Int) = r55 then
      lt (s_umbralaw24_works ) fun r58 =>
      if r58 = true then
        true
      else
        false
    else
      false
  else
    lt (s_lens_Check c x8 x14) fun r42 =>
    if r32.2 = r42 then
      lt (s_umbralaw24_works ) fun r47 =>
      if r47 = true then
        true
      else
        false
    else
      false
set_option maxRecDepth 100000 in
set_option maxHeartbeats 4000000 in
theorem w_umbralaw24_LensMiddle (c : (Int × Int × Int) × (Int × Int × Int) × (Int × Int × Int) × (Int × Int × Int) × Int × Int) (w1_ : Int) (h2_ : Int) (h_c : (InV c.1 ∧ InV c.2.1 ∧ InV c.2.2.1 ∧ InV c.2.2.2.1 ∧ InI c.2.2.2.2.1 ∧ InI c.2.2.2.2.2)) (h_w1_ : InU8 w1_) (h_h2_ : InU8 h2_) (w : World) : Calls Try.prog 10 #[.agg #[.int .i64 c.1.1, .int .i64 c.1.2.1, .int .i64 c.1.2.2, .int .i64 c.2.1.1, .int .i64 c.2.1.2.1, .int .i64 c.2.1.2.2, .int .i64 c.2.2.1.1, .int .i64 c.2.2.1.2.1, .int .i64 c.2.2.1.2.2, .int .i64 c.2.2.2.1.1, .int .i64 c.2.2.2.1.2.1, .int .i64 c.2.2.2.1.2.2, .int .i64 c.2.2.2.2.1, .int .i64 c.2.2.2.2.2], .int .u8 w1_, .int .u8 h2_] w (Ret (e_umbralaw24_LensMiddle (s_umbralaw24_LensMiddle c w1_ h2_)) w) := by
  obtain ⟨R, HR⟩ : ∃ R, e_umbralaw24_LensMiddle (s_umbralaw24_LensMiddle c w1_ h2_) = R := ⟨_, rfl⟩
  rw [HR]
  unfold s_umbralaw24_LensMiddle at HR
  have hM0 := St.start w
  refine calls_run Try.func10 rfl ?_
  refine R_seq (R_region (S_fresh none #[.int .i64 c.1.1, .int .i64 c.1.2.1, .int .i64 c.1.2.2, .int .i64 c.2.1.1, .int .i64 c.2.1.2.1, .int .i64 c.2.1.2.2, .int .i64 c.2.2.1.1, .int .i64 c.2.2.1.2.1, .int .i64 c.2.2.1.2.2, .int .i64 c.2.2.2.1.1, .int .i64 c.2.2.2.1.2.1, .int .i64 c.2.2.2.1.2.2, .int .i64 c.2.2.2.2.1, .int .i64 c.2.2.2.2.2] 71 hM0 (by kernel_rfl) (fun g1 w2 hM3 => S_val (.bool false) (by kernel_rfl) (S_nil (R_seq (R_region (S_val (.int .u8 w1_) (by kernel_rfl) (S_int (Int.tmod w1_ 64) .u8 (by kernel_rfl) (fun x4 h5 => S_int (IntKind.i64.wrap x4) .i64 (by kernel_rfl) (fun x6 h7 => S_int (IntKind.i64.wrap (x6 + 1)) .i64 (by kernel_rfl) (fun x8 h9 => S_val (.int .u8 h2_) (by kernel_rfl) (?_))))))))))))
  have HR := hr_lt HR h5
  have HR := hr_lt HR h7
  have HR := hr_lt HR h9
  refine S_int (Int.tmod h2_ 64) .u8 (by kernel_rfl) (fun x10 h11 => S_int (IntKind.i64.wrap x10) .i64 (by kernel_rfl) (fun x12 h13 => S_int (IntKind.i64.wrap (x12 + 1)) .i64 (by kernel_rfl) (fun x14 h15 => S_val (.int .i64 x8) (by kernel_rfl) (S_val (.int .i64 x14) (by kernel_rfl) (S_nil (R_seq (R_region (S_load 0 0 (.agg #[.int .i64 c.1.1, .int .i64 c.1.2.1, .int .i64 c.1.2.2, .int .i64 c.2.1.1, .int .i64 c.2.1.2.1, .int .i64 c.2.1.2.2, .int .i64 c.2.2.1.1, .int .i64 c.2.2.1.2.1, .int .i64 c.2.2.1.2.2, .int .i64 c.2.2.2.1.1, .int .i64 c.2.2.2.1.2.1, .int .i64 c.2.2.2.1.2.2, .int .i64 c.2.2.2.2.1, .int .i64 c.2.2.2.2.2]) hM3 (by kernel_rfl) (S_val (.int .i64 x8) (by kernel_rfl) (S_val (.int .i64 x14) (by kernel_rfl) (S_val (.int .i64 x8) (by kernel_rfl) (?_))))))))))))
  have HR := hr_lt HR h11
  have HR := hr_lt HR h13
  have HR := hr_lt HR h15
  refine S_int (IntKind.i64.wrap (Int.tdiv x8 2)) .i64 (by kernel_rfl) (fun x16 h17 => S_val (.int .i64 x14) (by kernel_rfl) (S_int (IntKind.i64.wrap (Int.tdiv x14 2)) .i64 (by kernel_rfl) (fun x18 h19 => S_val (.int .i64 x8) (by kernel_rfl) (S_int (Int.tmod x8 2) .i64 (by kernel_rfl) (fun x20 h21 => S_int (IntKind.u32.wrap x20) .u32 (by kernel_rfl) (fun x22 h23 => S_int (IntKind.u32.wrap (x22 * 2 ^ 31)) .u32 (by kernel_rfl) (fun x24 h25 => S_val (.int .i64 x14) (by kernel_rfl) (S_int (Int.tmod x14 2) .i64 (by kernel_rfl) (fun x26 h27 => S_int (IntKind.u32.wrap x26) .u32 (by kernel_rfl) (fun x28 h29 => S_int (IntKind.u32.wrap (x28 * 2 ^ 31)) .u32 (by kernel_rfl) (fun x30 h31 => S_val (.agg #[.int .u32 x24, .int .u32 x30]) (by kernel_rfl) (?_))))))))))))
  have HR := hr_lt HR h17
  have HR := hr_lt HR h19
  have HR := hr_lt HR h21
  have HR := hr_lt HR h23
  have HR := hr_lt HR h25
  have HR := hr_lt HR h27
  have HR := hr_lt HR h29
  have HR := hr_lt HR h31
  refine S_call (s_lens_Toward c x8 x14 x16 x18 (x24, x30)) (fun r : (Int × Int × Int) × Int => .tuple #[.agg #[.int .i64 r.1.1, .int .i64 r.1.2.1, .int .i64 r.1.2.2], .int .i64 r.2]) hM3 (w_lens_Toward c x8 x14 x16 x18 (x24, x30) h_c (wr_i64 h9) (wr_i64 h15) (wr_i64 h17) (wr_i64 h19) (⟨(wr_u32 h25), (wr_u32 h31)⟩) w2) (by kernel_rfl) (fun r32 h33 w34 hM35 => S_val (.tuple #[.agg #[.int .i64 r32.1.1, .int .i64 r32.1.2.1, .int .i64 r32.1.2.2], .int .i64 r32.2]) (by kernel_rfl) (S_val (.agg #[.int .i64 r32.1.1, .int .i64 r32.1.2.1, .int .i64 r32.1.2.2]) (by kernel_rfl) (S_val (.int .i64 r32.2) (by kernel_rfl) (S_fresh none #[.int .i64 0, .int .i64 0, .int .i64 0] 29 hM35 (by kernel_rfl) (fun g36 w37 hM38 => S_store 0 0 #[.int .i64 r32.1.1, .int .i64 r32.1.2.1, .int .i64 r32.1.2.2] hM38 (by kernel_rfl) (fun w39 hM40 => S_val (.int .i64 r32.2) (by kernel_rfl) (S_nil (R_seq (R_seq (R_region (S_val (.int .i64 r32.2) (by kernel_rfl) (?_))))))))))))
  have HR := hr_lt HR h33
  refine S_decn (r32.2 = 0) (by kernel_rfl) (fun c41 => ?_) (fun c41 => ?_)
  · refine S_nil (R_yes (by kernel_rfl) (R_seq (R_region (S_val (.int .i64 r32.2) (by kernel_rfl) (S_load 1 0 (.agg #[.int .i64 c.1.1, .int .i64 c.1.2.1, .int .i64 c.1.2.2, .int .i64 c.2.1.1, .int .i64 c.2.1.2.1, .int .i64 c.2.1.2.2, .int .i64 c.2.2.1.1, .int .i64 c.2.2.1.2.1, .int .i64 c.2.2.1.2.2, .int .i64 c.2.2.2.1.1, .int .i64 c.2.2.2.1.2.1, .int .i64 c.2.2.2.1.2.2, .int .i64 c.2.2.2.2.1, .int .i64 c.2.2.2.2.2]) hM40 (by kernel_rfl) (S_val (.int .i64 x8) (by kernel_rfl) (S_val (.int .i64 x14) (by kernel_rfl) (S_call (s_lens_Check c x8 x14) (fun r : Int => .int .i64 r) hM40 (w_lens_Check c x8 x14 h_c (wr_i64 h9) (wr_i64 h15) w39) (by kernel_rfl) (fun r42 h43 w44 hM45 => ?_)))))))))
    have HR := hr_neg HR c41
    have HR := hr_lt HR h43
    refine S_dec (r32.2 = r42) (by kernel_rfl) (fun c46 => ?_) (fun c46 => ?_)
    · refine S_val (.bool true) (by kernel_rfl) (S_call (s_umbralaw24_works ) (fun r : Bool => .bool r) hM45 (w_umbralaw24_works  w44) (by kernel_rfl) (fun r47 h48 w49 hM50 => ?_))
      have HR := hr_pos HR c46
      have HR := hr_lt HR h48
      cases r47
      · refine S_val (.bool false) (by kernel_rfl) (S_val (.bool false) (by kernel_rfl) (S_nil (?_)))
        have HR := hr_neg HR Bool.false_ne_true
        refine R_ret hM50 rfl (.cons (.tmp _ (.bool false) (by kernel_rfl)) .nil) rfl ?_
        exact ⟨congrArg Ending.returned HR, hM50.below⟩
      · refine S_val (.bool true) (by kernel_rfl) (S_val (.bool true) (by kernel_rfl) (S_nil (?_)))
        have HR := hr_pos HR rfl
        refine R_ret hM50 rfl (.cons (.tmp _ (.bool true) (by kernel_rfl)) .nil) rfl ?_
        exact ⟨congrArg Ending.returned HR, hM50.below⟩
    · refine S_val (.bool false) (by kernel_rfl) (S_skip (by kernel_rfl) (S_val (.bool false) (by kernel_rfl) (S_val (.bool false) (by kernel_rfl) (S_nil (?_)))))
      have HR := hr_neg HR c46
      refine R_ret hM45 rfl (.cons (.tmp _ (.bool false) (by kernel_rfl)) .nil) rfl ?_
      exact ⟨congrArg Ending.returned HR, hM45.below⟩
  · refine S_nil (R_no (by kernel_rfl) (R_skip (R_seq (R_drawF 9 (by kernel_rfl) (fun F52 U53 hL54 => F_load 0 0 (.agg #[.int .i64 r32.1.1, .int .i64 r32.1.2.1, .int .i64 r32.1.2.2]) hM40 (by kernel_rfl) (F_val (.pointer (some ⟨g1, 9, none⟩)) (fun _ => by kernel_rfl) (F_load 1 9 (.agg #[.int .i64 c.2.2.2.1.1, .int .i64 c.2.2.2.1.2.1, .int .i64 c.2.2.2.1.2.2]) hM40 (by kernel_rfl) (F_call (vof c.2.2.2.1) (fun r : Int × Int × Int => .agg #[.int .i64 r.1, .int .i64 r.2.1, .int .i64 r.2.2]) hM40 hL54 (fun w' hM' => c_vec_Of c.2.2.2.1 h_c.2.2.2.1 w') (by kernel_rfl) (fun _ => by kernel_rfl) (fun r55 h56 => ?_)))))))))
    have HR := hr_pos HR c41
    have HR := hr_lt HR h56
    refine F_dec ((r32.1 : Int × Int × Int) = r55) (fun _ => eqv_umbra_api_Vec (x := r32.1) (y := r55) (by kernel_rfl) (by kernel_rfl) (by kernel_rfl)) (fun c57 => ?_) (fun c57 => ?_)
    · refine F_val (.bool true) (fun _ => by kernel_rfl) (F_call (s_umbralaw24_works ) (fun r : Bool => .bool r) hM40 hL54 (fun w' hM' => w_umbralaw24_works  w') (by kernel_rfl) (fun _ => by kernel_rfl) (fun r58 h59 => ?_))
      have HR := hr_pos HR c57
      have HR := hr_lt HR h59
      cases r58
      · refine F_val (.bool false) (fun _ => by kernel_rfl) (F_val (.bool false) (fun _ => by kernel_rfl) (F_nil hM40 hL54 (fun w60 hM61 => S_nil (?_))))
        have HR := hr_neg HR Bool.false_ne_true
        refine R_ret hM61 rfl (.cons (.tmp _ (.bool false) (by kernel_rfl)) .nil) rfl ?_
        exact ⟨congrArg Ending.returned HR, hM61.below⟩
      · refine F_val (.bool true) (fun _ => by kernel_rfl) (F_val (.bool true) (fun _ => by kernel_rfl) (F_nil hM40 hL54 (fun w62 hM63 => S_nil (?_))))
        have HR := hr_pos HR rfl
        refine R_ret hM63 rfl (.cons (.tmp _ (.bool true) (by kernel_rfl)) .nil) rfl ?_
        exact ⟨congrArg Ending.returned HR, hM63.below⟩
    · refine F_val (.bool false) (fun _ => by kernel_rfl) (F_skip (by kernel_rfl) (F_val (.bool false) (fun _ => by kernel_rfl) (F_val (.bool false) (fun _ => by kernel_rfl) (F_nil hM40 hL54 (fun w65 hM66 => S_nil (?_))))))
      have HR := hr_neg HR c57
      refine R_ret hM66 rfl (.cons (.tmp _ (.bool false) (by kernel_rfl)) .nil) rfl ?_
      exact ⟨congrArg Ending.returned HR, hM66.below⟩

def e_umbralaw24_LensLeft (r : Bool) : Value := .bool r
def s_umbralaw24_LensLeft (l : Int × Int × Int × Int × (Int × Int × Int × Int)) (x : Int) (y : Int) : Bool :=
  lt (s_umbralaw24_plain ) fun r7 =>
  lt (s_lens_Toward r7 l.1 l.2.1 l.2.2.1 l.2.2.2.1 (l.2.2.2.2.1, l.2.2.2.2.2.1)) fun r9 =>
  lt (s_umbralaw24_plain ) fun r22 =>
  lt (s_lens_Toward r22 l.1 l.2.1 x y l.2.2.2.2.2.2) fun r24 =>
  if r9.2 = 0 then
    if r24.2 = 0 then
      if l.2.2.1 ≥ x then
        if l.2.2.2.1 ≥ y then
          lt (s_umbralaw24_works ) fun r48 =>
          if r48 = true then
            true
          else
            false
        else
          if r9.1.2.1 ≥ r24.1.2.1 then
            lt (s_umbralaw24_works ) fun r54 =>
            if r54 = true then
              true
            else
              false
          else
            false
      else
        if r9.1.1 ≤ r24.1.1 then
          if l.2.2.2.1 ≥ y then
            lt (s_umbralaw24_works ) fun r61 =>
            if r61 = true then
              true
            else
              false
          else
            if r9.1.2.1 ≥ r24.1.2.1 then
              lt (s_umbralaw24_works ) fun r67 =>
              if r67 = true then
                true
              else
                false
            else
              false
        else
          false
    else
      lt (s_umbralaw24_works ) fun r41 =>
      if r41 = true then
        true
      else
        false
  else
    lt (s_umbralaw24_works ) fun r35 =>
    if r35 = true then
      true
    else
      false
set_option maxRecDepth 100000 in
set_option maxHeartbeats 4000000 in
theorem w_umbralaw24_LensLeft (l : Int × Int × Int × Int × (Int × Int × Int × Int)) (x : Int) (y : Int) (h_l : (InI l.1 ∧ InI l.2.1 ∧ InI l.2.2.1 ∧ InI l.2.2.2.1 ∧ (InU32 l.2.2.2.2.1 ∧ InU32 l.2.2.2.2.2.1 ∧ InU32 l.2.2.2.2.2.2.1 ∧ InU32 l.2.2.2.2.2.2.2))) (h_x : InI x) (h_y : InI y) (w : World) : Calls Try.prog 11 #[.agg #[.int .i64 l.1, .int .i64 l.2.1, .int .i64 l.2.2.1, .int .i64 l.2.2.2.1, .int .u32 l.2.2.2.2.1, .int .u32 l.2.2.2.2.2.1, .int .u32 l.2.2.2.2.2.2.1, .int .u32 l.2.2.2.2.2.2.2], .int .i64 x, .int .i64 y] w (Ret (e_umbralaw24_LensLeft (s_umbralaw24_LensLeft l x y)) w) := by
  obtain ⟨R, HR⟩ : ∃ R, e_umbralaw24_LensLeft (s_umbralaw24_LensLeft l x y) = R := ⟨_, rfl⟩
  rw [HR]
  unfold s_umbralaw24_LensLeft at HR
  have hM0 := St.start w
  refine calls_run Try.func11 rfl ?_
  refine R_seq (R_region (S_fresh none #[.int .i64 l.1, .int .i64 l.2.1, .int .i64 l.2.2.1, .int .i64 l.2.2.2.1, .int .u32 l.2.2.2.2.1, .int .u32 l.2.2.2.2.2.1, .int .u32 l.2.2.2.2.2.2.1, .int .u32 l.2.2.2.2.2.2.2] 83 hM0 (by kernel_rfl) (fun g1 w2 hM3 => S_val (.bool false) (by kernel_rfl) (S_nil (R_seq (R_drawG 23 (by kernel_rfl) (fun F4 U5 hL6 => G_call (s_umbralaw24_plain ) (fun r : (Int × Int × Int) × (Int × Int × Int) × (Int × Int × Int) × (Int × Int × Int) × Int × Int => .agg #[.int .i64 r.1.1, .int .i64 r.1.2.1, .int .i64 r.1.2.2, .int .i64 r.2.1.1, .int .i64 r.2.1.2.1, .int .i64 r.2.1.2.2, .int .i64 r.2.2.1.1, .int .i64 r.2.2.1.2.1, .int .i64 r.2.2.1.2.2, .int .i64 r.2.2.2.1.1, .int .i64 r.2.2.2.1.2.1, .int .i64 r.2.2.2.1.2.2, .int .i64 r.2.2.2.2.1, .int .i64 r.2.2.2.2.2]) hM3 hL6 (fun w' hM' => w_umbralaw24_plain  w') (by kernel_rfl) (fun _ => by kernel_rfl) (fun r7 h8 => G_val (.pointer (some ⟨g1, 0, none⟩)) (fun _ => by kernel_rfl) (G_load 0 0 (.int .i64 l.1) hM3 (by kernel_rfl) (G_val (.pointer (some ⟨g1, 1, none⟩)) (fun _ => by kernel_rfl) (G_load 0 1 (.int .i64 l.2.1) hM3 (by kernel_rfl) (?_))))))))))))
  have HR := hr_lt HR h8
  refine G_val (.pointer (some ⟨g1, 2, none⟩)) (fun _ => by kernel_rfl) (G_load 0 2 (.int .i64 l.2.2.1) hM3 (by kernel_rfl) (G_val (.pointer (some ⟨g1, 3, none⟩)) (fun _ => by kernel_rfl) (G_load 0 3 (.int .i64 l.2.2.2.1) hM3 (by kernel_rfl) (G_val (.pointer (some ⟨g1, 4, none⟩)) (fun _ => by kernel_rfl) (G_val (.pointer (some ⟨g1, 4, none⟩)) (fun _ => by kernel_rfl) (G_load 0 4 (.int .u32 l.2.2.2.2.1) hM3 (by kernel_rfl) (G_val (.pointer (some ⟨g1, 4, none⟩)) (fun _ => by kernel_rfl) (G_val (.pointer (some ⟨g1, 5, none⟩)) (fun _ => by kernel_rfl) (G_load 0 5 (.int .u32 l.2.2.2.2.2.1) hM3 (by kernel_rfl) (G_val (.agg #[.int .u32 l.2.2.2.2.1, .int .u32 l.2.2.2.2.2.1]) (fun _ => by kernel_rfl) (G_call (s_lens_Toward r7 l.1 l.2.1 l.2.2.1 l.2.2.2.1 (l.2.2.2.2.1, l.2.2.2.2.2.1)) (fun r : (Int × Int × Int) × Int => .tuple #[.agg #[.int .i64 r.1.1, .int .i64 r.1.2.1, .int .i64 r.1.2.2], .int .i64 r.2]) hM3 hL6 (fun w' hM' => w_lens_Toward r7 l.1 l.2.1 l.2.2.1 l.2.2.2.1 (l.2.2.2.2.1, l.2.2.2.2.2.1) ((tr (P := fun r : (Int × Int × Int) × (Int × Int × Int) × (Int × Int × Int) × (Int × Int × Int) × Int × Int => (InV r.1 ∧ InV r.2.1 ∧ InV r.2.2.1 ∧ InV r.2.2.2.1 ∧ InI r.2.2.2.2.1 ∧ InI r.2.2.2.2.2)) h8 (i_umbralaw24_plain )).out) h_l.1 h_l.2.1 h_l.2.2.1 h_l.2.2.2.1 (⟨h_l.2.2.2.2.1, h_l.2.2.2.2.2.1⟩) w') (by kernel_rfl) (fun _ => by kernel_rfl) (fun r9 h10 => ?_))))))))))))
  have HR := hr_lt HR h10
  refine G_val (.tuple #[.agg #[.int .i64 r9.1.1, .int .i64 r9.1.2.1, .int .i64 r9.1.2.2], .int .i64 r9.2]) (fun _ => by kernel_rfl) (G_val (.agg #[.int .i64 r9.1.1, .int .i64 r9.1.2.1, .int .i64 r9.1.2.2]) (fun _ => by kernel_rfl) (G_val (.int .i64 r9.2) (fun _ => by kernel_rfl) (G_fresh none #[.int .i64 0, .int .i64 0, .int .i64 0] 29 hL6 (by kernel_rfl) (fun _ => by kernel_rfl) (fun g11 F12 U13 hL14 => G_store 0 0 #[.int .i64 r9.1.1, .int .i64 r9.1.2.1, .int .i64 r9.1.2.2] hL14 (by kernel_rfl) (by kernel_rfl) (fun F15 hL16 => G_val (.int .i64 r9.2) (fun _ => by kernel_rfl) (G_nil hM3 hL16 (fun w17 hM18 => S_nil (R_seq (R_drawG 21 (by kernel_rfl) (fun F19 U20 hL21 => G_call (s_umbralaw24_plain ) (fun r : (Int × Int × Int) × (Int × Int × Int) × (Int × Int × Int) × (Int × Int × Int) × Int × Int => .agg #[.int .i64 r.1.1, .int .i64 r.1.2.1, .int .i64 r.1.2.2, .int .i64 r.2.1.1, .int .i64 r.2.1.2.1, .int .i64 r.2.1.2.2, .int .i64 r.2.2.1.1, .int .i64 r.2.2.1.2.1, .int .i64 r.2.2.1.2.2, .int .i64 r.2.2.2.1.1, .int .i64 r.2.2.2.1.2.1, .int .i64 r.2.2.2.1.2.2, .int .i64 r.2.2.2.2.1, .int .i64 r.2.2.2.2.2]) hM18 hL21 (fun w' hM' => w_umbralaw24_plain  w') (by kernel_rfl) (fun _ => by kernel_rfl) (fun r22 h23 => G_val (.pointer (some ⟨g1, 0, none⟩)) (fun _ => by kernel_rfl) (?_))))))))))))
  have HR := hr_lt HR h23
  refine G_load 1 0 (.int .i64 l.1) hM18 (by kernel_rfl) (G_val (.pointer (some ⟨g1, 1, none⟩)) (fun _ => by kernel_rfl) (G_load 1 1 (.int .i64 l.2.1) hM18 (by kernel_rfl) (G_val (.int .i64 x) (fun _ => by kernel_rfl) (G_val (.int .i64 y) (fun _ => by kernel_rfl) (G_val (.pointer (some ⟨g1, 4, none⟩)) (fun _ => by kernel_rfl) (G_val (.pointer (some ⟨g1, 6, none⟩)) (fun _ => by kernel_rfl) (G_load 1 6 (.int .u32 l.2.2.2.2.2.2.1) hM18 (by kernel_rfl) (G_val (.pointer (some ⟨g1, 4, none⟩)) (fun _ => by kernel_rfl) (G_val (.pointer (some ⟨g1, 7, none⟩)) (fun _ => by kernel_rfl) (G_load 1 7 (.int .u32 l.2.2.2.2.2.2.2) hM18 (by kernel_rfl) (G_val (.agg #[.int .u32 l.2.2.2.2.2.2.1, .int .u32 l.2.2.2.2.2.2.2]) (fun _ => by kernel_rfl) (?_))))))))))))
  refine G_call (s_lens_Toward r22 l.1 l.2.1 x y l.2.2.2.2.2.2) (fun r : (Int × Int × Int) × Int => .tuple #[.agg #[.int .i64 r.1.1, .int .i64 r.1.2.1, .int .i64 r.1.2.2], .int .i64 r.2]) hM18 hL21 (fun w' hM' => w_lens_Toward r22 l.1 l.2.1 x y l.2.2.2.2.2.2 ((tr (P := fun r : (Int × Int × Int) × (Int × Int × Int) × (Int × Int × Int) × (Int × Int × Int) × Int × Int => (InV r.1 ∧ InV r.2.1 ∧ InV r.2.2.1 ∧ InV r.2.2.2.1 ∧ InI r.2.2.2.2.1 ∧ InI r.2.2.2.2.2)) h23 (i_umbralaw24_plain )).out) h_l.1 h_l.2.1 h_x h_y h_l.2.2.2.2.2.2 w') (by kernel_rfl) (fun _ => by kernel_rfl) (fun r24 h25 => G_val (.tuple #[.agg #[.int .i64 r24.1.1, .int .i64 r24.1.2.1, .int .i64 r24.1.2.2], .int .i64 r24.2]) (fun _ => by kernel_rfl) (G_val (.agg #[.int .i64 r24.1.1, .int .i64 r24.1.2.1, .int .i64 r24.1.2.2]) (fun _ => by kernel_rfl) (G_val (.int .i64 r24.2) (fun _ => by kernel_rfl) (G_fresh none #[.int .i64 0, .int .i64 0, .int .i64 0] 29 hL21 (by kernel_rfl) (fun _ => by kernel_rfl) (fun g26 F27 U28 hL29 => G_store 0 0 #[.int .i64 r24.1.1, .int .i64 r24.1.2.1, .int .i64 r24.1.2.2] hL29 (by kernel_rfl) (by kernel_rfl) (fun F30 hL31 => G_val (.int .i64 r24.2) (fun _ => by kernel_rfl) (G_nil hM18 hL31 (fun w32 hM33 => S_nil (R_seq (R_seq (R_region (?_))))))))))))
  have HR := hr_lt HR h25
  refine S_val (.int .i64 r9.2) (by kernel_rfl) (?_)
  refine S_decn (r9.2 = 0) (by kernel_rfl) (fun c34 => ?_) (fun c34 => ?_)
  · refine S_val (.bool true) (by kernel_rfl) (S_skip (by kernel_rfl) (S_skip (by kernel_rfl) (S_val (.bool true) (by kernel_rfl) (S_nil (R_yes (by kernel_rfl) (R_seq (R_region (S_call (s_umbralaw24_works ) (fun r : Bool => .bool r) hM33 (w_umbralaw24_works  w32) (by kernel_rfl) (fun r35 h36 w37 hM38 => ?_)))))))))
    have HR := hr_neg HR c34
    have HR := hr_lt HR h36
    cases r35
    · refine S_val (.bool false) (by kernel_rfl) (S_nil (?_))
      have HR := hr_neg HR Bool.false_ne_true
      refine R_ret hM38 rfl (.cons (.tmp _ (.bool false) (by kernel_rfl)) .nil) rfl ?_
      exact ⟨congrArg Ending.returned HR, hM38.below⟩
    · refine S_val (.bool true) (by kernel_rfl) (S_nil (?_))
      have HR := hr_pos HR rfl
      refine R_ret hM38 rfl (.cons (.tmp _ (.bool true) (by kernel_rfl)) .nil) rfl ?_
      exact ⟨congrArg Ending.returned HR, hM38.below⟩
  · refine S_val (.bool false) (by kernel_rfl) (S_val (.int .i64 r24.2) (by kernel_rfl) (?_))
    have HR := hr_pos HR c34
    refine S_decn (r24.2 = 0) (by kernel_rfl) (fun c40 => ?_) (fun c40 => ?_)
    · refine S_val (.bool true) (by kernel_rfl) (S_nil (R_yes (by kernel_rfl) (R_seq (R_region (S_call (s_umbralaw24_works ) (fun r : Bool => .bool r) hM33 (w_umbralaw24_works  w32) (by kernel_rfl) (fun r41 h42 w43 hM44 => ?_))))))
      have HR := hr_neg HR c40
      have HR := hr_lt HR h42
      cases r41
      · refine S_val (.bool false) (by kernel_rfl) (S_nil (?_))
        have HR := hr_neg HR Bool.false_ne_true
        refine R_ret hM44 rfl (.cons (.tmp _ (.bool false) (by kernel_rfl)) .nil) rfl ?_
        exact ⟨congrArg Ending.returned HR, hM44.below⟩
      · refine S_val (.bool true) (by kernel_rfl) (S_nil (?_))
        have HR := hr_pos HR rfl
        refine R_ret hM44 rfl (.cons (.tmp _ (.bool true) (by kernel_rfl)) .nil) rfl ?_
        exact ⟨congrArg Ending.returned HR, hM44.below⟩
    · refine S_val (.bool false) (by kernel_rfl) (S_nil (R_no (by kernel_rfl) (R_skip (R_seq (R_region (S_val (.pointer (some ⟨g1, 2, none⟩)) (by kernel_rfl) (S_load 2 2 (.int .i64 l.2.2.1) hM33 (by kernel_rfl) (S_val (.int .i64 x) (by kernel_rfl) (?_)))))))))
      have HR := hr_pos HR c40
      refine S_dec (l.2.2.1 ≥ x) (by kernel_rfl) (fun c46 => ?_) (fun c46 => ?_)
      · refine S_val (.bool true) (by kernel_rfl) (S_skip (by kernel_rfl) (S_skip (by kernel_rfl) (S_skip (by kernel_rfl) (S_skip (by kernel_rfl) (S_skip (by kernel_rfl) (S_val (.bool true) (by kernel_rfl) (S_val (.bool true) (by kernel_rfl) (S_val (.pointer (some ⟨g1, 3, none⟩)) (by kernel_rfl) (S_load 2 3 (.int .i64 l.2.2.2.1) hM33 (by kernel_rfl) (S_val (.int .i64 y) (by kernel_rfl) (?_)))))))))))
        have HR := hr_pos HR c46
        refine S_dec (l.2.2.2.1 ≥ y) (by kernel_rfl) (fun c47 => ?_) (fun c47 => ?_)
        · refine S_val (.bool true) (by kernel_rfl) (S_skip (by kernel_rfl) (S_skip (by kernel_rfl) (S_skip (by kernel_rfl) (S_skip (by kernel_rfl) (S_skip (by kernel_rfl) (S_val (.bool true) (by kernel_rfl) (S_val (.bool true) (by kernel_rfl) (S_val (.bool true) (by kernel_rfl) (S_call (s_umbralaw24_works ) (fun r : Bool => .bool r) hM33 (w_umbralaw24_works  w32) (by kernel_rfl) (fun r48 h49 w50 hM51 => ?_))))))))))
          have HR := hr_pos HR c47
          have HR := hr_lt HR h49
          cases r48
          · refine S_val (.bool false) (by kernel_rfl) (S_val (.bool false) (by kernel_rfl) (S_nil (?_)))
            have HR := hr_neg HR Bool.false_ne_true
            refine R_ret hM51 rfl (.cons (.tmp _ (.bool false) (by kernel_rfl)) .nil) rfl ?_
            exact ⟨congrArg Ending.returned HR, hM51.below⟩
          · refine S_val (.bool true) (by kernel_rfl) (S_val (.bool true) (by kernel_rfl) (S_nil (?_)))
            have HR := hr_pos HR rfl
            refine R_ret hM51 rfl (.cons (.tmp _ (.bool true) (by kernel_rfl)) .nil) rfl ?_
            exact ⟨congrArg Ending.returned HR, hM51.below⟩
        · refine S_val (.bool false) (by kernel_rfl) (S_val (.pointer (some ⟨g11, 1, none⟩)) (by kernel_rfl) (S_load 1 1 (.int .i64 r9.1.2.1) hM33 (by kernel_rfl) (S_val (.pointer (some ⟨g26, 1, none⟩)) (by kernel_rfl) (S_load 0 1 (.int .i64 r24.1.2.1) hM33 (by kernel_rfl) (?_)))))
          have HR := hr_neg HR c47
          refine S_dec (r9.1.2.1 ≥ r24.1.2.1) (by kernel_rfl) (fun c53 => ?_) (fun c53 => ?_)
          · refine S_val (.bool true) (by kernel_rfl) (S_val (.bool true) (by kernel_rfl) (S_val (.bool true) (by kernel_rfl) (S_call (s_umbralaw24_works ) (fun r : Bool => .bool r) hM33 (w_umbralaw24_works  w32) (by kernel_rfl) (fun r54 h55 w56 hM57 => ?_))))
            have HR := hr_pos HR c53
            have HR := hr_lt HR h55
            cases r54
            · refine S_val (.bool false) (by kernel_rfl) (S_val (.bool false) (by kernel_rfl) (S_nil (?_)))
              have HR := hr_neg HR Bool.false_ne_true
              refine R_ret hM57 rfl (.cons (.tmp _ (.bool false) (by kernel_rfl)) .nil) rfl ?_
              exact ⟨congrArg Ending.returned HR, hM57.below⟩
            · refine S_val (.bool true) (by kernel_rfl) (S_val (.bool true) (by kernel_rfl) (S_nil (?_)))
              have HR := hr_pos HR rfl
              refine R_ret hM57 rfl (.cons (.tmp _ (.bool true) (by kernel_rfl)) .nil) rfl ?_
              exact ⟨congrArg Ending.returned HR, hM57.below⟩
          · refine S_val (.bool false) (by kernel_rfl) (S_val (.bool false) (by kernel_rfl) (S_val (.bool false) (by kernel_rfl) (S_skip (by kernel_rfl) (S_val (.bool false) (by kernel_rfl) (S_val (.bool false) (by kernel_rfl) (S_nil (?_)))))))
            have HR := hr_neg HR c53
            refine R_ret hM33 rfl (.cons (.tmp _ (.bool false) (by kernel_rfl)) .nil) rfl ?_
            exact ⟨congrArg Ending.returned HR, hM33.below⟩
      · refine S_val (.bool false) (by kernel_rfl) (S_val (.pointer (some ⟨g11, 0, none⟩)) (by kernel_rfl) (S_load 1 0 (.int .i64 r9.1.1) hM33 (by kernel_rfl) (S_val (.pointer (some ⟨g26, 0, none⟩)) (by kernel_rfl) (S_load 0 0 (.int .i64 r24.1.1) hM33 (by kernel_rfl) (?_)))))
        have HR := hr_neg HR c46
        refine S_dec (r9.1.1 ≤ r24.1.1) (by kernel_rfl) (fun c59 => ?_) (fun c59 => ?_)
        · refine S_val (.bool true) (by kernel_rfl) (S_val (.bool true) (by kernel_rfl) (S_val (.pointer (some ⟨g1, 3, none⟩)) (by kernel_rfl) (S_load 2 3 (.int .i64 l.2.2.2.1) hM33 (by kernel_rfl) (S_val (.int .i64 y) (by kernel_rfl) (?_)))))
          have HR := hr_pos HR c59
          refine S_dec (l.2.2.2.1 ≥ y) (by kernel_rfl) (fun c60 => ?_) (fun c60 => ?_)
          · refine S_val (.bool true) (by kernel_rfl) (S_skip (by kernel_rfl) (S_skip (by kernel_rfl) (S_skip (by kernel_rfl) (S_skip (by kernel_rfl) (S_skip (by kernel_rfl) (S_val (.bool true) (by kernel_rfl) (S_val (.bool true) (by kernel_rfl) (S_val (.bool true) (by kernel_rfl) (S_call (s_umbralaw24_works ) (fun r : Bool => .bool r) hM33 (w_umbralaw24_works  w32) (by kernel_rfl) (fun r61 h62 w63 hM64 => ?_))))))))))
            have HR := hr_pos HR c60
            have HR := hr_lt HR h62
            cases r61
            · refine S_val (.bool false) (by kernel_rfl) (S_val (.bool false) (by kernel_rfl) (S_nil (?_)))
              have HR := hr_neg HR Bool.false_ne_true
              refine R_ret hM64 rfl (.cons (.tmp _ (.bool false) (by kernel_rfl)) .nil) rfl ?_
              exact ⟨congrArg Ending.returned HR, hM64.below⟩
            · refine S_val (.bool true) (by kernel_rfl) (S_val (.bool true) (by kernel_rfl) (S_nil (?_)))
              have HR := hr_pos HR rfl
              refine R_ret hM64 rfl (.cons (.tmp _ (.bool true) (by kernel_rfl)) .nil) rfl ?_
              exact ⟨congrArg Ending.returned HR, hM64.below⟩
          · refine S_val (.bool false) (by kernel_rfl) (S_val (.pointer (some ⟨g11, 1, none⟩)) (by kernel_rfl) (S_load 1 1 (.int .i64 r9.1.2.1) hM33 (by kernel_rfl) (S_val (.pointer (some ⟨g26, 1, none⟩)) (by kernel_rfl) (S_load 0 1 (.int .i64 r24.1.2.1) hM33 (by kernel_rfl) (?_)))))
            have HR := hr_neg HR c60
            refine S_dec (r9.1.2.1 ≥ r24.1.2.1) (by kernel_rfl) (fun c66 => ?_) (fun c66 => ?_)
            · refine S_val (.bool true) (by kernel_rfl) (S_val (.bool true) (by kernel_rfl) (S_val (.bool true) (by kernel_rfl) (S_call (s_umbralaw24_works ) (fun r : Bool => .bool r) hM33 (w_umbralaw24_works  w32) (by kernel_rfl) (fun r67 h68 w69 hM70 => ?_))))
              have HR := hr_pos HR c66
              have HR := hr_lt HR h68
              cases r67
              · refine S_val (.bool false) (by kernel_rfl) (S_val (.bool false) (by kernel_rfl) (S_nil (?_)))
                have HR := hr_neg HR Bool.false_ne_true
                refine R_ret hM70 rfl (.cons (.tmp _ (.bool false) (by kernel_rfl)) .nil) rfl ?_
                exact ⟨congrArg Ending.returned HR, hM70.below⟩
              · refine S_val (.bool true) (by kernel_rfl) (S_val (.bool true) (by kernel_rfl) (S_nil (?_)))
                have HR := hr_pos HR rfl
                refine R_ret hM70 rfl (.cons (.tmp _ (.bool true) (by kernel_rfl)) .nil) rfl ?_
                exact ⟨congrArg Ending.returned HR, hM70.below⟩
            · refine S_val (.bool false) (by kernel_rfl) (S_val (.bool false) (by kernel_rfl) (S_val (.bool false) (by kernel_rfl) (S_skip (by kernel_rfl) (S_val (.bool false) (by kernel_rfl) (S_val (.bool false) (by kernel_rfl) (S_nil (?_)))))))
              have HR := hr_neg HR c66
              refine R_ret hM33 rfl (.cons (.tmp _ (.bool false) (by kernel_rfl)) .nil) rfl ?_
              exact ⟨congrArg Ending.returned HR, hM33.below⟩
        · refine S_val (.bool false) (by kernel_rfl) (S_val (.bool false) (by kernel_rfl) (S_skip (by kernel_rfl) (S_skip (by kernel_rfl) (S_skip (by kernel_rfl) (S_skip (by kernel_rfl) (S_skip (by kernel_rfl) (S_skip (by kernel_rfl) (S_skip (by kernel_rfl) (S_skip (by kernel_rfl) (S_skip (by kernel_rfl) (S_skip (by kernel_rfl) (?_))))))))))))
          have HR := hr_neg HR c59
          refine S_skip (by kernel_rfl) (S_val (.bool false) (by kernel_rfl) (S_val (.bool false) (by kernel_rfl) (S_skip (by kernel_rfl) (S_val (.bool false) (by kernel_rfl) (S_val (.bool false) (by kernel_rfl) (S_nil (?_)))))))
          refine R_ret hM33 rfl (.cons (.tmp _ (.bool false) (by kernel_rfl)) .nil) rfl ?_
          exact ⟨congrArg Ending.returned HR, hM33.below⟩

def e_umbralaw24_LensGrid (r : Bool) : Value := .bool r
def s_umbralaw24_LensGrid (c : (Int × Int × Int) × (Int × Int × Int) × (Int × Int × Int) × (Int × Int × Int) × Int × Int) (l : Int × Int × Int × Int × (Int × Int × Int × Int)) : Bool :=
  lt (s_lens_Ray c l.1 l.2.1 l.2.2.1 l.2.2.2.1 l.2.2.2.2) fun r7 =>
  if r7.2.2 = 0 then
    lt (s_tri_Sub r7.1 c.1) fun r29 =>
    if c.2.2.2.2.1 = 0 then
      if (r29 : Int × Int × Int) = (0, 0, 0) then
        lt (IntKind.i64.wrap (0 - r29.1)) fun x40 =>
        lt (IntKind.i64.wrap (0 - r29.2.1)) fun x42 =>
        lt (IntKind.i64.wrap (0 - r29.2.2)) fun x44 =>
        lt (gmax (gmax (gmax (gmax (gmax r29.1 r29.2.1) r29.2.2) x40) x42) x44) fun x46 =>
        lt (IntKind.i64.wrap (2 * c.2.2.2.2.1)) fun x48 =>
        lt (IntKind.i64.wrap (x48 + 1)) fun x50 =>
        if x46 > x50 then
          false
        else
          lt (s_tri_May r7.1 r7.2.1) fun r53 =>
          if r53 = true then
            lt (s_octa_May r7.2.1) fun r57 =>
            if r57 = true then
              lt (s_umbralaw24_works ) fun r61 =>
              if r61 = true then
                true
              else
                false
            else
              false
          else
            false
      else
        false
    else
      lt (IntKind.i64.wrap (0 - r29.1)) fun x68 =>
      lt (IntKind.i64.wrap (0 - r29.2.1)) fun x70 =>
      lt (IntKind.i64.wrap (0 - r29.2.2)) fun x72 =>
      lt (gmax (gmax (gmax (gmax (gmax r29.1 r29.2.1) r29.2.2) x68) x70) x72) fun x74 =>
      lt (IntKind.i64.wrap (2 * c.2.2.2.2.1)) fun x76 =>
      lt (IntKind.i64.wrap (x76 + 1)) fun x78 =>
      if x74 > x78 then
        false
      else
        lt (s_tri_May r7.1 r7.2.1) fun r81 =>
        if r81 = true then
          lt (s_octa_May r7.2.1) fun r85 =>
          if r85 = true then
            lt (s_umbralaw24_works ) fun r89 =>
            if r89 = true then
              true
            else
              false
          else
            false
        else
          false
  else
    if (r7.1 : Int × Int × Int) = (0, 0, 0) then
      if (r7.2.1 : Int × Int × Int) = (0, 0, 0) then
        lt (s_umbralaw24_works ) fun r24 =>
        if r24 = true then
          true
        else
          false
      else
        false
    else
      false
set_option maxRecDepth 100000 in
set_option maxHeartbeats 4000000 in
theorem w_umbralaw24_LensGrid (c : (Int × Int × Int) × (Int × Int × Int) × (Int × Int × Int) × (Int × Int × Int) × Int × Int) (l : Int × Int × Int × Int × (Int × Int × Int × Int)) (h_c : (InV c.1 ∧ InV c.2.1 ∧ InV c.2.2.1 ∧ InV c.2.2.2.1 ∧ InI c.2.2.2.2.1 ∧ InI c.2.2.2.2.2)) (h_l : (InI l.1 ∧ InI l.2.1 ∧ InI l.2.2.1 ∧ InI l.2.2.2.1 ∧ (InU32 l.2.2.2.2.1 ∧ InU32 l.2.2.2.2.2.1 ∧ InU32 l.2.2.2.2.2.2.1 ∧ InU32 l.2.2.2.2.2.2.2))) (w : World) : Calls Try.prog 12 #[.agg #[.int .i64 c.1.1, .int .i64 c.1.2.1, .int .i64 c.1.2.2, .int .i64 c.2.1.1, .int .i64 c.2.1.2.1, .int .i64 c.2.1.2.2, .int .i64 c.2.2.1.1, .int .i64 c.2.2.1.2.1, .int .i64 c.2.2.1.2.2, .int .i64 c.2.2.2.1.1, .int .i64 c.2.2.2.1.2.1, .int .i64 c.2.2.2.1.2.2, .int .i64 c.2.2.2.2.1, .int .i64 c.2.2.2.2.2], .agg #[.int .i64 l.1, .int .i64 l.2.1, .int .i64 l.2.2.1, .int .i64 l.2.2.2.1, .int .u32 l.2.2.2.2.1, .int .u32 l.2.2.2.2.2.1, .int .u32 l.2.2.2.2.2.2.1, .int .u32 l.2.2.2.2.2.2.2]] w (Ret (e_umbralaw24_LensGrid (s_umbralaw24_LensGrid c l)) w) := by
  obtain ⟨R, HR⟩ : ∃ R, e_umbralaw24_LensGrid (s_umbralaw24_LensGrid c l) = R := ⟨_, rfl⟩
  rw [HR]
  unfold s_umbralaw24_LensGrid at HR
  have hM0 := St.start w
  refine calls_run Try.func12 rfl ?_
  refine R_seq (R_region (S_fresh none #[.int .i64 c.1.1, .int .i64 c.1.2.1, .int .i64 c.1.2.2, .int .i64 c.2.1.1, .int .i64 c.2.1.2.1, .int .i64 c.2.1.2.2, .int .i64 c.2.2.1.1, .int .i64 c.2.2.1.2.1, .int .i64 c.2.2.1.2.2, .int .i64 c.2.2.2.1.1, .int .i64 c.2.2.2.1.2.1, .int .i64 c.2.2.2.1.2.2, .int .i64 c.2.2.2.2.1, .int .i64 c.2.2.2.2.2] 71 hM0 (by kernel_rfl) (fun g1 w2 hM3 => S_fresh none #[.int .i64 l.1, .int .i64 l.2.1, .int .i64 l.2.2.1, .int .i64 l.2.2.2.1, .int .u32 l.2.2.2.2.1, .int .u32 l.2.2.2.2.2.1, .int .u32 l.2.2.2.2.2.2.1, .int .u32 l.2.2.2.2.2.2.2] 83 hM3 (by kernel_rfl) (fun g4 w5 hM6 => S_val (.bool false) (by kernel_rfl) (S_nil (R_seq (R_region (S_load 1 0 (.agg #[.int .i64 c.1.1, .int .i64 c.1.2.1, .int .i64 c.1.2.2, .int .i64 c.2.1.1, .int .i64 c.2.1.2.1, .int .i64 c.2.1.2.2, .int .i64 c.2.2.1.1, .int .i64 c.2.2.1.2.1, .int .i64 c.2.2.1.2.2, .int .i64 c.2.2.2.1.1, .int .i64 c.2.2.2.1.2.1, .int .i64 c.2.2.2.1.2.2, .int .i64 c.2.2.2.2.1, .int .i64 c.2.2.2.2.2]) hM6 (by kernel_rfl) (S_val (.pointer (some ⟨g4, 0, none⟩)) (by kernel_rfl) (S_load 0 0 (.int .i64 l.1) hM6 (by kernel_rfl) (S_val (.pointer (some ⟨g4, 1, none⟩)) (by kernel_rfl) (?_))))))))))))
  refine S_load 0 1 (.int .i64 l.2.1) hM6 (by kernel_rfl) (S_val (.pointer (some ⟨g4, 2, none⟩)) (by kernel_rfl) (S_load 0 2 (.int .i64 l.2.2.1) hM6 (by kernel_rfl) (S_val (.pointer (some ⟨g4, 3, none⟩)) (by kernel_rfl) (S_load 0 3 (.int .i64 l.2.2.2.1) hM6 (by kernel_rfl) (S_val (.pointer (some ⟨g4, 4, none⟩)) (by kernel_rfl) (S_load 0 4 (.agg #[.int .u32 l.2.2.2.2.1, .int .u32 l.2.2.2.2.2.1, .int .u32 l.2.2.2.2.2.2.1, .int .u32 l.2.2.2.2.2.2.2]) hM6 (by kernel_rfl) (S_call (s_lens_Ray c l.1 l.2.1 l.2.2.1 l.2.2.2.1 l.2.2.2.2) (fun r : (Int × Int × Int) × (Int × Int × Int) × Int => .tuple #[.agg #[.int .i64 r.1.1, .int .i64 r.1.2.1, .int .i64 r.1.2.2], .agg #[.int .i64 r.2.1.1, .int .i64 r.2.1.2.1, .int .i64 r.2.1.2.2], .int .i64 r.2.2]) hM6 (w_lens_Ray c l.1 l.2.1 l.2.2.1 l.2.2.2.1 l.2.2.2.2 h_c h_l.1 h_l.2.1 h_l.2.2.1 h_l.2.2.2.1 h_l.2.2.2.2 w5) (by kernel_rfl) (fun r7 h8 w9 hM10 => S_val (.tuple #[.agg #[.int .i64 r7.1.1, .int .i64 r7.1.2.1, .int .i64 r7.1.2.2], .agg #[.int .i64 r7.2.1.1, .int .i64 r7.2.1.2.1, .int .i64 r7.2.1.2.2], .int .i64 r7.2.2]) (by kernel_rfl) (S_val (.agg #[.int .i64 r7.1.1, .int .i64 r7.1.2.1, .int .i64 r7.1.2.2]) (by kernel_rfl) (S_val (.agg #[.int .i64 r7.2.1.1, .int .i64 r7.2.1.2.1, .int .i64 r7.2.1.2.2]) (by kernel_rfl) (S_val (.int .i64 r7.2.2) (by kernel_rfl) (?_))))))))))))
  have HR := hr_lt HR h8
  refine S_fresh none #[.int .i64 0, .int .i64 0, .int .i64 0] 69 hM10 (by kernel_rfl) (fun g11 w12 hM13 => S_fresh none #[.int .i64 0, .int .i64 0, .int .i64 0] 69 hM13 (by kernel_rfl) (fun g14 w15 hM16 => S_store 1 0 #[.int .i64 r7.1.1, .int .i64 r7.1.2.1, .int .i64 r7.1.2.2] hM16 (by kernel_rfl) (fun w17 hM18 => S_store 0 0 #[.int .i64 r7.2.1.1, .int .i64 r7.2.1.2.1, .int .i64 r7.2.1.2.2] hM18 (by kernel_rfl) (fun w19 hM20 => S_val (.int .i64 r7.2.2) (by kernel_rfl) (S_nil (R_seq (R_seq (R_region (S_val (.int .i64 r7.2.2) (by kernel_rfl) (?_))))))))))
  refine S_decn (r7.2.2 = 0) (by kernel_rfl) (fun c21 => ?_) (fun c21 => ?_)
  · refine S_nil (R_yes (by kernel_rfl) (R_seq (R_region (S_load 1 0 (.agg #[.int .i64 r7.1.1, .int .i64 r7.1.2.1, .int .i64 r7.1.2.2]) hM20 (by kernel_rfl) (S_val (.agg #[.int .i64 0, .int .i64 0, .int .i64 0]) (by kernel_rfl) (?_))))))
    have HR := hr_neg HR c21
    refine S_dec ((r7.1 : Int × Int × Int) = (0, 0, 0)) (eqv_umbra_api_Point (x := r7.1) (y := (0, 0, 0)) (by kernel_rfl) (by kernel_rfl) (by kernel_rfl)) (fun c22 => ?_) (fun c22 => ?_)
    · refine S_val (.bool true) (by kernel_rfl) (S_load 0 0 (.agg #[.int .i64 r7.2.1.1, .int .i64 r7.2.1.2.1, .int .i64 r7.2.1.2.2]) hM20 (by kernel_rfl) (S_val (.agg #[.int .i64 0, .int .i64 0, .int .i64 0]) (by kernel_rfl) (?_)))
      have HR := hr_pos HR c22
      refine S_dec ((r7.2.1 : Int × Int × Int) = (0, 0, 0)) (eqv_umbra_api_Point (x := r7.2.1) (y := (0, 0, 0)) (by kernel_rfl) (by kernel_rfl) (by kernel_rfl)) (fun c23 => ?_) (fun c23 => ?_)
      · refine S_val (.bool true) (by kernel_rfl) (S_val (.bool true) (by kernel_rfl) (S_call (s_umbralaw24_works ) (fun r : Bool => .bool r) hM20 (w_umbralaw24_works  w19) (by kernel_rfl) (fun r24 h25 w26 hM27 => ?_)))
        have HR := hr_pos HR c23
        have HR := hr_lt HR h25
        cases r24
        · refine S_val (.bool false) (by kernel_rfl) (S_val (.bool false) (by kernel_rfl) (S_nil (?_)))
          have HR := hr_neg HR Bool.false_ne_true
          refine R_ret hM27 rfl (.cons (.tmp _ (.bool false) (by kernel_rfl)) .nil) rfl ?_
          exact ⟨congrArg Ending.returned HR, hM27.below⟩
        · refine S_val (.bool true) (by kernel_rfl) (S_val (.bool true) (by kernel_rfl) (S_nil (?_)))
          have HR := hr_pos HR rfl
          refine R_ret hM27 rfl (.cons (.tmp _ (.bool true) (by kernel_rfl)) .nil) rfl ?_
          exact ⟨congrArg Ending.returned HR, hM27.below⟩
      · refine S_val (.bool false) (by kernel_rfl) (S_val (.bool false) (by kernel_rfl) (S_skip (by kernel_rfl) (S_val (.bool false) (by kernel_rfl) (S_val (.bool false) (by kernel_rfl) (S_nil (?_))))))
        have HR := hr_neg HR c23
        refine R_ret hM20 rfl (.cons (.tmp _ (.bool false) (by kernel_rfl)) .nil) rfl ?_
        exact ⟨congrArg Ending.returned HR, hM20.below⟩
    · refine S_val (.bool false) (by kernel_rfl) (S_skip (by kernel_rfl) (S_skip (by kernel_rfl) (S_skip (by kernel_rfl) (S_val (.bool false) (by kernel_rfl) (S_val (.bool false) (by kernel_rfl) (S_skip (by kernel_rfl) (S_val (.bool false) (by kernel_rfl) (S_val (.bool false) (by kernel_rfl) (S_nil (?_))))))))))
      have HR := hr_neg HR c22
      refine R_ret hM20 rfl (.cons (.tmp _ (.bool false) (by kernel_rfl)) .nil) rfl ?_
      exact ⟨congrArg Ending.returned HR, hM20.below⟩
  · refine S_nil (R_no (by kernel_rfl) (R_skip (R_seq (R_region (S_load 1 0 (.agg #[.int .i64 r7.1.1, .int .i64 r7.1.2.1, .int .i64 r7.1.2.2]) hM20 (by kernel_rfl) (S_val (.pointer (some ⟨g1, 0, none⟩)) (by kernel_rfl) (S_load 3 0 (.agg #[.int .i64 c.1.1, .int .i64 c.1.2.1, .int .i64 c.1.2.2]) hM20 (by kernel_rfl) (S_call (s_tri_Sub r7.1 c.1) (fun r : Int × Int × Int => .agg #[.int .i64 r.1, .int .i64 r.2.1, .int .i64 r.2.2]) hM20 (w_tri_Sub r7.1 c.1 w19) (by kernel_rfl) (fun r29 h30 w31 hM32 => S_fresh none #[.int .i64 0, .int .i64 0, .int .i64 0] 69 hM32 (by kernel_rfl) (fun g33 w34 hM35 => S_store 0 0 #[.int .i64 r29.1, .int .i64 r29.2.1, .int .i64 r29.2.2] hM35 (by kernel_rfl) (fun w36 hM37 => S_nil (?_))))))))))))
    have HR := hr_pos HR c21
    have HR := hr_lt HR h30
    refine R_seq (R_seq (R_region (S_val (.pointer (some ⟨g1, 12, none⟩)) (by kernel_rfl) (S_load 4 12 (.int .i64 c.2.2.2.2.1) hM37 (by kernel_rfl) (?_)))))
    refine S_dec (c.2.2.2.2.1 = 0) (by kernel_rfl) (fun c38 => ?_) (fun c38 => ?_)
    · refine S_val (.bool true) (by kernel_rfl) (S_load 0 0 (.agg #[.int .i64 r29.1, .int .i64 r29.2.1, .int .i64 r29.2.2]) hM37 (by kernel_rfl) (S_val (.agg #[.int .i64 0, .int .i64 0, .int .i64 0]) (by kernel_rfl) (?_)))
      have HR := hr_pos HR c38
      refine S_decn ((r29 : Int × Int × Int) = (0, 0, 0)) (eqv_umbra_api_Pointn (x := r29) (y := (0, 0, 0)) (by kernel_rfl) (by kernel_rfl) (by kernel_rfl)) (fun c39 => ?_) (fun c39 => ?_)
      · refine S_val (.bool true) (by kernel_rfl) (S_val (.bool true) (by kernel_rfl) (S_skip (by kernel_rfl) (S_skip (by kernel_rfl) (S_skip (by kernel_rfl) (S_skip (by kernel_rfl) (S_skip (by kernel_rfl) (S_skip (by kernel_rfl) (S_skip (by kernel_rfl) (S_skip (by kernel_rfl) (S_skip (by kernel_rfl) (S_skip (by kernel_rfl) (?_))))))))))))
        have HR := hr_neg HR c39
        refine S_skip (by kernel_rfl) (S_skip (by kernel_rfl) (S_skip (by kernel_rfl) (S_skip (by kernel_rfl) (S_skip (by kernel_rfl) (S_skip (by kernel_rfl) (S_skip (by kernel_rfl) (S_skip (by kernel_rfl) (S_skip (by kernel_rfl) (S_skip (by kernel_rfl) (S_skip (by kernel_rfl) (S_val (.bool true) (by kernel_rfl) (?_))))))))))))
        refine S_nil (R_yes (by kernel_rfl) (R_seq (R_region (S_val (.bool false) (by kernel_rfl) (S_nil (?_))))))
        refine R_ret hM37 rfl (.cons (.tmp _ (.bool false) (by kernel_rfl)) .nil) rfl ?_
        exact ⟨congrArg Ending.returned HR, hM37.below⟩
      · refine S_val (.bool false) (by kernel_rfl) (S_val (.bool false) (by kernel_rfl) (S_val (.pointer (some ⟨g33, 0, none⟩)) (by kernel_rfl) (S_load 0 0 (.int .i64 r29.1) hM37 (by kernel_rfl) (S_val (.pointer (some ⟨g33, 1, none⟩)) (by kernel_rfl) (S_load 0 1 (.int .i64 r29.2.1) hM37 (by kernel_rfl) (S_val (.pointer (some ⟨g33, 2, none⟩)) (by kernel_rfl) (S_load 0 2 (.int .i64 r29.2.2) hM37 (by kernel_rfl) (S_val (.pointer (some ⟨g33, 0, none⟩)) (by kernel_rfl) (S_load 0 0 (.int .i64 r29.1) hM37 (by kernel_rfl) (S_int (IntKind.i64.wrap (0 - r29.1)) .i64 (by kernel_rfl) (fun x40 h41 => S_val (.pointer (some ⟨g33, 1, none⟩)) (by kernel_rfl) (?_))))))))))))
        have HR := hr_pos HR c39
        have HR := hr_lt HR h41
        refine S_load 0 1 (.int .i64 r29.2.1) hM37 (by kernel_rfl) (S_int (IntKind.i64.wrap (0 - r29.2.1)) .i64 (by kernel_rfl) (fun x42 h43 => S_val (.pointer (some ⟨g33, 2, none⟩)) (by kernel_rfl) (S_load 0 2 (.int .i64 r29.2.2) hM37 (by kernel_rfl) (S_int (IntKind.i64.wrap (0 - r29.2.2)) .i64 (by kernel_rfl) (fun x44 h45 => S_int (gmax (gmax (gmax (gmax (gmax r29.1 r29.2.1) r29.2.2) x40) x42) x44) .i64 (by kernel_rfl) (fun x46 h47 => S_val (.pointer (some ⟨g1, 12, none⟩)) (by kernel_rfl) (S_load 4 12 (.int .i64 c.2.2.2.2.1) hM37 (by kernel_rfl) (S_int (IntKind.i64.wrap (2 * c.2.2.2.2.1)) .i64 (by kernel_rfl) (fun x48 h49 => S_int (IntKind.i64.wrap (x48 + 1)) .i64 (by kernel_rfl) (fun x50 h51 => ?_))))))))))
        have HR := hr_lt HR h43
        have HR := hr_lt HR h45
        have HR := hr_lt HR h47
        have HR := hr_lt HR h49
        have HR := hr_lt HR h51
        refine S_dec (x46 > x50) (by kernel_rfl) (fun c52 => ?_) (fun c52 => ?_)
        · refine S_val (.bool true) (by kernel_rfl) (S_nil (R_yes (by kernel_rfl) (R_seq (R_region (S_val (.bool false) (by kernel_rfl) (S_nil (?_)))))))
          have HR := hr_pos HR c52
          refine R_ret hM37 rfl (.cons (.tmp _ (.bool false) (by kernel_rfl)) .nil) rfl ?_
          exact ⟨congrArg Ending.returned HR, hM37.below⟩
        · refine S_val (.bool false) (by kernel_rfl) (S_nil (R_no (by kernel_rfl) (R_skip (R_seq (R_region (S_load 2 0 (.agg #[.int .i64 r7.1.1, .int .i64 r7.1.2.1, .int .i64 r7.1.2.2]) hM37 (by kernel_rfl) (S_load 1 0 (.agg #[.int .i64 r7.2.1.1, .int .i64 r7.2.1.2.1, .int .i64 r7.2.1.2.2]) hM37 (by kernel_rfl) (S_call (s_tri_May r7.1 r7.2.1) (fun r : Bool => .bool r) hM37 (w_tri_May r7.1 r7.2.1 w36) (by kernel_rfl) (fun r53 h54 w55 hM56 => ?_)))))))))
          have HR := hr_neg HR c52
          have HR := hr_lt HR h54
          cases r53
          · refine S_val (.bool false) (by kernel_rfl) (S_skip (by kernel_rfl) (S_skip (by kernel_rfl) (S_val (.bool false) (by kernel_rfl) (S_val (.bool false) (by kernel_rfl) (S_skip (by kernel_rfl) (S_val (.bool false) (by kernel_rfl) (S_val (.bool false) (by kernel_rfl) (S_nil (?_)))))))))
            have HR := hr_neg HR Bool.false_ne_true
            refine R_ret hM56 rfl (.cons (.tmp _ (.bool false) (by kernel_rfl)) .nil) rfl ?_
            exact ⟨congrArg Ending.returned HR, hM56.below⟩
          · refine S_val (.bool true) (by kernel_rfl) (S_load 1 0 (.agg #[.int .i64 r7.2.1.1, .int .i64 r7.2.1.2.1, .int .i64 r7.2.1.2.2]) hM56 (by kernel_rfl) (S_call (s_octa_May r7.2.1) (fun r : Bool => .bool r) hM56 (w_octa_May r7.2.1 w55) (by kernel_rfl) (fun r57 h58 w59 hM60 => ?_)))
            have HR := hr_pos HR rfl
            have HR := hr_lt HR h58
            cases r57
            · refine S_val (.bool false) (by kernel_rfl) (S_val (.bool false) (by kernel_rfl) (S_skip (by kernel_rfl) (S_val (.bool false) (by kernel_rfl) (S_val (.bool false) (by kernel_rfl) (S_nil (?_))))))
              have HR := hr_neg HR Bool.false_ne_true
              refine R_ret hM60 rfl (.cons (.tmp _ (.bool false) (by kernel_rfl)) .nil) rfl ?_
              exact ⟨congrArg Ending.returned HR, hM60.below⟩
            · refine S_val (.bool true) (by kernel_rfl) (S_val (.bool true) (by kernel_rfl) (S_call (s_umbralaw24_works ) (fun r : Bool => .bool r) hM60 (w_umbralaw24_works  w59) (by kernel_rfl) (fun r61 h62 w63 hM64 => ?_)))
              have HR := hr_pos HR rfl
              have HR := hr_lt HR h62
              cases r61
              · refine S_val (.bool false) (by kernel_rfl) (S_val (.bool false) (by kernel_rfl) (S_nil (?_)))
                have HR := hr_neg HR Bool.false_ne_true
                refine R_ret hM64 rfl (.cons (.tmp _ (.bool false) (by kernel_rfl)) .nil) rfl ?_
                exact ⟨congrArg Ending.returned HR, hM64.below⟩
              · refine S_val (.bool true) (by kernel_rfl) (S_val (.bool true) (by kernel_rfl) (S_nil (?_)))
                have HR := hr_pos HR rfl
                refine R_ret hM64 rfl (.cons (.tmp _ (.bool true) (by kernel_rfl)) .nil) rfl ?_
                exact ⟨congrArg Ending.returned HR, hM64.below⟩
    · refine S_val (.bool false) (by kernel_rfl) (S_skip (by kernel_rfl) (S_skip (by kernel_rfl) (S_skip (by kernel_rfl) (S_val (.bool false) (by kernel_rfl) (S_val (.bool false) (by kernel_rfl) (S_val (.pointer (some ⟨g33, 0, none⟩)) (by kernel_rfl) (S_load 0 0 (.int .i64 r29.1) hM37 (by kernel_rfl) (S_val (.pointer (some ⟨g33, 1, none⟩)) (by kernel_rfl) (S_load 0 1 (.int .i64 r29.2.1) hM37 (by kernel_rfl) (S_val (.pointer (some ⟨g33, 2, none⟩)) (by kernel_rfl) (S_load 0 2 (.int .i64 r29.2.2) hM37 (by kernel_rfl) (?_))))))))))))
      have HR := hr_neg HR c38
      refine S_val (.pointer (some ⟨g33, 0, none⟩)) (by kernel_rfl) (S_load 0 0 (.int .i64 r29.1) hM37 (by kernel_rfl) (S_int (IntKind.i64.wrap (0 - r29.1)) .i64 (by kernel_rfl) (fun x68 h69 => S_val (.pointer (some ⟨g33, 1, none⟩)) (by kernel_rfl) (S_load 0 1 (.int .i64 r29.2.1) hM37 (by kernel_rfl) (S_int (IntKind.i64.wrap (0 - r29.2.1)) .i64 (by kernel_rfl) (fun x70 h71 => S_val (.pointer (some ⟨g33, 2, none⟩)) (by kernel_rfl) (S_load 0 2 (.int .i64 r29.2.2) hM37 (by kernel_rfl) (S_int (IntKind.i64.wrap (0 - r29.2.2)) .i64 (by kernel_rfl) (fun x72 h73 => S_int (gmax (gmax (gmax (gmax (gmax r29.1 r29.2.1) r29.2.2) x68) x70) x72) .i64 (by kernel_rfl) (fun x74 h75 => S_val (.pointer (some ⟨g1, 12, none⟩)) (by kernel_rfl) (S_load 4 12 (.int .i64 c.2.2.2.2.1) hM37 (by kernel_rfl) (?_))))))))))))
      have HR := hr_lt HR h69
      have HR := hr_lt HR h71
      have HR := hr_lt HR h73
      have HR := hr_lt HR h75
      refine S_int (IntKind.i64.wrap (2 * c.2.2.2.2.1)) .i64 (by kernel_rfl) (fun x76 h77 => S_int (IntKind.i64.wrap (x76 + 1)) .i64 (by kernel_rfl) (fun x78 h79 => ?_))
      have HR := hr_lt HR h77
      have HR := hr_lt HR h79
      refine S_dec (x74 > x78) (by kernel_rfl) (fun c80 => ?_) (fun c80 => ?_)
      · refine S_val (.bool true) (by kernel_rfl) (S_nil (R_yes (by kernel_rfl) (R_seq (R_region (S_val (.bool false) (by kernel_rfl) (S_nil (?_)))))))
        have HR := hr_pos HR c80
        refine R_ret hM37 rfl (.cons (.tmp _ (.bool false) (by kernel_rfl)) .nil) rfl ?_
        exact ⟨congrArg Ending.returned HR, hM37.below⟩
      · refine S_val (.bool false) (by kernel_rfl) (S_nil (R_no (by kernel_rfl) (R_skip (R_seq (R_region (S_load 2 0 (.agg #[.int .i64 r7.1.1, .int .i64 r7.1.2.1, .int .i64 r7.1.2.2]) hM37 (by kernel_rfl) (S_load 1 0 (.agg #[.int .i64 r7.2.1.1, .int .i64 r7.2.1.2.1, .int .i64 r7.2.1.2.2]) hM37 (by kernel_rfl) (S_call (s_tri_May r7.1 r7.2.1) (fun r : Bool => .bool r) hM37 (w_tri_May r7.1 r7.2.1 w36) (by kernel_rfl) (fun r81 h82 w83 hM84 => ?_)))))))))
        have HR := hr_neg HR c80
        have HR := hr_lt HR h82
        cases r81
        · refine S_val (.bool false) (by kernel_rfl) (S_skip (by kernel_rfl) (S_skip (by kernel_rfl) (S_val (.bool false) (by kernel_rfl) (S_val (.bool false) (by kernel_rfl) (S_skip (by kernel_rfl) (S_val (.bool false) (by kernel_rfl) (S_val (.bool false) (by kernel_rfl) (S_nil (?_)))))))))
          have HR := hr_neg HR Bool.false_ne_true
          refine R_ret hM84 rfl (.cons (.tmp _ (.bool false) (by kernel_rfl)) .nil) rfl ?_
          exact ⟨congrArg Ending.returned HR, hM84.below⟩
        · refine S_val (.bool true) (by kernel_rfl) (S_load 1 0 (.agg #[.int .i64 r7.2.1.1, .int .i64 r7.2.1.2.1, .int .i64 r7.2.1.2.2]) hM84 (by kernel_rfl) (S_call (s_octa_May r7.2.1) (fun r : Bool => .bool r) hM84 (w_octa_May r7.2.1 w83) (by kernel_rfl) (fun r85 h86 w87 hM88 => ?_)))
          have HR := hr_pos HR rfl
          have HR := hr_lt HR h86
          cases r85
          · refine S_val (.bool false) (by kernel_rfl) (S_val (.bool false) (by kernel_rfl) (S_skip (by kernel_rfl) (S_val (.bool false) (by kernel_rfl) (S_val (.bool false) (by kernel_rfl) (S_nil (?_))))))
            have HR := hr_neg HR Bool.false_ne_true
            refine R_ret hM88 rfl (.cons (.tmp _ (.bool false) (by kernel_rfl)) .nil) rfl ?_
            exact ⟨congrArg Ending.returned HR, hM88.below⟩
          · refine S_val (.bool true) (by kernel_rfl) (S_val (.bool true) (by kernel_rfl) (S_call (s_umbralaw24_works ) (fun r : Bool => .bool r) hM88 (w_umbralaw24_works  w87) (by kernel_rfl) (fun r89 h90 w91 hM92 => ?_)))
            have HR := hr_pos HR rfl
            have HR := hr_lt HR h90
            cases r89
            · refine S_val (.bool false) (by kernel_rfl) (S_val (.bool false) (by kernel_rfl) (S_nil (?_)))
              have HR := hr_neg HR Bool.false_ne_true
              refine R_ret hM92 rfl (.cons (.tmp _ (.bool false) (by kernel_rfl)) .nil) rfl ?_
              exact ⟨congrArg Ending.returned HR, hM92.below⟩
            · refine S_val (.bool true) (by kernel_rfl) (S_val (.bool true) (by kernel_rfl) (S_nil (?_)))
              have HR := hr_pos HR rfl
              refine R_ret hM92 rfl (.cons (.tmp _ (.bool true) (by kernel_rfl)) .nil) rfl ?_
              exact ⟨congrArg Ending.returned HR, hM92.below⟩

end Go.Proofs.Ytognbeejobfpfaa
