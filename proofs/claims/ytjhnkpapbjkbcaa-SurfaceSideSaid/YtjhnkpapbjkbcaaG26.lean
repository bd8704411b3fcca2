/- Walks: stream, surface, umbraref26. -/
import Derived.Test.YtjhnkpapbjkbcaaNO
import Derived.Test.YtjhnkpapbjkbcaaNK
namespace Go.Proofs.Ytjhnkpapbjkbcaa
open Go.RowKit Go.Sort
set_option linter.unusedVariables false
set_option linter.unusedSimpArgs false

def e_stream_Unit (r : Int) : Value := .int .i64 r
def s_stream_Unit (x : Int) : Int :=
  lt (IntKind.i64.wrap x) fun x1 =>
  x1
set_option maxRecDepth 100000 in
set_option maxHeartbeats 4000000 in
theorem w_stream_Unit (x : Int) (h_x : InU32 x) (w : World) : Calls Try.prog 52 #[.int .u32 x] w (Ret (e_stream_Unit (s_stream_Unit x)) w) := by
  obtain ⟨R, HR⟩ : ∃ R, e_stream_Unit (s_stream_Unit x) = R := ⟨_, rfl⟩
  rw [HR]
  unfold s_stream_Unit at HR
  have hM0 := St.start w
  refine calls_run Try.func52 rfl ?_
  refine R_seq (R_region (S_val (.int .i64 0) (by kernel_rfl) (S_nil (R_seq (R_region (S_val (.int .u32 x) (by kernel_rfl) (S_int (IntKind.i64.wrap x) .i64 (by kernel_rfl) (fun x1 h2 => S_val (.int .i64 x1) (by kernel_rfl) (S_nil (?_))))))))))
  have HR := hr_lt HR h2
  refine R_ret hM0 rfl (.cons (.tmp _ (.int .i64 x1) (by kernel_rfl)) .nil) rfl ?_
  exact ⟨congrArg Ending.returned HR, hM0.below⟩

def P_stream_Unit (r : Int) : Prop := InI r
theorem i_stream_Unit (x : Int) (h_x : InU32 x) : P_stream_Unit (s_stream_Unit x) := by
  unfold s_stream_Unit
  exact (lt_P fun x1 h2 => (show InI x1 from (wr_i64 h2)))

def e_stream_Below (r : Int) : Value := .int .i64 r
def s_stream_Below (x : Int) (n : Int) : Int :=
  lt (gmax n 0) fun x1 =>
  lt (gmin x1 2147483648) fun x3 =>
  lt (IntKind.u64.wrap x) fun x5 =>
  lt (IntKind.u64.wrap x3) fun x7 =>
  lt (IntKind.u64.wrap (x5 * x7)) fun x9 =>
  lt (Int.fdiv x9 (2 ^ 32)) fun x11 =>
  lt (IntKind.i64.wrap x11) fun x13 =>
  x13
set_option maxRecDepth 100000 in
set_option maxHeartbeats 4000000 in
theorem w_stream_Below (x : Int) (n : Int) (h_x : InU32 x) (h_n : InI n) (w : World) : Calls Try.prog 71 #[.int .u32 x, .int .i64 n] w (Ret (e_stream_Below (s_stream_Below x n)) w) := by
  obtain ⟨R, HR⟩ : ∃ R, e_stream_Below (s_stream_Below x n) = R := ⟨_, rfl⟩
  rw [HR]
  unfold s_stream_Below at HR
  have hM0 := St.start w
  refine calls_run Try.func71 rfl ?_
  refine R_seq (R_region (S_val (.int .i64 0) (by kernel_rfl) (S_nil (R_seq (R_region (S_val (.int .i64 n) (by kernel_rfl) (S_int (gmax n 0) .i64 (by kernel_rfl) (fun x1 h2 => S_int (gmin x1 2147483648) .i64 (by kernel_rfl) (fun x3 h4 => S_val (.int .i64 x3) (by kernel_rfl) (S_nil (R_seq (?_))))))))))))
  have HR := hr_lt HR h2
  have HR := hr_lt HR h4
  refine R_region (S_val (.int .u32 x) (by kernel_rfl) (S_int (IntKind.u64.wrap x) .u64 (by kernel_rfl) (fun x5 h6 => S_val (.int .i64 x3) (by kernel_rfl) (S_int (IntKind.u64.wrap x3) .u64 (by kernel_rfl) (fun x7 h8 => S_int (IntKind.u64.wrap (x5 * x7)) .u64 (by kernel_rfl) (fun x9 h10 => S_int (Int.fdiv x9 (2 ^ 32)) .u64 (by kernel_rfl) (fun x11 h12 => S_int (IntKind.i64.wrap x11) .i64 (by kernel_rfl) (fun x13 h14 => S_val (.int .i64 x13) (by kernel_rfl) (S_nil (?_))))))))))
  have HR := hr_lt HR h6
  have HR := hr_lt HR h8
  have HR := hr_lt HR h10
  have HR := hr_lt HR h12
  have HR := hr_lt HR h14
  refine R_ret hM0 rfl (.cons (.tmp _ (.int .i64 x13) (by kernel_rfl)) .nil) rfl ?_
  exact ⟨congrArg Ending.returned HR, hM0.below⟩

def P_stream_Below (r : Int) : Prop := InI r
theorem i_stream_Below (x : Int) (n : Int) (h_x : InU32 x) (h_n : InI n) : P_stream_Below (s_stream_Below x n) := by
  unfold s_stream_Below
  exact (lt_P fun x1 h2 => (lt_P fun x3 h4 => (lt_P fun x5 h6 => (lt_P fun x7 h8 => (lt_P fun x9 h10 => (lt_P fun x11 h12 => (lt_P fun x13 h14 => (show InI x13 from (wr_i64 h14)))))))))

def e_umbraref10_Unit (r : Int) : Value := .int .i64 r
def s_umbraref10_Unit (x : Int) : Int :=
  lt (IntKind.i64.wrap x) fun x1 =>
  x1
set_option maxRecDepth 100000 in
set_option maxHeartbeats 4000000 in
theorem w_umbraref10_Unit (x : Int) (h_x : InU32 x) (w : World) : Calls Try.prog 59 #[.int .u32 x] w (Ret (e_umbraref10_Unit (s_umbraref10_Unit x)) w) := by
  obtain ⟨R, HR⟩ : ∃ R, e_umbraref10_Unit (s_umbraref10_Unit x) = R := ⟨_, rfl⟩
  rw [HR]
  unfold s_umbraref10_Unit at HR
  have hM0 := St.start w
  refine calls_run Try.func59 rfl ?_
  refine R_seq (R_region (S_val (.int .i64 0) (by kernel_rfl) (S_nil (R_seq (R_region (S_val (.int .u32 x) (by kernel_rfl) (S_int (IntKind.i64.wrap x) .i64 (by kernel_rfl) (fun x1 h2 => S_val (.int .i64 x1) (by kernel_rfl) (S_nil (?_))))))))))
  have HR := hr_lt HR h2
  refine R_ret hM0 rfl (.cons (.tmp _ (.int .i64 x1) (by kernel_rfl)) .nil) rfl ?_
  exact ⟨congrArg Ending.returned HR, hM0.below⟩

def P_umbraref10_Unit (r : Int) : Prop := InI r
theorem i_umbraref10_Unit (x : Int) (h_x : InU32 x) : P_umbraref10_Unit (s_umbraref10_Unit x) := by
  unfold s_umbraref10_Unit
  exact (lt_P fun x1 h2 => (show InI x1 from (wr_i64 h2)))

def e_umbraref10_Below (r : Int) : Value := .int .i64 r
def s_umbraref10_Below (x : Int) (n : Int) : Int :=
  if n < 1 then
    0
  else
    if n > 2147483648 then
      lt (IntKind.u64.wrap x) fun x3 =>
      lt (IntKind.u64.wrap (x3 * 2147483648)) fun x5 =>
      lt (IntKind.u64.wrap (Int.tdiv x5 4294967296)) fun x7 =>
      lt (IntKind.i64.wrap x7) fun x9 =>
      x9
    else
      lt (IntKind.u64.wrap x) fun x11 =>
      lt (IntKind.u64.wrap n) fun x13 =>
      lt (IntKind.u64.wrap (x11 * x13)) fun x15 =>
      lt (IntKind.u64.wrap (Int.tdiv x15 4294967296)) fun x17 =>
      lt (IntKind.i64.wrap x17) fun x19 =>
      x19
set_option maxRecDepth 100000 in
set_option maxHeartbeats 4000000 in
theorem w_umbraref10_Below (x : Int) (n : Int) (h_x : InU32 x) (h_n : InI n) (w : World) : Calls Try.prog 77 #[.int .u32 x, .int .i64 n] w (Ret (e_umbraref10_Below (s_umbraref10_Below x n)) w) := by
  obtain ⟨R, HR⟩ : ∃ R, e_umbraref10_Below (s_umbraref10_Below x n) = R := ⟨_, rfl⟩
  rw [HR]
  unfold s_umbraref10_Below at HR
  have hM0 := St.start w
  refine calls_run Try.func77 rfl ?_
  refine R_seq (R_region (S_val (.int .i64 0) (by kernel_rfl) (S_nil (R_seq (R_seq (R_region (S_val (.int .i64 n) (by kernel_rfl) (?_))))))))
  refine S_dec (n < 1) (by kernel_rfl) (fun c1 => ?_) (fun c1 => ?_)
  · refine S_nil (R_yes (by kernel_rfl) (R_seq (R_region (S_val (.int .i64 0) (by kernel_rfl) (S_nil (?_))))))
    have HR := hr_pos HR c1
    refine R_ret hM0 rfl (.cons (.tmp _ (.int .i64 0) (by kernel_rfl)) .nil) rfl ?_
    exact ⟨congrArg Ending.returned HR, hM0.below⟩
  · refine S_nil (R_no (by kernel_rfl) (R_skip (R_seq (R_seq (R_region (S_val (.int .i64 n) (by kernel_rfl) (?_)))))))
    have HR := hr_neg HR c1
    refine S_dec (n > 2147483648) (by kernel_rfl) (fun c2 => ?_) (fun c2 => ?_)
    · refine S_nil (R_yes (by kernel_rfl) (R_region (S_val (.int .i64 2147483648) (by kernel_rfl) (S_nil (R_seq (R_region (S_val (.int .u32 x) (by kernel_rfl) (S_int (IntKind.u64.wrap x) .u64 (by kernel_rfl) (fun x3 h4 => S_val (.int .i64 2147483648) (by kernel_rfl) (S_val (.int .u64 2147483648) (by kernel_rfl) (S_int (IntKind.u64.wrap (x3 * 2147483648)) .u64 (by kernel_rfl) (fun x5 h6 => ?_))))))))))))
      have HR := hr_pos HR c2
      have HR := hr_lt HR h4
      have HR := hr_lt HR h6
      refine S_int (IntKind.u64.wrap (Int.tdiv x5 4294967296)) .u64 (by kernel_rfl) (fun x7 h8 => S_int (IntKind.i64.wrap x7) .i64 (by kernel_rfl) (fun x9 h10 => S_val (.int .i64 x9) (by kernel_rfl) (S_nil (?_))))
      have HR := hr_lt HR h8
      have HR := hr_lt HR h10
      refine R_ret hM0 rfl (.cons (.tmp _ (.int .i64 x9) (by kernel_rfl)) .nil) rfl ?_
      exact ⟨congrArg Ending.returned HR, hM0.below⟩
    · refine S_nil (R_no (by kernel_rfl) (R_skip (R_seq (R_region (S_val (.int .u32 x) (by kernel_rfl) (S_int (IntKind.u64.wrap x) .u64 (by kernel_rfl) (fun x11 h12 => S_val (.int .i64 n) (by kernel_rfl) (S_int (IntKind.u64.wrap n) .u64 (by kernel_rfl) (fun x13 h14 => S_int (IntKind.u64.wrap (x11 * x13)) .u64 (by kernel_rfl) (fun x15 h16 => S_int (IntKind.u64.wrap (Int.tdiv x15 4294967296)) .u64 (by kernel_rfl) (fun x17 h18 => S_int (IntKind.i64.wrap x17) .i64 (by kernel_rfl) (fun x19 h20 => ?_))))))))))))
      have HR := hr_neg HR c2
      have HR := hr_lt HR h12
      have HR := hr_lt HR h14
      have HR := hr_lt HR h16
      have HR := hr_lt HR h18
      have HR := hr_lt HR h20
      refine S_val (.int .i64 x19) (by kernel_rfl) (S_nil (?_))
      refine R_ret hM0 rfl (.cons (.tmp _ (.int .i64 x19) (by kernel_rfl)) .nil) rfl ?_
      exact ⟨congrArg Ending.returned HR, hM0.below⟩

def P_umbraref10_Below (r : Int) : Prop := InI r
theorem i_umbraref10_Below (x : Int) (n : Int) (h_x : InU32 x) (h_n : InI n) : P_umbraref10_Below (s_umbraref10_Below x n) := by
  unfold s_umbraref10_Below
  exact (ite_P (fun c1 => (show InI 0 from (show InI 0 from by unfold InI; omega))) (fun c1 => (ite_P (fun c2 => (lt_P fun x3 h4 => (lt_P fun x5 h6 => (lt_P fun x7 h8 => (lt_P fun x9 h10 => (show InI x9 from (wr_i64 h10))))))) (fun c2 => (lt_P fun x11 h12 => (lt_P fun x13 h14 => (lt_P fun x15 h16 => (lt_P fun x17 h18 => (lt_P fun x19 h20 => (show InI x19 from (wr_i64 h20)))))))))))

def e_surface_Facing (r : Int × Int × Int) : Value := .agg #[.int .i64 r.1, .int .i64 r.2.1, .int .i64 r.2.2]
def s_surface_Facing (n : Int × Int × Int) (d1_ : Int × Int × Int) : Int × Int × Int :=
  lt (vtow d1_) fun r13 =>
  lt (vdot n r13) fun r15 =>
  if r15 ≤ 0 then
    n
  else
    lt (vscale n (-4294967296)) fun r24 =>
    r24
set_option maxRecDepth 100000 in
set_option maxHeartbeats 4000000 in
theorem w_surface_Facing (n : Int × Int × Int) (d1_ : Int × Int × Int) (h_n : InV n) (h_d1_ : InV d1_) (w : World) : Calls Try.prog 14 #[.agg #[.int .i64 n.1, .int .i64 n.2.1, .int .i64 n.2.2], .agg #[.int .i64 d1_.1, .int .i64 d1_.2.1, .int .i64 d1_.2.2]] w (Ret (e_surface_Facing (s_surface_Facing n d1_)) w) := by
  obtain ⟨R, HR⟩ : ∃ R, e_surface_Facing (s_surface_Facing n d1_) = R := ⟨_, rfl⟩
  rw [HR]
  unfold s_surface_Facing at HR
  have hM0 := St.start w
  refine calls_run Try.func14 rfl ?_
  refine R_seq (R_region (S_fresh none #[.int .i64 n.1, .int .i64 n.2.1, .int .i64 n.2.2] 26 hM0 (by kernel_rfl) (fun g1 w2 hM3 => S_fresh none #[.int .i64 d1_.1, .int .i64 d1_.2.1, .int .i64 d1_.2.2] 23 hM3 (by kernel_rfl) (fun g4 w5 hM6 => S_fresh none #[.int .i64 0, .int .i64 0, .int .i64 0] 26 hM6 (by kernel_rfl) (fun g7 w8 hM9 => S_nil (R_seq (R_seq (R_drawF 5 (by kernel_rfl) (fun F10 U11 hL12 => F_load 2 0 (.agg #[.int .i64 n.1, .int .i64 n.2.1, .int .i64 n.2.2]) hM9 (by kernel_rfl) (F_load 1 0 (.agg #[.int .i64 d1_.1, .int .i64 d1_.2.1, .int .i64 d1_.2.2]) hM9 (by kernel_rfl) (F_call (vtow d1_) (fun r : Int × Int × Int => .agg #[.int .i64 r.1, .int .i64 r.2.1, .int .i64 r.2.2]) hM9 hL12 (fun w' hM' => c_vec_Toward d1_ h_d1_ w') (by kernel_rfl) (fun _ => by kernel_rfl) (fun r13 h14 => ?_))))))))))))
  have HR := hr_lt HR h14
  refine F_call (vdot n r13) (fun r : Int => .int .i64 r) hM9 hL12 (fun w' hM' => c_vec_Dot n r13 h_n ((tr (P := fun r : Int × Int × Int => InV r) h14 (vtow_I d1_)).out) w') (by kernel_rfl) (fun _ => by kernel_rfl) (fun r15 h16 => ?_)
  have HR := hr_lt HR h16
  refine F_dec (r15 ≤ 0) (fun _ => by kernel_rfl) (fun c17 => ?_) (fun c17 => ?_)
  · refine F_nil hM9 hL12 (fun w18 hM19 => S_nil (R_yes (by kernel_rfl) (R_seq (R_region (S_load 2 0 (.agg #[.int .i64 n.1, .int .i64 n.2.1, .int .i64 n.2.2]) hM19 (by kernel_rfl) (S_store 0 0 #[.int .i64 n.1, .int .i64 n.2.1, .int .i64 n.2.2] hM19 (by kernel_rfl) (fun w20 hM21 => S_nil (?_))))))))
    have HR := hr_pos HR c17
    refine R_ret hM21 rfl (.cons (.cell _ _ 0 0 (.agg #[.int .i64 n.1, .int .i64 n.2.1, .int .i64 n.2.2]) (by kernel_rfl)) .nil) rfl ?_
    exact ⟨congrArg Ending.returned HR, hM21.below⟩
  · refine F_nil hM9 hL12 (fun w22 hM23 => S_nil (R_no (by kernel_rfl) (R_skip (R_seq (R_region (S_load 2 0 (.agg #[.int .i64 n.1, .int .i64 n.2.1, .int .i64 n.2.2]) hM23 (by kernel_rfl) (S_call (vscale n (-4294967296)) (fun r : Int × Int × Int => .agg #[.int .i64 r.1, .int .i64 r.2.1, .int .i64 r.2.2]) hM23 (c_vec_Scale n (-4294967296) h_n (show InI (-4294967296) from by unfold InI; omega) w22) (by kernel_rfl) (fun r24 h25 w26 hM27 => S_store 0 0 #[.int .i64 r24.1, .int .i64 r24.2.1, .int .i64 r24.2.2] hM27 (by kernel_rfl) (fun w28 hM29 => S_nil (?_))))))))))
    have HR := hr_neg HR c17
    have HR := hr_lt HR h25
    refine R_ret hM29 rfl (.cons (.cell _ _ 0 0 (.agg #[.int .i64 r24.1, .int .i64 r24.2.1, .int .i64 r24.2.2]) (by kernel_rfl)) .nil) rfl ?_
    exact ⟨congrArg Ending.returned HR, hM29.below⟩

def P_surface_Facing (r : Int × Int × Int) : Prop := InV r
theorem i_surface_Facing (n : Int × Int × Int) (d1_ : Int × Int × Int) (h_n : InV n) (h_d1_ : InV d1_) : P_surface_Facing (s_surface_Facing n d1_) := by
  unfold s_surface_Facing
  exact (lt_P fun r13 h14 => (lt_P fun r15 h16 => (ite_P (fun c17 => (show InV n from h_n)) (fun c17 => (lt_P fun r24 h25 => (show InV r24 from (tr (P := fun r : Int × Int × Int => InV r) h25 (vscale_I n (-4294967296))).out))))))

def e_surface_Mirror (r : Int × Int × Int) : Value := .agg #[.int .i64 r.1, .int .i64 r.2.1, .int .i64 r.2.2]
def s_surface_Mirror (n : Int × Int × Int) (d1_ : Int × Int × Int) : Int × Int × Int :=
  lt (vtow d1_) fun r10 =>
  lt (vdot n r10) fun r19 =>
  lt (sumF [r19, r19]) fun r30 =>
  lt (vscale n r30) fun r32 =>
  lt (vsub r10 r32) fun r34 =>
  r34
set_option maxRecDepth 100000 in
set_option maxHeartbeats 4000000 in
theorem w_surface_Mirror (n : Int × Int × Int) (d1_ : Int × Int × Int) (h_n : InV n) (h_d1_ : InV d1_) (w : World) : Calls Try.prog 19 #[.agg #[.int .i64 n.1, .int .i64 n.2.1, .int .i64 n.2.2], .agg #[.int .i64 d1_.1, .int .i64 d1_.2.1, .int .i64 d1_.2.2]] w (Ret (e_surface_Mirror (s_surface_Mirror n d1_)) w) := by
  obtain ⟨R, HR⟩ : ∃ R, e_surface_Mirror (s_surface_Mirror n d1_) = R := ⟨_, rfl⟩
  rw [HR]
  unfold s_surface_Mirror at HR
  have hM0 := St.start w
  refine calls_run Try.func19 rfl ?_
  refine R_seq (R_region (S_fresh none #[.int .i64 n.1, .int .i64 n.2.1, .int .i64 n.2.2] 26 hM0 (by kernel_rfl) (fun g1 w2 hM3 => S_fresh none #[.int .i64 d1_.1, .int .i64 d1_.2.1, .int .i64 d1_.2.2] 23 hM3 (by kernel_rfl) (fun g4 w5 hM6 => S_fresh none #[.int .i64 0, .int .i64 0, .int .i64 0] 26 hM6 (by kernel_rfl) (fun g7 w8 hM9 => S_nil (R_seq (R_region (S_load 1 0 (.agg #[.int .i64 d1_.1, .int .i64 d1_.2.1, .int .i64 d1_.2.2]) hM9 (by kernel_rfl) (S_call (vtow d1_) (fun r : Int × Int × Int => .agg #[.int .i64 r.1, .int .i64 r.2.1, .int .i64 r.2.2]) hM9 (c_vec_Toward d1_ h_d1_ w8) (by kernel_rfl) (fun r10 h11 w12 hM13 => S_fresh none #[.int .i64 0, .int .i64 0, .int .i64 0] 26 hM13 (by kernel_rfl) (fun g14 w15 hM16 => S_store 0 0 #[.int .i64 r10.1, .int .i64 r10.2.1, .int .i64 r10.2.2] hM16 (by kernel_rfl) (fun w17 hM18 => ?_))))))))))))
  have HR := hr_lt HR h11
  refine S_nil (R_seq (R_region (S_load 3 0 (.agg #[.int .i64 n.1, .int .i64 n.2.1, .int .i64 n.2.2]) hM18 (by kernel_rfl) (S_load 0 0 (.agg #[.int .i64 r10.1, .int .i64 r10.2.1, .int .i64 r10.2.2]) hM18 (by kernel_rfl) (S_call (vdot n r10) (fun r : Int => .int .i64 r) hM18 (c_vec_Dot n r10 h_n ((tr (P := fun r : Int × Int × Int => InV r) h11 (vtow_I d1_)).out) w17) (by kernel_rfl) (fun r19 h20 w21 hM22 => S_val (.int .i64 r19) (by kernel_rfl) (S_nil (R_seq (R_drawF 8 (by kernel_rfl) (fun F23 U24 hL25 => F_load 0 0 (.agg #[.int .i64 r10.1, .int .i64 r10.2.1, .int .i64 r10.2.2]) hM22 (by kernel_rfl) (F_load 3 0 (.agg #[.int .i64 n.1, .int .i64 n.2.1, .int .i64 n.2.2]) hM22 (by kernel_rfl) (?_))))))))))))
  have HR := hr_lt HR h20
  refine F_val (.int .i64 r19) (fun _ => by kernel_rfl) (F_val (.int .i64 r19) (fun _ => by kernel_rfl) (F_fresh (some 2) #[.int .i64 r19, .int .i64 r19] 24 hL25 (by kernel_rfl) (fun _ => by kernel_rfl) (fun g26 F27 U28 hL29 => F_call (sumF [r19, r19]) (fun r : Int => .int .i64 r) hM22 hL29 (fun w' hM' => c_fixAdd [r19, r19] ⟨(tr (P := fun r : Int => InI r) h20 (vdot_I n r10)).out, (tr (P := fun r : Int => InI r) h20 (vdot_I n r10)).out, trivial⟩ (by kernel_rfl) hM' 0 2 2 rfl (by kernel_rfl) (by kernel_rfl)) (by kernel_rfl) (fun _ => by kernel_rfl) (fun r30 h31 => F_call (vscale n r30) (fun r : Int × Int × Int => .agg #[.int .i64 r.1, .int .i64 r.2.1, .int .i64 r.2.2]) hM22 hL29 (fun w' hM' => c_vec_Scale n r30 h_n ((tr (P := fun r : Int => InI r) h31 (sumF_I [r19, r19])).out) w') (by kernel_rfl) (fun _ => by kernel_rfl) (fun r32 h33 => F_call (vsub r10 r32) (fun r : Int × Int × Int => .agg #[.int .i64 r.1, .int .i64 r.2.1, .int .i64 r.2.2]) hM22 hL29 (fun w' hM' => c_vec_Sub r10 r32 ((tr (P := fun r : Int × Int × Int => InV r) h11 (vtow_I d1_)).out) ((tr (P := fun r : Int × Int × Int => InV r) h33 (vscale_I n r30)).out) w') (by kernel_rfl) (fun _ => by kernel_rfl) (fun r34 h35 => F_nil hM22 hL29 (fun w36 hM37 => S_store 2 0 #[.int .i64 r34.1, .int .i64 r34.2.1, .int .i64 r34.2.2] hM37 (by kernel_rfl) (fun w38 hM39 => S_nil (?_)))))))))
  have HR := hr_lt HR h31
  have HR := hr_lt HR h33
  have HR := hr_lt HR h35
  refine R_ret hM39 rfl (.cons (.cell _ _ 2 0 (.agg #[.int .i64 r34.1, .int .i64 r34.2.1, .int .i64 r34.2.2]) (by kernel_rfl)) .nil) rfl ?_
  exact ⟨congrArg Ending.returned HR, hM39.below⟩

def P_surface_Mirror (r : Int × Int × Int) : Prop := InV r
theorem i_surface_Mirror (n : Int × Int × Int) (d1_ : Int × Int × Int) (h_n : InV n) (h_d1_ : InV d1_) : P_surface_Mirror (s_surface_Mirror n d1_) := by
  unfold s_surface_Mirror
  exact (lt_P fun r10 h11 => (lt_P fun r19 h20 => (lt_P fun r30 h31 => (lt_P fun r32 h33 => (lt_P fun r34 h35 => (show InV r34 from (tr (P := fun r : Int × Int × Int => InV r) h35 (vsub_I r10 r32)).out))))))

def e_surface_along (r : (Int × Int × Int) × (Int × Int × Int) × Bool) : Value := .agg #[.int .i64 r.1.1, .int .i64 r.1.2.1, .int .i64 r.1.2.2, .int .i64 r.2.1.1, .int .i64 r.2.1.2.1, .int .i64 r.2.1.2.2, .bool r.2.2]
def s_surface_along (v : Int × Int × Int) (gain : Int × Int × Int) : (Int × Int × Int) × (Int × Int × Int) × Bool :=
  lt (quantT v) fun r10 =>
  if r10.2 = 0 then
    (r10.1, gain, false)
  else
    ((0, 0, 0), (0, 0, 0), true)
set_option maxRecDepth 100000 in
set_option maxHeartbeats 4000000 in
theorem w_surface_along (v : Int × Int × Int) (gain : Int × Int × Int) (h_v : InV v) (h_gain : InV gain) (w : World) : Calls Try.prog 70 #[.agg #[.int .i64 v.1, .int .i64 v.2.1, .int .i64 v.2.2], .agg #[.int .i64 gain.1, .int .i64 gain.2.1, .int .i64 gain.2.2]] w (Ret (e_surface_along (s_surface_along v gain)) w) := by
  obtain ⟨R, HR⟩ : ∃ R, e_surface_along (s_surface_along v gain) = R := ⟨_, rfl⟩
  rw [HR]
  unfold s_surface_along at HR
  have hM0 := St.start w
  refine calls_run Try.func70 rfl ?_
  refine R_seq (R_region (S_fresh none #[.int .i64 v.1, .int .i64 v.2.1, .int .i64 v.2.2] 26 hM0 (by kernel_rfl) (fun g1 w2 hM3 => S_fresh none #[.int .i64 gain.1, .int .i64 gain.2.1, .int .i64 gain.2.2] 26 hM3 (by kernel_rfl) (fun g4 w5 hM6 => S_fresh none #[.int .i64 0, .int .i64 0, .int .i64 0, .int .i64 0, .int .i64 0, .int .i64 0, .bool false] 53 hM6 (by kernel_rfl) (fun g7 w8 hM9 => S_nil (R_seq (R_region (S_load 2 0 (.agg #[.int .i64 v.1, .int .i64 v.2.1, .int .i64 v.2.2]) hM9 (by kernel_rfl) (S_call (quantT v) (fun r : (Int × Int × Int) × Int => .tuple #[.agg #[.int .i64 r.1.1, .int .i64 r.1.2.1, .int .i64 r.1.2.2], .int .i64 r.2]) hM9 (c_octa_Quant v h_v w8) (by kernel_rfl) (fun r10 h11 w12 hM13 => S_val (.tuple #[.agg #[.int .i64 r10.1.1, .int .i64 r10.1.2.1, .int .i64 r10.1.2.2], .int .i64 r10.2]) (by kernel_rfl) (S_val (.agg #[.int .i64 r10.1.1, .int .i64 r10.1.2.1, .int .i64 r10.1.2.2]) (by kernel_rfl) (?_))))))))))))
  have HR := hr_lt HR h11
  refine S_val (.int .i64 r10.2) (by kernel_rfl) (S_fresh none #[.int .i64 0, .int .i64 0, .int .i64 0] 23 hM13 (by kernel_rfl) (fun g14 w15 hM16 => S_store 0 0 #[.int .i64 r10.1.1, .int .i64 r10.1.2.1, .int .i64 r10.1.2.2] hM16 (by kernel_rfl) (fun w17 hM18 => S_val (.int .i64 r10.2) (by kernel_rfl) (S_nil (R_seq (R_seq (R_region (S_val (.int .i64 r10.2) (by kernel_rfl) (?_)))))))))
  refine S_decn (r10.2 = 0) (by kernel_rfl) (fun c19 => ?_) (fun c19 => ?_)
  · refine S_nil (R_yes (by kernel_rfl) (R_seq (R_region (S_val (.agg #[.int .i64 0, .int .i64 0, .int .i64 0, .int .i64 0, .int .i64 0, .int .i64 0, .bool true]) (by kernel_rfl) (S_store 1 0 #[.int .i64 0, .int .i64 0, .int .i64 0, .int .i64 0, .int .i64 0, .int .i64 0, .bool true] hM18 (by kernel_rfl) (fun w20 hM21 => S_nil (?_)))))))
    have HR := hr_neg HR c19
    refine R_ret hM21 rfl (.cons (.cell _ _ 1 0 (.agg #[.int .i64 0, .int .i64 0, .int .i64 0, .int .i64 0, .int .i64 0, .int .i64 0, .bool true]) (by kernel_rfl)) .nil) rfl ?_
    exact ⟨congrArg Ending.returned HR, hM21.below⟩
  · refine S_nil (R_no (by kernel_rfl) (R_skip (R_seq (R_region (S_load 0 0 (.agg #[.int .i64 r10.1.1, .int .i64 r10.1.2.1, .int .i64 r10.1.2.2]) hM18 (by kernel_rfl) (S_load 2 0 (.agg #[.int .i64 gain.1, .int .i64 gain.2.1, .int .i64 gain.2.2]) hM18 (by kernel_rfl) (S_val (.agg #[.int .i64 r10.1.1, .int .i64 r10.1.2.1, .int .i64 r10.1.2.2, .int .i64 gain.1, .int .i64 gain.2.1, .int .i64 gain.2.2, .bool false]) (by kernel_rfl) (S_store 1 0 #[.int .i64 r10.1.1, .int .i64 r10.1.2.1, .int .i64 r10.1.2.2, .int .i64 gain.1, .int .i64 gain.2.1, .int .i64 gain.2.2, .bool false] hM18 (by kernel_rfl) (fun w22 hM23 => S_nil (?_))))))))))
    have HR := hr_pos HR c19
    refine R_ret hM23 rfl (.cons (.cell _ _ 1 0 (.agg #[.int .i64 r10.1.1, .int .i64 r10.1.2.1, .int .i64 r10.1.2.2, .int .i64 gain.1, .int .i64 gain.2.1, .int .i64 gain.2.2, .bool false]) (by kernel_rfl)) .nil) rfl ?_
    exact ⟨congrArg Ending.returned HR, hM23.below⟩

def P_surface_along (r : (Int × Int × Int) × (Int × Int × Int) × Bool) : Prop := (InV r.1 ∧ InV r.2.1 ∧ True)
theorem i_surface_along (v : Int × Int × Int) (gain : Int × Int × Int) (h_v : InV v) (h_gain : InV gain) : P_surface_along (s_surface_along v gain) := by
  unfold s_surface_along
  exact (lt_P fun r10 h11 => (ite_P (fun c19 => (show (InV r10.1 ∧ InV gain ∧ True) from ⟨(tr (P := fun r : (Int × Int × Int) × Int => (InV r.1 ∧ InI r.2)) h11 (quantT_I h_v)).out.1, h_gain, trivial⟩)) (fun c19 => (show (InV (0, 0, 0) ∧ InV (0, 0, 0) ∧ True) from ⟨⟨(show InI 0 from by unfold InI; omega), (show InI 0 from by unfold InI; omega), (show InI 0 from by unfold InI; omega)⟩, ⟨(show InI 0 from by unfold InI; omega), (show InI 0 from by unfold InI; omega), (show InI 0 from by unfold InI; omega)⟩, trivial⟩))))

def e_surface_diffuse (r : (Int × Int × Int) × (Int × Int × Int) × Bool) : Value := .agg #[.int .i64 r.1.1, .int .i64 r.1.2.1, .int .i64 r.1.2.2, .int .i64 r.2.1.1, .int .i64 r.2.1.2.1, .int .i64 r.2.1.2.2, .bool r.2.2]
def s_surface_diffuse (color : Int × Int × Int) (n : Int × Int × Int) (draw : Int) : (Int × Int × Int) × (Int × Int × Int) × Bool :=
  lt (pdir draw) fun r10 =>
  lt (vtow r10) fun r22 =>
  lt (vdot n r22) fun r24 =>
  if r24 < 0 then
    lt (IntKind.i64.wrap (0 - r10.1)) fun x32 =>
    lt (IntKind.i64.wrap (0 - r10.2.1)) fun x34 =>
    lt (IntKind.i64.wrap (0 - r10.2.2)) fun x36 =>
    lt (fneg r24) fun r38 =>
    if r38 = 0 then
      ((0, 0, 0), (0, 0, 0), true)
    else
      lt (sumF [r38, r38]) fun r54 =>
      lt (vscale color r54) fun r56 =>
      ((x32, x34, x36), r56, false)
  else
    if r24 = 0 then
      ((0, 0, 0), (0, 0, 0), true)
    else
      lt (sumF [r24, r24]) fun r72 =>
      lt (vscale color r72) fun r74 =>
      (r10, r74, false)
set_option maxRecDepth 100000 in
set_option maxHeartbeats 4000000 in
theorem w_surface_diffuse (color : Int × Int × Int) (n : Int × Int × Int) (draw : Int) (h_color : InV color) (h_n : InV n) (h_draw : InU32 draw) (w : World) : Calls Try.prog 66 #[.agg #[.int .i64 color.1, .int .i64 color.2.1, .int .i64 color.2.2], .agg #[.int .i64 n.1, .int .i64 n.2.1, .int .i64 n.2.2], .int .u32 draw] w (Ret (e_surface_diffuse (s_surface_diffuse color n draw)) w) := by
  obtain ⟨R, HR⟩ : ∃ R, e_surface_diffuse (s_surface_diffuse color n draw) = R := ⟨_, rfl⟩
  rw [HR]
  unfold s_surface_diffuse at HR
  have hM0 := St.start w
  refine calls_run Try.func66 rfl ?_
  refine R_seq (R_region (S_fresh none #[.int .i64 color.1, .int .i64 color.2.1, .int .i64 color.2.2] 26 hM0 (by kernel_rfl) (fun g1 w2 hM3 => S_fresh none #[.int .i64 n.1, .int .i64 n.2.1, .int .i64 n.2.2] 26 hM3 (by kernel_rfl) (fun g4 w5 hM6 => S_fresh none #[.int .i64 0, .int .i64 0, .int .i64 0, .int .i64 0, .int .i64 0, .int .i64 0, .bool false] 53 hM6 (by kernel_rfl) (fun g7 w8 hM9 => S_nil (R_seq (R_region (S_val (.int .u32 draw) (by kernel_rfl) (S_call (pdir draw) (fun r : Int × Int × Int => .agg #[.int .i64 r.1, .int .i64 r.2.1, .int .i64 r.2.2]) hM9 (c_octa_Pick draw h_draw w8) (by kernel_rfl) (fun r10 h11 w12 hM13 => S_fresh none #[.int .i64 0, .int .i64 0, .int .i64 0] 23 hM13 (by kernel_rfl) (fun g14 w15 hM16 => S_store 0 0 #[.int .i64 r10.1, .int .i64 r10.2.1, .int .i64 r10.2.2] hM16 (by kernel_rfl) (fun w17 hM18 => ?_))))))))))))
  have HR := hr_lt HR h11
  refine S_nil (R_seq (R_drawF 5 (by kernel_rfl) (fun F19 U20 hL21 => F_load 2 0 (.agg #[.int .i64 n.1, .int .i64 n.2.1, .int .i64 n.2.2]) hM18 (by kernel_rfl) (F_load 0 0 (.agg #[.int .i64 r10.1, .int .i64 r10.2.1, .int .i64 r10.2.2]) hM18 (by kernel_rfl) (F_call (vtow r10) (fun r : Int × Int × Int => .agg #[.int .i64 r.1, .int .i64 r.2.1, .int .i64 r.2.2]) hM18 hL21 (fun w' hM' => c_vec_Toward r10 ((tr (P := fun r : Int × Int × Int => InV r) h11 (pdir_I h_draw)).out) w') (by kernel_rfl) (fun _ => by kernel_rfl) (fun r22 h23 => F_call (vdot n r22) (fun r : Int => .int .i64 r) hM18 hL21 (fun w' hM' => c_vec_Dot n r22 h_n ((tr (P := fun r : Int × Int × Int => InV r) h23 (vtow_I r10)).out) w') (by kernel_rfl) (fun _ => by kernel_rfl) (fun r24 h25 => F_val (.int .i64 r24) (fun _ => by kernel_rfl) (F_nil hM18 hL21 (fun w26 hM27 => S_nil (R_seq (R_seq (?_))))))))))))
  have HR := hr_lt HR h23
  have HR := hr_lt HR h25
  refine R_region (S_val (.int .i64 r24) (by kernel_rfl) (?_))
  refine S_dec (r24 < 0) (by kernel_rfl) (fun c28 => ?_) (fun c28 => ?_)
  · refine S_nil (R_yes (by kernel_rfl) (R_drawF 12 (by kernel_rfl) (fun F29 U30 hL31 => F_val (.pointer (some ⟨g14, 0, none⟩)) (fun _ => by kernel_rfl) (F_load 0 0 (.int .i64 r10.1) hM27 (by kernel_rfl) (F_int (IntKind.i64.wrap (0 - r10.1)) .i64 (fun _ => by kernel_rfl) (fun x32 h33 => F_val (.pointer (some ⟨g14, 1, none⟩)) (fun _ => by kernel_rfl) (F_load 0 1 (.int .i64 r10.2.1) hM27 (by kernel_rfl) (F_int (IntKind.i64.wrap (0 - r10.2.1)) .i64 (fun _ => by kernel_rfl) (fun x34 h35 => F_val (.pointer (some ⟨g14, 2, none⟩)) (fun _ => by kernel_rfl) (F_load 0 2 (.int .i64 r10.2.2) hM27 (by kernel_rfl) (F_int (IntKind.i64.wrap (0 - r10.2.2)) .i64 (fun _ => by kernel_rfl) (fun x36 h37 => ?_))))))))))))
    have HR := hr_pos HR c28
    have HR := hr_lt HR h33
    have HR := hr_lt HR h35
    have HR := hr_lt HR h37
    refine F_val (.agg #[.int .i64 x32, .int .i64 x34, .int .i64 x36]) (fun _ => by kernel_rfl) (F_val (.int .i64 r24) (fun _ => by kernel_rfl) (F_call (fneg r24) (fun r : Int => .int .i64 r) hM27 hL31 (fun w' hM' => c_fix_Neg r24 ((tr (P := fun r : Int => InI r) h25 (vdot_I n r22)).out) w') (by kernel_rfl) (fun _ => by kernel_rfl) (fun r38 h39 => F_nil hM27 hL31 (fun w40 hM41 => S_store 0 0 #[.int .i64 x32, .int .i64 x34, .int .i64 x36] hM41 (by kernel_rfl) (fun w42 hM43 => S_val (.int .i64 r38) (by kernel_rfl) (S_nil (R_seq (R_seq (R_region (S_val (.int .i64 r38) (by kernel_rfl) (?_)))))))))))
    have HR := hr_lt HR h39
    refine S_dec (r38 = 0) (by kernel_rfl) (fun c44 => ?_) (fun c44 => ?_)
    · refine S_nil (R_yes (by kernel_rfl) (R_seq (R_region (S_val (.agg #[.int .i64 0, .int .i64 0, .int .i64 0, .int .i64 0, .int .i64 0, .int .i64 0, .bool true]) (by kernel_rfl) (S_store 1 0 #[.int .i64 0, .int .i64 0, .int .i64 0, .int .i64 0, .int .i64 0, .int .i64 0, .bool true] hM43 (by kernel_rfl) (fun w45 hM46 => S_nil (?_)))))))
      have HR := hr_pos HR c44
      refine R_ret hM46 rfl (.cons (.cell _ _ 1 0 (.agg #[.int .i64 0, .int .i64 0, .int .i64 0, .int .i64 0, .int .i64 0, .int .i64 0, .bool true]) (by kernel_rfl)) .nil) rfl ?_
      exact ⟨congrArg Ending.returned HR, hM46.below⟩
    · refine S_nil (R_no (by kernel_rfl) (R_skip (R_seq (R_drawF 8 (by kernel_rfl) (fun F47 U48 hL49 => F_load 0 0 (.agg #[.int .i64 x32, .int .i64 x34, .int .i64 x36]) hM43 (by kernel_rfl) (F_load 3 0 (.agg #[.int .i64 color.1, .int .i64 color.2.1, .int .i64 color.2.2]) hM43 (by kernel_rfl) (F_val (.int .i64 r38) (fun _ => by kernel_rfl) (F_val (.int .i64 r38) (fun _ => by kernel_rfl) (F_fresh (some 2) #[.int .i64 r38, .int .i64 r38] 24 hL49 (by kernel_rfl) (fun _ => by kernel_rfl) (fun g50 F51 U52 hL53 => F_call (sumF [r38, r38]) (fun r : Int => .int .i64 r) hM43 hL53 (fun w' hM' => c_fixAdd [r38, r38] ⟨(tr (P := fun r : Int => InI r) h39 (fneg_I r24)).out, (tr (P := fun r : Int => InI r) h39 (fneg_I r24)).out, trivial⟩ (by kernel_rfl) hM' 0 2 2 rfl (by kernel_rfl) (by kernel_rfl)) (by kernel_rfl) (fun _ => by kernel_rfl) (fun r54 h55 => F_call (vscale color r54) (fun r : Int × Int × Int => .agg #[.int .i64 r.1, .int .i64 r.2.1, .int .i64 r.2.2]) hM43 hL53 (fun w' hM' => c_vec_Scale color r54 h_color ((tr (P := fun r : Int => InI r) h55 (sumF_I [r38, r38])).out) w') (by kernel_rfl) (fun _ => by kernel_rfl) (fun r56 h57 => ?_))))))))))))
      have HR := hr_neg HR c44
      have HR := hr_lt HR h55
      have HR := hr_lt HR h57
      refine F_val (.agg #[.int .i64 x32, .int .i64 x34, .int .i64 x36, .int .i64 r56.1, .int .i64 r56.2.1, .int .i64 r56.2.2, .bool false]) (fun _ => by kernel_rfl) (F_nil hM43 hL53 (fun w58 hM59 => S_store 2 0 #[.int .i64 x32, .int .i64 x34, .int .i64 x36, .int .i64 r56.1, .int .i64 r56.2.1, .int .i64 r56.2.2, .bool false] hM59 (by kernel_rfl) (fun w60 hM61 => S_nil (?_))))
      refine R_ret hM61 rfl (.cons (.cell _ _ 2 0 (.agg #[.int .i64 x32, .int .i64 x34, .int .i64 x36, .int .i64 r56.1, .int .i64 r56.2.1, .int .i64 r56.2.2, .bool false]) (by kernel_rfl)) .nil) rfl ?_
      exact ⟨congrArg Ending.returned HR, hM61.below⟩
  · refine S_nil (R_no (by kernel_rfl) (R_skip (R_seq (R_seq (R_region (S_val (.int .i64 r24) (by kernel_rfl) (?_)))))))
    have HR := hr_neg HR c28
    refine S_dec (r24 = 0) (by kernel_rfl) (fun c62 => ?_) (fun c62 => ?_)
    · refine S_nil (R_yes (by kernel_rfl) (R_seq (R_region (S_val (.agg #[.int .i64 0, .int .i64 0, .int .i64 0, .int .i64 0, .int .i64 0, .int .i64 0, .bool true]) (by kernel_rfl) (S_store 1 0 #[.int .i64 0, .int .i64 0, .int .i64 0, .int .i64 0, .int .i64 0, .int .i64 0, .bool true] hM27 (by kernel_rfl) (fun w63 hM64 => S_nil (?_)))))))
      have HR := hr_pos HR c62
      refine R_ret hM64 rfl (.cons (.cell _ _ 1 0 (.agg #[.int .i64 0, .int .i64 0, .int .i64 0, .int .i64 0, .int .i64 0, .int .i64 0, .bool true]) (by kernel_rfl)) .nil) rfl ?_
      exact ⟨congrArg Ending.returned HR, hM64.below⟩
    · refine S_nil (R_no (by kernel_rfl) (R_skip (R_seq (R_drawF 8 (by kernel_rfl) (fun F65 U66 hL67 => F_load 0 0 (.agg #[.int .i64 r10.1, .int .i64 r10.2.1, .int .i64 r10.2.2]) hM27 (by kernel_rfl) (F_load 3 0 (.agg #[.int .i64 color.1, .int .i64 color.2.1, .int .i64 color.2.2]) hM27 (by kernel_rfl) (F_val (.int .i64 r24) (fun _ => by kernel_rfl) (F_val (.int .i64 r24) (fun _ => by kernel_rfl) (F_fresh (some 2) #[.int .i64 r24, .int .i64 r24] 24 hL67 (by kernel_rfl) (fun _ => by kernel_rfl) (fun g68 F69 U70 hL71 => F_call (sumF [r24, r24]) (fun r : Int => .int .i64 r) hM27 hL71 (fun w' hM' => c_fixAdd [r24, r24] ⟨(tr (P := fun r : Int => InI r) h25 (vdot_I n r22)).out, (tr (P := fun r : Int => InI r) h25 (vdot_I n r22)).out, trivial⟩ (by kernel_rfl) hM' 0 2 2 rfl (by kernel_rfl) (by kernel_rfl)) (by kernel_rfl) (fun _ => by kernel_rfl) (fun r72 h73 => F_call (vscale color r72) (fun r : Int × Int × Int => .agg #[.int .i64 r.1, .int .i64 r.2.1, .int .i64 r.2.2]) hM27 hL71 (fun w' hM' => c_vec_Scale color r72 h_color ((tr (P := fun r : Int => InI r) h73 (sumF_I [r24, r24])).out) w') (by kernel_rfl) (fun _ => by kernel_rfl) (fun r74 h75 => ?_))))))))))))
      have HR := hr_neg HR c62
      have HR := hr_lt HR h73
      have HR := hr_lt HR h75
      refine F_val (.agg #[.int .i64 r10.1, .int .i64 r10.2.1, .int .i64 r10.2.2, .int .i64 r74.1, .int .i64 r74.2.1, .int .i64 r74.2.2, .bool false]) (fun _ => by kernel_rfl) (F_nil hM27 hL71 (fun w76 hM77 => S_store 2 0 #[.int .i64 r10.1, .int .i64 r10.2.1, .int .i64 r10.2.2, .int .i64 r74.1, .int .i64 r74.2.1, .int .i64 r74.2.2, .bool false] hM77 (by kernel_rfl) (fun w78 hM79 => S_nil (?_))))
      refine R_ret hM79 rfl (.cons (.cell _ _ 2 0 (.agg #[.int .i64 r10.1, .int .i64 r10.2.1, .int .i64 r10.2.2, .int .i64 r74.1, .int .i64 r74.2.1, .int .i64 r74.2.2, .bool false]) (by kernel_rfl)) .nil) rfl ?_
      exact ⟨congrArg Ending.returned HR, hM79.below⟩

def P_surface_diffuse (r : (Int × Int × Int) × (Int × Int × Int) × Bool) : Prop := (InV r.1 ∧ InV r.2.1 ∧ True)
theorem i_surface_diffuse (color : Int × Int × Int) (n : Int × Int × Int) (draw : Int) (h_color : InV color) (h_n : InV n) (h_draw : InU32 draw) : P_surface_diffuse (s_surface_diffuse color n draw) := by
  unfold s_surface_diffuse
  exact (lt_P fun r10 h11 => (lt_P fun r22 h23 => (lt_P fun r24 h25 => (ite_P (fun c28 => (lt_P fun x32 h33 => (lt_P fun x34 h35 => (lt_P fun x36 h37 => (lt_P fun r38 h39 => (ite_P (fun c44 => (show (InV (0, 0, 0) ∧ InV (0, 0, 0) ∧ True) from ⟨⟨(show InI 0 from by unfold InI; omega), (show InI 0 from by unfold InI; omega), (show InI 0 from by unfold InI; omega)⟩, ⟨(show InI 0 from by unfold InI; omega), (show InI 0 from by unfold InI; omega), (show InI 0 from by unfold InI; omega)⟩, trivial⟩)) (fun c44 => (lt_P fun r54 h55 => (lt_P fun r56 h57 => (show (InV (x32, x34, x36) ∧ InV r56 ∧ True) from ⟨⟨(wr_i64 h33), (wr_i64 h35), (wr_i64 h37)⟩, (tr (P := fun r : Int × Int × Int => InV r) h57 (vscale_I color r54)).out, trivial⟩)))))))))) (fun c28 => (ite_P (fun c62 => (show (InV (0, 0, 0) ∧ InV (0, 0, 0) ∧ True) from ⟨⟨(show InI 0 from by unfold InI; omega), (show InI 0 from by unfold InI; omega), (show InI 0 from by unfold InI; omega)⟩, ⟨(show InI 0 from by unfold InI; omega), (show InI 0 from by unfold InI; omega), (show InI 0 from by unfold InI; omega)⟩, trivial⟩)) (fun c62 => (lt_P fun r72 h73 => (lt_P fun r74 h75 => (show (InV r10 ∧ InV r74 ∧ True) from ⟨(tr (P := fun r : Int × Int × Int => InV r) h11 (pdir_I h_draw)).out, (tr (P := fun r : Int × Int × Int => InV r) h75 (vscale_I color r72)).out, trivial⟩))))))))))

def e_surface_Scatter (r : (Int × Int × Int) × (Int × Int × Int) × Bool) : Value := .agg #[.int .i64 r.1.1, .int .i64 r.1.2.1, .int .i64 r.1.2.2, .int .i64 r.2.1.1, .int .i64 r.2.1.2.1, .int .i64 r.2.1.2.2, .bool r.2.2]
def s_surface_Scatter (m : Int × (Int × Int × Int) × Int) (color : Int × Int × Int) (n : Int × Int × Int) (d3_ : Int × Int × Int) (draw : Int × Int) : (Int × Int × Int) × (Int × Int × Int) × Bool :=
  if m.1 = 0 then
    lt (s_surface_diffuse color n draw.1) fun r20 =>
    if r20.2.2 = true then
      (r20.1, r20.2.1, true)
    else
      (r20.1, r20.2.1, false)
  else
    if m.1 = 2 then
      lt (fof m.2.2) fun r34 =>
      lt (fof 65535) fun r38 =>
      lt (fdiv r34 r38) fun r42 =>
      lt (s_surface_Mirror n d3_) fun r49 =>
      lt (pdir draw.1) fun r51 =>
      lt (vtow r51) fun r53 =>
      lt (vscale r53 r42) fun r55 =>
      lt (sumT [r49, r55]) fun r61 =>
      lt (vdot n r61) fun r71 =>
      if r71 ≤ 0 then
        ((0, 0, 0), (0, 0, 0), true)
      else
        lt (s_surface_along r61 color) fun r78 =>
        if r78.2.2 = true then
          (r78.1, r78.2.1, true)
        else
          (r78.1, r78.2.1, false)
    else
      if m.1 = 3 then
        lt (s_stream_Below draw.2 65536) fun r95 =>
        if r95 ≥ m.2.2 then
          lt (vtow d3_) fun r103 =>
          lt (s_surface_along r103 color) fun r105 =>
          if r105.2.2 = true then
            (r105.1, r105.2.1, true)
          else
            (r105.1, r105.2.1, false)
        else
          lt (s_surface_Mirror n d3_) fun r125 =>
          lt (s_surface_along r125 color) fun r127 =>
          if r127.2.2 = true then
            (r127.1, r127.2.1, true)
          else
            (r127.1, r127.2.1, false)
      else
        if m.1 = 1 then
          lt (s_surface_Mirror n d3_) fun r146 =>
          lt (s_surface_along r146 color) fun r148 =>
          if r148.2.2 = true then
            (r148.1, r148.2.1, true)
          else
            (r148.1, r148.2.1, false)
        else
          ((0, 0, 0), (0, 0, 0), true)
set_option maxRecDepth 100000 in
set_option maxHeartbeats 4000000 in
theorem w_surface_Scatter (m : Int × (Int × Int × Int) × Int) (color : Int × Int × Int) (n : Int × Int × Int) (d3_ : Int × Int × Int) (draw : Int × Int) (h_m : (InI m.1 ∧ InV m.2.1 ∧ InI m.2.2)) (h_color : InV color) (h_n : InV n) (h_d3_ : InV d3_) (h_draw : (InU32 draw.1 ∧ InU32 draw.2)) (w : World) : Calls Try.prog 31 #[.agg #[.int .i64 m.1, .int .i64 m.2.1.1, .int .i64 m.2.1.2.1, .int .i64 m.2.1.2.2, .int .i64 m.2.2], .agg #[.int .i64 color.1, .int .i64 color.2.1, .int .i64 color.2.2], .agg #[.int .i64 n.1, .int .i64 n.2.1, .int .i64 n.2.2], .agg #[.int .i64 d3_.1, .int .i64 d3_.2.1, .int .i64 d3_.2.2], .agg #[.int .u32 draw.1, .int .u32 draw.2]] w (Ret (e_surface_Scatter (s_surface_Scatter m color n d3_ draw)) w) := by
  obtain ⟨R, HR⟩ : ∃ R, e_surface_Scatter (s_surface_Scatter m color n d3_ draw) = R := ⟨_, rfl⟩
  rw [HR]
  unfold s_surface_Scatter at HR
  have hM0 := St.start w
  refine calls_run Try.func31 rfl ?_
  refine R_seq (R_region (S_fresh none #[.int .i64 m.1, .int .i64 m.2.1.1, .int .i64 m.2.1.2.1, .int .i64 m.2.1.2.2, .int .i64 m.2.2] 48 hM0 (by kernel_rfl) (fun g1 w2 hM3 => S_fresh none #[.int .i64 color.1, .int .i64 color.2.1, .int .i64 color.2.2] 26 hM3 (by kernel_rfl) (fun g4 w5 hM6 => S_fresh none #[.int .i64 n.1, .int .i64 n.2.1, .int .i64 n.2.2] 26 hM6 (by kernel_rfl) (fun g7 w8 hM9 => S_fresh none #[.int .i64 d3_.1, .int .i64 d3_.2.1, .int .i64 d3_.2.2] 23 hM9 (by kernel_rfl) (fun g10 w11 hM12 => S_fresh none #[.int .u32 draw.1, .int .u32 draw.2] 49 hM12 (by kernel_rfl) (fun g13 w14 hM15 => S_fresh none #[.int .i64 0, .int .i64 0, .int .i64 0, .int .i64 0, .int .i64 0, .int .i64 0, .bool false] 53 hM15 (by kernel_rfl) (fun g16 w17 hM18 => S_nil (R_seq (R_seq (R_region (?_))))))))))))
  refine S_val (.pointer (some ⟨g1, 0, none⟩)) (by kernel_rfl) (S_load 5 0 (.int .i64 m.1) hM18 (by kernel_rfl) (S_nil (R_block (R_seq (R_block (R_seq (R_block (R_seq (R_block (R_seq (R_block (?_))))))))))))
  refine R_seq (R_seq (R_seq (R_region (?_))))
  refine S_dec (m.1 = 0) (by kernel_rfl) (fun c19 => ?_) (fun c19 => ?_)
  · refine S_val (.bool true) (by kernel_rfl) (S_nil (R_yes (by kernel_rfl) (R_exit rfl (R_seq (R_seq (R_region (S_load 4 0 (.agg #[.int .i64 color.1, .int .i64 color.2.1, .int .i64 color.2.2]) hM18 (by kernel_rfl) (S_load 3 0 (.agg #[.int .i64 n.1, .int .i64 n.2.1, .int .i64 n.2.2]) hM18 (by kernel_rfl) (S_val (.pointer (some ⟨g13, 0, none⟩)) (by kernel_rfl) (S_load 1 0 (.int .u32 draw.1) hM18 (by kernel_rfl) (S_call (s_surface_diffuse color n draw.1) (fun r : (Int × Int × Int) × (Int × Int × Int) × Bool => .agg #[.int .i64 r.1.1, .int .i64 r.1.2.1, .int .i64 r.1.2.2, .int .i64 r.2.1.1, .int .i64 r.2.1.2.1, .int .i64 r.2.1.2.2, .bool r.2.2]) hM18 (w_surface_diffuse color n draw.1 h_color h_n h_draw.1 w17) (by kernel_rfl) (fun r20 h21 w22 hM23 => ?_))))))))))))
    have HR := hr_pos HR c19
    have HR := hr_lt HR h21
    obtain ⟨r24, r25, b27⟩ := r20
    cases b27
    · refine S_store 0 0 #[.int .i64 r24.1, .int .i64 r24.2.1, .int .i64 r24.2.2, .int .i64 r25.1, .int .i64 r25.2.1, .int .i64 r25.2.2, .bool false] hM23 (by kernel_rfl) (fun w28 hM29 => S_nil (?_))
      have HR := hr_neg HR Bool.false_ne_true
      refine R_ret hM29 rfl (.cons (.cell _ _ 0 0 (.agg #[.int .i64 r24.1, .int .i64 r24.2.1, .int .i64 r24.2.2, .int .i64 r25.1, .int .i64 r25.2.1, .int .i64 r25.2.2, .bool false]) (by kernel_rfl)) .nil) rfl ?_
      exact ⟨congrArg Ending.returned HR, hM29.below⟩
    · refine S_store 0 0 #[.int .i64 r24.1, .int .i64 r24.2.1, .int .i64 r24.2.2, .int .i64 r25.1, .int .i64 r25.2.1, .int .i64 r25.2.2, .bool true] hM23 (by kernel_rfl) (fun w30 hM31 => S_nil (?_))
      have HR := hr_pos HR rfl
      refine R_ret hM31 rfl (.cons (.cell _ _ 0 0 (.agg #[.int .i64 r24.1, .int .i64 r24.2.1, .int .i64 r24.2.2, .int .i64 r25.1, .int .i64 r25.2.1, .int .i64 r25.2.2, .bool true]) (by kernel_rfl)) .nil) rfl ?_
      exact ⟨congrArg Ending.returned HR, hM31.below⟩
  · refine S_val (.bool false) (by kernel_rfl) (S_nil (R_no (by kernel_rfl) (R_skip (R_seq (R_seq (R_region (?_)))))))
    have HR := hr_neg HR c19
    refine S_dec (m.1 = 2) (by kernel_rfl) (fun c33 => ?_) (fun c33 => ?_)
    · refine S_val (.bool true) (by kernel_rfl) (S_nil (R_yes (by kernel_rfl) (R_exit rfl (R_seq (R_seq (R_region (S_val (.pointer (some ⟨g1, 4, none⟩)) (by kernel_rfl) (S_load 5 4 (.int .i64 m.2.2) hM18 (by kernel_rfl) (S_call (fof m.2.2) (fun r : Int => .int .i64 r) hM18 (c_fix_Of m.2.2 h_m.2.2 w17) (by kernel_rfl) (fun r34 h35 w36 hM37 => S_call (fof 65535) (fun r : Int => .int .i64 r) hM37 (c_fix_Of 65535 (show InI 65535 from by unfold InI; omega) w36) (by kernel_rfl) (fun r38 h39 w40 hM41 => S_call (fdiv r34 r38) (fun r : Int => .int .i64 r) hM41 (c_fix_Div r34 r38 ((tr (P := fun r : Int => InI r) h35 (fof_I m.2.2)).out) ((tr (P := fun r : Int => InI r) h39 (fof_I 65535)).out) w40) (by kernel_rfl) (fun r42 h43 w44 hM45 => ?_))))))))))))
      have HR := hr_pos HR c33
      have HR := hr_lt HR h35
      have HR := hr_lt HR h39
      have HR := hr_lt HR h43
      refine S_val (.int .i64 r42) (by kernel_rfl) (S_nil (R_seq (R_drawF 12 (by kernel_rfl) (fun F46 U47 hL48 => F_load 3 0 (.agg #[.int .i64 n.1, .int .i64 n.2.1, .int .i64 n.2.2]) hM45 (by kernel_rfl) (F_load 2 0 (.agg #[.int .i64 d3_.1, .int .i64 d3_.2.1, .int .i64 d3_.2.2]) hM45 (by kernel_rfl) (F_call (s_surface_Mirror n d3_) (fun r : Int × Int × Int => .agg #[.int .i64 r.1, .int .i64 r.2.1, .int .i64 r.2.2]) hM45 hL48 (fun w' hM' => w_surface_Mirror n d3_ h_n h_d3_ w') (by kernel_rfl) (fun _ => by kernel_rfl) (fun r49 h50 => F_val (.pointer (some ⟨g13, 0, none⟩)) (fun _ => by kernel_rfl) (F_load 1 0 (.int .u32 draw.1) hM45 (by kernel_rfl) (F_call (pdir draw.1) (fun r : Int × Int × Int => .agg #[.int .i64 r.1, .int .i64 r.2.1, .int .i64 r.2.2]) hM45 hL48 (fun w' hM' => c_octa_Pick draw.1 h_draw.1 w') (by kernel_rfl) (fun _ => by kernel_rfl) (fun r51 h52 => F_call (vtow r51) (fun r : Int × Int × Int => .agg #[.int .i64 r.1, .int .i64 r.2.1, .int .i64 r.2.2]) hM45 hL48 (fun w' hM' => c_vec_Toward r51 ((tr (P := fun r : Int × Int × Int => InV r) h52 (pdir_I h_draw.1)).out) w') (by kernel_rfl) (fun _ => by kernel_rfl) (fun r53 h54 => F_val (.int .i64 r42) (fun _ => by kernel_rfl) (?_))))))))))))
      have HR := hr_lt HR h50
      have HR := hr_lt HR h52
      have HR := hr_lt HR h54
      refine F_call (vscale r53 r42) (fun r : Int × Int × Int => .agg #[.int .i64 r.1, .int .i64 r.2.1, .int .i64 r.2.2]) hM45 hL48 (fun w' hM' => c_vec_Scale r53 r42 ((tr (P := fun r : Int × Int × Int => InV r) h54 (vtow_I r51)).out) ((tr (P := fun r : Int => InI r) h43 (fdiv_I r34 r38)).out) w') (by kernel_rfl) (fun _ => by kernel_rfl) (fun r55 h56 => F_fresh (some 2) #[.int .i64 r49.1, .int .i64 r49.2.1, .int .i64 r49.2.2, .int .i64 r55.1, .int .i64 r55.2.1, .int .i64 r55.2.2] 26 hL48 (by kernel_rfl) (fun _ => by kernel_rfl) (fun g57 F58 U59 hL60 => F_call (sumT [r49, r55]) (fun r : Int × Int × Int => .agg #[.int .i64 r.1, .int .i64 r.2.1, .int .i64 r.2.2]) hM45 hL60 (fun w' hM' => c_vecAdd [r49, r55] ⟨(tr (P := fun r : Int × Int × Int => InV r) h50 (i_surface_Mirror n d3_ h_n h_d3_)).out, (tr (P := fun r : Int × Int × Int => InV r) h56 (vscale_I r53 r42)).out, trivial⟩ (by kernel_rfl) hM' 0 2 2 rfl (by kernel_rfl) (by kernel_rfl)) (by kernel_rfl) (fun _ => by kernel_rfl) (fun r61 h62 => F_fresh none #[.int .i64 0, .int .i64 0, .int .i64 0] 26 hL60 (by kernel_rfl) (fun _ => by kernel_rfl) (fun g63 F64 U65 hL66 => F_nil hM45 hL66 (fun w67 hM68 => S_store 0 0 #[.int .i64 r61.1, .int .i64 r61.2.1, .int .i64 r61.2.2] hM68 (by kernel_rfl) (fun w69 hM70 => S_nil (R_seq (R_seq (R_region (S_load 5 0 (.agg #[.int .i64 n.1, .int .i64 n.2.1, .int .i64 n.2.2]) hM70 (by kernel_rfl) (S_load 0 0 (.agg #[.int .i64 r61.1, .int .i64 r61.2.1, .int .i64 r61.2.2]) hM70 (by kernel_rfl) (?_))))))))))))
      have HR := hr_lt HR h56
      have HR := hr_lt HR h62
      refine S_call (vdot n r61) (fun r : Int => .int .i64 r) hM70 (c_vec_Dot n r61 h_n ((tr (P := fun r : Int × Int × Int => InV r) h62 (sumT_I [r49, r55])).out) w69) (by kernel_rfl) (fun r71 h72 w73 hM74 => ?_)
      have HR := hr_lt HR h72
      refine S_dec (r71 ≤ 0) (by kernel_rfl) (fun c75 => ?_) (fun c75 => ?_)
      · refine S_nil (R_yes (by kernel_rfl) (R_seq (R_region (S_val (.agg #[.int .i64 0, .int .i64 0, .int .i64 0, .int .i64 0, .int .i64 0, .int .i64 0, .bool true]) (by kernel_rfl) (S_store 2 0 #[.int .i64 0, .int .i64 0, .int .i64 0, .int .i64 0, .int .i64 0, .int .i64 0, .bool true] hM74 (by kernel_rfl) (fun w76 hM77 => S_nil (?_)))))))
        have HR := hr_pos HR c75
        refine R_ret hM77 rfl (.cons (.cell _ _ 2 0 (.agg #[.int .i64 0, .int .i64 0, .int .i64 0, .int .i64 0, .int .i64 0, .int .i64 0, .bool true]) (by kernel_rfl)) .nil) rfl ?_
        exact ⟨congrArg Ending.returned HR, hM77.below⟩
      · refine S_nil (R_no (by kernel_rfl) (R_skip (R_seq (R_region (S_load 0 0 (.agg #[.int .i64 r61.1, .int .i64 r61.2.1, .int .i64 r61.2.2]) hM74 (by kernel_rfl) (S_load 6 0 (.agg #[.int .i64 color.1, .int .i64 color.2.1, .int .i64 color.2.2]) hM74 (by kernel_rfl) (S_call (s_surface_along r61 color) (fun r : (Int × Int × Int) × (Int × Int × Int) × Bool => .agg #[.int .i64 r.1.1, .int .i64 r.1.2.1, .int .i64 r.1.2.2, .int .i64 r.2.1.1, .int .i64 r.2.1.2.1, .int .i64 r.2.1.2.2, .bool r.2.2]) hM74 (w_surface_along r61 color ((tr (P := fun r : Int × Int × Int => InV r) h62 (sumT_I [r49, r55])).out) h_color w73) (by kernel_rfl) (fun r78 h79 w80 hM81 => ?_))))))))
        have HR := hr_neg HR c75
        have HR := hr_lt HR h79
        obtain ⟨r82, r83, b85⟩ := r78
        cases b85
        · refine S_store 2 0 #[.int .i64 r82.1, .int .i64 r82.2.1, .int .i64 r82.2.2, .int .i64 r83.1, .int .i64 r83.2.1, .int .i64 r83.2.2, .bool false] hM81 (by kernel_rfl) (fun w86 hM87 => S_nil (?_))
          have HR := hr_neg HR Bool.false_ne_true
          refine R_ret hM87 rfl (.cons (.cell _ _ 2 0 (.agg #[.int .i64 r82.1, .int .i64 r82.2.1, .int .i64 r82.2.2, .int .i64 r83.1, .int .i64 r83.2.1, .int .i64 r83.2.2, .bool false]) (by kernel_rfl)) .nil) rfl ?_
          exact ⟨congrArg Ending.returned HR, hM87.below⟩
        · refine S_store 2 0 #[.int .i64 r82.1, .int .i64 r82.2.1, .int .i64 r82.2.2, .int .i64 r83.1, .int .i64 r83.2.1, .int .i64 r83.2.2, .bool true] hM81 (by kernel_rfl) (fun w88 hM89 => S_nil (?_))
          have HR := hr_pos HR rfl
          refine R_ret hM89 rfl (.cons (.cell _ _ 2 0 (.agg #[.int .i64 r82.1, .int .i64 r82.2.1, .int .i64 r82.2.2, .int .i64 r83.1, .int .i64 r83.2.1, .int .i64 r83.2.2, .bool true]) (by kernel_rfl)) .nil) rfl ?_
          exact ⟨congrArg Ending.returned HR, hM89.below⟩
    · refine S_val (.bool false) (by kernel_rfl) (S_nil (R_no (by kernel_rfl) (R_skip (R_seq (R_seq (R_region (?_)))))))
      have HR := hr_neg HR c33
      refine S_dec (m.1 = 3) (by kernel_rfl) (fun c91 => ?_) (fun c91 => ?_)
      · refine S_val (.bool true) (by kernel_rfl) (S_nil (R_yes (by kernel_rfl) (R_exit rfl (R_seq (R_drawF 6 (by kernel_rfl) (fun F92 U93 hL94 => F_val (.pointer (some ⟨g13, 1, none⟩)) (fun _ => by kernel_rfl) (F_load 1 1 (.int .u32 draw.2) hM18 (by kernel_rfl) (F_call (s_stream_Below draw.2 65536) (fun r : Int => .int .i64 r) hM18 hL94 (fun w' hM' => w_stream_Below draw.2 65536 h_draw.2 (show InI 65536 from by unfold InI; omega) w') (by kernel_rfl) (fun _ => by kernel_rfl) (fun r95 h96 => F_val (.pointer (some ⟨g1, 4, none⟩)) (fun _ => by kernel_rfl) (F_load 5 4 (.int .i64 m.2.2) hM18 (by kernel_rfl) (?_)))))))))))
        have HR := hr_pos HR c91
        have HR := hr_lt HR h96
        refine F_dec (r95 ≥ m.2.2) (fun _ => by kernel_rfl) (fun c97 => ?_) (fun c97 => ?_)
        · refine F_nil hM18 hL94 (fun w98 hM99 => S_nil (R_yes (by kernel_rfl) (R_seq (R_drawF 4 (by kernel_rfl) (fun F100 U101 hL102 => F_load 2 0 (.agg #[.int .i64 d3_.1, .int .i64 d3_.2.1, .int .i64 d3_.2.2]) hM99 (by kernel_rfl) (F_call (vtow d3_) (fun r : Int × Int × Int => .agg #[.int .i64 r.1, .int .i64 r.2.1, .int .i64 r.2.2]) hM99 hL102 (fun w' hM' => c_vec_Toward d3_ h_d3_ w') (by kernel_rfl) (fun _ => by kernel_rfl) (fun r103 h104 => F_load 4 0 (.agg #[.int .i64 color.1, .int .i64 color.2.1, .int .i64 color.2.2]) hM99 (by kernel_rfl) (F_call (s_surface_along r103 color) (fun r : (Int × Int × Int) × (Int × Int × Int) × Bool => .agg #[.int .i64 r.1.1, .int .i64 r.1.2.1, .int .i64 r.1.2.2, .int .i64 r.2.1.1, .int .i64 r.2.1.2.1, .int .i64 r.2.1.2.2, .bool r.2.2]) hM99 hL102 (fun w' hM' => w_surface_along r103 color ((tr (P := fun r : Int × Int × Int => InV r) h104 (vtow_I d3_)).out) h_color w') (by kernel_rfl) (fun _ => by kernel_rfl) (fun r105 h106 => ?_)))))))))
          have HR := hr_pos HR c97
          have HR := hr_lt HR h104
          have HR := hr_lt HR h106
          obtain ⟨r107, r108, b110⟩ := r105
          cases b110
          · refine F_nil hM99 hL102 (fun w111 hM112 => S_store 0 0 #[.int .i64 r107.1, .int .i64 r107.2.1, .int .i64 r107.2.2, .int .i64 r108.1, .int .i64 r108.2.1, .int .i64 r108.2.2, .bool false] hM112 (by kernel_rfl) (fun w113 hM114 => S_nil (?_)))
            have HR := hr_neg HR Bool.false_ne_true
            refine R_ret hM114 rfl (.cons (.cell _ _ 0 0 (.agg #[.int .i64 r107.1, .int .i64 r107.2.1, .int .i64 r107.2.2, .int .i64 r108.1, .int .i64 r108.2.1, .int .i64 r108.2.2, .bool false]) (by kernel_rfl)) .nil) rfl ?_
            exact ⟨congrArg Ending.returned HR, hM114.below⟩
          · refine F_nil hM99 hL102 (fun w115 hM116 => S_store 0 0 #[.int .i64 r107.1, .int .i64 r107.2.1, .int .i64 r107.2.2, .int .i64 r108.1, .int .i64 r108.2.1, .int .i64 r108.2.2, .bool true] hM116 (by kernel_rfl) (fun w117 hM118 => S_nil (?_)))
            have HR := hr_pos HR rfl
            refine R_ret hM118 rfl (.cons (.cell _ _ 0 0 (.agg #[.int .i64 r107.1, .int .i64 r107.2.1, .int .i64 r107.2.2, .int .i64 r108.1, .int .i64 r108.2.1, .int .i64 r108.2.2, .bool true]) (by kernel_rfl)) .nil) rfl ?_
            exact ⟨congrArg Ending.returned HR, hM118.below⟩
        · refine F_nil hM18 hL94 (fun w120 hM121 => S_nil (R_no (by kernel_rfl) (R_skip (R_inBlock (R_seq (R_seq (R_drawF 5 (by kernel_rfl) (fun F122 U123 hL124 => F_load 3 0 (.agg #[.int .i64 n.1, .int .i64 n.2.1, .int .i64 n.2.2]) hM121 (by kernel_rfl) (F_load 2 0 (.agg #[.int .i64 d3_.1, .int .i64 d3_.2.1, .int .i64 d3_.2.2]) hM121 (by kernel_rfl) (F_call (s_surface_Mirror n d3_) (fun r : Int × Int × Int => .agg #[.int .i64 r.1, .int .i64 r.2.1, .int .i64 r.2.2]) hM121 hL124 (fun w' hM' => w_surface_Mirror n d3_ h_n h_d3_ w') (by kernel_rfl) (fun _ => by kernel_rfl) (fun r125 h126 => F_load 4 0 (.agg #[.int .i64 color.1, .int .i64 color.2.1, .int .i64 color.2.2]) hM121 (by kernel_rfl) (?_))))))))))))
          have HR := hr_neg HR c97
          have HR := hr_lt HR h126
          refine F_call (s_surface_along r125 color) (fun r : (Int × Int × Int) × (Int × Int × Int) × Bool => .agg #[.int .i64 r.1.1, .int .i64 r.1.2.1, .int .i64 r.1.2.2, .int .i64 r.2.1.1, .int .i64 r.2.1.2.1, .int .i64 r.2.1.2.2, .bool r.2.2]) hM121 hL124 (fun w' hM' => w_surface_along r125 color ((tr (P := fun r : Int × Int × Int => InV r) h126 (i_surface_Mirror n d3_ h_n h_d3_)).out) h_color w') (by kernel_rfl) (fun _ => by kernel_rfl) (fun r127 h128 => ?_)
          have HR := hr_lt HR h128
          obtain ⟨r129, r130, b132⟩ := r127
          cases b132
          · refine F_nil hM121 hL124 (fun w133 hM134 => S_store 0 0 #[.int .i64 r129.1, .int .i64 r129.2.1, .int .i64 r129.2.2, .int .i64 r130.1, .int .i64 r130.2.1, .int .i64 r130.2.2, .bool false] hM134 (by kernel_rfl) (fun w135 hM136 => S_nil (?_)))
            have HR := hr_neg HR Bool.false_ne_true
            refine R_ret hM136 rfl (.cons (.cell _ _ 0 0 (.agg #[.int .i64 r129.1, .int .i64 r129.2.1, .int .i64 r129.2.2, .int .i64 r130.1, .int .i64 r130.2.1, .int .i64 r130.2.2, .bool false]) (by kernel_rfl)) .nil) rfl ?_
            exact ⟨congrArg Ending.returned HR, hM136.below⟩
          · refine F_nil hM121 hL124 (fun w137 hM138 => S_store 0 0 #[.int .i64 r129.1, .int .i64 r129.2.1, .int .i64 r129.2.2, .int .i64 r130.1, .int .i64 r130.2.1, .int .i64 r130.2.2, .bool true] hM138 (by kernel_rfl) (fun w139 hM140 => S_nil (?_)))
            have HR := hr_pos HR rfl
            refine R_ret hM140 rfl (.cons (.cell _ _ 0 0 (.agg #[.int .i64 r129.1, .int .i64 r129.2.1, .int .i64 r129.2.2, .int .i64 r130.1, .int .i64 r130.2.1, .int .i64 r130.2.2, .bool true]) (by kernel_rfl)) .nil) rfl ?_
            exact ⟨congrArg Ending.returned HR, hM140.below⟩
      · refine S_val (.bool false) (by kernel_rfl) (S_nil (R_no (by kernel_rfl) (R_skip (R_seq (R_region (?_))))))
        have HR := hr_neg HR c91
        refine S_dec (m.1 = 1) (by kernel_rfl) (fun c142 => ?_) (fun c142 => ?_)
        · refine S_val (.bool true) (by kernel_rfl) (S_nil (R_yes (by kernel_rfl) (R_exit rfl (R_seq (R_seq (R_drawF 5 (by kernel_rfl) (fun F143 U144 hL145 => F_load 3 0 (.agg #[.int .i64 n.1, .int .i64 n.2.1, .int .i64 n.2.2]) hM18 (by kernel_rfl) (F_load 2 0 (.agg #[.int .i64 d3_.1, .int .i64 d3_.2.1, .int .i64 d3_.2.2]) hM18 (by kernel_rfl) (F_call (s_surface_Mirror n d3_) (fun r : Int × Int × Int => .agg #[.int .i64 r.1, .int .i64 r.2.1, .int .i64 r.2.2]) hM18 hL145 (fun w' hM' => w_surface_Mirror n d3_ h_n h_d3_ w') (by kernel_rfl) (fun _ => by kernel_rfl) (fun r146 h147 => F_load 4 0 (.agg #[.int .i64 color.1, .int .i64 color.2.1, .int .i64 color.2.2]) hM18 (by kernel_rfl) (F_call (s_surface_along r146 color) (fun r : (Int × Int × Int) × (Int × Int × Int) × Bool => .agg #[.int .i64 r.1.1, .int .i64 r.1.2.1, .int .i64 r.1.2.2, .int .i64 r.2.1.1, .int .i64 r.2.1.2.1, .int .i64 r.2.1.2.2, .bool r.2.2]) hM18 hL145 (fun w' hM' => w_surface_along r146 color ((tr (P := fun r : Int × Int × Int => InV r) h147 (i_surface_Mirror n d3_ h_n h_d3_)).out) h_color w') (by kernel_rfl) (fun _ => by kernel_rfl) (fun r148 h149 => ?_))))))))))))
          have HR := hr_pos HR c142
          have HR := hr_lt HR h147
          have HR := hr_lt HR h149
          obtain ⟨r150, r151, b153⟩ := r148
          cases b153
          · refine F_nil hM18 hL145 (fun w154 hM155 => S_store 0 0 #[.int .i64 r150.1, .int .i64 r150.2.1, .int .i64 r150.2.2, .int .i64 r151.1, .int .i64 r151.2.1, .int .i64 r151.2.2, .bool false] hM155 (by kernel_rfl) (fun w156 hM157 => S_nil (?_)))
            have HR := hr_neg HR Bool.false_ne_true
            refine R_ret hM157 rfl (.cons (.cell _ _ 0 0 (.agg #[.int .i64 r150.1, .int .i64 r150.2.1, .int .i64 r150.2.2, .int .i64 r151.1, .int .i64 r151.2.1, .int .i64 r151.2.2, .bool false]) (by kernel_rfl)) .nil) rfl ?_
            exact ⟨congrArg Ending.returned HR, hM157.below⟩
          · refine F_nil hM18 hL145 (fun w158 hM159 => S_store 0 0 #[.int .i64 r150.1, .int .i64 r150.2.1, .int .i64 r150.2.2, .int .i64 r151.1, .int .i64 r151.2.1, .int .i64 r151.2.2, .bool true] hM159 (by kernel_rfl) (fun w160 hM161 => S_nil (?_)))
            have HR := hr_pos HR rfl
            refine R_ret hM161 rfl (.cons (.cell _ _ 0 0 (.agg #[.int .i64 r150.1, .int .i64 r150.2.1, .int .i64 r150.2.2, .int .i64 r151.1, .int .i64 r151.2.1, .int .i64 r151.2.2, .bool true]) (by kernel_rfl)) .nil) rfl ?_
            exact ⟨congrArg Ending.returned HR, hM161.below⟩
        · refine S_val (.bool false) (by kernel_rfl) (S_nil (R_no (by kernel_rfl) (R_skip (R_exit rfl (R_seq (R_region (S_val (.agg #[.int .i64 0, .int .i64 0, .int .i64 0, .int .i64 0, .int .i64 0, .int .i64 0, .bool true]) (by kernel_rfl) (S_store 0 0 #[.int .i64 0, .int .i64 0, .int .i64 0, .int .i64 0, .int .i64 0, .int .i64 0, .bool true] hM18 (by kernel_rfl) (fun w163 hM164 => S_nil (?_))))))))))
          have HR := hr_neg HR c142
          refine R_ret hM164 rfl (.cons (.cell _ _ 0 0 (.agg #[.int .i64 0, .int .i64 0, .int .i64 0, .int .i64 0, .int .i64 0, .int .i64 0, .bool true]) (by kernel_rfl)) .nil) rfl ?_
          exact ⟨congrArg Ending.returned HR, hM164.below⟩

def P_surface_Scatter (r : (Int × Int × Int) × (Int × Int × Int) × Bool) : Prop := (InV r.1 ∧ InV r.2.1 ∧ True)
theorem i_surface_Scatter (m : Int × (Int × Int × Int) × Int) (color : Int × Int × Int) (n : Int × Int × Int) (d3_ : Int × Int × Int) (draw : Int × Int) (h_m : (InI m.1 ∧ InV m.2.1 ∧ InI m.2.2)) (h_color : InV color) (h_n : InV n) (h_d3_ : InV d3_) (h_draw : (InU32 draw.1 ∧ InU32 draw.2)) : P_surface_Scatter (s_surface_Scatter m color n d3_ draw) := by
  unfold s_surface_Scatter
  exact (ite_P (fun c19 => (lt_P fun r20 h21 => ite_P (fun c32 => (show (InV r20.1 ∧ InV r20.2.1 ∧ True) from ⟨(tr (P := fun r : (Int × Int × Int) × (Int × Int × Int) × Bool => (InV r.1 ∧ InV r.2.1 ∧ True)) h21 (i_surface_diffuse color n draw.1 h_color h_n h_draw.1)).out.1, (tr (P := fun r : (Int × Int × Int) × (Int × Int × Int) × Bool => (InV r.1 ∧ InV r.2.1 ∧ True)) h21 (i_surface_diffuse color n draw.1 h_color h_n h_draw.1)).out.2.1, trivial⟩)) (fun c32 => (show (InV r20.1 ∧ InV r20.2.1 ∧ True) from ⟨(tr (P := fun r : (Int × Int × Int) × (Int × Int × Int) × Bool => (InV r.1 ∧ InV r.2.1 ∧ True)) h21 (i_surface_diffuse color n draw.1 h_color h_n h_draw.1)).out.1, (tr (P := fun r : (Int × Int × Int) × (Int × Int × Int) × Bool => (InV r.1 ∧ InV r.2.1 ∧ True)) h21 (i_surface_diffuse color n draw.1 h_color h_n h_draw.1)).out.2.1, trivial⟩)))) (fun c19 => (ite_P (fun c33 => (lt_P fun r34 h35 => (lt_P fun r38 h39 => (lt_P fun r42 h43 => (lt_P fun r49 h50 => (lt_P fun r51 h52 => (lt_P fun r53 h54 => (lt_P fun r55 h56 => (lt_P fun r61 h62 => (lt_P fun r71 h72 => (ite_P (fun c75 => (show (InV (0, 0, 0) ∧ InV (0, 0, 0) ∧ True) from ⟨⟨(show InI 0 from by unfold InI; omega), (show InI 0 from by unfold InI; omega), (show InI 0 from by unfold InI; omega)⟩, ⟨(show InI 0 from by unfold InI; omega), (show InI 0 from by unfold InI; omega), (show InI 0 from by unfold InI; omega)⟩, trivial⟩)) (fun c75 => (lt_P fun r78 h79 => ite_P (fun c90 => (show (InV r78.1 ∧ InV r78.2.1 ∧ True) from ⟨(tr (P := fun r : (Int × Int × Int) × (Int × Int × Int) × Bool => (InV r.1 ∧ InV r.2.1 ∧ True)) h79 (i_surface_along r61 color ((tr (P := fun r : Int × Int × Int => InV r) h62 (sumT_I [r49, r55])).out) h_color)).out.1, (tr (P := fun r : (Int × Int × Int) × (Int × Int × Int) × Bool => (InV r.1 ∧ InV r.2.1 ∧ True)) h79 (i_surface_along r61 color ((tr (P := fun r : Int × Int × Int => InV r) h62 (sumT_I [r49, r55])).out) h_color)).out.2.1, trivial⟩)) (fun c90 => (show (InV r78.1 ∧ InV r78.2.1 ∧ True) from ⟨(tr (P := fun r : (Int × Int × Int) × (Int × Int × Int) × Bool => (InV r.1 ∧ InV r.2.1 ∧ True)) h79 (i_surface_along r61 color ((tr (P := fun r : Int × Int × Int => InV r) h62 (sumT_I [r49, r55])).out) h_color)).out.1, (tr (P := fun r : (Int × Int × Int) × (Int × Int × Int) × Bool => (InV r.1 ∧ InV r.2.1 ∧ True)) h79 (i_surface_along r61 color ((tr (P := fun r : Int × Int × Int => InV r) h62 (sumT_I [r49, r55])).out) h_color)).out.2.1, trivial⟩))))))))))))))) (fun c33 => (ite_P (fun c91 => (lt_P fun r95 h96 => (ite_P (fun c97 => (lt_P fun r103 h104 => (lt_P fun r105 h106 => ite_P (fun c119 => (show (InV r105.1 ∧ InV r105.2.1 ∧ True) from ⟨(tr (P := fun r : (Int × Int × Int) × (Int × Int × Int) × Bool => (InV r.1 ∧ InV r.2.1 ∧ True)) h106 (i_surface_along r103 color ((tr (P := fun r : Int × Int × Int => InV r) h104 (vtow_I d3_)).out) h_color)).out.1, (tr (P := fun r : (Int × Int × Int) × (Int × Int × Int) × Bool => (InV r.1 ∧ InV r.2.1 ∧ True)) h106 (i_surface_along r103 color ((tr (P := fun r : Int × Int × Int => InV r) h104 (vtow_I d3_)).out) h_color)).out.2.1, trivial⟩)) (fun c119 => (show (InV r105.1 ∧ InV r105.2.1 ∧ True) from ⟨(tr (P := fun r : (Int × Int × Int) × (Int × Int × Int) × Bool => (InV r.1 ∧ InV r.2.1 ∧ True)) h106 (i_surface_along r103 color ((tr (P := fun r : Int × Int × Int => InV r) h104 (vtow_I d3_)).out) h_color)).out.1, (tr (P := fun r : (Int × Int × Int) × (Int × Int × Int) × Bool => (InV r.1 ∧ InV r.2.1 ∧ True)) h106 (i_surface_along r103 color ((tr (P := fun r : Int × Int × Int => InV r) h104 (vtow_I d3_)).out) h_color)).out.2.1, trivial⟩))))) (fun c97 => (lt_P fun r125 h126 => (lt_P fun r127 h128 => ite_P (fun c141 => (show (InV r127.1 ∧ InV r127.2.1 ∧ True) from ⟨(tr (P := fun r : (Int × Int × Int) × (Int × Int × Int) × Bool => (InV r.1 ∧ InV r.2.1 ∧ True)) h128 (i_surface_along r125 color ((tr (P := fun r : Int × Int × Int => InV r) h126 (i_surface_Mirror n d3_ h_n h_d3_)).out) h_color)).out.1, (tr (P := fun r : (Int × Int × Int) × (Int × Int × Int) × Bool => (InV r.1 ∧ InV r.2.1 ∧ True)) h128 (i_surface_along r125 color ((tr (P := fun r : Int × Int × Int => InV r) h126 (i_surface_Mirror n d3_ h_n h_d3_)).out) h_color)).out.2.1, trivial⟩)) (fun c141 => (show (InV r127.1 ∧ InV r127.2.1 ∧ True) from ⟨(tr (P := fun r : (Int × Int × Int) × (Int × Int × Int) × Bool => (InV r.1 ∧ InV r.2.1 ∧ True)) h128 (i_surface_along r125 color ((tr (P := fun r : Int × Int × Int => InV r) h126 (i_surface_Mirror n d3_ h_n h_d3_)).out) h_color)).out.1, (tr (P := fun r : (Int × Int × Int) × (Int × Int × Int) × Bool => (InV r.1 ∧ InV r.2.1 ∧ True)) h128 (i_surface_along r125 color ((tr (P := fun r : Int × Int × Int => InV r) h126 (i_surface_Mirror n d3_ h_n h_d3_)).out) h_color)).out.2.1, trivial⟩)))))))) (fun c91 => (ite_P (fun c142 => (lt_P fun r146 h147 => (lt_P fun r148 h149 => ite_P (fun c162 => (show (InV r148.1 ∧ InV r148.2.1 ∧ True) from ⟨(tr (P := fun r : (Int × Int × Int) × (Int × Int × Int) × Bool => (InV r.1 ∧ InV r.2.1 ∧ True)) h149 (i_surface_along r146 color ((tr (P := fun r : Int × Int × Int => InV r) h147 (i_surface_Mirror n d3_ h_n h_d3_)).out) h_color)).out.1, (tr (P := fun r : (Int × Int × Int) × (Int × Int × Int) × Bool => (InV r.1 ∧ InV r.2.1 ∧ True)) h149 (i_surface_along r146 color ((tr (P := fun r : Int × Int × Int => InV r) h147 (i_surface_Mirror n d3_ h_n h_d3_)).out) h_color)).out.2.1, trivial⟩)) (fun c162 => (show (InV r148.1 ∧ InV r148.2.1 ∧ True) from ⟨(tr (P := fun r : (Int × Int × Int) × (Int × Int × Int) × Bool => (InV r.1 ∧ InV r.2.1 ∧ True)) h149 (i_surface_along r146 color ((tr (P := fun r : Int × Int × Int => InV r) h147 (i_surface_Mirror n d3_ h_n h_d3_)).out) h_color)).out.1, (tr (P := fun r : (Int × Int × Int) × (Int × Int × Int) × Bool => (InV r.1 ∧ InV r.2.1 ∧ True)) h149 (i_surface_along r146 color ((tr (P := fun r : Int × Int × Int => InV r) h147 (i_surface_Mirror n d3_ h_n h_d3_)).out) h_color)).out.2.1, trivial⟩))))) (fun c142 => (show (InV (0, 0, 0) ∧ InV (0, 0, 0) ∧ True) from ⟨⟨(show InI 0 from by unfold InI; omega), (show InI 0 from by unfold InI; omega), (show InI 0 from by unfold InI; omega)⟩, ⟨(show InI 0 from by unfold InI; omega), (show InI 0 from by unfold InI; omega), (show InI 0 from by unfold InI; omega)⟩, trivial⟩)))))))))

def e_surface_Roulette_1 (r : Int) : Value := .int .i64 r
def s_surface_Roulette_1 (q : Int) (x : Int) : Int :=
  lt (fdiv x q) fun r1 =>
  r1
set_option maxRecDepth 100000 in
set_option maxHeartbeats 4000000 in
theorem w_surface_Roulette_1 (q : Int) (x : Int) (h_q : InI q) (h_x : InI x) (B0 : Nat) (T0 : TypeId) (fr0 : Nat × Nat) (w : World) (hB0 : Has B0 (.cells #[.int .i64 q] T0 fr0) w) : Calls Try.prog 53 #[.int .i64 x, .pointer (some ⟨B0, 0, none⟩)] w (Ret (e_surface_Roulette_1 (s_surface_Roulette_1 q x)) w) := by
  obtain ⟨R, HR⟩ : ∃ R, e_surface_Roulette_1 (s_surface_Roulette_1 q x) = R := ⟨_, rfl⟩
  rw [HR]
  unfold s_surface_Roulette_1 at HR
  have hM0 := St.start1 hB0
  refine calls_run Try.func53 rfl ?_
  refine R_seq (R_region (S_val (.int .i64 0) (by kernel_rfl) (S_nil (R_seq (R_region (S_val (.int .i64 x) (by kernel_rfl) (S_load 0 0 (.int .i64 q) hM0 (by kernel_rfl) (S_call (fdiv x q) (fun r : Int => .int .i64 r) hM0 (c_fix_Div x q h_x h_q w) (by kernel_rfl) (fun r1 h2 w3 hM4 => S_val (.int .i64 r1) (by kernel_rfl) (S_nil (?_)))))))))))
  have HR := hr_lt HR h2
  refine R_ret hM4 rfl (.cons (.tmp _ (.int .i64 r1) (by kernel_rfl)) .nil) rfl ?_
  exact ⟨congrArg Ending.returned HR, hM4.below⟩

def P_surface_Roulette_1 (r : Int) : Prop := InI r
theorem i_surface_Roulette_1 (q : Int) (x : Int) (h_q : InI q) (h_x : InI x) : P_surface_Roulette_1 (s_surface_Roulette_1 q x) := by
  unfold s_surface_Roulette_1
  exact (lt_P fun r1 h2 => (show InI r1 from (tr (P := fun r : Int => InI r) h2 (fdiv_I x q)).out))

def e_surface_Roulette (r : (Int × Int × Int) × Bool) : Value := .tuple #[.agg #[.int .i64 r.1.1, .int .i64 r.1.2.1, .int .i64 r.1.2.2], .bool r.2]
def s_surface_Roulette (gain : Int × Int × Int) (draw : Int) : (Int × Int × Int) × Bool :=
  lt (vmost gain) fun r7 =>
  lt (fclamp r7 268435456 4294967296) fun r11 =>
  lt (s_stream_Unit draw) fun r23 =>
  if r23 ≥ r11 then
    ((0, 0, 0), false)
  else
    lt (s_surface_Roulette_1 r11 gain.1) fun r35 =>
    lt (s_surface_Roulette_1 r11 gain.2.1) fun r37 =>
    lt (s_surface_Roulette_1 r11 gain.2.2) fun r39 =>
    ((r35, r37, r39), true)
set_option maxRecDepth 100000 in
set_option maxHeartbeats 4000000 in
theorem w_surface_Roulette (gain : Int × Int × Int) (draw : Int) (h_gain : InV gain) (h_draw : InU32 draw) (w : World) : Calls Try.prog 26 #[.agg #[.int .i64 gain.1, .int .i64 gain.2.1, .int .i64 gain.2.2], .int .u32 draw] w (Ret (e_surface_Roulette (s_surface_Roulette gain draw)) w) := by
  obtain ⟨R, HR⟩ : ∃ R, e_surface_Roulette (s_surface_Roulette gain draw) = R := ⟨_, rfl⟩
  rw [HR]
  unfold s_surface_Roulette at HR
  have hM0 := St.start w
  refine calls_run Try.func26 rfl ?_
  refine R_seq (R_region (S_fresh none #[.int .i64 gain.1, .int .i64 gain.2.1, .int .i64 gain.2.2] 26 hM0 (by kernel_rfl) (fun g1 w2 hM3 => S_fresh none #[.int .i64 0, .int .i64 0, .int .i64 0] 26 hM3 (by kernel_rfl) (fun g4 w5 hM6 => S_val (.bool false) (by kernel_rfl) (S_nil (R_seq (R_region (S_load 1 0 (.agg #[.int .i64 gain.1, .int .i64 gain.2.1, .int .i64 gain.2.2]) hM6 (by kernel_rfl) (S_call (vmost gain) (fun r : Int => .int .i64 r) hM6 (c_vec_Most gain h_gain w5) (by kernel_rfl) (fun r7 h8 w9 hM10 => S_call (fclamp r7 268435456 4294967296) (fun r : Int => .int .i64 r) hM10 (c_fix_Clamp r7 268435456 4294967296 w9) (by kernel_rfl) (fun r11 h12 w13 hM14 => S_fresh none #[.int .i64 0] 24 hM14 (by kernel_rfl) (fun g15 w16 hM17 => ?_))))))))))))
  have HR := hr_lt HR h8
  have HR := hr_lt HR h12
  refine S_store 0 0 #[.int .i64 r11] hM17 (by kernel_rfl) (fun w18 hM19 => S_nil (R_seq (R_seq (R_drawF 4 (by kernel_rfl) (fun F20 U21 hL22 => F_val (.int .u32 draw) (fun _ => by kernel_rfl) (F_call (s_stream_Unit draw) (fun r : Int => .int .i64 r) hM19 hL22 (fun w' hM' => w_stream_Unit draw h_draw w') (by kernel_rfl) (fun _ => by kernel_rfl) (fun r23 h24 => F_load 0 0 (.int .i64 r11) hM19 (by kernel_rfl) (?_))))))))
  have HR := hr_lt HR h24
  refine F_dec (r23 ≥ r11) (fun _ => by kernel_rfl) (fun c25 => ?_) (fun c25 => ?_)
  · refine F_nil hM19 hL22 (fun w26 hM27 => S_nil (R_yes (by kernel_rfl) (R_seq (R_region (S_val (.agg #[.int .i64 0, .int .i64 0, .int .i64 0]) (by kernel_rfl) (S_store 1 0 #[.int .i64 0, .int .i64 0, .int .i64 0] hM27 (by kernel_rfl) (fun w28 hM29 => S_val (.bool false) (by kernel_rfl) (S_nil (?_)))))))))
    have HR := hr_pos HR c25
    refine R_ret hM29 rfl (.cons (.cell _ _ 1 0 (.agg #[.int .i64 0, .int .i64 0, .int .i64 0]) (by kernel_rfl)) (.cons (.tmp _ (.bool false) (by kernel_rfl)) .nil)) rfl ?_
    exact ⟨congrArg Ending.returned HR, hM29.below⟩
  · refine F_nil hM19 hL22 (fun w30 hM31 => S_nil (R_no (by kernel_rfl) (R_skip (R_seq (R_region (S_val (.func (.func 53) #[] #[.pointer (some ⟨g15, 0, none⟩)]) (by kernel_rfl) (S_val (.func (.func 53) #[] #[.pointer (some ⟨g15, 0, none⟩)]) (by kernel_rfl) (S_nil (R_seq (R_drawF 13 (by kernel_rfl) (fun F32 U33 hL34 => F_val (.func (.func 53) #[] #[.pointer (some ⟨g15, 0, none⟩)]) (fun _ => by kernel_rfl) (?_))))))))))))
    have HR := hr_neg HR c25
    refine F_val (.pointer (some ⟨g1, 0, none⟩)) (fun _ => by kernel_rfl) (F_load 2 0 (.int .i64 gain.1) hM31 (by kernel_rfl) (F_call (s_surface_Roulette_1 r11 gain.1) (fun r : Int => .int .i64 r) hM31 hL34 (fun w' hM' => w_surface_Roulette_1 r11 gain.1 ((tr (P := fun r : Int => InI r) h12 (fclamp_I ((tr (P := fun r : Int => InI r) h8 (vmost_I h_gain)).out) (show InI 268435456 from by unfold InI; omega) (show InI 4294967296 from by unfold InI; omega))).out) h_gain.1 g15 _ _ w' (hM'.at 0 rfl)) (by kernel_rfl) (fun _ => by kernel_rfl) (fun r35 h36 => F_val (.func (.func 53) #[] #[.pointer (some ⟨g15, 0, none⟩)]) (fun _ => by kernel_rfl) (F_val (.pointer (some ⟨g1, 1, none⟩)) (fun _ => by kernel_rfl) (F_load 2 1 (.int .i64 gain.2.1) hM31 (by kernel_rfl) (F_call (s_surface_Roulette_1 r11 gain.2.1) (fun r : Int => .int .i64 r) hM31 hL34 (fun w' hM' => w_surface_Roulette_1 r11 gain.2.1 ((tr (P := fun r : Int => InI r) h12 (fclamp_I ((tr (P := fun r : Int => InI r) h8 (vmost_I h_gain)).out) (show InI 268435456 from by unfold InI; omega) (show InI 4294967296 from by unfold InI; omega))).out) h_gain.2.1 g15 _ _ w' (hM'.at 0 rfl)) (by kernel_rfl) (fun _ => by kernel_rfl) (fun r37 h38 => F_val (.func (.func 53) #[] #[.pointer (some ⟨g15, 0, none⟩)]) (fun _ => by kernel_rfl) (F_val (.pointer (some ⟨g1, 2, none⟩)) (fun _ => by kernel_rfl) (F_load 2 2 (.int .i64 gain.2.2) hM31 (by kernel_rfl) (F_call (s_surface_Roulette_1 r11 gain.2.2) (fun r : Int => .int .i64 r) hM31 hL34 (fun w' hM' => w_surface_Roulette_1 r11 gain.2.2 ((tr (P := fun r : Int => InI r) h12 (fclamp_I ((tr (P := fun r : Int => InI r) h8 (vmost_I h_gain)).out) (show InI 268435456 from by unfold InI; omega) (show InI 4294967296 from by unfold InI; omega))).out) h_gain.2.2 g15 _ _ w' (hM'.at 0 rfl)) (by kernel_rfl) (fun _ => by kernel_rfl) (fun r39 h40 => F_val (.agg #[.int .i64 r35, .int .i64 r37, .int .i64 r39]) (fun _ => by kernel_rfl) (?_))))))))))))
    have HR := hr_lt HR h36
    have HR := hr_lt HR h38
    have HR := hr_lt HR h40
    refine F_nil hM31 hL34 (fun w41 hM42 => S_store 1 0 #[.int .i64 r35, .int .i64 r37, .int .i64 r39] hM42 (by kernel_rfl) (fun w43 hM44 => S_val (.bool true) (by kernel_rfl) (S_nil (?_))))
    refine R_ret hM44 rfl (.cons (.cell _ _ 1 0 (.agg #[.int .i64 r35, .int .i64 r37, .int .i64 r39]) (by kernel_rfl)) (.cons (.tmp _ (.bool true) (by kernel_rfl)) .nil)) rfl ?_
    exact ⟨congrArg Ending.returned HR, hM44.below⟩

def P_surface_Roulette (r : (Int × Int × Int) × Bool) : Prop := (InV r.1 ∧ True)
theorem i_surface_Roulette (gain : Int × Int × Int) (draw : Int) (h_gain : InV gain) (h_draw : InU32 draw) : P_surface_Roulette (s_surface_Roulette gain draw) := by
  unfold s_surface_Roulette
  exact (lt_P fun r7 h8 => (lt_P fun r11 h12 => (lt_P fun r23 h24 => (ite_P (fun c25 => (show (InV (0, 0, 0) ∧ True) from ⟨⟨(show InI 0 from by unfold InI; omega), (show InI 0 from by unfold InI; omega), (show InI 0 from by unfold InI; omega)⟩, trivial⟩)) (fun c25 => (lt_P fun r35 h36 => (lt_P fun r37 h38 => (lt_P fun r39 h40 => (show (InV (r35, r37, r39) ∧ True) from ⟨⟨(tr (P := fun r : Int => InI r) h36 (i_surface_Roulette_1 r11 gain.1 ((tr (P := fun r : Int => InI r) h12 (fclamp_I ((tr (P := fun r : Int => InI r) h8 (vmost_I h_gain)).out) (show InI 268435456 from by unfold InI; omega) (show InI 4294967296 from by unfold InI; omega))).out) h_gain.1)).out, (tr (P := fun r : Int => InI r) h38 (i_surface_Roulette_1 r11 gain.2.1 ((tr (P := fun r : Int => InI r) h12 (fclamp_I ((tr (P := fun r : Int => InI r) h8 (vmost_I h_gain)).out) (show InI 268435456 from by unfold InI; omega) (show InI 4294967296 from by unfold InI; omega))).out) h_gain.2.1)).out, (tr (P := fun r : Int => InI r) h40 (i_surface_Roulette_1 r11 gain.2.2 ((tr (P := fun r : Int => InI r) h12 (fclamp_I ((tr (P := fun r : Int => InI r) h8 (vmost_I h_gain)).out) (show InI 268435456 from by unfold InI; omega) (show InI 4294967296 from by unfold InI; omega))).out) h_gain.2.2)).out⟩, trivial⟩)))))))))

def e_umbraref26_Facing (r : Int × Int × Int) : Value := .agg #[.int .i64 r.1, .int .i64 r.2.1, .int .i64 r.2.2]
def s_umbraref26_Facing (n : Int × Int × Int) (d1_ : Int × Int × Int) : Int × Int × Int :=
  lt (vtow d1_) fun r13 =>
  lt (vdot n r13) fun r15 =>
  if r15 > 0 then
    lt (vscale n (-4294967296)) fun r20 =>
    r20
  else
    n
set_option maxRecDepth 100000 in
set_option maxHeartbeats 4000000 in
theorem w_umbraref26_Facing (n : Int × Int × Int) (d1_ : Int × Int × Int) (h_n : InV n) (h_d1_ : InV d1_) (w : World) : Calls Try.prog 29 #[.agg #[.int .i64 n.1, .int .i64 n.2.1, .int .i64 n.2.2], .agg #[.int .i64 d1_.1, .int .i64 d1_.2.1, .int .i64 d1_.2.2]] w (Ret (e_umbraref26_Facing (s_umbraref26_Facing n d1_)) w) := by
  obtain ⟨R, HR⟩ : ∃ R, e_umbraref26_Facing (s_umbraref26_Facing n d1_) = R := ⟨_, rfl⟩
  rw [HR]
  unfold s_umbraref26_Facing at HR
  have hM0 := St.start w
  refine calls_run Try.func29 rfl ?_
  refine R_seq (R_region (S_fresh none #[.int .i64 n.1, .int .i64 n.2.1, .int .i64 n.2.2] 26 hM0 (by kernel_rfl) (fun g1 w2 hM3 => S_fresh none #[.int .i64 d1_.1, .int .i64 d1_.2.1, .int .i64 d1_.2.2] 23 hM3 (by kernel_rfl) (fun g4 w5 hM6 => S_fresh none #[.int .i64 0, .int .i64 0, .int .i64 0] 26 hM6 (by kernel_rfl) (fun g7 w8 hM9 => S_nil (R_seq (R_seq (R_drawF 5 (by kernel_rfl) (fun F10 U11 hL12 => F_load 2 0 (.agg #[.int .i64 n.1, .int .i64 n.2.1, .int .i64 n.2.2]) hM9 (by kernel_rfl) (F_load 1 0 (.agg #[.int .i64 d1_.1, .int .i64 d1_.2.1, .int .i64 d1_.2.2]) hM9 (by kernel_rfl) (F_call (vtow d1_) (fun r : Int × Int × Int => .agg #[.int .i64 r.1, .int .i64 r.2.1, .int .i64 r.2.2]) hM9 hL12 (fun w' hM' => r3Toward d1_ h_d1_ w') (by kernel_rfl) (fun _ => by kernel_rfl) (fun r13 h14 => ?_))))))))))))
  have HR := hr_lt HR h14
  refine F_call (vdot n r13) (fun r : Int => .int .i64 r) hM9 hL12 (fun w' hM' => c_umbraref03_Dot n r13 h_n ((tr (P := fun r : Int × Int × Int => InV r) h14 (vtow_I d1_)).out) w') (by kernel_rfl) (fun _ => by kernel_rfl) (fun r15 h16 => ?_)
  have HR := hr_lt HR h16
  refine F_dec (r15 > 0) (fun _ => by kernel_rfl) (fun c17 => ?_) (fun c17 => ?_)
  · refine F_nil hM9 hL12 (fun w18 hM19 => S_nil (R_yes (by kernel_rfl) (R_seq (R_region (S_load 2 0 (.agg #[.int .i64 n.1, .int .i64 n.2.1, .int .i64 n.2.2]) hM19 (by kernel_rfl) (S_call (vscale n (-4294967296)) (fun r : Int × Int × Int => .agg #[.int .i64 r.1, .int .i64 r.2.1, .int .i64 r.2.2]) hM19 (c_umbraref03_Scale n (-4294967296) h_n (show InI (-4294967296) from by unfold InI; omega) w18) (by kernel_rfl) (fun r20 h21 w22 hM23 => S_store 0 0 #[.int .i64 r20.1, .int .i64 r20.2.1, .int .i64 r20.2.2] hM23 (by kernel_rfl) (fun w24 hM25 => S_nil (?_)))))))))
    have HR := hr_pos HR c17
    have HR := hr_lt HR h21
    refine R_ret hM25 rfl (.cons (.cell _ _ 0 0 (.agg #[.int .i64 r20.1, .int .i64 r20.2.1, .int .i64 r20.2.2]) (by kernel_rfl)) .nil) rfl ?_
    exact ⟨congrArg Ending.returned HR, hM25.below⟩
  · refine F_nil hM9 hL12 (fun w26 hM27 => S_nil (R_no (by kernel_rfl) (R_skip (R_seq (R_region (S_load 2 0 (.agg #[.int .i64 n.1, .int .i64 n.2.1, .int .i64 n.2.2]) hM27 (by kernel_rfl) (S_store 0 0 #[.int .i64 n.1, .int .i64 n.2.1, .int .i64 n.2.2] hM27 (by kernel_rfl) (fun w28 hM29 => S_nil (?_)))))))))
    have HR := hr_neg HR c17
    refine R_ret hM29 rfl (.cons (.cell _ _ 0 0 (.agg #[.int .i64 n.1, .int .i64 n.2.1, .int .i64 n.2.2]) (by kernel_rfl)) .nil) rfl ?_
    exact ⟨congrArg Ending.returned HR, hM29.below⟩

def P_umbraref26_Facing (r : Int × Int × Int) : Prop := InV r
theorem i_umbraref26_Facing (n : Int × Int × Int) (d1_ : Int × Int × Int) (h_n : InV n) (h_d1_ : InV d1_) : P_umbraref26_Facing (s_umbraref26_Facing n d1_) := by
  unfold s_umbraref26_Facing
  exact (lt_P fun r13 h14 => (lt_P fun r15 h16 => (ite_P (fun c17 => (lt_P fun r20 h21 => (show InV r20 from (tr (P := fun r : Int × Int × Int => InV r) h21 (vscale_I n (-4294967296))).out))) (fun c17 => (show InV n from h_n)))))

def e_umbraref26_Mirror (r : Int × Int × Int) : Value := .agg #[.int .i64 r.1, .int .i64 r.2.1, .int .i64 r.2.2]
def s_umbraref26_Mirror (n : Int × Int × Int) (d1_ : Int × Int × Int) : Int × Int × Int :=
  lt (vtow d1_) fun r10 =>
  lt (vdot n r10) fun r19 =>
  lt (satAdd r19 r19) fun r26 =>
  lt (vscale n r26) fun r28 =>
  lt (vsub r10 r28) fun r30 =>
  r30
set_option maxRecDepth 100000 in
set_option maxHeartbeats 4000000 in
theorem w_umbraref26_Mirror (n : Int × Int × Int) (d1_ : Int × Int × Int) (h_n : InV n) (h_d1_ : InV d1_) (w : World) : Calls Try.prog 30 #[.agg #[.int .i64 n.1, .int .i64 n.2.1, .int .i64 n.2.2], .agg #[.int .i64 d1_.1, .int .i64 d1_.2.1, .int .i64 d1_.2.2]] w (Ret (e_umbraref26_Mirror (s_umbraref26_Mirror n d1_)) w) := by
  obtain ⟨R, HR⟩ : ∃ R, e_umbraref26_Mirror (s_umbraref26_Mirror n d1_) = R := ⟨_, rfl⟩
  rw [HR]
  unfold s_umbraref26_Mirror at HR
  have hM0 := St.start w
  refine calls_run Try.func30 rfl ?_
  refine R_seq (R_region (S_fresh none #[.int .i64 n.1, .int .i64 n.2.1, .int .i64 n.2.2] 26 hM0 (by kernel_rfl) (fun g1 w2 hM3 => S_fresh none #[.int .i64 d1_.1, .int .i64 d1_.2.1, .int .i64 d1_.2.2] 23 hM3 (by kernel_rfl) (fun g4 w5 hM6 => S_fresh none #[.int .i64 0, .int .i64 0, .int .i64 0] 26 hM6 (by kernel_rfl) (fun g7 w8 hM9 => S_nil (R_seq (R_region (S_load 1 0 (.agg #[.int .i64 d1_.1, .int .i64 d1_.2.1, .int .i64 d1_.2.2]) hM9 (by kernel_rfl) (S_call (vtow d1_) (fun r : Int × Int × Int => .agg #[.int .i64 r.1, .int .i64 r.2.1, .int .i64 r.2.2]) hM9 (r3Toward d1_ h_d1_ w8) (by kernel_rfl) (fun r10 h11 w12 hM13 => S_fresh none #[.int .i64 0, .int .i64 0, .int .i64 0] 26 hM13 (by kernel_rfl) (fun g14 w15 hM16 => S_store 0 0 #[.int .i64 r10.1, .int .i64 r10.2.1, .int .i64 r10.2.2] hM16 (by kernel_rfl) (fun w17 hM18 => ?_))))))))))))
  have HR := hr_lt HR h11
  refine S_nil (R_seq (R_region (S_load 3 0 (.agg #[.int .i64 n.1, .int .i64 n.2.1, .int .i64 n.2.2]) hM18 (by kernel_rfl) (S_load 0 0 (.agg #[.int .i64 r10.1, .int .i64 r10.2.1, .int .i64 r10.2.2]) hM18 (by kernel_rfl) (S_call (vdot n r10) (fun r : Int => .int .i64 r) hM18 (c_umbraref03_Dot n r10 h_n ((tr (P := fun r : Int × Int × Int => InV r) h11 (vtow_I d1_)).out) w17) (by kernel_rfl) (fun r19 h20 w21 hM22 => S_val (.int .i64 r19) (by kernel_rfl) (S_nil (R_seq (R_drawF 7 (by kernel_rfl) (fun F23 U24 hL25 => F_load 0 0 (.agg #[.int .i64 r10.1, .int .i64 r10.2.1, .int .i64 r10.2.2]) hM22 (by kernel_rfl) (F_load 3 0 (.agg #[.int .i64 n.1, .int .i64 n.2.1, .int .i64 n.2.2]) hM22 (by kernel_rfl) (?_))))))))))))
  have HR := hr_lt HR h20
  refine F_val (.int .i64 r19) (fun _ => by kernel_rfl) (F_val (.int .i64 r19) (fun _ => by kernel_rfl) (F_call (satAdd r19 r19) (fun r : Int => .int .i64 r) hM22 hL25 (fun w' hM' => c_umbraref02_Two r19 r19 ((tr (P := fun r : Int => InI r) h20 (vdot_I n r10)).out) ((tr (P := fun r : Int => InI r) h20 (vdot_I n r10)).out) w') (by kernel_rfl) (fun _ => by kernel_rfl) (fun r26 h27 => F_call (vscale n r26) (fun r : Int × Int × Int => .agg #[.int .i64 r.1, .int .i64 r.2.1, .int .i64 r.2.2]) hM22 hL25 (fun w' hM' => c_umbraref03_Scale n r26 h_n ((tr (P := fun r : Int => InI r) h27 (satAdd_I r19 r19)).out) w') (by kernel_rfl) (fun _ => by kernel_rfl) (fun r28 h29 => F_call (vsub r10 r28) (fun r : Int × Int × Int => .agg #[.int .i64 r.1, .int .i64 r.2.1, .int .i64 r.2.2]) hM22 hL25 (fun w' hM' => c_umbraref03_Sub r10 r28 ((tr (P := fun r : Int × Int × Int => InV r) h11 (vtow_I d1_)).out) ((tr (P := fun r : Int × Int × Int => InV r) h29 (vscale_I n r26)).out) w') (by kernel_rfl) (fun _ => by kernel_rfl) (fun r30 h31 => F_nil hM22 hL25 (fun w32 hM33 => S_store 1 0 #[.int .i64 r30.1, .int .i64 r30.2.1, .int .i64 r30.2.2] hM33 (by kernel_rfl) (fun w34 hM35 => S_nil (?_))))))))
  have HR := hr_lt HR h27
  have HR := hr_lt HR h29
  have HR := hr_lt HR h31
  refine R_ret hM35 rfl (.cons (.cell _ _ 1 0 (.agg #[.int .i64 r30.1, .int .i64 r30.2.1, .int .i64 r30.2.2]) (by kernel_rfl)) .nil) rfl ?_
  exact ⟨congrArg Ending.returned HR, hM35.below⟩

def P_umbraref26_Mirror (r : Int × Int × Int) : Prop := InV r
theorem i_umbraref26_Mirror (n : Int × Int × Int) (d1_ : Int × Int × Int) (h_n : InV n) (h_d1_ : InV d1_) : P_umbraref26_Mirror (s_umbraref26_Mirror n d1_) := by
  unfold s_umbraref26_Mirror
  exact (lt_P fun r10 h11 => (lt_P fun r19 h20 => (lt_P fun r26 h27 => (lt_P fun r28 h29 => (lt_P fun r30 h31 => (show InV r30 from (tr (P := fun r : Int × Int × Int => InV r) h31 (vsub_I r10 r28)).out))))))

def e_umbraref26_along (r : (Int × Int × Int) × (Int × Int × Int) × Bool) : Value := .agg #[.int .i64 r.1.1, .int .i64 r.1.2.1, .int .i64 r.1.2.2, .int .i64 r.2.1.1, .int .i64 r.2.1.2.1, .int .i64 r.2.1.2.2, .bool r.2.2]
def s_umbraref26_along (v : Int × Int × Int) (gain : Int × Int × Int) : (Int × Int × Int) × (Int × Int × Int) × Bool :=
  lt (quantT v) fun r10 =>
  if r10.2 = 0 then
    (r10.1, gain, false)
  else
    ((0, 0, 0), (0, 0, 0), true)
set_option maxRecDepth 100000 in
set_option maxHeartbeats 4000000 in
theorem w_umbraref26_along (v : Int × Int × Int) (gain : Int × Int × Int) (h_v : InV v) (h_gain : InV gain) (w : World) : Calls Try.prog 76 #[.agg #[.int .i64 v.1, .int .i64 v.2.1, .int .i64 v.2.2], .agg #[.int .i64 gain.1, .int .i64 gain.2.1, .int .i64 gain.2.2]] w (Ret (e_umbraref26_along (s_umbraref26_along v gain)) w) := by
  obtain ⟨R, HR⟩ : ∃ R, e_umbraref26_along (s_umbraref26_along v gain) = R := ⟨_, rfl⟩
  rw [HR]
  unfold s_umbraref26_along at HR
  have hM0 := St.start w
  refine calls_run Try.func76 rfl ?_
  refine R_seq (R_region (S_fresh none #[.int .i64 v.1, .int .i64 v.2.1, .int .i64 v.2.2] 26 hM0 (by kernel_rfl) (fun g1 w2 hM3 => S_fresh none #[.int .i64 gain.1, .int .i64 gain.2.1, .int .i64 gain.2.2] 26 hM3 (by kernel_rfl) (fun g4 w5 hM6 => S_fresh none #[.int .i64 0, .int .i64 0, .int .i64 0, .int .i64 0, .int .i64 0, .int .i64 0, .bool false] 53 hM6 (by kernel_rfl) (fun g7 w8 hM9 => S_nil (R_seq (R_region (S_load 2 0 (.agg #[.int .i64 v.1, .int .i64 v.2.1, .int .i64 v.2.2]) hM9 (by kernel_rfl) (S_call (quantT v) (fun r : (Int × Int × Int) × Int => .tuple #[.agg #[.int .i64 r.1.1, .int .i64 r.1.2.1, .int .i64 r.1.2.2], .int .i64 r.2]) hM9 (c_umbraref05_Quant v h_v w8) (by kernel_rfl) (fun r10 h11 w12 hM13 => S_val (.tuple #[.agg #[.int .i64 r10.1.1, .int .i64 r10.1.2.1, .int .i64 r10.1.2.2], .int .i64 r10.2]) (by kernel_rfl) (S_val (.agg #[.int .i64 r10.1.1, .int .i64 r10.1.2.1, .int .i64 r10.1.2.2]) (by kernel_rfl) (?_))))))))))))
  have HR := hr_lt HR h11
  refine S_val (.int .i64 r10.2) (by kernel_rfl) (S_fresh none #[.int .i64 0, .int .i64 0, .int .i64 0] 23 hM13 (by kernel_rfl) (fun g14 w15 hM16 => S_store 0 0 #[.int .i64 r10.1.1, .int .i64 r10.1.2.1, .int .i64 r10.1.2.2] hM16 (by kernel_rfl) (fun w17 hM18 => S_val (.int .i64 r10.2) (by kernel_rfl) (S_nil (R_seq (R_seq (R_region (S_val (.int .i64 r10.2) (by kernel_rfl) (?_)))))))))
  refine S_decn (r10.2 = 0) (by kernel_rfl) (fun c19 => ?_) (fun c19 => ?_)
  · refine S_nil (R_yes (by kernel_rfl) (R_seq (R_region (S_val (.agg #[.int .i64 0, .int .i64 0, .int .i64 0, .int .i64 0, .int .i64 0, .int .i64 0, .bool true]) (by kernel_rfl) (S_store 1 0 #[.int .i64 0, .int .i64 0, .int .i64 0, .int .i64 0, .int .i64 0, .int .i64 0, .bool true] hM18 (by kernel_rfl) (fun w20 hM21 => S_nil (?_)))))))
    have HR := hr_neg HR c19
    refine R_ret hM21 rfl (.cons (.cell _ _ 1 0 (.agg #[.int .i64 0, .int .i64 0, .int .i64 0, .int .i64 0, .int .i64 0, .int .i64 0, .bool true]) (by kernel_rfl)) .nil) rfl ?_
    exact ⟨congrArg Ending.returned HR, hM21.below⟩
  · refine S_nil (R_no (by kernel_rfl) (R_skip (R_seq (R_region (S_load 0 0 (.agg #[.int .i64 r10.1.1, .int .i64 r10.1.2.1, .int .i64 r10.1.2.2]) hM18 (by kernel_rfl) (S_load 2 0 (.agg #[.int .i64 gain.1, .int .i64 gain.2.1, .int .i64 gain.2.2]) hM18 (by kernel_rfl) (S_val (.agg #[.int .i64 r10.1.1, .int .i64 r10.1.2.1, .int .i64 r10.1.2.2, .int .i64 gain.1, .int .i64 gain.2.1, .int .i64 gain.2.2, .bool false]) (by kernel_rfl) (S_store 1 0 #[.int .i64 r10.1.1, .int .i64 r10.1.2.1, .int .i64 r10.1.2.2, .int .i64 gain.1, .int .i64 gain.2.1, .int .i64 gain.2.2, .bool false] hM18 (by kernel_rfl) (fun w22 hM23 => S_nil (?_))))))))))
    have HR := hr_pos HR c19
    refine R_ret hM23 rfl (.cons (.cell _ _ 1 0 (.agg #[.int .i64 r10.1.1, .int .i64 r10.1.2.1, .int .i64 r10.1.2.2, .int .i64 gain.1, .int .i64 gain.2.1, .int .i64 gain.2.2, .bool false]) (by kernel_rfl)) .nil) rfl ?_
    exact ⟨congrArg Ending.returned HR, hM23.below⟩

def P_umbraref26_along (r : (Int × Int × Int) × (Int × Int × Int) × Bool) : Prop := (InV r.1 ∧ InV r.2.1 ∧ True)
theorem i_umbraref26_along (v : Int × Int × Int) (gain : Int × Int × Int) (h_v : InV v) (h_gain : InV gain) : P_umbraref26_along (s_umbraref26_along v gain) := by
  unfold s_umbraref26_along
  exact (lt_P fun r10 h11 => (ite_P (fun c19 => (show (InV r10.1 ∧ InV gain ∧ True) from ⟨(tr (P := fun r : (Int × Int × Int) × Int => (InV r.1 ∧ InI r.2)) h11 (quantT_I h_v)).out.1, h_gain, trivial⟩)) (fun c19 => (show (InV (0, 0, 0) ∧ InV (0, 0, 0) ∧ True) from ⟨⟨(show InI 0 from by unfold InI; omega), (show InI 0 from by unfold InI; omega), (show InI 0 from by unfold InI; omega)⟩, ⟨(show InI 0 from by unfold InI; omega), (show InI 0 from by unfold InI; omega), (show InI 0 from by unfold InI; omega)⟩, trivial⟩))))

def e_umbraref26_Scatter (r : (Int × Int × Int) × (Int × Int × Int) × Bool) : Value := .agg #[.int .i64 r.1.1, .int .i64 r.1.2.1, .int .i64 r.1.2.2, .int .i64 r.2.1.1, .int .i64 r.2.1.2.1, .int .i64 r.2.1.2.2, .bool r.2.2]
def s_umbraref26_Scatter (m : Int × (Int × Int × Int) × Int) (color : Int × Int × Int) (n : Int × Int × Int) (d3_ : Int × Int × Int) (draw : Int × Int) : (Int × Int × Int) × (Int × Int × Int) × Bool :=
  if m.1 = 0 then
    lt (pdir draw.1) fun r20 =>
    lt (vtow r20) fun r32 =>
    lt (vdot n r32) fun r34 =>
    if r34 = 0 then
      ((0, 0, 0), (0, 0, 0), true)
    else
      if r34 < 0 then
        lt (IntKind.i64.wrap (0 - r20.1)) fun x42 =>
        lt (IntKind.i64.wrap (0 - r20.2.1)) fun x44 =>
        lt (IntKind.i64.wrap (0 - r20.2.2)) fun x46 =>
        lt (satSub 0 r34) fun r50 =>
        lt (satAdd r50 r50) fun r57 =>
        lt (vscale color r57) fun r59 =>
        ((x42, x44, x46), r59, false)
      else
        lt (satAdd r34 r34) fun r68 =>
        lt (vscale color r68) fun r70 =>
        (r20, r70, false)
  else
    if m.1 = 2 then
      lt (fof m.2.2) fun r77 =>
      lt (fof 65535) fun r81 =>
      lt (fdiv r77 r81) fun r85 =>
      lt (s_umbraref26_Mirror n d3_) fun r92 =>
      lt (pdir draw.1) fun r94 =>
      lt (vtow r94) fun r96 =>
      lt (vscale r96 r85) fun r98 =>
      lt (vadd r92 r98) fun r100 =>
      lt (vdot n r100) fun r110 =>
      if r110 ≤ 0 then
        ((0, 0, 0), (0, 0, 0), true)
      else
        lt (s_umbraref26_along r100 color) fun r117 =>
        if r117.2.2 = true then
          (r117.1, r117.2.1, true)
        else
          (r117.1, r117.2.1, false)
    else
      if m.1 = 3 then
        lt (s_umbraref10_Below draw.2 65536) fun r134 =>
        if r134 ≥ m.2.2 then
          lt (vtow d3_) fun r142 =>
          lt (s_umbraref26_along r142 color) fun r144 =>
          if r144.2.2 = true then
            (r144.1, r144.2.1, true)
          else
            (r144.1, r144.2.1, false)
        else
          if m.1 = 1 then
            lt (s_umbraref26_Mirror n d3_) fun r165 =>
            lt (s_umbraref26_along r165 color) fun r167 =>
            if r167.2.2 = true then
              (r167.1, r167.2.1, true)
            else
              (r167.1, r167.2.1, false)
          else
            lt (s_umbraref26_Mirror n d3_) fun r185 =>
            lt (s_umbraref26_along r185 color) fun r187 =>
            if r187.2.2 = true then
              (r187.1, r187.2.1, true)
            else
              (r187.1, r187.2.1, false)
      else
        if m.1 = 1 then
          lt (s_umbraref26_Mirror n d3_) fun r208 =>
          lt (s_umbraref26_along r208 color) fun r210 =>
          if r210.2.2 = true then
            (r210.1, r210.2.1, true)
          else
            (r210.1, r210.2.1, false)
        else
          ((0, 0, 0), (0, 0, 0), true)
set_option maxRecDepth 100000 in
set_option maxHeartbeats 4000000 in
theorem w_umbraref26_Scatter (m : Int × (Int × Int × Int) × Int) (color : Int × Int × Int) (n : Int × Int × Int) (d3_ : Int × Int × Int) (draw : Int × Int) (h_m : (InI m.1 ∧ InV m.2.1 ∧ InI m.2.2)) (h_color : InV color) (h_n : InV n) (h_d3_ : InV d3_) (h_draw : (InU32 draw.1 ∧ InU32 draw.2)) (w : World) : Calls Try.prog 32 #[.agg #[.int .i64 m.1, .int .i64 m.2.1.1, .int .i64 m.2.1.2.1, .int .i64 m.2.1.2.2, .int .i64 m.2.2], .agg #[.int .i64 color.1, .int .i64 color.2.1, .int .i64 color.2.2], .agg #[.int .i64 n.1, .int .i64 n.2.1, .int .i64 n.2.2], .agg #[.int .i64 d3_.1, .int .i64 d3_.2.1, .int .i64 d3_.2.2], .agg #[.int .u32 draw.1, .int .u32 draw.2]] w (Ret (e_umbraref26_Scatter (s_umbraref26_Scatter m color n d3_ draw)) w) := by
  obtain ⟨R, HR⟩ : ∃ R, e_umbraref26_Scatter (s_umbraref26_Scatter m color n d3_ draw) = R := ⟨_, rfl⟩
  rw [HR]
  unfold s_umbraref26_Scatter at HR
  have hM0 := St.start w
  refine calls_run Try.func32 rfl ?_
  refine R_seq (R_region (S_fresh none #[.int .i64 m.1, .int .i64 m.2.1.1, .int .i64 m.2.1.2.1, .int .i64 m.2.1.2.2, .int .i64 m.2.2] 48 hM0 (by kernel_rfl) (fun g1 w2 hM3 => S_fresh none #[.int .i64 color.1, .int .i64 color.2.1, .int .i64 color.2.2] 26 hM3 (by kernel_rfl) (fun g4 w5 hM6 => S_fresh none #[.int .i64 n.1, .int .i64 n.2.1, .int .i64 n.2.2] 26 hM6 (by kernel_rfl) (fun g7 w8 hM9 => S_fresh none #[.int .i64 d3_.1, .int .i64 d3_.2.1, .int .i64 d3_.2.2] 23 hM9 (by kernel_rfl) (fun g10 w11 hM12 => S_fresh none #[.int .u32 draw.1, .int .u32 draw.2] 49 hM12 (by kernel_rfl) (fun g13 w14 hM15 => S_fresh none #[.int .i64 0, .int .i64 0, .int .i64 0, .int .i64 0, .int .i64 0, .int .i64 0, .bool false] 53 hM15 (by kernel_rfl) (fun g16 w17 hM18 => S_nil (R_seq (R_seq (R_region (?_))))))))))))
  refine S_val (.pointer (some ⟨g1, 0, none⟩)) (by kernel_rfl) (S_load 5 0 (.int .i64 m.1) hM18 (by kernel_rfl) (?_))
  refine S_dec (m.1 = 0) (by kernel_rfl) (fun c19 => ?_) (fun c19 => ?_)
  · refine S_nil (R_yes (by kernel_rfl) (R_seq (R_region (S_val (.pointer (some ⟨g13, 0, none⟩)) (by kernel_rfl) (S_load 1 0 (.int .u32 draw.1) hM18 (by kernel_rfl) (S_call (pdir draw.1) (fun r : Int × Int × Int => .agg #[.int .i64 r.1, .int .i64 r.2.1, .int .i64 r.2.2]) hM18 (c_umbraref05_Pick draw.1 h_draw.1 w17) (by kernel_rfl) (fun r20 h21 w22 hM23 => S_fresh none #[.int .i64 0, .int .i64 0, .int .i64 0] 23 hM23 (by kernel_rfl) (fun g24 w25 hM26 => S_store 0 0 #[.int .i64 r20.1, .int .i64 r20.2.1, .int .i64 r20.2.2] hM26 (by kernel_rfl) (fun w27 hM28 => S_nil (R_seq (R_drawF 5 (by kernel_rfl) (fun F29 U30 hL31 => ?_))))))))))))
    have HR := hr_pos HR c19
    have HR := hr_lt HR h21
    refine F_load 4 0 (.agg #[.int .i64 n.1, .int .i64 n.2.1, .int .i64 n.2.2]) hM28 (by kernel_rfl) (F_load 0 0 (.agg #[.int .i64 r20.1, .int .i64 r20.2.1, .int .i64 r20.2.2]) hM28 (by kernel_rfl) (F_call (vtow r20) (fun r : Int × Int × Int => .agg #[.int .i64 r.1, .int .i64 r.2.1, .int .i64 r.2.2]) hM28 hL31 (fun w' hM' => r3Toward r20 ((tr (P := fun r : Int × Int × Int => InV r) h21 (pdir_I h_draw.1)).out) w') (by kernel_rfl) (fun _ => by kernel_rfl) (fun r32 h33 => F_call (vdot n r32) (fun r : Int => .int .i64 r) hM28 hL31 (fun w' hM' => c_umbraref03_Dot n r32 h_n ((tr (P := fun r : Int × Int × Int => InV r) h33 (vtow_I r20)).out) w') (by kernel_rfl) (fun _ => by kernel_rfl) (fun r34 h35 => F_val (.int .i64 r34) (fun _ => by kernel_rfl) (F_nil hM28 hL31 (fun w36 hM37 => S_nil (R_seq (R_seq (R_region (S_val (.int .i64 r34) (by kernel_rfl) (?_)))))))))))
    have HR := hr_lt HR h33
    have HR := hr_lt HR h35
    refine S_dec (r34 = 0) (by kernel_rfl) (fun c38 => ?_) (fun c38 => ?_)
    · refine S_nil (R_yes (by kernel_rfl) (R_seq (R_region (S_val (.agg #[.int .i64 0, .int .i64 0, .int .i64 0, .int .i64 0, .int .i64 0, .int .i64 0, .bool true]) (by kernel_rfl) (S_store 1 0 #[.int .i64 0, .int .i64 0, .int .i64 0, .int .i64 0, .int .i64 0, .int .i64 0, .bool true] hM37 (by kernel_rfl) (fun w39 hM40 => S_nil (?_)))))))
      have HR := hr_pos HR c38
      refine R_ret hM40 rfl (.cons (.cell _ _ 1 0 (.agg #[.int .i64 0, .int .i64 0, .int .i64 0, .int .i64 0, .int .i64 0, .int .i64 0, .bool true]) (by kernel_rfl)) .nil) rfl ?_
      exact ⟨congrArg Ending.returned HR, hM40.below⟩
    · refine S_nil (R_no (by kernel_rfl) (R_skip (R_seq (R_seq (R_region (S_val (.int .i64 r34) (by kernel_rfl) (?_)))))))
      have HR := hr_neg HR c38
      refine S_dec (r34 < 0) (by kernel_rfl) (fun c41 => ?_) (fun c41 => ?_)
      · refine S_nil (R_yes (by kernel_rfl) (R_seq (R_region (S_val (.pointer (some ⟨g24, 0, none⟩)) (by kernel_rfl) (S_load 0 0 (.int .i64 r20.1) hM37 (by kernel_rfl) (S_int (IntKind.i64.wrap (0 - r20.1)) .i64 (by kernel_rfl) (fun x42 h43 => S_val (.pointer (some ⟨g24, 1, none⟩)) (by kernel_rfl) (S_load 0 1 (.int .i64 r20.2.1) hM37 (by kernel_rfl) (S_int (IntKind.i64.wrap (0 - r20.2.1)) .i64 (by kernel_rfl) (fun x44 h45 => S_val (.pointer (some ⟨g24, 2, none⟩)) (by kernel_rfl) (S_load 0 2 (.int .i64 r20.2.2) hM37 (by kernel_rfl) (?_))))))))))))
        have HR := hr_pos HR c41
        have HR := hr_lt HR h43
        have HR := hr_lt HR h45
        refine S_int (IntKind.i64.wrap (0 - r20.2.2)) .i64 (by kernel_rfl) (fun x46 h47 => S_val (.agg #[.int .i64 x42, .int .i64 x44, .int .i64 x46]) (by kernel_rfl) (S_store 0 0 #[.int .i64 x42, .int .i64 x44, .int .i64 x46] hM37 (by kernel_rfl) (fun w48 hM49 => S_nil (R_region (S_val (.int .i64 r34) (by kernel_rfl) (S_call (satSub 0 r34) (fun r : Int => .int .i64 r) hM49 (c_umbraref02_Sub 0 r34 (show InI 0 from by unfold InI; omega) ((tr (P := fun r : Int => InI r) h35 (vdot_I n r32)).out) w48) (by kernel_rfl) (fun r50 h51 w52 hM53 => S_val (.int .i64 r50) (by kernel_rfl) (S_nil (R_seq (R_drawF 7 (by kernel_rfl) (fun F54 U55 hL56 => F_load 0 0 (.agg #[.int .i64 x42, .int .i64 x44, .int .i64 x46]) hM53 (by kernel_rfl) (?_))))))))))))
        have HR := hr_lt HR h47
        have HR := hr_lt HR h51
        refine F_load 5 0 (.agg #[.int .i64 color.1, .int .i64 color.2.1, .int .i64 color.2.2]) hM53 (by kernel_rfl) (F_val (.int .i64 r50) (fun _ => by kernel_rfl) (F_val (.int .i64 r50) (fun _ => by kernel_rfl) (F_call (satAdd r50 r50) (fun r : Int => .int .i64 r) hM53 hL56 (fun w' hM' => c_umbraref02_Two r50 r50 ((tr (P := fun r : Int => InI r) h51 (satSub_I 0 r34)).out) ((tr (P := fun r : Int => InI r) h51 (satSub_I 0 r34)).out) w') (by kernel_rfl) (fun _ => by kernel_rfl) (fun r57 h58 => F_call (vscale color r57) (fun r : Int × Int × Int => .agg #[.int .i64 r.1, .int .i64 r.2.1, .int .i64 r.2.2]) hM53 hL56 (fun w' hM' => c_umbraref03_Scale color r57 h_color ((tr (P := fun r : Int => InI r) h58 (satAdd_I r50 r50)).out) w') (by kernel_rfl) (fun _ => by kernel_rfl) (fun r59 h60 => F_val (.agg #[.int .i64 x42, .int .i64 x44, .int .i64 x46, .int .i64 r59.1, .int .i64 r59.2.1, .int .i64 r59.2.2, .bool false]) (fun _ => by kernel_rfl) (F_nil hM53 hL56 (fun w61 hM62 => S_store 1 0 #[.int .i64 x42, .int .i64 x44, .int .i64 x46, .int .i64 r59.1, .int .i64 r59.2.1, .int .i64 r59.2.2, .bool false] hM62 (by kernel_rfl) (fun w63 hM64 => S_nil (?_)))))))))
        have HR := hr_lt HR h58
        have HR := hr_lt HR h60
        refine R_ret hM64 rfl (.cons (.cell _ _ 1 0 (.agg #[.int .i64 x42, .int .i64 x44, .int .i64 x46, .int .i64 r59.1, .int .i64 r59.2.1, .int .i64 r59.2.2, .bool false]) (by kernel_rfl)) .nil) rfl ?_
        exact ⟨congrArg Ending.returned HR, hM64.below⟩
      · refine S_nil (R_no (by kernel_rfl) (R_skip (R_seq (R_drawF 7 (by kernel_rfl) (fun F65 U66 hL67 => F_load 0 0 (.agg #[.int .i64 r20.1, .int .i64 r20.2.1, .int .i64 r20.2.2]) hM37 (by kernel_rfl) (F_load 5 0 (.agg #[.int .i64 color.1, .int .i64 color.2.1, .int .i64 color.2.2]) hM37 (by kernel_rfl) (F_val (.int .i64 r34) (fun _ => by kernel_rfl) (F_val (.int .i64 r34) (fun _ => by kernel_rfl) (F_call (satAdd r34 r34) (fun r : Int => .int .i64 r) hM37 hL67 (fun w' hM' => c_umbraref02_Two r34 r34 ((tr (P := fun r : Int => InI r) h35 (vdot_I n r32)).out) ((tr (P := fun r : Int => InI r) h35 (vdot_I n r32)).out) w') (by kernel_rfl) (fun _ => by kernel_rfl) (fun r68 h69 => F_call (vscale color r68) (fun r : Int × Int × Int => .agg #[.int .i64 r.1, .int .i64 r.2.1, .int .i64 r.2.2]) hM37 hL67 (fun w' hM' => c_umbraref03_Scale color r68 h_color ((tr (P := fun r : Int => InI r) h69 (satAdd_I r34 r34)).out) w') (by kernel_rfl) (fun _ => by kernel_rfl) (fun r70 h71 => F_val (.agg #[.int .i64 r20.1, .int .i64 r20.2.1, .int .i64 r20.2.2, .int .i64 r70.1, .int .i64 r70.2.1, .int .i64 r70.2.2, .bool false]) (fun _ => by kernel_rfl) (?_))))))))))))
        have HR := hr_neg HR c41
        have HR := hr_lt HR h69
        have HR := hr_lt HR h71
        refine F_nil hM37 hL67 (fun w72 hM73 => S_store 1 0 #[.int .i64 r20.1, .int .i64 r20.2.1, .int .i64 r20.2.2, .int .i64 r70.1, .int .i64 r70.2.1, .int .i64 r70.2.2, .bool false] hM73 (by kernel_rfl) (fun w74 hM75 => S_nil (?_)))
        refine R_ret hM75 rfl (.cons (.cell _ _ 1 0 (.agg #[.int .i64 r20.1, .int .i64 r20.2.1, .int .i64 r20.2.2, .int .i64 r70.1, .int .i64 r70.2.1, .int .i64 r70.2.2, .bool false]) (by kernel_rfl)) .nil) rfl ?_
        exact ⟨congrArg Ending.returned HR, hM75.below⟩
  · refine S_nil (R_no (by kernel_rfl) (R_skip (R_seq (R_seq (R_region (S_val (.pointer (some ⟨g1, 0, none⟩)) (by kernel_rfl) (S_load 5 0 (.int .i64 m.1) hM18 (by kernel_rfl) (?_))))))))
    have HR := hr_neg HR c19
    refine S_dec (m.1 = 2) (by kernel_rfl) (fun c76 => ?_) (fun c76 => ?_)
    · refine S_nil (R_yes (by kernel_rfl) (R_seq (R_region (S_val (.pointer (some ⟨g1, 4, none⟩)) (by kernel_rfl) (S_load 5 4 (.int .i64 m.2.2) hM18 (by kernel_rfl) (S_call (fof m.2.2) (fun r : Int => .int .i64 r) hM18 (c_umbraref02_Of m.2.2 h_m.2.2 w17) (by kernel_rfl) (fun r77 h78 w79 hM80 => S_call (fof 65535) (fun r : Int => .int .i64 r) hM80 (c_umbraref02_Of 65535 (show InI 65535 from by unfold InI; omega) w79) (by kernel_rfl) (fun r81 h82 w83 hM84 => S_call (fdiv r77 r81) (fun r : Int => .int .i64 r) hM84 (c_umbraref02_Div r77 r81 ((tr (P := fun r : Int => InI r) h78 (fof_I m.2.2)).out) ((tr (P := fun r : Int => InI r) h82 (fof_I 65535)).out) w83) (by kernel_rfl) (fun r85 h86 w87 hM88 => S_val (.int .i64 r85) (by kernel_rfl) (S_nil (R_seq (?_))))))))))))
      have HR := hr_pos HR c76
      have HR := hr_lt HR h78
      have HR := hr_lt HR h82
      have HR := hr_lt HR h86
      refine R_drawF 11 (by kernel_rfl) (fun F89 U90 hL91 => F_load 3 0 (.agg #[.int .i64 n.1, .int .i64 n.2.1, .int .i64 n.2.2]) hM88 (by kernel_rfl) (F_load 2 0 (.agg #[.int .i64 d3_.1, .int .i64 d3_.2.1, .int .i64 d3_.2.2]) hM88 (by kernel_rfl) (F_call (s_umbraref26_Mirror n d3_) (fun r : Int × Int × Int => .agg #[.int .i64 r.1, .int .i64 r.2.1, .int .i64 r.2.2]) hM88 hL91 (fun w' hM' => w_umbraref26_Mirror n d3_ h_n h_d3_ w') (by kernel_rfl) (fun _ => by kernel_rfl) (fun r92 h93 => F_val (.pointer (some ⟨g13, 0, none⟩)) (fun _ => by kernel_rfl) (F_load 1 0 (.int .u32 draw.1) hM88 (by kernel_rfl) (F_call (pdir draw.1) (fun r : Int × Int × Int => .agg #[.int .i64 r.1, .int .i64 r.2.1, .int .i64 r.2.2]) hM88 hL91 (fun w' hM' => c_umbraref05_Pick draw.1 h_draw.1 w') (by kernel_rfl) (fun _ => by kernel_rfl) (fun r94 h95 => F_call (vtow r94) (fun r : Int × Int × Int => .agg #[.int .i64 r.1, .int .i64 r.2.1, .int .i64 r.2.2]) hM88 hL91 (fun w' hM' => r3Toward r94 ((tr (P := fun r : Int × Int × Int => InV r) h95 (pdir_I h_draw.1)).out) w') (by kernel_rfl) (fun _ => by kernel_rfl) (fun r96 h97 => F_val (.int .i64 r85) (fun _ => by kernel_rfl) (F_call (vscale r96 r85) (fun r : Int × Int × Int => .agg #[.int .i64 r.1, .int .i64 r.2.1, .int .i64 r.2.2]) hM88 hL91 (fun w' hM' => c_umbraref03_Scale r96 r85 ((tr (P := fun r : Int × Int × Int => InV r) h97 (vtow_I r94)).out) ((tr (P := fun r : Int => InI r) h86 (fdiv_I r77 r81)).out) w') (by kernel_rfl) (fun _ => by kernel_rfl) (fun r98 h99 => F_call (vadd r92 r98) (fun r : Int × Int × Int => .agg #[.int .i64 r.1, .int .i64 r.2.1, .int .i64 r.2.2]) hM88 hL91 (fun w' hM' => c_umbraref03_Two r92 r98 ((tr (P := fun r : Int × Int × Int => InV r) h93 (i_umbraref26_Mirror n d3_ h_n h_d3_)).out) ((tr (P := fun r : Int × Int × Int => InV r) h99 (vscale_I r96 r85)).out) w') (by kernel_rfl) (fun _ => by kernel_rfl) (fun r100 h101 => F_fresh none #[.int .i64 0, .int .i64 0, .int .i64 0] 26 hL91 (by kernel_rfl) (fun _ => by kernel_rfl) (fun g102 F103 U104 hL105 => ?_))))))))))))
      have HR := hr_lt HR h93
      have HR := hr_lt HR h95
      have HR := hr_lt HR h97
      have HR := hr_lt HR h99
      have HR := hr_lt HR h101
      refine F_nil hM88 hL105 (fun w106 hM107 => S_store 0 0 #[.int .i64 r100.1, .int .i64 r100.2.1, .int .i64 r100.2.2] hM107 (by kernel_rfl) (fun w108 hM109 => S_nil (R_seq (R_seq (R_region (S_load 4 0 (.agg #[.int .i64 n.1, .int .i64 n.2.1, .int .i64 n.2.2]) hM109 (by kernel_rfl) (S_load 0 0 (.agg #[.int .i64 r100.1, .int .i64 r100.2.1, .int .i64 r100.2.2]) hM109 (by kernel_rfl) (S_call (vdot n r100) (fun r : Int => .int .i64 r) hM109 (c_umbraref03_Dot n r100 h_n ((tr (P := fun r : Int × Int × Int => InV r) h101 (vadd_I r92 r98)).out) w108) (by kernel_rfl) (fun r110 h111 w112 hM113 => ?_)))))))))
      have HR := hr_lt HR h111
      refine S_dec (r110 ≤ 0) (by kernel_rfl) (fun c114 => ?_) (fun c114 => ?_)
      · refine S_nil (R_yes (by kernel_rfl) (R_seq (R_region (S_val (.agg #[.int .i64 0, .int .i64 0, .int .i64 0, .int .i64 0, .int .i64 0, .int .i64 0, .bool true]) (by kernel_rfl) (S_store 1 0 #[.int .i64 0, .int .i64 0, .int .i64 0, .int .i64 0, .int .i64 0, .int .i64 0, .bool true] hM113 (by kernel_rfl) (fun w115 hM116 => S_nil (?_)))))))
        have HR := hr_pos HR c114
        refine R_ret hM116 rfl (.cons (.cell _ _ 1 0 (.agg #[.int .i64 0, .int .i64 0, .int .i64 0, .int .i64 0, .int .i64 0, .int .i64 0, .bool true]) (by kernel_rfl)) .nil) rfl ?_
        exact ⟨congrArg Ending.returned HR, hM116.below⟩
      · refine S_nil (R_no (by kernel_rfl) (R_skip (R_seq (R_region (S_load 0 0 (.agg #[.int .i64 r100.1, .int .i64 r100.2.1, .int .i64 r100.2.2]) hM113 (by kernel_rfl) (S_load 5 0 (.agg #[.int .i64 color.1, .int .i64 color.2.1, .int .i64 color.2.2]) hM113 (by kernel_rfl) (S_call (s_umbraref26_along r100 color) (fun r : (Int × Int × Int) × (Int × Int × Int) × Bool => .agg #[.int .i64 r.1.1, .int .i64 r.1.2.1, .int .i64 r.1.2.2, .int .i64 r.2.1.1, .int .i64 r.2.1.2.1, .int .i64 r.2.1.2.2, .bool r.2.2]) hM113 (w_umbraref26_along r100 color ((tr (P := fun r : Int × Int × Int => InV r) h101 (vadd_I r92 r98)).out) h_color w112) (by kernel_rfl) (fun r117 h118 w119 hM120 => ?_))))))))
        have HR := hr_neg HR c114
        have HR := hr_lt HR h118
        obtain ⟨r121, r122, b124⟩ := r117
        cases b124
        · refine S_store 1 0 #[.int .i64 r121.1, .int .i64 r121.2.1, .int .i64 r121.2.2, .int .i64 r122.1, .int .i64 r122.2.1, .int .i64 r122.2.2, .bool false] hM120 (by kernel_rfl) (fun w125 hM126 => S_nil (?_))
          have HR := hr_neg HR Bool.false_ne_true
          refine R_ret hM126 rfl (.cons (.cell _ _ 1 0 (.agg #[.int .i64 r121.1, .int .i64 r121.2.1, .int .i64 r121.2.2, .int .i64 r122.1, .int .i64 r122.2.1, .int .i64 r122.2.2, .bool false]) (by kernel_rfl)) .nil) rfl ?_
          exact ⟨congrArg Ending.returned HR, hM126.below⟩
        · refine S_store 1 0 #[.int .i64 r121.1, .int .i64 r121.2.1, .int .i64 r121.2.2, .int .i64 r122.1, .int .i64 r122.2.1, .int .i64 r122.2.2, .bool true] hM120 (by kernel_rfl) (fun w127 hM128 => S_nil (?_))
          have HR := hr_pos HR rfl
          refine R_ret hM128 rfl (.cons (.cell _ _ 1 0 (.agg #[.int .i64 r121.1, .int .i64 r121.2.1, .int .i64 r121.2.2, .int .i64 r122.1, .int .i64 r122.2.1, .int .i64 r122.2.2, .bool true]) (by kernel_rfl)) .nil) rfl ?_
          exact ⟨congrArg Ending.returned HR, hM128.below⟩
    · refine S_nil (R_no (by kernel_rfl) (R_skip (R_seq (R_seq (R_drawF 11 (by kernel_rfl) (fun F130 U131 hL132 => F_val (.pointer (some ⟨g1, 0, none⟩)) (fun _ => by kernel_rfl) (F_load 5 0 (.int .i64 m.1) hM18 (by kernel_rfl) (?_))))))))
      have HR := hr_neg HR c76
      refine F_dec (m.1 = 3) (fun _ => by kernel_rfl) (fun c133 => ?_) (fun c133 => ?_)
      · refine F_val (.bool true) (fun _ => by kernel_rfl) (F_val (.pointer (some ⟨g13, 1, none⟩)) (fun _ => by kernel_rfl) (F_load 1 1 (.int .u32 draw.2) hM18 (by kernel_rfl) (F_call (s_umbraref10_Below draw.2 65536) (fun r : Int => .int .i64 r) hM18 hL132 (fun w' hM' => w_umbraref10_Below draw.2 65536 h_draw.2 (show InI 65536 from by unfold InI; omega) w') (by kernel_rfl) (fun _ => by kernel_rfl) (fun r134 h135 => F_val (.pointer (some ⟨g1, 4, none⟩)) (fun _ => by kernel_rfl) (F_load 5 4 (.int .i64 m.2.2) hM18 (by kernel_rfl) (?_))))))
        have HR := hr_pos HR c133
        have HR := hr_lt HR h135
        refine F_dec (r134 ≥ m.2.2) (fun _ => by kernel_rfl) (fun c136 => ?_) (fun c136 => ?_)
        · refine F_val (.bool true) (fun _ => by kernel_rfl) (F_nil hM18 hL132 (fun w137 hM138 => S_nil (R_yes (by kernel_rfl) (R_seq (R_drawF 4 (by kernel_rfl) (fun F139 U140 hL141 => F_load 2 0 (.agg #[.int .i64 d3_.1, .int .i64 d3_.2.1, .int .i64 d3_.2.2]) hM138 (by kernel_rfl) (F_call (vtow d3_) (fun r : Int × Int × Int => .agg #[.int .i64 r.1, .int .i64 r.2.1, .int .i64 r.2.2]) hM138 hL141 (fun w' hM' => r3Toward d3_ h_d3_ w') (by kernel_rfl) (fun _ => by kernel_rfl) (fun r142 h143 => F_load 4 0 (.agg #[.int .i64 color.1, .int .i64 color.2.1, .int .i64 color.2.2]) hM138 (by kernel_rfl) (F_call (s_umbraref26_along r142 color) (fun r : (Int × Int × Int) × (Int × Int × Int) × Bool => .agg #[.int .i64 r.1.1, .int .i64 r.1.2.1, .int .i64 r.1.2.2, .int .i64 r.2.1.1, .int .i64 r.2.1.2.1, .int .i64 r.2.1.2.2, .bool r.2.2]) hM138 hL141 (fun w' hM' => w_umbraref26_along r142 color ((tr (P := fun r : Int × Int × Int => InV r) h143 (vtow_I d3_)).out) h_color w') (by kernel_rfl) (fun _ => by kernel_rfl) (fun r144 h145 => ?_))))))))))
          have HR := hr_pos HR c136
          have HR := hr_lt HR h143
          have HR := hr_lt HR h145
          obtain ⟨r146, r147, b149⟩ := r144
          cases b149
          · refine F_nil hM138 hL141 (fun w150 hM151 => S_store 0 0 #[.int .i64 r146.1, .int .i64 r146.2.1, .int .i64 r146.2.2, .int .i64 r147.1, .int .i64 r147.2.1, .int .i64 r147.2.2, .bool false] hM151 (by kernel_rfl) (fun w152 hM153 => S_nil (?_)))
            have HR := hr_neg HR Bool.false_ne_true
            refine R_ret hM153 rfl (.cons (.cell _ _ 0 0 (.agg #[.int .i64 r146.1, .int .i64 r146.2.1, .int .i64 r146.2.2, .int .i64 r147.1, .int .i64 r147.2.1, .int .i64 r147.2.2, .bool false]) (by kernel_rfl)) .nil) rfl ?_
            exact ⟨congrArg Ending.returned HR, hM153.below⟩
          · refine F_nil hM138 hL141 (fun w154 hM155 => S_store 0 0 #[.int .i64 r146.1, .int .i64 r146.2.1, .int .i64 r146.2.2, .int .i64 r147.1, .int .i64 r147.2.1, .int .i64 r147.2.2, .bool true] hM155 (by kernel_rfl) (fun w156 hM157 => S_nil (?_)))
            have HR := hr_pos HR rfl
            refine R_ret hM157 rfl (.cons (.cell _ _ 0 0 (.agg #[.int .i64 r146.1, .int .i64 r146.2.1, .int .i64 r146.2.2, .int .i64 r147.1, .int .i64 r147.2.1, .int .i64 r147.2.2, .bool true]) (by kernel_rfl)) .nil) rfl ?_
            exact ⟨congrArg Ending.returned HR, hM157.below⟩
        · refine F_val (.bool false) (fun _ => by kernel_rfl) (F_nil hM18 hL132 (fun w159 hM160 => S_nil (R_no (by kernel_rfl) (R_skip (R_seq (R_seq (R_region (S_val (.pointer (some ⟨g1, 0, none⟩)) (by kernel_rfl) (S_load 5 0 (.int .i64 m.1) hM160 (by kernel_rfl) (?_))))))))))
          have HR := hr_neg HR c136
          refine S_dec (m.1 = 1) (by kernel_rfl) (fun c161 => ?_) (fun c161 => ?_)
          · refine S_val (.bool true) (by kernel_rfl) (S_skip (by kernel_rfl) (S_skip (by kernel_rfl) (S_skip (by kernel_rfl) (S_val (.bool true) (by kernel_rfl) (S_nil (R_yes (by kernel_rfl) (R_seq (R_drawF 5 (by kernel_rfl) (fun F162 U163 hL164 => F_load 3 0 (.agg #[.int .i64 n.1, .int .i64 n.2.1, .int .i64 n.2.2]) hM160 (by kernel_rfl) (F_load 2 0 (.agg #[.int .i64 d3_.1, .int .i64 d3_.2.1, .int .i64 d3_.2.2]) hM160 (by kernel_rfl) (F_call (s_umbraref26_Mirror n d3_) (fun r : Int × Int × Int => .agg #[.int .i64 r.1, .int .i64 r.2.1, .int .i64 r.2.2]) hM160 hL164 (fun w' hM' => w_umbraref26_Mirror n d3_ h_n h_d3_ w') (by kernel_rfl) (fun _ => by kernel_rfl) (fun r165 h166 => ?_))))))))))))
            have HR := hr_pos HR c161
            have HR := hr_lt HR h166
            refine F_load 4 0 (.agg #[.int .i64 color.1, .int .i64 color.2.1, .int .i64 color.2.2]) hM160 (by kernel_rfl) (F_call (s_umbraref26_along r165 color) (fun r : (Int × Int × Int) × (Int × Int × Int) × Bool => .agg #[.int .i64 r.1.1, .int .i64 r.1.2.1, .int .i64 r.1.2.2, .int .i64 r.2.1.1, .int .i64 r.2.1.2.1, .int .i64 r.2.1.2.2, .bool r.2.2]) hM160 hL164 (fun w' hM' => w_umbraref26_along r165 color ((tr (P := fun r : Int × Int × Int => InV r) h166 (i_umbraref26_Mirror n d3_ h_n h_d3_)).out) h_color w') (by kernel_rfl) (fun _ => by kernel_rfl) (fun r167 h168 => ?_))
            have HR := hr_lt HR h168
            obtain ⟨r169, r170, b172⟩ := r167
            cases b172
            · refine F_nil hM160 hL164 (fun w173 hM174 => S_store 0 0 #[.int .i64 r169.1, .int .i64 r169.2.1, .int .i64 r169.2.2, .int .i64 r170.1, .int .i64 r170.2.1, .int .i64 r170.2.2, .bool false] hM174 (by kernel_rfl) (fun w175 hM176 => S_nil (?_)))
              have HR := hr_neg HR Bool.false_ne_true
              refine R_ret hM176 rfl (.cons (.cell _ _ 0 0 (.agg #[.int .i64 r169.1, .int .i64 r169.2.1, .int .i64 r169.2.2, .int .i64 r170.1, .int .i64 r170.2.1, .int .i64 r170.2.2, .bool false]) (by kernel_rfl)) .nil) rfl ?_
              exact ⟨congrArg Ending.returned HR, hM176.below⟩
            · refine F_nil hM160 hL164 (fun w177 hM178 => S_store 0 0 #[.int .i64 r169.1, .int .i64 r169.2.1, .int .i64 r169.2.2, .int .i64 r170.1, .int .i64 r170.2.1, .int .i64 r170.2.2, .bool true] hM178 (by kernel_rfl) (fun w179 hM180 => S_nil (?_)))
              have HR := hr_pos HR rfl
              refine R_ret hM180 rfl (.cons (.cell _ _ 0 0 (.agg #[.int .i64 r169.1, .int .i64 r169.2.1, .int .i64 r169.2.2, .int .i64 r170.1, .int .i64 r170.2.1, .int .i64 r170.2.2, .bool true]) (by kernel_rfl)) .nil) rfl ?_
              exact ⟨congrArg Ending.returned HR, hM180.below⟩
          · refine S_val (.bool false) (by kernel_rfl) (S_val (.pointer (some ⟨g1, 0, none⟩)) (by kernel_rfl) (S_load 5 0 (.int .i64 m.1) hM160 (by kernel_rfl) (S_val (.bool true) (kdT' c133 (by kernel_rfl)) (S_val (.bool true) (by kernel_rfl) (S_nil (R_yes (by kernel_rfl) (R_seq (R_drawF 5 (by kernel_rfl) (fun F182 U183 hL184 => F_load 3 0 (.agg #[.int .i64 n.1, .int .i64 n.2.1, .int .i64 n.2.2]) hM160 (by kernel_rfl) (F_load 2 0 (.agg #[.int .i64 d3_.1, .int .i64 d3_.2.1, .int .i64 d3_.2.2]) hM160 (by kernel_rfl) (F_call (s_umbraref26_Mirror n d3_) (fun r : Int × Int × Int => .agg #[.int .i64 r.1, .int .i64 r.2.1, .int .i64 r.2.2]) hM160 hL184 (fun w' hM' => w_umbraref26_Mirror n d3_ h_n h_d3_ w') (by kernel_rfl) (fun _ => by kernel_rfl) (fun r185 h186 => ?_))))))))))))
            have HR := hr_neg HR c161
            have HR := hr_lt HR h186
            refine F_load 4 0 (.agg #[.int .i64 color.1, .int .i64 color.2.1, .int .i64 color.2.2]) hM160 (by kernel_rfl) (F_call (s_umbraref26_along r185 color) (fun r : (Int × Int × Int) × (Int × Int × Int) × Bool => .agg #[.int .i64 r.1.1, .int .i64 r.1.2.1, .int .i64 r.1.2.2, .int .i64 r.2.1.1, .int .i64 r.2.1.2.1, .int .i64 r.2.1.2.2, .bool r.2.2]) hM160 hL184 (fun w' hM' => w_umbraref26_along r185 color ((tr (P := fun r : Int × Int × Int => InV r) h186 (i_umbraref26_Mirror n d3_ h_n h_d3_)).out) h_color w') (by kernel_rfl) (fun _ => by kernel_rfl) (fun r187 h188 => ?_))
            have HR := hr_lt HR h188
            obtain ⟨r189, r190, b192⟩ := r187
            cases b192
            · refine F_nil hM160 hL184 (fun w193 hM194 => S_store 0 0 #[.int .i64 r189.1, .int .i64 r189.2.1, .int .i64 r189.2.2, .int .i64 r190.1, .int .i64 r190.2.1, .int .i64 r190.2.2, .bool false] hM194 (by kernel_rfl) (fun w195 hM196 => S_nil (?_)))
              have HR := hr_neg HR Bool.false_ne_true
              refine R_ret hM196 rfl (.cons (.cell _ _ 0 0 (.agg #[.int .i64 r189.1, .int .i64 r189.2.1, .int .i64 r189.2.2, .int .i64 r190.1, .int .i64 r190.2.1, .int .i64 r190.2.2, .bool false]) (by kernel_rfl)) .nil) rfl ?_
              exact ⟨congrArg Ending.returned HR, hM196.below⟩
            · refine F_nil hM160 hL184 (fun w197 hM198 => S_store 0 0 #[.int .i64 r189.1, .int .i64 r189.2.1, .int .i64 r189.2.2, .int .i64 r190.1, .int .i64 r190.2.1, .int .i64 r190.2.2, .bool true] hM198 (by kernel_rfl) (fun w199 hM200 => S_nil (?_)))
              have HR := hr_pos HR rfl
              refine R_ret hM200 rfl (.cons (.cell _ _ 0 0 (.agg #[.int .i64 r189.1, .int .i64 r189.2.1, .int .i64 r189.2.2, .int .i64 r190.1, .int .i64 r190.2.1, .int .i64 r190.2.2, .bool true]) (by kernel_rfl)) .nil) rfl ?_
              exact ⟨congrArg Ending.returned HR, hM200.below⟩
      · refine F_val (.bool false) (fun _ => by kernel_rfl) (F_skip (by kernel_rfl) (F_skip (by kernel_rfl) (F_skip (by kernel_rfl) (F_skip (by kernel_rfl) (F_skip (by kernel_rfl) (F_skip (by kernel_rfl) (F_val (.bool false) (fun _ => by kernel_rfl) (F_nil hM18 hL132 (fun w202 hM203 => S_nil (R_no (by kernel_rfl) (R_skip (?_))))))))))))
        have HR := hr_neg HR c133
        refine R_seq (R_seq (R_region (S_val (.pointer (some ⟨g1, 0, none⟩)) (by kernel_rfl) (S_load 5 0 (.int .i64 m.1) hM203 (by kernel_rfl) (?_)))))
        refine S_dec (m.1 = 1) (by kernel_rfl) (fun c204 => ?_) (fun c204 => ?_)
        · refine S_val (.bool true) (by kernel_rfl) (S_skip (by kernel_rfl) (S_skip (by kernel_rfl) (S_skip (by kernel_rfl) (S_val (.bool true) (by kernel_rfl) (S_nil (R_yes (by kernel_rfl) (R_seq (R_drawF 5 (by kernel_rfl) (fun F205 U206 hL207 => F_load 3 0 (.agg #[.int .i64 n.1, .int .i64 n.2.1, .int .i64 n.2.2]) hM203 (by kernel_rfl) (F_load 2 0 (.agg #[.int .i64 d3_.1, .int .i64 d3_.2.1, .int .i64 d3_.2.2]) hM203 (by kernel_rfl) (F_call (s_umbraref26_Mirror n d3_) (fun r : Int × Int × Int => .agg #[.int .i64 r.1, .int .i64 r.2.1, .int .i64 r.2.2]) hM203 hL207 (fun w' hM' => w_umbraref26_Mirror n d3_ h_n h_d3_ w') (by kernel_rfl) (fun _ => by kernel_rfl) (fun r208 h209 => ?_))))))))))))
          have HR := hr_pos HR c204
          have HR := hr_lt HR h209
          refine F_load 4 0 (.agg #[.int .i64 color.1, .int .i64 color.2.1, .int .i64 color.2.2]) hM203 (by kernel_rfl) (F_call (s_umbraref26_along r208 color) (fun r : (Int × Int × Int) × (Int × Int × Int) × Bool => .agg #[.int .i64 r.1.1, .int .i64 r.1.2.1, .int .i64 r.1.2.2, .int .i64 r.2.1.1, .int .i64 r.2.1.2.1, .int .i64 r.2.1.2.2, .bool r.2.2]) hM203 hL207 (fun w' hM' => w_umbraref26_along r208 color ((tr (P := fun r : Int × Int × Int => InV r) h209 (i_umbraref26_Mirror n d3_ h_n h_d3_)).out) h_color w') (by kernel_rfl) (fun _ => by kernel_rfl) (fun r210 h211 => ?_))
          have HR := hr_lt HR h211
          obtain ⟨r212, r213, b215⟩ := r210
          cases b215
          · refine F_nil hM203 hL207 (fun w216 hM217 => S_store 0 0 #[.int .i64 r212.1, .int .i64 r212.2.1, .int .i64 r212.2.2, .int .i64 r213.1, .int .i64 r213.2.1, .int .i64 r213.2.2, .bool false] hM217 (by kernel_rfl) (fun w218 hM219 => S_nil (?_)))
            have HR := hr_neg HR Bool.false_ne_true
            refine R_ret hM219 rfl (.cons (.cell _ _ 0 0 (.agg #[.int .i64 r212.1, .int .i64 r212.2.1, .int .i64 r212.2.2, .int .i64 r213.1, .int .i64 r213.2.1, .int .i64 r213.2.2, .bool false]) (by kernel_rfl)) .nil) rfl ?_
            exact ⟨congrArg Ending.returned HR, hM219.below⟩
          · refine F_nil hM203 hL207 (fun w220 hM221 => S_store 0 0 #[.int .i64 r212.1, .int .i64 r212.2.1, .int .i64 r212.2.2, .int .i64 r213.1, .int .i64 r213.2.1, .int .i64 r213.2.2, .bool true] hM221 (by kernel_rfl) (fun w222 hM223 => S_nil (?_)))
            have HR := hr_pos HR rfl
            refine R_ret hM223 rfl (.cons (.cell _ _ 0 0 (.agg #[.int .i64 r212.1, .int .i64 r212.2.1, .int .i64 r212.2.2, .int .i64 r213.1, .int .i64 r213.2.1, .int .i64 r213.2.2, .bool true]) (by kernel_rfl)) .nil) rfl ?_
            exact ⟨congrArg Ending.returned HR, hM223.below⟩
        · refine S_val (.bool false) (by kernel_rfl) (S_val (.pointer (some ⟨g1, 0, none⟩)) (by kernel_rfl) (S_load 5 0 (.int .i64 m.1) hM203 (by kernel_rfl) (S_val (.bool false) (kdF' c133 (by kernel_rfl)) (S_val (.bool false) (by kernel_rfl) (S_nil (R_no (by kernel_rfl) (R_skip (R_seq (R_region (S_val (.agg #[.int .i64 0, .int .i64 0, .int .i64 0, .int .i64 0, .int .i64 0, .int .i64 0, .bool true]) (by kernel_rfl) (S_store 0 0 #[.int .i64 0, .int .i64 0, .int .i64 0, .int .i64 0, .int .i64 0, .int .i64 0, .bool true] hM203 (by kernel_rfl) (fun w225 hM226 => ?_))))))))))))
          have HR := hr_neg HR c204
          refine S_nil (?_)
          refine R_ret hM226 rfl (.cons (.cell _ _ 0 0 (.agg #[.int .i64 0, .int .i64 0, .int .i64 0, .int .i64 0, .int .i64 0, .int .i64 0, .bool true]) (by kernel_rfl)) .nil) rfl ?_
          exact ⟨congrArg Ending.returned HR, hM226.below⟩

def P_umbraref26_Scatter (r : (Int × Int × Int) × (Int × Int × Int) × Bool) : Prop := (InV r.1 ∧ InV r.2.1 ∧ True)
theorem i_umbraref26_Scatter (m : Int × (Int × Int × Int) × Int) (color : Int × Int × Int) (n : Int × Int × Int) (d3_ : Int × Int × Int) (draw : Int × Int) (h_m : (InI m.1 ∧ InV m.2.1 ∧ InI m.2.2)) (h_color : InV color) (h_n : InV n) (h_d3_ : InV d3_) (h_draw : (InU32 draw.1 ∧ InU32 draw.2)) : P_umbraref26_Scatter (s_umbraref26_Scatter m color n d3_ draw) := by
  unfold s_umbraref26_Scatter
  exact (ite_P (fun c19 => (lt_P fun r20 h21 => (lt_P fun r32 h33 => (lt_P fun r34 h35 => (ite_P (fun c38 => (show (InV (0, 0, 0) ∧ InV (0, 0, 0) ∧ True) from ⟨⟨(show InI 0 from by unfold InI; omega), (show InI 0 from by unfold InI; omega), (show InI 0 from by unfold InI; omega)⟩, ⟨(show InI 0 from by unfold InI; omega), (show InI 0 from by unfold InI; omega), (show InI 0 from by unfold InI; omega)⟩, trivial⟩)) (fun c38 => (ite_P (fun c41 => (lt_P fun x42 h43 => (lt_P fun x44 h45 => (lt_P fun x46 h47 => (lt_P fun r50 h51 => (lt_P fun r57 h58 => (lt_P fun r59 h60 => (show (InV (x42, x44, x46) ∧ InV r59 ∧ True) from ⟨⟨(wr_i64 h43), (wr_i64 h45), (wr_i64 h47)⟩, (tr (P := fun r : Int × Int × Int => InV r) h60 (vscale_I color r57)).out, trivial⟩)))))))) (fun c41 => (lt_P fun r68 h69 => (lt_P fun r70 h71 => (show (InV r20 ∧ InV r70 ∧ True) from ⟨(tr (P := fun r : Int × Int × Int => InV r) h21 (pdir_I h_draw.1)).out, (tr (P := fun r : Int × Int × Int => InV r) h71 (vscale_I color r68)).out, trivial⟩))))))))))) (fun c19 => (ite_P (fun c76 => (lt_P fun r77 h78 => (lt_P fun r81 h82 => (lt_P fun r85 h86 => (lt_P fun r92 h93 => (lt_P fun r94 h95 => (lt_P fun r96 h97 => (lt_P fun r98 h99 => (lt_P fun r100 h101 => (lt_P fun r110 h111 => (ite_P (fun c114 => (show (InV (0, 0, 0) ∧ InV (0, 0, 0) ∧ True) from ⟨⟨(show InI 0 from by unfold InI; omega), (show InI 0 from by unfold InI; omega), (show InI 0 from by unfold InI; omega)⟩, ⟨(show InI 0 from by unfold InI; omega), (show InI 0 from by unfold InI; omega), (show InI 0 from by unfold InI; omega)⟩, trivial⟩)) (fun c114 => (lt_P fun r117 h118 => ite_P (fun c129 => (show (InV r117.1 ∧ InV r117.2.1 ∧ True) from ⟨(tr (P := fun r : (Int × Int × Int) × (Int × Int × Int) × Bool => (InV r.1 ∧ InV r.2.1 ∧ True)) h118 (i_umbraref26_along r100 color ((tr (P := fun r : Int × Int × Int => InV r) h101 (vadd_I r92 r98)).out) h_color)).out.1, (tr (P := fun r : (Int × Int × Int) × (Int × Int × Int) × Bool => (InV r.1 ∧ InV r.2.1 ∧ True)) h118 (i_umbraref26_along r100 color ((tr (P := fun r : Int × Int × Int => InV r) h101 (vadd_I r92 r98)).out) h_color)).out.2.1, trivial⟩)) (fun c129 => (show (InV r117.1 ∧ InV r117.2.1 ∧ True) from ⟨(tr (P := fun r : (Int × Int × Int) × (Int × Int × Int) × Bool => (InV r.1 ∧ InV r.2.1 ∧ True)) h118 (i_umbraref26_along r100 color ((tr (P := fun r : Int × Int × Int => InV r) h101 (vadd_I r92 r98)).out) h_color)).out.1, (tr (P := fun r : (Int × Int × Int) × (Int × Int × Int) × Bool => (InV r.1 ∧ InV r.2.1 ∧ True)) h118 (i_umbraref26_along r100 color ((tr (P := fun r : Int × Int × Int => InV r) h101 (vadd_I r92 r98)).out) h_color)).out.2.1, trivial⟩))))))))))))))) (fun c76 => (ite_P (fun c133 => (lt_P fun r134 h135 => (ite_P (fun c136 => (lt_P fun r142 h143 => (lt_P fun r144 h145 => ite_P (fun c158 => (show (InV r144.1 ∧ InV r144.2.1 ∧ True) from ⟨(tr (P := fun r : (Int × Int × Int) × (Int × Int × Int) × Bool => (InV r.1 ∧ InV r.2.1 ∧ True)) h145 (i_umbraref26_along r142 color ((tr (P := fun r : Int × Int × Int => InV r) h143 (vtow_I d3_)).out) h_color)).out.1, (tr (P := fun r : (Int × Int × Int) × (Int × Int × Int) × Bool => (InV r.1 ∧ InV r.2.1 ∧ True)) h145 (i_umbraref26_along r142 color ((tr (P := fun r : Int × Int × Int => InV r) h143 (vtow_I d3_)).out) h_color)).out.2.1, trivial⟩)) (fun c158 => (show (InV r144.1 ∧ InV r144.2.1 ∧ True) from ⟨(tr (P := fun r : (Int × Int × Int) × (Int × Int × Int) × Bool => (InV r.1 ∧ InV r.2.1 ∧ True)) h145 (i_umbraref26_along r142 color ((tr (P := fun r : Int × Int × Int => InV r) h143 (vtow_I d3_)).out) h_color)).out.1, (tr (P := fun r : (Int × Int × Int) × (Int × Int × Int) × Bool => (InV r.1 ∧ InV r.2.1 ∧ True)) h145 (i_umbraref26_along r142 color ((tr (P := fun r : Int × Int × Int => InV r) h143 (vtow_I d3_)).out) h_color)).out.2.1, trivial⟩))))) (fun c136 => (ite_P (fun c161 => (lt_P fun r165 h166 => (lt_P fun r167 h168 => ite_P (fun c181 => (show (InV r167.1 ∧ InV r167.2.1 ∧ True) from ⟨(tr (P := fun r : (Int × Int × Int) × (Int × Int × Int) × Bool => (InV r.1 ∧ InV r.2.1 ∧ True)) h168 (i_umbraref26_along r165 color ((tr (P := fun r : Int × Int × Int => InV r) h166 (i_umbraref26_Mirror n d3_ h_n h_d3_)).out) h_color)).out.1, (tr (P := fun r : (Int × Int × Int) × (Int × Int × Int) × Bool => (InV r.1 ∧ InV r.2.1 ∧ True)) h168 (i_umbraref26_along r165 color ((tr (P := fun r : Int × Int × Int => InV r) h166 (i_umbraref26_Mirror n d3_ h_n h_d3_)).out) h_color)).out.2.1, trivial⟩)) (fun c181 => (show (InV r167.1 ∧ InV r167.2.1 ∧ True) from ⟨(tr (P := fun r : (Int × Int × Int) × (Int × Int × Int) × Bool => (InV r.1 ∧ InV r.2.1 ∧ True)) h168 (i_umbraref26_along r165 color ((tr (P := fun r : Int × Int × Int => InV r) h166 (i_umbraref26_Mirror n d3_ h_n h_d3_)).out) h_color)).out.1, (tr (P := fun r : (Int × Int × Int) × (Int × Int × Int) × Bool => (InV r.1 ∧ InV r.2.1 ∧ True)) h168 (i_umbraref26_along r165 color ((tr (P := fun r : Int × Int × Int => InV r) h166 (i_umbraref26_Mirror n d3_ h_n h_d3_)).out) h_color)).out.2.1, trivial⟩))))) (fun c161 => (lt_P fun r185 h186 => (lt_P fun r187 h188 => ite_P (fun c201 => (show (InV r187.1 ∧ InV r187.2.1 ∧ True) from ⟨(tr (P := fun r : (Int × Int × Int) × (Int × Int × Int) × Bool => (InV r.1 ∧ InV r.2.1 ∧ True)) h188 (i_umbraref26_along r185 color ((tr (P := fun r : Int × Int × Int => InV r) h186 (i_umbraref26_Mirror n d3_ h_n h_d3_)).out) h_color)).out.1, (tr (P := fun r : (Int × Int × Int) × (Int × Int × Int) × Bool => (InV r.1 ∧ InV r.2.1 ∧ True)) h188 (i_umbraref26_along r185 color ((tr (P := fun r : Int × Int × Int => InV r) h186 (i_umbraref26_Mirror n d3_ h_n h_d3_)).out) h_color)).out.2.1, trivial⟩)) (fun c201 => (show (InV r187.1 ∧ InV r187.2.1 ∧ True) from ⟨(tr (P := fun r : (Int × Int × Int) × (Int × Int × Int) × Bool => (InV r.1 ∧ InV r.2.1 ∧ True)) h188 (i_umbraref26_along r185 color ((tr (P := fun r : Int × Int × Int => InV r) h186 (i_umbraref26_Mirror n d3_ h_n h_d3_)).out) h_color)).out.1, (tr (P := fun r : (Int × Int × Int) × (Int × Int × Int) × Bool => (InV r.1 ∧ InV r.2.1 ∧ True)) h188 (i_umbraref26_along r185 color ((tr (P := fun r : Int × Int × Int => InV r) h186 (i_umbraref26_Mirror n d3_ h_n h_d3_)).out) h_color)).out.2.1, trivial⟩)))))))))) (fun c133 => (ite_P (fun c204 => (lt_P fun r208 h209 => (lt_P fun r210 h211 => ite_P (fun c224 => (show (InV r210.1 ∧ InV r210.2.1 ∧ True) from ⟨(tr (P := fun r : (Int × Int × Int) × (Int × Int × Int) × Bool => (InV r.1 ∧ InV r.2.1 ∧ True)) h211 (i_umbraref26_along r208 color ((tr (P := fun r : Int × Int × Int => InV r) h209 (i_umbraref26_Mirror n d3_ h_n h_d3_)).out) h_color)).out.1, (tr (P := fun r : (Int × Int × Int) × (Int × Int × Int) × Bool => (InV r.1 ∧ InV r.2.1 ∧ True)) h211 (i_umbraref26_along r208 color ((tr (P := fun r : Int × Int × Int => InV r) h209 (i_umbraref26_Mirror n d3_ h_n h_d3_)).out) h_color)).out.2.1, trivial⟩)) (fun c224 => (show (InV r210.1 ∧ InV r210.2.1 ∧ True) from ⟨(tr (P := fun r : (Int × Int × Int) × (Int × Int × Int) × Bool => (InV r.1 ∧ InV r.2.1 ∧ True)) h211 (i_umbraref26_along r208 color ((tr (P := fun r : Int × Int × Int => InV r) h209 (i_umbraref26_Mirror n d3_ h_n h_d3_)).out) h_color)).out.1, (tr (P := fun r : (Int × Int × Int) × (Int × Int × Int) × Bool => (InV r.1 ∧ InV r.2.1 ∧ True)) h211 (i_umbraref26_along r208 color ((tr (P := fun r : Int × Int × Int => InV r) h209 (i_umbraref26_Mirror n d3_ h_n h_d3_)).out) h_color)).out.2.1, trivial⟩))))) (fun c204 => (show (InV (0, 0, 0) ∧ InV (0, 0, 0) ∧ True) from ⟨⟨(show InI 0 from by unfold InI; omega), (show InI 0 from by unfold InI; omega), (show InI 0 from by unfold InI; omega)⟩, ⟨(show InI 0 from by unfold InI; omega), (show InI 0 from by unfold InI; omega), (show InI 0 from by unfold InI; omega)⟩, trivial⟩)))))))))

def e_umbraref26_Roulette (r : (Int × Int × Int) × Bool) : Value := .tuple #[.agg #[.int .i64 r.1.1, .int .i64 r.1.2.1, .int .i64 r.1.2.2], .bool r.2]
def s_umbraref26_Roulette (gain : Int × Int × Int) (draw : Int) : (Int × Int × Int) × Bool :=
  lt (vmost gain) fun r7 =>
  lt (fclamp r7 268435456 4294967296) fun r11 =>
  lt (s_umbraref10_Unit draw) fun r15 =>
  if r15 ≥ r11 then
    ((0, 0, 0), false)
  else
    lt (fdiv gain.1 r11) fun r25 =>
    lt (fdiv gain.2.1 r11) fun r27 =>
    lt (fdiv gain.2.2 r11) fun r29 =>
    ((r25, r27, r29), true)
set_option maxRecDepth 100000 in
set_option maxHeartbeats 4000000 in
theorem w_umbraref26_Roulette (gain : Int × Int × Int) (draw : Int) (h_gain : InV gain) (h_draw : InU32 draw) (w : World) : Calls Try.prog 28 #[.agg #[.int .i64 gain.1, .int .i64 gain.2.1, .int .i64 gain.2.2], .int .u32 draw] w (Ret (e_umbraref26_Roulette (s_umbraref26_Roulette gain draw)) w) := by
  obtain ⟨R, HR⟩ : ∃ R, e_umbraref26_Roulette (s_umbraref26_Roulette gain draw) = R := ⟨_, rfl⟩
  rw [HR]
  unfold s_umbraref26_Roulette at HR
  have hM0 := St.start w
  refine calls_run Try.func28 rfl ?_
  refine R_seq (R_region (S_fresh none #[.int .i64 gain.1, .int .i64 gain.2.1, .int .i64 gain.2.2] 26 hM0 (by kernel_rfl) (fun g1 w2 hM3 => S_fresh none #[.int .i64 0, .int .i64 0, .int .i64 0] 26 hM3 (by kernel_rfl) (fun g4 w5 hM6 => S_val (.bool false) (by kernel_rfl) (S_nil (R_seq (R_region (S_load 1 0 (.agg #[.int .i64 gain.1, .int .i64 gain.2.1, .int .i64 gain.2.2]) hM6 (by kernel_rfl) (S_call (vmost gain) (fun r : Int => .int .i64 r) hM6 (c_umbraref03_Most gain h_gain w5) (by kernel_rfl) (fun r7 h8 w9 hM10 => S_call (fclamp r7 268435456 4294967296) (fun r : Int => .int .i64 r) hM10 (c_umbraref02_Clamp r7 268435456 4294967296 w9) (by kernel_rfl) (fun r11 h12 w13 hM14 => S_val (.int .i64 r11) (by kernel_rfl) (?_))))))))))))
  have HR := hr_lt HR h8
  have HR := hr_lt HR h12
  refine S_nil (R_seq (R_seq (R_region (S_val (.int .u32 draw) (by kernel_rfl) (S_call (s_umbraref10_Unit draw) (fun r : Int => .int .i64 r) hM14 (w_umbraref10_Unit draw h_draw w13) (by kernel_rfl) (fun r15 h16 w17 hM18 => S_val (.int .i64 r11) (by kernel_rfl) (?_)))))))
  have HR := hr_lt HR h16
  refine S_dec (r15 ≥ r11) (by kernel_rfl) (fun c19 => ?_) (fun c19 => ?_)
  · refine S_nil (R_yes (by kernel_rfl) (R_seq (R_region (S_val (.agg #[.int .i64 0, .int .i64 0, .int .i64 0]) (by kernel_rfl) (S_store 0 0 #[.int .i64 0, .int .i64 0, .int .i64 0] hM18 (by kernel_rfl) (fun w20 hM21 => S_val (.bool false) (by kernel_rfl) (S_nil (?_))))))))
    have HR := hr_pos HR c19
    refine R_ret hM21 rfl (.cons (.cell _ _ 0 0 (.agg #[.int .i64 0, .int .i64 0, .int .i64 0]) (by kernel_rfl)) (.cons (.tmp _ (.bool false) (by kernel_rfl)) .nil)) rfl ?_
    exact ⟨congrArg Ending.returned HR, hM21.below⟩
  · refine S_nil (R_no (by kernel_rfl) (R_skip (R_seq (R_drawF 13 (by kernel_rfl) (fun F22 U23 hL24 => F_val (.pointer (some ⟨g1, 0, none⟩)) (fun _ => by kernel_rfl) (F_load 1 0 (.int .i64 gain.1) hM18 (by kernel_rfl) (F_val (.int .i64 r11) (fun _ => by kernel_rfl) (F_call (fdiv gain.1 r11) (fun r : Int => .int .i64 r) hM18 hL24 (fun w' hM' => c_umbraref02_Div gain.1 r11 h_gain.1 ((tr (P := fun r : Int => InI r) h12 (fclamp_I ((tr (P := fun r : Int => InI r) h8 (vmost_I h_gain)).out) (show InI 268435456 from by unfold InI; omega) (show InI 4294967296 from by unfold InI; omega))).out) w') (by kernel_rfl) (fun _ => by kernel_rfl) (fun r25 h26 => F_val (.pointer (some ⟨g1, 1, none⟩)) (fun _ => by kernel_rfl) (F_load 1 1 (.int .i64 gain.2.1) hM18 (by kernel_rfl) (F_val (.int .i64 r11) (fun _ => by kernel_rfl) (?_))))))))))))
    have HR := hr_neg HR c19
    have HR := hr_lt HR h26
    refine F_call (fdiv gain.2.1 r11) (fun r : Int => .int .i64 r) hM18 hL24 (fun w' hM' => c_umbraref02_Div gain.2.1 r11 h_gain.2.1 ((tr (P := fun r : Int => InI r) h12 (fclamp_I ((tr (P := fun r : Int => InI r) h8 (vmost_I h_gain)).out) (show InI 268435456 from by unfold InI; omega) (show InI 4294967296 from by unfold InI; omega))).out) w') (by kernel_rfl) (fun _ => by kernel_rfl) (fun r27 h28 => F_val (.pointer (some ⟨g1, 2, none⟩)) (fun _ => by kernel_rfl) (F_load 1 2 (.int .i64 gain.2.2) hM18 (by kernel_rfl) (F_val (.int .i64 r11) (fun _ => by kernel_rfl) (F_call (fdiv gain.2.2 r11) (fun r : Int => .int .i64 r) hM18 hL24 (fun w' hM' => c_umbraref02_Div gain.2.2 r11 h_gain.2.2 ((tr (P := fun r : Int => InI r) h12 (fclamp_I ((tr (P := fun r : Int => InI r) h8 (vmost_I h_gain)).out) (show InI 268435456 from by unfold InI; omega) (show InI 4294967296 from by unfold InI; omega))).out) w') (by kernel_rfl) (fun _ => by kernel_rfl) (fun r29 h30 => F_val (.agg #[.int .i64 r25, .int .i64 r27, .int .i64 r29]) (fun _ => by kernel_rfl) (F_nil hM18 hL24 (fun w31 hM32 => S_store 0 0 #[.int .i64 r25, .int .i64 r27, .int .i64 r29] hM32 (by kernel_rfl) (fun w33 hM34 => S_val (.bool true) (by kernel_rfl) (S_nil (?_))))))))))
    have HR := hr_lt HR h28
    have HR := hr_lt HR h30
    refine R_ret hM34 rfl (.cons (.cell _ _ 0 0 (.agg #[.int .i64 r25, .int .i64 r27, .int .i64 r29]) (by kernel_rfl)) (.cons (.tmp _ (.bool true) (by kernel_rfl)) .nil)) rfl ?_
    exact ⟨congrArg Ending.returned HR, hM34.below⟩

def P_umbraref26_Roulette (r : (Int × Int × Int) × Bool) : Prop := (InV r.1 ∧ True)
theorem i_umbraref26_Roulette (gain : Int × Int × Int) (draw : Int) (h_gain : InV gain) (h_draw : InU32 draw) : P_umbraref26_Roulette (s_umbraref26_Roulette gain draw) := by
  unfold s_umbraref26_Roulette
  exact (lt_P fun r7 h8 => (lt_P fun r11 h12 => (lt_P fun r15 h16 => (ite_P (fun c19 => (show (InV (0, 0, 0) ∧ True) from ⟨⟨(show InI 0 from by unfold InI; omega), (show InI 0 from by unfold InI; omega), (show InI 0 from by unfold InI; omega)⟩, trivial⟩)) (fun c19 => (lt_P fun r25 h26 => (lt_P fun r27 h28 => (lt_P fun r29 h30 => (show (InV (r25, r27, r29) ∧ True) from ⟨⟨(tr (P := fun r : Int => InI r) h26 (fdiv_I gain.1 r11)).out, (tr (P := fun r : Int => InI r) h28 (fdiv_I gain.2.1 r11)).out, (tr (P := fun r : Int => InI r) h30 (fdiv_I gain.2.2 r11)).out⟩, trivial⟩)))))))))

end Go.Proofs.Ytjhnkpapbjkbcaa
