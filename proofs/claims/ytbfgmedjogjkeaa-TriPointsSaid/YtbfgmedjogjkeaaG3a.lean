/- Walks of tri by explicit steps. -/
import Derived.Test.YtbfgmedjogjkeaaGoEq
import Derived.Test.YtbfgmedjogjkeaaTriM
namespace Go.Proofs.Ytbfgmedjogjkeaa
open Go.RowKit Go.Sort
set_option linter.unusedVariables false
set_option linter.unusedSimpArgs false

def e_tri_Sub (r : Int × Int × Int) : Value := .agg #[.int .i64 r.1, .int .i64 r.2.1, .int .i64 r.2.2]
def s_tri_Sub (a : Int × Int × Int) (b : Int × Int × Int) : Int × Int × Int :=
  lt (IntKind.i64.wrap (a.1 - b.1)) fun x10 =>
  lt (IntKind.i64.wrap (a.2.1 - b.2.1)) fun x12 =>
  lt (IntKind.i64.wrap (a.2.2 - b.2.2)) fun x14 =>
  (x10, x12, x14)
set_option maxRecDepth 100000 in
set_option maxHeartbeats 4000000 in
theorem w_tri_Sub (a : Int × Int × Int) (b : Int × Int × Int) (w : World) : Calls Try.prog 41 #[.agg #[.int .i64 a.1, .int .i64 a.2.1, .int .i64 a.2.2], .agg #[.int .i64 b.1, .int .i64 b.2.1, .int .i64 b.2.2]] w (Ret (e_tri_Sub (s_tri_Sub a b)) w) := by
  obtain ⟨R, HR⟩ : ∃ R, e_tri_Sub (s_tri_Sub a b) = R := ⟨_, rfl⟩
  rw [HR]
  unfold s_tri_Sub at HR
  have hM0 := St.start w
  refine calls_run Try.func41 rfl ?_
  refine R_seq (R_region (S_fresh none #[.int .i64 a.1, .int .i64 a.2.1, .int .i64 a.2.2] 23 hM0 (by kernel_rfl) (fun g1 w2 hM3 => S_fresh none #[.int .i64 b.1, .int .i64 b.2.1, .int .i64 b.2.2] 23 hM3 (by kernel_rfl) (fun g4 w5 hM6 => S_fresh none #[.int .i64 0, .int .i64 0, .int .i64 0] 23 hM6 (by kernel_rfl) (fun g7 w8 hM9 => S_nil (R_seq (R_region (S_val (.pointer (some ⟨g1, 0, none⟩)) (by kernel_rfl) (S_load 2 0 (.int .i64 a.1) hM9 (by kernel_rfl) (S_val (.pointer (some ⟨g4, 0, none⟩)) (by kernel_rfl) (S_load 1 0 (.int .i64 b.1) hM9 (by kernel_rfl) (?_))))))))))))
  refine S_int (IntKind.i64.wrap (a.1 - b.1)) .i64 (by kernel_rfl) (fun x10 h11 => S_val (.pointer (some ⟨g1, 1, none⟩)) (by kernel_rfl) (S_load 2 1 (.int .i64 a.2.1) hM9 (by kernel_rfl) (S_val (.pointer (some ⟨g4, 1, none⟩)) (by kernel_rfl) (S_load 1 1 (.int .i64 b.2.1) hM9 (by kernel_rfl) (S_int (IntKind.i64.wrap (a.2.1 - b.2.1)) .i64 (by kernel_rfl) (fun x12 h13 => S_val (.pointer (some ⟨g1, 2, none⟩)) (by kernel_rfl) (S_load 2 2 (.int .i64 a.2.2) hM9 (by kernel_rfl) (S_val (.pointer (some ⟨g4, 2, none⟩)) (by kernel_rfl) (S_load 1 2 (.int .i64 b.2.2) hM9 (by kernel_rfl) (S_int (IntKind.i64.wrap (a.2.2 - b.2.2)) .i64 (by kernel_rfl) (fun x14 h15 => S_val (.agg #[.int .i64 x10, .int .i64 x12, .int .i64 x14]) (by kernel_rfl) (?_))))))))))))
  have HR := hr_lt HR h11
  have HR := hr_lt HR h13
  have HR := hr_lt HR h15
  refine S_store 0 0 #[.int .i64 x10, .int .i64 x12, .int .i64 x14] hM9 (by kernel_rfl) (fun w16 hM17 => S_nil (?_))
  refine R_ret hM17 rfl (.cons (.cell _ _ 0 0 (.agg #[.int .i64 x10, .int .i64 x12, .int .i64 x14]) (by kernel_rfl)) .nil) rfl ?_
  exact ⟨congrArg Ending.returned HR, hM17.below⟩

def e_tri_Cross (r : Int × Int × Int) : Value := .agg #[.int .i64 r.1, .int .i64 r.2.1, .int .i64 r.2.2]
def s_tri_Cross (a : Int × Int × Int) (b : Int × Int × Int) : Int × Int × Int :=
  lt (IntKind.i64.wrap (a.2.1 * b.2.2)) fun x10 =>
  lt (IntKind.i64.wrap (a.2.2 * b.2.1)) fun x12 =>
  lt (IntKind.i64.wrap (x10 - x12)) fun x14 =>
  lt (IntKind.i64.wrap (a.2.2 * b.1)) fun x16 =>
  lt (IntKind.i64.wrap (a.1 * b.2.2)) fun x18 =>
  lt (IntKind.i64.wrap (x16 - x18)) fun x20 =>
  lt (IntKind.i64.wrap (a.1 * b.2.1)) fun x22 =>
  lt (IntKind.i64.wrap (a.2.1 * b.1)) fun x24 =>
  lt (IntKind.i64.wrap (x22 - x24)) fun x26 =>
  (x14, x20, x26)
set_option maxRecDepth 100000 in
set_option maxHeartbeats 4000000 in
theorem w_tri_Cross (a : Int × Int × Int) (b : Int × Int × Int) (w : World) : Calls Try.prog 40 #[.agg #[.int .i64 a.1, .int .i64 a.2.1, .int .i64 a.2.2], .agg #[.int .i64 b.1, .int .i64 b.2.1, .int .i64 b.2.2]] w (Ret (e_tri_Cross (s_tri_Cross a b)) w) := by
  obtain ⟨R, HR⟩ : ∃ R, e_tri_Cross (s_tri_Cross a b) = R := ⟨_, rfl⟩
  rw [HR]
  unfold s_tri_Cross at HR
  have hM0 := St.start w
  refine calls_run Try.func40 rfl ?_
  refine R_seq (R_region (S_fresh none #[.int .i64 a.1, .int .i64 a.2.1, .int .i64 a.2.2] 23 hM0 (by kernel_rfl) (fun g1 w2 hM3 => S_fresh none #[.int .i64 b.1, .int .i64 b.2.1, .int .i64 b.2.2] 23 hM3 (by kernel_rfl) (fun g4 w5 hM6 => S_fresh none #[.int .i64 0, .int .i64 0, .int .i64 0] 23 hM6 (by kernel_rfl) (fun g7 w8 hM9 => S_nil (R_seq (R_region (S_val (.pointer (some ⟨g1, 1, none⟩)) (by kernel_rfl) (S_load 2 1 (.int .i64 a.2.1) hM9 (by kernel_rfl) (S_val (.pointer (some ⟨g4, 2, none⟩)) (by kernel_rfl) (S_load 1 2 (.int .i64 b.2.2) hM9 (by kernel_rfl) (?_))))))))))))
  refine S_int (IntKind.i64.wrap (a.2.1 * b.2.2)) .i64 (by kernel_rfl) (fun x10 h11 => S_val (.pointer (some ⟨g1, 2, none⟩)) (by kernel_rfl) (S_load 2 2 (.int .i64 a.2.2) hM9 (by kernel_rfl) (S_val (.pointer (some ⟨g4, 1, none⟩)) (by kernel_rfl) (S_load 1 1 (.int .i64 b.2.1) hM9 (by kernel_rfl) (S_int (IntKind.i64.wrap (a.2.2 * b.2.1)) .i64 (by kernel_rfl) (fun x12 h13 => S_int (IntKind.i64.wrap (x10 - x12)) .i64 (by kernel_rfl) (fun x14 h15 => S_val (.pointer (some ⟨g1, 2, none⟩)) (by kernel_rfl) (S_load 2 2 (.int .i64 a.2.2) hM9 (by kernel_rfl) (S_val (.pointer (some ⟨g4, 0, none⟩)) (by kernel_rfl) (S_load 1 0 (.int .i64 b.1) hM9 (by kernel_rfl) (S_int (IntKind.i64.wrap (a.2.2 * b.1)) .i64 (by kernel_rfl) (fun x16 h17 => ?_))))))))))))
  have HR := hr_lt HR h11
  have HR := hr_lt HR h13
  have HR := hr_lt HR h15
  have HR := hr_lt HR h17
  refine S_val (.pointer (some ⟨g1, 0, none⟩)) (by kernel_rfl) (S_load 2 0 (.int .i64 a.1) hM9 (by kernel_rfl) (S_val (.pointer (some ⟨g4, 2, none⟩)) (by kernel_rfl) (S_load 1 2 (.int .i64 b.2.2) hM9 (by kernel_rfl) (S_int (IntKind.i64.wrap (a.1 * b.2.2)) .i64 (by kernel_rfl) (fun x18 h19 => S_int (IntKind.i64.wrap (x16 - x18)) .i64 (by kernel_rfl) (fun x20 h21 => S_val (.pointer (some ⟨g1, 0, none⟩)) (by kernel_rfl) (S_load 2 0 (.int .i64 a.1) hM9 (by kernel_rfl) (S_val (.pointer (some ⟨g4, 1, none⟩)) (by kernel_rfl) (S_load 1 1 (.int .i64 b.2.1) hM9 (by kernel_rfl) (S_int (IntKind.i64.wrap (a.1 * b.2.1)) .i64 (by kernel_rfl) (fun x22 h23 => S_val (.pointer (some ⟨g1, 1, none⟩)) (by kernel_rfl) (?_))))))))))))
  have HR := hr_lt HR h19
  have HR := hr_lt HR h21
  have HR := hr_lt HR h23
  refine S_load 2 1 (.int .i64 a.2.1) hM9 (by kernel_rfl) (S_val (.pointer (some ⟨g4, 0, none⟩)) (by kernel_rfl) (S_load 1 0 (.int .i64 b.1) hM9 (by kernel_rfl) (S_int (IntKind.i64.wrap (a.2.1 * b.1)) .i64 (by kernel_rfl) (fun x24 h25 => S_int (IntKind.i64.wrap (x22 - x24)) .i64 (by kernel_rfl) (fun x26 h27 => S_val (.agg #[.int .i64 x14, .int .i64 x20, .int .i64 x26]) (by kernel_rfl) (S_store 0 0 #[.int .i64 x14, .int .i64 x20, .int .i64 x26] hM9 (by kernel_rfl) (fun w28 hM29 => S_nil (?_))))))))
  have HR := hr_lt HR h25
  have HR := hr_lt HR h27
  refine R_ret hM29 rfl (.cons (.cell _ _ 0 0 (.agg #[.int .i64 x14, .int .i64 x20, .int .i64 x26]) (by kernel_rfl)) .nil) rfl ?_
  exact ⟨congrArg Ending.returned HR, hM29.below⟩

def e_tri_Dot (r : Int) : Value := .int .i64 r
def s_tri_Dot (a : Int × Int × Int) (b : Int × Int × Int) : Int :=
  lt (IntKind.i64.wrap (a.1 * b.1)) fun x7 =>
  lt (IntKind.i64.wrap (a.2.1 * b.2.1)) fun x9 =>
  lt (IntKind.i64.wrap (x7 + x9)) fun x11 =>
  lt (IntKind.i64.wrap (a.2.2 * b.2.2)) fun x13 =>
  lt (IntKind.i64.wrap (x11 + x13)) fun x15 =>
  x15
set_option maxRecDepth 100000 in
set_option maxHeartbeats 4000000 in
theorem w_tri_Dot (a : Int × Int × Int) (b : Int × Int × Int) (w : World) : Calls Try.prog 42 #[.agg #[.int .i64 a.1, .int .i64 a.2.1, .int .i64 a.2.2], .agg #[.int .i64 b.1, .int .i64 b.2.1, .int .i64 b.2.2]] w (Ret (e_tri_Dot (s_tri_Dot a b)) w) := by
  obtain ⟨R, HR⟩ : ∃ R, e_tri_Dot (s_tri_Dot a b) = R := ⟨_, rfl⟩
  rw [HR]
  unfold s_tri_Dot at HR
  have hM0 := St.start w
  refine calls_run Try.func42 rfl ?_
  refine R_seq (R_region (S_fresh none #[.int .i64 a.1, .int .i64 a.2.1, .int .i64 a.2.2] 23 hM0 (by kernel_rfl) (fun g1 w2 hM3 => S_fresh none #[.int .i64 b.1, .int .i64 b.2.1, .int .i64 b.2.2] 23 hM3 (by kernel_rfl) (fun g4 w5 hM6 => S_val (.int .i64 0) (by kernel_rfl) (S_nil (R_seq (R_region (S_val (.pointer (some ⟨g1, 0, none⟩)) (by kernel_rfl) (S_load 1 0 (.int .i64 a.1) hM6 (by kernel_rfl) (S_val (.pointer (some ⟨g4, 0, none⟩)) (by kernel_rfl) (S_load 0 0 (.int .i64 b.1) hM6 (by kernel_rfl) (?_))))))))))))
  refine S_int (IntKind.i64.wrap (a.1 * b.1)) .i64 (by kernel_rfl) (fun x7 h8 => S_val (.pointer (some ⟨g1, 1, none⟩)) (by kernel_rfl) (S_load 1 1 (.int .i64 a.2.1) hM6 (by kernel_rfl) (S_val (.pointer (some ⟨g4, 1, none⟩)) (by kernel_rfl) (S_load 0 1 (.int .i64 b.2.1) hM6 (by kernel_rfl) (S_int (IntKind.i64.wrap (a.2.1 * b.2.1)) .i64 (by kernel_rfl) (fun x9 h10 => S_int (IntKind.i64.wrap (x7 + x9)) .i64 (by kernel_rfl) (fun x11 h12 => S_val (.pointer (some ⟨g1, 2, none⟩)) (by kernel_rfl) (S_load 1 2 (.int .i64 a.2.2) hM6 (by kernel_rfl) (S_val (.pointer (some ⟨g4, 2, none⟩)) (by kernel_rfl) (S_load 0 2 (.int .i64 b.2.2) hM6 (by kernel_rfl) (S_int (IntKind.i64.wrap (a.2.2 * b.2.2)) .i64 (by kernel_rfl) (fun x13 h14 => ?_))))))))))))
  have HR := hr_lt HR h8
  have HR := hr_lt HR h10
  have HR := hr_lt HR h12
  have HR := hr_lt HR h14
  refine S_int (IntKind.i64.wrap (x11 + x13)) .i64 (by kernel_rfl) (fun x15 h16 => S_val (.int .i64 x15) (by kernel_rfl) (S_nil (?_)))
  have HR := hr_lt HR h16
  refine R_ret hM6 rfl (.cons (.tmp _ (.int .i64 x15) (by kernel_rfl)) .nil) rfl ?_
  exact ⟨congrArg Ending.returned HR, hM6.below⟩

def e_tri_within (r : Bool) : Value := .bool r
def s_tri_within (p : Int × Int × Int) (most : Int) : Bool :=
  lt (gmax (gmax p.1 p.2.1) p.2.2) fun x4 =>
  if x4 ≤ most then
    lt (gmin (gmin p.1 p.2.1) p.2.2) fun x7 =>
    lt (IntKind.i64.wrap (0 - most)) fun x9 =>
    if x7 ≥ x9 then
      true
    else
      false
  else
    false
set_option maxRecDepth 100000 in
set_option maxHeartbeats 4000000 in
theorem w_tri_within (p : Int × Int × Int) (most : Int) (w : World) : Calls Try.prog 67 #[.agg #[.int .i64 p.1, .int .i64 p.2.1, .int .i64 p.2.2], .int .i64 most] w (Ret (e_tri_within (s_tri_within p most)) w) := by
  obtain ⟨R, HR⟩ : ∃ R, e_tri_within (s_tri_within p most) = R := ⟨_, rfl⟩
  rw [HR]
  unfold s_tri_within at HR
  have hM0 := St.start w
  refine calls_run Try.func67 rfl ?_
  refine R_seq (R_region (S_fresh none #[.int .i64 p.1, .int .i64 p.2.1, .int .i64 p.2.2] 23 hM0 (by kernel_rfl) (fun g1 w2 hM3 => S_val (.bool false) (by kernel_rfl) (S_nil (R_seq (R_region (S_val (.pointer (some ⟨g1, 0, none⟩)) (by kernel_rfl) (S_load 0 0 (.int .i64 p.1) hM3 (by kernel_rfl) (S_val (.pointer (some ⟨g1, 1, none⟩)) (by kernel_rfl) (S_load 0 1 (.int .i64 p.2.1) hM3 (by kernel_rfl) (S_val (.pointer (some ⟨g1, 2, none⟩)) (by kernel_rfl) (?_))))))))))))
  refine S_load 0 2 (.int .i64 p.2.2) hM3 (by kernel_rfl) (S_int (gmax (gmax p.1 p.2.1) p.2.2) .i64 (by kernel_rfl) (fun x4 h5 => S_val (.int .i64 most) (by kernel_rfl) (?_)))
  have HR := hr_lt HR h5
  refine S_dec (x4 ≤ most) (by kernel_rfl) (fun c6 => ?_) (fun c6 => ?_)
  · refine S_val (.bool true) (by kernel_rfl) (S_val (.pointer (some ⟨g1, 0, none⟩)) (by kernel_rfl) (S_load 0 0 (.int .i64 p.1) hM3 (by kernel_rfl) (S_val (.pointer (some ⟨g1, 1, none⟩)) (by kernel_rfl) (S_load 0 1 (.int .i64 p.2.1) hM3 (by kernel_rfl) (S_val (.pointer (some ⟨g1, 2, none⟩)) (by kernel_rfl) (S_load 0 2 (.int .i64 p.2.2) hM3 (by kernel_rfl) (S_int (gmin (gmin p.1 p.2.1) p.2.2) .i64 (by kernel_rfl) (fun x7 h8 => S_val (.int .i64 most) (by kernel_rfl) (S_int (IntKind.i64.wrap (0 - most)) .i64 (by kernel_rfl) (fun x9 h10 => ?_))))))))))
    have HR := hr_pos HR c6
    have HR := hr_lt HR h8
    have HR := hr_lt HR h10
    refine S_dec (x7 ≥ x9) (by kernel_rfl) (fun c11 => ?_) (fun c11 => ?_)
    · refine S_val (.bool true) (by kernel_rfl) (S_val (.bool true) (by kernel_rfl) (S_nil (?_)))
      have HR := hr_pos HR c11
      refine R_ret hM3 rfl (.cons (.tmp _ (.bool true) (by kernel_rfl)) .nil) rfl ?_
      exact ⟨congrArg Ending.returned HR, hM3.below⟩
    · refine S_val (.bool false) (by kernel_rfl) (S_val (.bool false) (by kernel_rfl) (S_nil (?_)))
      have HR := hr_neg HR c11
      refine R_ret hM3 rfl (.cons (.tmp _ (.bool false) (by kernel_rfl)) .nil) rfl ?_
      exact ⟨congrArg Ending.returned HR, hM3.below⟩
  · refine S_val (.bool false) (by kernel_rfl) (S_skip (by kernel_rfl) (S_skip (by kernel_rfl) (S_skip (by kernel_rfl) (S_skip (by kernel_rfl) (S_skip (by kernel_rfl) (S_skip (by kernel_rfl) (S_skip (by kernel_rfl) (S_skip (by kernel_rfl) (S_skip (by kernel_rfl) (S_skip (by kernel_rfl) (S_val (.bool false) (by kernel_rfl) (?_))))))))))))
    have HR := hr_neg HR c6
    refine S_val (.bool false) (by kernel_rfl) (S_nil (?_))
    refine R_ret hM3 rfl (.cons (.tmp _ (.bool false) (by kernel_rfl)) .nil) rfl ?_
    exact ⟨congrArg Ending.returned HR, hM3.below⟩

def e_umbraref20_far (r : Bool) : Value := .bool r
def s_umbraref20_far (p : Int × Int × Int) (most : Int) : Bool :=
  if p.1 > most then
    true
  else
    lt (IntKind.i64.wrap (0 - most)) fun x5 =>
    if p.1 < x5 then
      true
    else
      if p.2.1 > most then
        true
      else
        lt (IntKind.i64.wrap (0 - most)) fun x9 =>
        if p.2.1 < x9 then
          true
        else
          if p.2.2 > most then
            true
          else
            lt (IntKind.i64.wrap (0 - most)) fun x13 =>
            if p.2.2 < x13 then
              true
            else
              false
set_option maxRecDepth 100000 in
set_option maxHeartbeats 4000000 in
theorem w_umbraref20_far (p : Int × Int × Int) (most : Int) (w : World) : Calls Try.prog 69 #[.agg #[.int .i64 p.1, .int .i64 p.2.1, .int .i64 p.2.2], .int .i64 most] w (Ret (e_umbraref20_far (s_umbraref20_far p most)) w) := by
  obtain ⟨R, HR⟩ : ∃ R, e_umbraref20_far (s_umbraref20_far p most) = R := ⟨_, rfl⟩
  rw [HR]
  unfold s_umbraref20_far at HR
  have hM0 := St.start w
  refine calls_run Try.func69 rfl ?_
  refine R_seq (R_region (S_fresh none #[.int .i64 p.1, .int .i64 p.2.1, .int .i64 p.2.2] 23 hM0 (by kernel_rfl) (fun g1 w2 hM3 => S_val (.bool false) (by kernel_rfl) (S_nil (R_seq (R_region (S_val (.pointer (some ⟨g1, 0, none⟩)) (by kernel_rfl) (S_load 0 0 (.int .i64 p.1) hM3 (by kernel_rfl) (S_val (.int .i64 most) (by kernel_rfl) (?_))))))))))
  refine S_dec (p.1 > most) (by kernel_rfl) (fun c4 => ?_) (fun c4 => ?_)
  · refine S_val (.bool true) (by kernel_rfl) (S_skip (by kernel_rfl) (S_skip (by kernel_rfl) (S_skip (by kernel_rfl) (S_skip (by kernel_rfl) (S_skip (by kernel_rfl) (S_val (.bool true) (by kernel_rfl) (S_val (.bool true) (by kernel_rfl) (S_skip (by kernel_rfl) (S_skip (by kernel_rfl) (S_skip (by kernel_rfl) (S_skip (by kernel_rfl) (?_))))))))))))
    have HR := hr_pos HR c4
    refine S_val (.bool true) (by kernel_rfl) (S_val (.bool true) (by kernel_rfl) (S_skip (by kernel_rfl) (S_skip (by kernel_rfl) (S_skip (by kernel_rfl) (S_skip (by kernel_rfl) (S_skip (by kernel_rfl) (S_val (.bool true) (by kernel_rfl) (S_val (.bool true) (by kernel_rfl) (S_skip (by kernel_rfl) (S_skip (by kernel_rfl) (S_skip (by kernel_rfl) (?_))))))))))))
    refine S_skip (by kernel_rfl) (S_val (.bool true) (by kernel_rfl) (S_val (.bool true) (by kernel_rfl) (S_skip (by kernel_rfl) (S_skip (by kernel_rfl) (S_skip (by kernel_rfl) (S_skip (by kernel_rfl) (S_skip (by kernel_rfl) (S_val (.bool true) (by kernel_rfl) (S_val (.bool true) (by kernel_rfl) (S_nil (?_)))))))))))
    refine R_ret hM3 rfl (.cons (.tmp _ (.bool true) (by kernel_rfl)) .nil) rfl ?_
    exact ⟨congrArg Ending.returned HR, hM3.below⟩
  · refine S_val (.bool false) (by kernel_rfl) (S_val (.pointer (some ⟨g1, 0, none⟩)) (by kernel_rfl) (S_load 0 0 (.int .i64 p.1) hM3 (by kernel_rfl) (S_val (.int .i64 most) (by kernel_rfl) (S_int (IntKind.i64.wrap (0 - most)) .i64 (by kernel_rfl) (fun x5 h6 => ?_)))))
    have HR := hr_neg HR c4
    have HR := hr_lt HR h6
    refine S_dec (p.1 < x5) (by kernel_rfl) (fun c7 => ?_) (fun c7 => ?_)
    · refine S_val (.bool true) (by kernel_rfl) (S_val (.bool true) (by kernel_rfl) (S_skip (by kernel_rfl) (S_skip (by kernel_rfl) (S_skip (by kernel_rfl) (S_skip (by kernel_rfl) (S_val (.bool true) (by kernel_rfl) (S_val (.bool true) (by kernel_rfl) (S_skip (by kernel_rfl) (S_skip (by kernel_rfl) (S_skip (by kernel_rfl) (S_skip (by kernel_rfl) (?_))))))))))))
      have HR := hr_pos HR c7
      refine S_skip (by kernel_rfl) (S_val (.bool true) (by kernel_rfl) (S_val (.bool true) (by kernel_rfl) (S_skip (by kernel_rfl) (S_skip (by kernel_rfl) (S_skip (by kernel_rfl) (S_skip (by kernel_rfl) (S_val (.bool true) (by kernel_rfl) (S_val (.bool true) (by kernel_rfl) (S_skip (by kernel_rfl) (S_skip (by kernel_rfl) (S_skip (by kernel_rfl) (?_))))))))))))
      refine S_skip (by kernel_rfl) (S_skip (by kernel_rfl) (S_val (.bool true) (by kernel_rfl) (S_val (.bool true) (by kernel_rfl) (S_nil (?_)))))
      refine R_ret hM3 rfl (.cons (.tmp _ (.bool true) (by kernel_rfl)) .nil) rfl ?_
      exact ⟨congrArg Ending.returned HR, hM3.below⟩
    · refine S_val (.bool false) (by kernel_rfl) (S_val (.bool false) (by kernel_rfl) (S_val (.pointer (some ⟨g1, 1, none⟩)) (by kernel_rfl) (S_load 0 1 (.int .i64 p.2.1) hM3 (by kernel_rfl) (S_val (.int .i64 most) (by kernel_rfl) (?_)))))
      have HR := hr_neg HR c7
      refine S_dec (p.2.1 > most) (by kernel_rfl) (fun c8 => ?_) (fun c8 => ?_)
      · refine S_val (.bool true) (by kernel_rfl) (S_val (.bool true) (by kernel_rfl) (S_skip (by kernel_rfl) (S_skip (by kernel_rfl) (S_skip (by kernel_rfl) (S_skip (by kernel_rfl) (S_skip (by kernel_rfl) (S_val (.bool true) (by kernel_rfl) (S_val (.bool true) (by kernel_rfl) (S_skip (by kernel_rfl) (S_skip (by kernel_rfl) (S_skip (by kernel_rfl) (?_))))))))))))
        have HR := hr_pos HR c8
        refine S_skip (by kernel_rfl) (S_val (.bool true) (by kernel_rfl) (S_val (.bool true) (by kernel_rfl) (S_skip (by kernel_rfl) (S_skip (by kernel_rfl) (S_skip (by kernel_rfl) (S_skip (by kernel_rfl) (S_skip (by kernel_rfl) (S_val (.bool true) (by kernel_rfl) (S_val (.bool true) (by kernel_rfl) (S_nil (?_)))))))))))
        refine R_ret hM3 rfl (.cons (.tmp _ (.bool true) (by kernel_rfl)) .nil) rfl ?_
        exact ⟨congrArg Ending.returned HR, hM3.below⟩
      · refine S_val (.bool false) (by kernel_rfl) (S_val (.bool false) (by kernel_rfl) (S_val (.pointer (some ⟨g1, 1, none⟩)) (by kernel_rfl) (S_load 0 1 (.int .i64 p.2.1) hM3 (by kernel_rfl) (S_val (.int .i64 most) (by kernel_rfl) (S_int (IntKind.i64.wrap (0 - most)) .i64 (by kernel_rfl) (fun x9 h10 => ?_))))))
        have HR := hr_neg HR c8
        have HR := hr_lt HR h10
        refine S_dec (p.2.1 < x9) (by kernel_rfl) (fun c11 => ?_) (fun c11 => ?_)
        · refine S_val (.bool true) (by kernel_rfl) (S_val (.bool true) (by kernel_rfl) (S_skip (by kernel_rfl) (S_skip (by kernel_rfl) (S_skip (by kernel_rfl) (S_skip (by kernel_rfl) (S_val (.bool true) (by kernel_rfl) (S_val (.bool true) (by kernel_rfl) (S_skip (by kernel_rfl) (S_skip (by kernel_rfl) (S_skip (by kernel_rfl) (S_skip (by kernel_rfl) (?_))))))))))))
          have HR := hr_pos HR c11
          refine S_skip (by kernel_rfl) (S_val (.bool true) (by kernel_rfl) (S_val (.bool true) (by kernel_rfl) (S_nil (?_))))
          refine R_ret hM3 rfl (.cons (.tmp _ (.bool true) (by kernel_rfl)) .nil) rfl ?_
          exact ⟨congrArg Ending.returned HR, hM3.below⟩
        · refine S_val (.bool false) (by kernel_rfl) (S_val (.bool false) (by kernel_rfl) (S_val (.pointer (some ⟨g1, 2, none⟩)) (by kernel_rfl) (S_load 0 2 (.int .i64 p.2.2) hM3 (by kernel_rfl) (S_val (.int .i64 most) (by kernel_rfl) (?_)))))
          have HR := hr_neg HR c11
          refine S_dec (p.2.2 > most) (by kernel_rfl) (fun c12 => ?_) (fun c12 => ?_)
          · refine S_val (.bool true) (by kernel_rfl) (S_val (.bool true) (by kernel_rfl) (S_skip (by kernel_rfl) (S_skip (by kernel_rfl) (S_skip (by kernel_rfl) (S_skip (by kernel_rfl) (S_skip (by kernel_rfl) (S_val (.bool true) (by kernel_rfl) (S_val (.bool true) (by kernel_rfl) (S_nil (?_))))))))))
            have HR := hr_pos HR c12
            refine R_ret hM3 rfl (.cons (.tmp _ (.bool true) (by kernel_rfl)) .nil) rfl ?_
            exact ⟨congrArg Ending.returned HR, hM3.below⟩
          · refine S_val (.bool false) (by kernel_rfl) (S_val (.bool false) (by kernel_rfl) (S_val (.pointer (some ⟨g1, 2, none⟩)) (by kernel_rfl) (S_load 0 2 (.int .i64 p.2.2) hM3 (by kernel_rfl) (S_val (.int .i64 most) (by kernel_rfl) (S_int (IntKind.i64.wrap (0 - most)) .i64 (by kernel_rfl) (fun x13 h14 => ?_))))))
            have HR := hr_neg HR c12
            have HR := hr_lt HR h14
            refine S_dec (p.2.2 < x13) (by kernel_rfl) (fun c15 => ?_) (fun c15 => ?_)
            · refine S_val (.bool true) (by kernel_rfl) (S_val (.bool true) (by kernel_rfl) (S_nil (?_)))
              have HR := hr_pos HR c15
              refine R_ret hM3 rfl (.cons (.tmp _ (.bool true) (by kernel_rfl)) .nil) rfl ?_
              exact ⟨congrArg Ending.returned HR, hM3.below⟩
            · refine S_val (.bool false) (by kernel_rfl) (S_val (.bool false) (by kernel_rfl) (S_nil (?_)))
              have HR := hr_neg HR c15
              refine R_ret hM3 rfl (.cons (.tmp _ (.bool false) (by kernel_rfl)) .nil) rfl ?_
              exact ⟨congrArg Ending.returned HR, hM3.below⟩

def e_tri_May (r : Bool) : Value := .bool r
def s_tri_May (o : Int × Int × Int) (d1_ : Int × Int × Int) : Bool :=
  lt (s_tri_within o 65536) fun r7 =>
  if r7 = true then
    lt (s_tri_within d1_ 131072) fun r11 =>
    if r11 = true then
      if (d1_ : Int × Int × Int) = (0, 0, 0) then
        false
      else
        true
    else
      false
  else
    false
set_option maxRecDepth 100000 in
set_option maxHeartbeats 4000000 in
theorem w_tri_May (o : Int × Int × Int) (d1_ : Int × Int × Int) (w : World) : Calls Try.prog 34 #[.agg #[.int .i64 o.1, .int .i64 o.2.1, .int .i64 o.2.2], .agg #[.int .i64 d1_.1, .int .i64 d1_.2.1, .int .i64 d1_.2.2]] w (Ret (e_tri_May (s_tri_May o d1_)) w) := by
  obtain ⟨R, HR⟩ : ∃ R, e_tri_May (s_tri_May o d1_) = R := ⟨_, rfl⟩
  rw [HR]
  unfold s_tri_May at HR
  have hM0 := St.start w
  refine calls_run Try.func34 rfl ?_
  refine R_seq (R_region (S_fresh none #[.int .i64 o.1, .int .i64 o.2.1, .int .i64 o.2.2] 23 hM0 (by kernel_rfl) (fun g1 w2 hM3 => S_fresh none #[.int .i64 d1_.1, .int .i64 d1_.2.1, .int .i64 d1_.2.2] 23 hM3 (by kernel_rfl) (fun g4 w5 hM6 => S_val (.bool false) (by kernel_rfl) (S_nil (R_seq (R_region (S_load 1 0 (.agg #[.int .i64 o.1, .int .i64 o.2.1, .int .i64 o.2.2]) hM6 (by kernel_rfl) (S_call (s_tri_within o 65536) (fun r : Bool => .bool r) hM6 (w_tri_within o 65536 w5) (by kernel_rfl) (fun r7 h8 w9 hM10 => ?_))))))))))
  have HR := hr_lt HR h8
  cases r7
  · refine S_val (.bool false) (by kernel_rfl) (S_skip (by kernel_rfl) (S_skip (by kernel_rfl) (S_val (.bool false) (by kernel_rfl) (S_val (.bool false) (by kernel_rfl) (S_skip (by kernel_rfl) (S_skip (by kernel_rfl) (S_skip (by kernel_rfl) (S_val (.bool false) (by kernel_rfl) (S_val (.bool false) (by kernel_rfl) (S_nil (?_)))))))))))
    have HR := hr_neg HR Bool.false_ne_true
    refine R_ret hM10 rfl (.cons (.tmp _ (.bool false) (by kernel_rfl)) .nil) rfl ?_
    exact ⟨congrArg Ending.returned HR, hM10.below⟩
  · refine S_val (.bool true) (by kernel_rfl) (S_load 0 0 (.agg #[.int .i64 d1_.1, .int .i64 d1_.2.1, .int .i64 d1_.2.2]) hM10 (by kernel_rfl) (S_call (s_tri_within d1_ 131072) (fun r : Bool => .bool r) hM10 (w_tri_within d1_ 131072 w9) (by kernel_rfl) (fun r11 h12 w13 hM14 => ?_)))
    have HR := hr_pos HR rfl
    have HR := hr_lt HR h12
    cases r11
    · refine S_val (.bool false) (by kernel_rfl) (S_val (.bool false) (by kernel_rfl) (S_skip (by kernel_rfl) (S_skip (by kernel_rfl) (S_skip (by kernel_rfl) (S_val (.bool false) (by kernel_rfl) (S_val (.bool false) (by kernel_rfl) (S_nil (?_))))))))
      have HR := hr_neg HR Bool.false_ne_true
      refine R_ret hM14 rfl (.cons (.tmp _ (.bool false) (by kernel_rfl)) .nil) rfl ?_
      exact ⟨congrArg Ending.returned HR, hM14.below⟩
    · refine S_val (.bool true) (by kernel_rfl) (S_val (.bool true) (by kernel_rfl) (S_load 0 0 (.agg #[.int .i64 d1_.1, .int .i64 d1_.2.1, .int .i64 d1_.2.2]) hM14 (by kernel_rfl) (S_val (.agg #[.int .i64 0, .int .i64 0, .int .i64 0]) (by kernel_rfl) (?_))))
      have HR := hr_pos HR rfl
      refine S_decn ((d1_ : Int × Int × Int) = (0, 0, 0)) (eqv_umbra_api_Pointn (x := d1_) (y := (0, 0, 0)) (by kernel_rfl) (by kernel_rfl) (by kernel_rfl)) (fun c15 => ?_) (fun c15 => ?_)
      · refine S_val (.bool true) (by kernel_rfl) (S_val (.bool true) (by kernel_rfl) (S_nil (?_)))
        have HR := hr_neg HR c15
        refine R_ret hM14 rfl (.cons (.tmp _ (.bool true) (by kernel_rfl)) .nil) rfl ?_
        exact ⟨congrArg Ending.returned HR, hM14.below⟩
      · refine S_val (.bool false) (by kernel_rfl) (S_val (.bool false) (by kernel_rfl) (S_nil (?_)))
        have HR := hr_pos HR c15
        refine R_ret hM14 rfl (.cons (.tmp _ (.bool false) (by kernel_rfl)) .nil) rfl ?_
        exact ⟨congrArg Ending.returned HR, hM14.below⟩

def e_umbraref20_Sub (r : Int × Int × Int) : Value := .agg #[.int .i64 r.1, .int .i64 r.2.1, .int .i64 r.2.2]
def s_umbraref20_Sub (a : Int × Int × Int) (b : Int × Int × Int) : Int × Int × Int :=
  lt (IntKind.i64.wrap (a.1 - b.1)) fun x10 =>
  lt (IntKind.i64.wrap (a.2.1 - b.2.1)) fun x12 =>
  lt (IntKind.i64.wrap (a.2.2 - b.2.2)) fun x14 =>
  (x10, x12, x14)
set_option maxRecDepth 100000 in
set_option maxHeartbeats 4000000 in
theorem w_umbraref20_Sub (a : Int × Int × Int) (b : Int × Int × Int) (w : World) : Calls Try.prog 50 #[.agg #[.int .i64 a.1, .int .i64 a.2.1, .int .i64 a.2.2], .agg #[.int .i64 b.1, .int .i64 b.2.1, .int .i64 b.2.2]] w (Ret (e_umbraref20_Sub (s_umbraref20_Sub a b)) w) := by
  obtain ⟨R, HR⟩ : ∃ R, e_umbraref20_Sub (s_umbraref20_Sub a b) = R := ⟨_, rfl⟩
  rw [HR]
  unfold s_umbraref20_Sub at HR
  have hM0 := St.start w
  refine calls_run Try.func50 rfl ?_
  refine R_seq (R_region (S_fresh none #[.int .i64 a.1, .int .i64 a.2.1, .int .i64 a.2.2] 23 hM0 (by kernel_rfl) (fun g1 w2 hM3 => S_fresh none #[.int .i64 b.1, .int .i64 b.2.1, .int .i64 b.2.2] 23 hM3 (by kernel_rfl) (fun g4 w5 hM6 => S_fresh none #[.int .i64 0, .int .i64 0, .int .i64 0] 23 hM6 (by kernel_rfl) (fun g7 w8 hM9 => S_nil (R_seq (R_region (S_val (.pointer (some ⟨g1, 0, none⟩)) (by kernel_rfl) (S_load 2 0 (.int .i64 a.1) hM9 (by kernel_rfl) (S_val (.pointer (some ⟨g4, 0, none⟩)) (by kernel_rfl) (S_load 1 0 (.int .i64 b.1) hM9 (by kernel_rfl) (?_))))))))))))
  refine S_int (IntKind.i64.wrap (a.1 - b.1)) .i64 (by kernel_rfl) (fun x10 h11 => S_val (.pointer (some ⟨g1, 1, none⟩)) (by kernel_rfl) (S_load 2 1 (.int .i64 a.2.1) hM9 (by kernel_rfl) (S_val (.pointer (some ⟨g4, 1, none⟩)) (by kernel_rfl) (S_load 1 1 (.int .i64 b.2.1) hM9 (by kernel_rfl) (S_int (IntKind.i64.wrap (a.2.1 - b.2.1)) .i64 (by kernel_rfl) (fun x12 h13 => S_val (.pointer (some ⟨g1, 2, none⟩)) (by kernel_rfl) (S_load 2 2 (.int .i64 a.2.2) hM9 (by kernel_rfl) (S_val (.pointer (some ⟨g4, 2, none⟩)) (by kernel_rfl) (S_load 1 2 (.int .i64 b.2.2) hM9 (by kernel_rfl) (S_int (IntKind.i64.wrap (a.2.2 - b.2.2)) .i64 (by kernel_rfl) (fun x14 h15 => S_val (.agg #[.int .i64 x10, .int .i64 x12, .int .i64 x14]) (by kernel_rfl) (?_))))))))))))
  have HR := hr_lt HR h11
  have HR := hr_lt HR h13
  have HR := hr_lt HR h15
  refine S_store 0 0 #[.int .i64 x10, .int .i64 x12, .int .i64 x14] hM9 (by kernel_rfl) (fun w16 hM17 => S_nil (?_))
  refine R_ret hM17 rfl (.cons (.cell _ _ 0 0 (.agg #[.int .i64 x10, .int .i64 x12, .int .i64 x14]) (by kernel_rfl)) .nil) rfl ?_
  exact ⟨congrArg Ending.returned HR, hM17.below⟩

def e_umbraref20_Cross (r : Int × Int × Int) : Value := .agg #[.int .i64 r.1, .int .i64 r.2.1, .int .i64 r.2.2]
def s_umbraref20_Cross (a : Int × Int × Int) (b : Int × Int × Int) : Int × Int × Int :=
  lt (IntKind.i64.wrap (a.2.1 * b.2.2)) fun x10 =>
  lt (IntKind.i64.wrap (a.2.2 * b.2.1)) fun x12 =>
  lt (IntKind.i64.wrap (x10 - x12)) fun x14 =>
  lt (IntKind.i64.wrap (a.2.2 * b.1)) fun x16 =>
  lt (IntKind.i64.wrap (a.1 * b.2.2)) fun x18 =>
  lt (IntKind.i64.wrap (x16 - x18)) fun x20 =>
  lt (IntKind.i64.wrap (a.1 * b.2.1)) fun x22 =>
  lt (IntKind.i64.wrap (a.2.1 * b.1)) fun x24 =>
  lt (IntKind.i64.wrap (x22 - x24)) fun x26 =>
  (x14, x20, x26)
set_option maxRecDepth 100000 in
set_option maxHeartbeats 4000000 in
theorem w_umbraref20_Cross (a : Int × Int × Int) (b : Int × Int × Int) (w : World) : Calls Try.prog 51 #[.agg #[.int .i64 a.1, .int .i64 a.2.1, .int .i64 a.2.2], .agg #[.int .i64 b.1, .int .i64 b.2.1, .int .i64 b.2.2]] w (Ret (e_umbraref20_Cross (s_umbraref20_Cross a b)) w) := by
  obtain ⟨R, HR⟩ : ∃ R, e_umbraref20_Cross (s_umbraref20_Cross a b) = R := ⟨_, rfl⟩
  rw [HR]
  unfold s_umbraref20_Cross at HR
  have hM0 := St.start w
  refine calls_run Try.func51 rfl ?_
  refine R_seq (R_region (S_fresh none #[.int .i64 a.1, .int .i64 a.2.1, .int .i64 a.2.2] 23 hM0 (by kernel_rfl) (fun g1 w2 hM3 => S_fresh none #[.int .i64 b.1, .int .i64 b.2.1, .int .i64 b.2.2] 23 hM3 (by kernel_rfl) (fun g4 w5 hM6 => S_fresh none #[.int .i64 0, .int .i64 0, .int .i64 0] 23 hM6 (by kernel_rfl) (fun g7 w8 hM9 => S_nil (R_seq (R_region (S_val (.pointer (some ⟨g1, 1, none⟩)) (by kernel_rfl) (S_load 2 1 (.int .i64 a.2.1) hM9 (by kernel_rfl) (S_val (.pointer (some ⟨g4, 2, none⟩)) (by kernel_rfl) (S_load 1 2 (.int .i64 b.2.2) hM9 (by kernel_rfl) (?_))))))))))))
  refine S_int (IntKind.i64.wrap (a.2.1 * b.2.2)) .i64 (by kernel_rfl) (fun x10 h11 => S_val (.pointer (some ⟨g1, 2, none⟩)) (by kernel_rfl) (S_load 2 2 (.int .i64 a.2.2) hM9 (by kernel_rfl) (S_val (.pointer (some ⟨g4, 1, none⟩)) (by kernel_rfl) (S_load 1 1 (.int .i64 b.2.1) hM9 (by kernel_rfl) (S_int (IntKind.i64.wrap (a.2.2 * b.2.1)) .i64 (by kernel_rfl) (fun x12 h13 => S_int (IntKind.i64.wrap (x10 - x12)) .i64 (by kernel_rfl) (fun x14 h15 => S_val (.int .i64 x14) (by kernel_rfl) (S_nil (R_seq (R_region (S_val (.pointer (some ⟨g1, 2, none⟩)) (by kernel_rfl) (?_))))))))))))
  have HR := hr_lt HR h11
  have HR := hr_lt HR h13
  have HR := hr_lt HR h15
  refine S_load 2 2 (.int .i64 a.2.2) hM9 (by kernel_rfl) (S_val (.pointer (some ⟨g4, 0, none⟩)) (by kernel_rfl) (S_load 1 0 (.int .i64 b.1) hM9 (by kernel_rfl) (S_int (IntKind.i64.wrap (a.2.2 * b.1)) .i64 (by kernel_rfl) (fun x16 h17 => S_val (.pointer (some ⟨g1, 0, none⟩)) (by kernel_rfl) (S_load 2 0 (.int .i64 a.1) hM9 (by kernel_rfl) (S_val (.pointer (some ⟨g4, 2, none⟩)) (by kernel_rfl) (S_load 1 2 (.int .i64 b.2.2) hM9 (by kernel_rfl) (S_int (IntKind.i64.wrap (a.1 * b.2.2)) .i64 (by kernel_rfl) (fun x18 h19 => S_int (IntKind.i64.wrap (x16 - x18)) .i64 (by kernel_rfl) (fun x20 h21 => S_val (.int .i64 x20) (by kernel_rfl) (S_nil (?_))))))))))))
  have HR := hr_lt HR h17
  have HR := hr_lt HR h19
  have HR := hr_lt HR h21
  refine R_seq (R_region (S_val (.pointer (some ⟨g1, 0, none⟩)) (by kernel_rfl) (S_load 2 0 (.int .i64 a.1) hM9 (by kernel_rfl) (S_val (.pointer (some ⟨g4, 1, none⟩)) (by kernel_rfl) (S_load 1 1 (.int .i64 b.2.1) hM9 (by kernel_rfl) (S_int (IntKind.i64.wrap (a.1 * b.2.1)) .i64 (by kernel_rfl) (fun x22 h23 => S_val (.pointer (some ⟨g1, 1, none⟩)) (by kernel_rfl) (S_load 2 1 (.int .i64 a.2.1) hM9 (by kernel_rfl) (S_val (.pointer (some ⟨g4, 0, none⟩)) (by kernel_rfl) (S_load 1 0 (.int .i64 b.1) hM9 (by kernel_rfl) (S_int (IntKind.i64.wrap (a.2.1 * b.1)) .i64 (by kernel_rfl) (fun x24 h25 => ?_))))))))))))
  have HR := hr_lt HR h23
  have HR := hr_lt HR h25
  refine S_int (IntKind.i64.wrap (x22 - x24)) .i64 (by kernel_rfl) (fun x26 h27 => S_val (.int .i64 x26) (by kernel_rfl) (S_nil (R_seq (R_region (S_val (.int .i64 x14) (by kernel_rfl) (S_val (.int .i64 x20) (by kernel_rfl) (S_val (.int .i64 x26) (by kernel_rfl) (S_val (.agg #[.int .i64 x14, .int .i64 x20, .int .i64 x26]) (by kernel_rfl) (S_store 0 0 #[.int .i64 x14, .int .i64 x20, .int .i64 x26] hM9 (by kernel_rfl) (fun w28 hM29 => S_nil (?_)))))))))))
  have HR := hr_lt HR h27
  refine R_ret hM29 rfl (.cons (.cell _ _ 0 0 (.agg #[.int .i64 x14, .int .i64 x20, .int .i64 x26]) (by kernel_rfl)) .nil) rfl ?_
  exact ⟨congrArg Ending.returned HR, hM29.below⟩

def e_umbraref20_Dot (r : Int) : Value := .int .i64 r
def s_umbraref20_Dot (a : Int × Int × Int) (b : Int × Int × Int) : Int :=
  lt (IntKind.i64.wrap (a.1 * b.1)) fun x7 =>
  lt (IntKind.i64.wrap (a.2.1 * b.2.1)) fun x9 =>
  lt (IntKind.i64.wrap (x7 + x9)) fun x11 =>
  lt (IntKind.i64.wrap (a.2.2 * b.2.2)) fun x13 =>
  lt (IntKind.i64.wrap (x11 + x13)) fun x15 =>
  x15
set_option maxRecDepth 100000 in
set_option maxHeartbeats 4000000 in
theorem w_umbraref20_Dot (a : Int × Int × Int) (b : Int × Int × Int) (w : World) : Calls Try.prog 52 #[.agg #[.int .i64 a.1, .int .i64 a.2.1, .int .i64 a.2.2], .agg #[.int .i64 b.1, .int .i64 b.2.1, .int .i64 b.2.2]] w (Ret (e_umbraref20_Dot (s_umbraref20_Dot a b)) w) := by
  obtain ⟨R, HR⟩ : ∃ R, e_umbraref20_Dot (s_umbraref20_Dot a b) = R := ⟨_, rfl⟩
  rw [HR]
  unfold s_umbraref20_Dot at HR
  have hM0 := St.start w
  refine calls_run Try.func52 rfl ?_
  refine R_seq (R_region (S_fresh none #[.int .i64 a.1, .int .i64 a.2.1, .int .i64 a.2.2] 23 hM0 (by kernel_rfl) (fun g1 w2 hM3 => S_fresh none #[.int .i64 b.1, .int .i64 b.2.1, .int .i64 b.2.2] 23 hM3 (by kernel_rfl) (fun g4 w5 hM6 => S_val (.int .i64 0) (by kernel_rfl) (S_nil (R_seq (R_region (S_val (.pointer (some ⟨g1, 0, none⟩)) (by kernel_rfl) (S_load 1 0 (.int .i64 a.1) hM6 (by kernel_rfl) (S_val (.pointer (some ⟨g4, 0, none⟩)) (by kernel_rfl) (S_load 0 0 (.int .i64 b.1) hM6 (by kernel_rfl) (?_))))))))))))
  refine S_int (IntKind.i64.wrap (a.1 * b.1)) .i64 (by kernel_rfl) (fun x7 h8 => S_val (.pointer (some ⟨g1, 1, none⟩)) (by kernel_rfl) (S_load 1 1 (.int .i64 a.2.1) hM6 (by kernel_rfl) (S_val (.pointer (some ⟨g4, 1, none⟩)) (by kernel_rfl) (S_load 0 1 (.int .i64 b.2.1) hM6 (by kernel_rfl) (S_int (IntKind.i64.wrap (a.2.1 * b.2.1)) .i64 (by kernel_rfl) (fun x9 h10 => S_int (IntKind.i64.wrap (x7 + x9)) .i64 (by kernel_rfl) (fun x11 h12 => S_val (.pointer (some ⟨g1, 2, none⟩)) (by kernel_rfl) (S_load 1 2 (.int .i64 a.2.2) hM6 (by kernel_rfl) (S_val (.pointer (some ⟨g4, 2, none⟩)) (by kernel_rfl) (S_load 0 2 (.int .i64 b.2.2) hM6 (by kernel_rfl) (S_int (IntKind.i64.wrap (a.2.2 * b.2.2)) .i64 (by kernel_rfl) (fun x13 h14 => ?_))))))))))))
  have HR := hr_lt HR h8
  have HR := hr_lt HR h10
  have HR := hr_lt HR h12
  have HR := hr_lt HR h14
  refine S_int (IntKind.i64.wrap (x11 + x13)) .i64 (by kernel_rfl) (fun x15 h16 => S_val (.int .i64 x15) (by kernel_rfl) (S_nil (?_)))
  have HR := hr_lt HR h16
  refine R_ret hM6 rfl (.cons (.tmp _ (.int .i64 x15) (by kernel_rfl)) .nil) rfl ?_
  exact ⟨congrArg Ending.returned HR, hM6.below⟩

def e_umbraref20_May (r : Bool) : Value := .bool r
def s_umbraref20_May (o : Int × Int × Int) (d1_ : Int × Int × Int) : Bool :=
  lt (s_umbraref20_far o 65536) fun r7 =>
  if r7 = true then
    false
  else
    lt (s_umbraref20_far d1_ 131072) fun r11 =>
    if r11 = true then
      false
    else
      if d1_.1 = 0 then
        if d1_.2.1 = 0 then
          if d1_.2.2 = 0 then
            false
          else
            true
        else
          true
      else
        true
set_option maxRecDepth 100000 in
set_option maxHeartbeats 4000000 in
theorem w_umbraref20_May (o : Int × Int × Int) (d1_ : Int × Int × Int) (w : World) : Calls Try.prog 35 #[.agg #[.int .i64 o.1, .int .i64 o.2.1, .int .i64 o.2.2], .agg #[.int .i64 d1_.1, .int .i64 d1_.2.1, .int .i64 d1_.2.2]] w (Ret (e_umbraref20_May (s_umbraref20_May o d1_)) w) := by
  obtain ⟨R, HR⟩ : ∃ R, e_umbraref20_May (s_umbraref20_May o d1_) = R := ⟨_, rfl⟩
  rw [HR]
  unfold s_umbraref20_May at HR
  have hM0 := St.start w
  refine calls_run Try.func35 rfl ?_
  refine R_seq (R_region (S_fresh none #[.int .i64 o.1, .int .i64 o.2.1, .int .i64 o.2.2] 23 hM0 (by kernel_rfl) (fun g1 w2 hM3 => S_fresh none #[.int .i64 d1_.1, .int .i64 d1_.2.1, .int .i64 d1_.2.2] 23 hM3 (by kernel_rfl) (fun g4 w5 hM6 => S_val (.bool false) (by kernel_rfl) (S_nil (R_seq (R_region (S_load 1 0 (.agg #[.int .i64 o.1, .int .i64 o.2.1, .int .i64 o.2.2]) hM6 (by kernel_rfl) (S_call (s_umbraref20_far o 65536) (fun r : Bool => .bool r) hM6 (w_umbraref20_far o 65536 w5) (by kernel_rfl) (fun r7 h8 w9 hM10 => ?_))))))))))
  have HR := hr_lt HR h8
  cases r7
  · refine S_val (.bool true) (by kernel_rfl) (S_val (.bool true) (by kernel_rfl) (S_load 0 0 (.agg #[.int .i64 d1_.1, .int .i64 d1_.2.1, .int .i64 d1_.2.2]) hM10 (by kernel_rfl) (S_call (s_umbraref20_far d1_ 131072) (fun r : Bool => .bool r) hM10 (w_umbraref20_far d1_ 131072 w9) (by kernel_rfl) (fun r11 h12 w13 hM14 => ?_))))
    have HR := hr_neg HR Bool.false_ne_true
    have HR := hr_lt HR h12
    cases r11
    · refine S_val (.bool true) (by kernel_rfl) (S_val (.bool true) (by kernel_rfl) (S_val (.bool true) (by kernel_rfl) (S_val (.pointer (some ⟨g4, 0, none⟩)) (by kernel_rfl) (S_load 0 0 (.int .i64 d1_.1) hM14 (by kernel_rfl) (?_)))))
      have HR := hr_neg HR Bool.false_ne_true
      refine S_decn (d1_.1 = 0) (by kernel_rfl) (fun c15 => ?_) (fun c15 => ?_)
      · refine S_val (.bool true) (by kernel_rfl) (S_skip (by kernel_rfl) (S_skip (by kernel_rfl) (S_skip (by kernel_rfl) (S_val (.bool true) (by kernel_rfl) (S_val (.bool true) (by kernel_rfl) (S_skip (by kernel_rfl) (S_skip (by kernel_rfl) (S_skip (by kernel_rfl) (S_val (.bool true) (by kernel_rfl) (S_val (.bool true) (by kernel_rfl) (S_val (.bool true) (by kernel_rfl) (?_))))))))))))
        have HR := hr_neg HR c15
        refine S_nil (?_)
        refine R_ret hM14 rfl (.cons (.tmp _ (.bool true) (by kernel_rfl)) .nil) rfl ?_
        exact ⟨congrArg Ending.returned HR, hM14.below⟩
      · refine S_val (.bool false) (by kernel_rfl) (S_val (.pointer (some ⟨g4, 1, none⟩)) (by kernel_rfl) (S_load 0 1 (.int .i64 d1_.2.1) hM14 (by kernel_rfl) (?_)))
        have HR := hr_pos HR c15
        refine S_decn (d1_.2.1 = 0) (by kernel_rfl) (fun c16 => ?_) (fun c16 => ?_)
        · refine S_val (.bool true) (by kernel_rfl) (S_val (.bool true) (by kernel_rfl) (S_skip (by kernel_rfl) (S_skip (by kernel_rfl) (S_skip (by kernel_rfl) (S_val (.bool true) (by kernel_rfl) (S_val (.bool true) (by kernel_rfl) (S_val (.bool true) (by kernel_rfl) (S_nil (?_)))))))))
          have HR := hr_neg HR c16
          refine R_ret hM14 rfl (.cons (.tmp _ (.bool true) (by kernel_rfl)) .nil) rfl ?_
          exact ⟨congrArg Ending.returned HR, hM14.below⟩
        · refine S_val (.bool false) (by kernel_rfl) (S_val (.bool false) (by kernel_rfl) (S_val (.pointer (some ⟨g4, 2, none⟩)) (by kernel_rfl) (S_load 0 2 (.int .i64 d1_.2.2) hM14 (by kernel_rfl) (?_))))
          have HR := hr_pos HR c16
          refine S_decn (d1_.2.2 = 0) (by kernel_rfl) (fun c17 => ?_) (fun c17 => ?_)
          · refine S_val (.bool true) (by kernel_rfl) (S_val (.bool true) (by kernel_rfl) (S_val (.bool true) (by kernel_rfl) (S_nil (?_))))
            have HR := hr_neg HR c17
            refine R_ret hM14 rfl (.cons (.tmp _ (.bool true) (by kernel_rfl)) .nil) rfl ?_
            exact ⟨congrArg Ending.returned HR, hM14.below⟩
          · refine S_val (.bool false) (by kernel_rfl) (S_val (.bool false) (by kernel_rfl) (S_val (.bool false) (by kernel_rfl) (S_nil (?_))))
            have HR := hr_pos HR c17
            refine R_ret hM14 rfl (.cons (.tmp _ (.bool false) (by kernel_rfl)) .nil) rfl ?_
            exact ⟨congrArg Ending.returned HR, hM14.below⟩
    · refine S_val (.bool false) (by kernel_rfl) (S_val (.bool false) (by kernel_rfl) (S_val (.bool false) (by kernel_rfl) (S_skip (by kernel_rfl) (S_skip (by kernel_rfl) (S_skip (by kernel_rfl) (S_skip (by kernel_rfl) (S_skip (by kernel_rfl) (S_skip (by kernel_rfl) (S_skip (by kernel_rfl) (S_skip (by kernel_rfl) (S_skip (by kernel_rfl) (?_))))))))))))
      have HR := hr_pos HR rfl
      refine S_skip (by kernel_rfl) (S_skip (by kernel_rfl) (S_skip (by kernel_rfl) (S_skip (by kernel_rfl) (S_val (.bool false) (by kernel_rfl) (S_val (.bool false) (by kernel_rfl) (S_nil (?_)))))))
      refine R_ret hM14 rfl (.cons (.tmp _ (.bool false) (by kernel_rfl)) .nil) rfl ?_
      exact ⟨congrArg Ending.returned HR, hM14.below⟩
  · refine S_val (.bool false) (by kernel_rfl) (S_val (.bool false) (by kernel_rfl) (S_skip (by kernel_rfl) (S_skip (by kernel_rfl) (S_skip (by kernel_rfl) (S_val (.bool false) (by kernel_rfl) (S_val (.bool false) (by kernel_rfl) (S_skip (by kernel_rfl) (S_skip (by kernel_rfl) (S_skip (by kernel_rfl) (S_skip (by kernel_rfl) (S_skip (by kernel_rfl) (?_))))))))))))
    have HR := hr_pos HR rfl
    refine S_skip (by kernel_rfl) (S_skip (by kernel_rfl) (S_skip (by kernel_rfl) (S_skip (by kernel_rfl) (S_skip (by kernel_rfl) (S_skip (by kernel_rfl) (S_skip (by kernel_rfl) (S_skip (by kernel_rfl) (S_val (.bool false) (by kernel_rfl) (S_val (.bool false) (by kernel_rfl) (S_nil (?_)))))))))))
    refine R_ret hM10 rfl (.cons (.tmp _ (.bool false) (by kernel_rfl)) .nil) rfl ?_
    exact ⟨congrArg Ending.returned HR, hM10.below⟩

def e_umbraref20_Hit (r : (Int × Int × Int × Int) × Bool) : Value := .tuple #[.agg #[.int .i64 r.1.1, .int .i64 r.1.2.1, .int .i64 r.1.2.2.1, .int .i64 r.1.2.2.2], .bool r.2]
def s_umbraref20_Hit (o : Int × Int × Int) (d1_ : Int × Int × Int) (p : (Int × Int × Int) × (Int × Int × Int) × (Int × Int × Int)) : (Int × Int × Int × Int) × Bool :=
  lt (s_umbraref20_May o d1_) fun r13 =>
  if r13 = true then
    lt (s_umbraref20_far p.1 65536) fun r19 =>
    if r19 = true then
      ((0, 0, 0, 0), false)
    else
      lt (s_umbraref20_far p.2.1 65536) fun r23 =>
      if r23 = true then
        ((0, 0, 0, 0), false)
      else
        lt (s_umbraref20_far p.2.2 65536) fun r27 =>
        if r27 = true then
          ((0, 0, 0, 0), false)
        else
          lt (s_umbraref20_Sub p.2.1 p.1) fun r34 =>
          lt (s_umbraref20_Sub p.2.2 p.1) fun r36 =>
          lt (s_umbraref20_Cross d1_ r36) fun r52 =>
          lt (s_umbraref20_Dot r34 r52) fun r61 =>
          lt (s_umbraref20_Sub o p.1) fun r65 =>
          lt (s_umbraref20_Dot r65 r52) fun r74 =>
          lt (s_umbraref20_Cross r65 r34) fun r78 =>
          lt (s_umbraref20_Dot d1_ r78) fun r87 =>
          lt (s_umbraref20_Dot r36 r78) fun r91 =>
          if r61 < 0 then
            lt (IntKind.i64.wrap (0 - r61)) fun x96 =>
            lt (IntKind.i64.wrap (0 - r74)) fun x98 =>
            lt (IntKind.i64.wrap (0 - r87)) fun x100 =>
            lt (IntKind.i64.wrap (0 - r91)) fun x102 =>
            if x96 = 0 then
              ((0, 0, 0, 0), false)
            else
              if x98 < 0 then
                ((0, 0, 0, 0), false)
              else
                if x100 < 0 then
                  ((0, 0, 0, 0), false)
                else
                  lt (IntKind.i64.wrap (x98 + x100)) fun x113 =>
                  if x113 > x96 then
                    ((0, 0, 0, 0), false)
                  else
                    if x102 ≤ 0 then
                      ((0, 0, 0, 0), false)
                    else
                      ((x102, x96, x98, x100), true)
          else
            if r61 = 0 then
              ((0, 0, 0, 0), false)
            else
              if r74 < 0 then
                ((0, 0, 0, 0), false)
              else
                if r87 < 0 then
                  ((0, 0, 0, 0), false)
                else
                  lt (IntKind.i64.wrap (r74 + r87)) fun x132 =>
                  if x132 > r61 then
                    ((0, 0, 0, 0), false)
                  else
                    if r91 ≤ 0 then
                      ((0, 0, 0, 0), false)
                    else
                      ((r91, r61, r74, r87), true)
  else
    ((0, 0, 0, 0), false)
set_option maxRecDepth 100000 in
set_option maxHeartbeats 4000000 in
theorem w_umbraref20_Hit (o : Int × Int × Int) (d1_ : Int × Int × Int) (p : (Int × Int × Int) × (Int × Int × Int) × (Int × Int × Int)) (w : World) : Calls Try.prog 33 #[.agg #[.int .i64 o.1, .int .i64 o.2.1, .int .i64 o.2.2], .agg #[.int .i64 d1_.1, .int .i64 d1_.2.1, .int .i64 d1_.2.2], .agg #[.int .i64 p.1.1, .int .i64 p.1.2.1, .int .i64 p.1.2.2, .int .i64 p.2.1.1, .int .i64 p.2.1.2.1, .int .i64 p.2.1.2.2, .int .i64 p.2.2.1, .int .i64 p.2.2.2.1, .int .i64 p.2.2.2.2]] w (Ret (e_umbraref20_Hit (s_umbraref20_Hit o d1_ p)) w) := by
  obtain ⟨R, HR⟩ : ∃ R, e_umbraref20_Hit (s_umbraref20_Hit o d1_ p) = R := ⟨_, rfl⟩
  rw [HR]
  unfold s_umbraref20_Hit at HR
  have hM0 := St.start w
  refine calls_run Try.func33 rfl ?_
  refine R_seq (R_region (S_fresh none #[.int .i64 o.1, .int .i64 o.2.1, .int .i64 o.2.2] 23 hM0 (by kernel_rfl) (fun g1 w2 hM3 => S_fresh none #[.int .i64 d1_.1, .int .i64 d1_.2.1, .int .i64 d1_.2.2] 23 hM3 (by kernel_rfl) (fun g4 w5 hM6 => S_fresh none #[.int .i64 p.1.1, .int .i64 p.1.2.1, .int .i64 p.1.2.2, .int .i64 p.2.1.1, .int .i64 p.2.1.2.1, .int .i64 p.2.1.2.2, .int .i64 p.2.2.1, .int .i64 p.2.2.2.1, .int .i64 p.2.2.2.2] 48 hM6 (by kernel_rfl) (fun g7 w8 hM9 => S_fresh none #[.int .i64 0, .int .i64 0, .int .i64 0, .int .i64 0] 50 hM9 (by kernel_rfl) (fun g10 w11 hM12 => S_val (.bool false) (by kernel_rfl) (S_nil (R_seq (R_seq (R_region (S_load 3 0 (.agg #[.int .i64 o.1, .int .i64 o.2.1, .int .i64 o.2.2]) hM12 (by kernel_rfl) (?_))))))))))))
  refine S_load 2 0 (.agg #[.int .i64 d1_.1, .int .i64 d1_.2.1, .int .i64 d1_.2.2]) hM12 (by kernel_rfl) (S_call (s_umbraref20_May o d1_) (fun r : Bool => .bool r) hM12 (w_umbraref20_May o d1_ w11) (by kernel_rfl) (fun r13 h14 w15 hM16 => ?_))
  have HR := hr_lt HR h14
  cases r13
  · refine S_val (.bool true) (by kernel_rfl) (S_val (.bool true) (by kernel_rfl) (S_skip (by kernel_rfl) (S_skip (by kernel_rfl) (S_skip (by kernel_rfl) (S_val (.bool true) (by kernel_rfl) (S_val (.bool true) (by kernel_rfl) (S_skip (by kernel_rfl) (S_skip (by kernel_rfl) (S_skip (by kernel_rfl) (S_val (.bool true) (by kernel_rfl) (S_val (.bool true) (by kernel_rfl) (?_))))))))))))
    have HR := hr_neg HR Bool.false_ne_true
    refine S_skip (by kernel_rfl) (S_skip (by kernel_rfl) (S_skip (by kernel_rfl) (S_val (.bool true) (by kernel_rfl) (S_nil (R_yes (by kernel_rfl) (R_seq (R_region (S_val (.agg #[.int .i64 0, .int .i64 0, .int .i64 0, .int .i64 0]) (by kernel_rfl) (S_store 0 0 #[.int .i64 0, .int .i64 0, .int .i64 0, .int .i64 0] hM16 (by kernel_rfl) (fun w17 hM18 => S_val (.bool false) (by kernel_rfl) (S_nil (?_))))))))))))
    refine R_ret hM18 rfl (.cons (.cell _ _ 0 0 (.agg #[.int .i64 0, .int .i64 0, .int .i64 0, .int .i64 0]) (by kernel_rfl)) (.cons (.tmp _ (.bool false) (by kernel_rfl)) .nil)) rfl ?_
    exact ⟨congrArg Ending.returned HR, hM18.below⟩
  · refine S_val (.bool false) (by kernel_rfl) (S_val (.bool false) (by kernel_rfl) (S_val (.pointer (some ⟨g7, 0, none⟩)) (by kernel_rfl) (S_load 1 0 (.agg #[.int .i64 p.1.1, .int .i64 p.1.2.1, .int .i64 p.1.2.2]) hM16 (by kernel_rfl) (S_call (s_umbraref20_far p.1 65536) (fun r : Bool => .bool r) hM16 (w_umbraref20_far p.1 65536 w15) (by kernel_rfl) (fun r19 h20 w21 hM22 => ?_)))))
    have HR := hr_pos HR rfl
    have HR := hr_lt HR h20
    cases r19
    · refine S_val (.bool false) (by kernel_rfl) (S_val (.bool false) (by kernel_rfl) (S_val (.pointer (some ⟨g7, 3, none⟩)) (by kernel_rfl) (S_load 1 3 (.agg #[.int .i64 p.2.1.1, .int .i64 p.2.1.2.1, .int .i64 p.2.1.2.2]) hM22 (by kernel_rfl) (S_call (s_umbraref20_far p.2.1 65536) (fun r : Bool => .bool r) hM22 (w_umbraref20_far p.2.1 65536 w21) (by kernel_rfl) (fun r23 h24 w25 hM26 => ?_)))))
      have HR := hr_neg HR Bool.false_ne_true
      have HR := hr_lt HR h24
      cases r23
      · refine S_val (.bool false) (by kernel_rfl) (S_val (.bool false) (by kernel_rfl) (S_val (.pointer (some ⟨g7, 6, none⟩)) (by kernel_rfl) (S_load 1 6 (.agg #[.int .i64 p.2.2.1, .int .i64 p.2.2.2.1, .int .i64 p.2.2.2.2]) hM26 (by kernel_rfl) (S_call (s_umbraref20_far p.2.2 65536) (fun r : Bool => .bool r) hM26 (w_umbraref20_far p.2.2 65536 w25) (by kernel_rfl) (fun r27 h28 w29 hM30 => ?_)))))
        have HR := hr_neg HR Bool.false_ne_true
        have HR := hr_lt HR h28
        cases r27
        · refine S_val (.bool false) (by kernel_rfl) (S_nil (R_no (by kernel_rfl) (R_skip (R_seq (R_drawF 12 (by kernel_rfl) (fun F31 U32 hL33 => F_val (.pointer (some ⟨g7, 3, none⟩)) (fun _ => by kernel_rfl) (F_load 1 3 (.agg #[.int .i64 p.2.1.1, .int .i64 p.2.1.2.1, .int .i64 p.2.1.2.2]) hM30 (by kernel_rfl) (F_val (.pointer (some ⟨g7, 0, none⟩)) (fun _ => by kernel_rfl) (F_load 1 0 (.agg #[.int .i64 p.1.1, .int .i64 p.1.2.1, .int .i64 p.1.2.2]) hM30 (by kernel_rfl) (F_call (s_umbraref20_Sub p.2.1 p.1) (fun r : Int × Int × Int => .agg #[.int .i64 r.1, .int .i64 r.2.1, .int .i64 r.2.2]) hM30 hL33 (fun w' hM' => w_umbraref20_Sub p.2.1 p.1 w') (by kernel_rfl) (fun _ => by kernel_rfl) (fun r34 h35 => F_val (.pointer (some ⟨g7, 6, none⟩)) (fun _ => by kernel_rfl) (?_))))))))))))
          have HR := hr_neg HR Bool.false_ne_true
          have HR := hr_lt HR h35
          refine F_load 1 6 (.agg #[.int .i64 p.2.2.1, .int .i64 p.2.2.2.1, .int .i64 p.2.2.2.2]) hM30 (by kernel_rfl) (F_val (.pointer (some ⟨g7, 0, none⟩)) (fun _ => by kernel_rfl) (F_load 1 0 (.agg #[.int .i64 p.1.1, .int .i64 p.1.2.1, .int .i64 p.1.2.2]) hM30 (by kernel_rfl) (F_call (s_umbraref20_Sub p.2.2 p.1) (fun r : Int × Int × Int => .agg #[.int .i64 r.1, .int .i64 r.2.1, .int .i64 r.2.2]) hM30 hL33 (fun w' hM' => w_umbraref20_Sub p.2.2 p.1 w') (by kernel_rfl) (fun _ => by kernel_rfl) (fun r36 h37 => F_fresh none #[.int .i64 0, .int .i64 0, .int .i64 0] 23 hL33 (by kernel_rfl) (fun _ => by kernel_rfl) (fun g38 F39 U40 hL41 => F_fresh none #[.int .i64 0, .int .i64 0, .int .i64 0] 23 hL41 (by kernel_rfl) (fun _ => by kernel_rfl) (fun g42 F43 U44 hL45 => F_nil hM30 hL45 (fun w46 hM47 => S_store 1 0 #[.int .i64 r34.1, .int .i64 r34.2.1, .int .i64 r34.2.2] hM47 (by kernel_rfl) (fun w48 hM49 => S_store 0 0 #[.int .i64 r36.1, .int .i64 r36.2.1, .int .i64 r36.2.2] hM49 (by kernel_rfl) (fun w50 hM51 => S_nil (R_seq (R_region (?_))))))))))))
          have HR := hr_lt HR h37
          refine S_load 4 0 (.agg #[.int .i64 d1_.1, .int .i64 d1_.2.1, .int .i64 d1_.2.2]) hM51 (by kernel_rfl) (S_load 0 0 (.agg #[.int .i64 r36.1, .int .i64 r36.2.1, .int .i64 r36.2.2]) hM51 (by kernel_rfl) (S_call (s_umbraref20_Cross d1_ r36) (fun r : Int × Int × Int => .agg #[.int .i64 r.1, .int .i64 r.2.1, .int .i64 r.2.2]) hM51 (w_umbraref20_Cross d1_ r36 w50) (by kernel_rfl) (fun r52 h53 w54 hM55 => S_fresh none #[.int .i64 0, .int .i64 0, .int .i64 0] 23 hM55 (by kernel_rfl) (fun g56 w57 hM58 => S_store 0 0 #[.int .i64 r52.1, .int .i64 r52.2.1, .int .i64 r52.2.2] hM58 (by kernel_rfl) (fun w59 hM60 => S_nil (R_seq (R_region (S_load 2 0 (.agg #[.int .i64 r34.1, .int .i64 r34.2.1, .int .i64 r34.2.2]) hM60 (by kernel_rfl) (S_load 0 0 (.agg #[.int .i64 r52.1, .int .i64 r52.2.1, .int .i64 r52.2.2]) hM60 (by kernel_rfl) (S_call (s_umbraref20_Dot r34 r52) (fun r : Int => .int .i64 r) hM60 (w_umbraref20_Dot r34 r52 w59) (by kernel_rfl) (fun r61 h62 w63 hM64 => S_val (.int .i64 r61) (by kernel_rfl) (?_))))))))))))
          have HR := hr_lt HR h53
          have HR := hr_lt HR h62
          refine S_nil (R_seq (R_region (S_load 6 0 (.agg #[.int .i64 o.1, .int .i64 o.2.1, .int .i64 o.2.2]) hM64 (by kernel_rfl) (S_val (.pointer (some ⟨g7, 0, none⟩)) (by kernel_rfl) (S_load 4 0 (.agg #[.int .i64 p.1.1, .int .i64 p.1.2.1, .int .i64 p.1.2.2]) hM64 (by kernel_rfl) (S_call (s_umbraref20_Sub o p.1) (fun r : Int × Int × Int => .agg #[.int .i64 r.1, .int .i64 r.2.1, .int .i64 r.2.2]) hM64 (w_umbraref20_Sub o p.1 w63) (by kernel_rfl) (fun r65 h66 w67 hM68 => S_fresh none #[.int .i64 0, .int .i64 0, .int .i64 0] 23 hM68 (by kernel_rfl) (fun g69 w70 hM71 => S_store 0 0 #[.int .i64 r65.1, .int .i64 r65.2.1, .int .i64 r65.2.2] hM71 (by kernel_rfl) (fun w72 hM73 => S_nil (R_seq (R_region (?_))))))))))))
          have HR := hr_lt HR h66
          refine S_load 0 0 (.agg #[.int .i64 r65.1, .int .i64 r65.2.1, .int .i64 r65.2.2]) hM73 (by kernel_rfl) (S_load 1 0 (.agg #[.int .i64 r52.1, .int .i64 r52.2.1, .int .i64 r52.2.2]) hM73 (by kernel_rfl) (S_call (s_umbraref20_Dot r65 r52) (fun r : Int => .int .i64 r) hM73 (w_umbraref20_Dot r65 r52 w72) (by kernel_rfl) (fun r74 h75 w76 hM77 => S_val (.int .i64 r74) (by kernel_rfl) (S_nil (R_seq (R_region (S_load 0 0 (.agg #[.int .i64 r65.1, .int .i64 r65.2.1, .int .i64 r65.2.2]) hM77 (by kernel_rfl) (S_load 3 0 (.agg #[.int .i64 r34.1, .int .i64 r34.2.1, .int .i64 r34.2.2]) hM77 (by kernel_rfl) (S_call (s_umbraref20_Cross r65 r34) (fun r : Int × Int × Int => .agg #[.int .i64 r.1, .int .i64 r.2.1, .int .i64 r.2.2]) hM77 (w_umbraref20_Cross r65 r34 w76) (by kernel_rfl) (fun r78 h79 w80 hM81 => S_fresh none #[.int .i64 0, .int .i64 0, .int .i64 0] 23 hM81 (by kernel_rfl) (fun g82 w83 hM84 => S_store 0 0 #[.int .i64 r78.1, .int .i64 r78.2.1, .int .i64 r78.2.2] hM84 (by kernel_rfl) (fun w85 hM86 => ?_))))))))))))
          have HR := hr_lt HR h75
          have HR := hr_lt HR h79
          refine S_nil (R_seq (R_region (S_load 7 0 (.agg #[.int .i64 d1_.1, .int .i64 d1_.2.1, .int .i64 d1_.2.2]) hM86 (by kernel_rfl) (S_load 0 0 (.agg #[.int .i64 r78.1, .int .i64 r78.2.1, .int .i64 r78.2.2]) hM86 (by kernel_rfl) (S_call (s_umbraref20_Dot d1_ r78) (fun r : Int => .int .i64 r) hM86 (w_umbraref20_Dot d1_ r78 w85) (by kernel_rfl) (fun r87 h88 w89 hM90 => S_val (.int .i64 r87) (by kernel_rfl) (S_nil (R_seq (R_region (S_load 3 0 (.agg #[.int .i64 r36.1, .int .i64 r36.2.1, .int .i64 r36.2.2]) hM90 (by kernel_rfl) (S_load 0 0 (.agg #[.int .i64 r78.1, .int .i64 r78.2.1, .int .i64 r78.2.2]) hM90 (by kernel_rfl) (?_))))))))))))
          have HR := hr_lt HR h88
          refine S_call (s_umbraref20_Dot r36 r78) (fun r : Int => .int .i64 r) hM90 (w_umbraref20_Dot r36 r78 w89) (by kernel_rfl) (fun r91 h92 w93 hM94 => S_val (.int .i64 r91) (by kernel_rfl) (S_nil (R_seq (R_seq (R_region (S_val (.int .i64 r61) (by kernel_rfl) (?_)))))))
          have HR := hr_lt HR h92
          refine S_dec (r61 < 0) (by kernel_rfl) (fun c95 => ?_) (fun c95 => ?_)
          · refine S_nil (R_yes (by kernel_rfl) (R_region (S_val (.int .i64 r61) (by kernel_rfl) (S_int (IntKind.i64.wrap (0 - r61)) .i64 (by kernel_rfl) (fun x96 h97 => S_val (.int .i64 r74) (by kernel_rfl) (S_int (IntKind.i64.wrap (0 - r74)) .i64 (by kernel_rfl) (fun x98 h99 => S_val (.int .i64 r87) (by kernel_rfl) (S_int (IntKind.i64.wrap (0 - r87)) .i64 (by kernel_rfl) (fun x100 h101 => S_val (.int .i64 r91) (by kernel_rfl) (S_int (IntKind.i64.wrap (0 - r91)) .i64 (by kernel_rfl) (fun x102 h103 => S_val (.int .i64 x96) (by kernel_rfl) (?_))))))))))))
            have HR := hr_pos HR c95
            have HR := hr_lt HR h97
            have HR := hr_lt HR h99
            have HR := hr_lt HR h101
            have HR := hr_lt HR h103
            refine S_val (.int .i64 x98) (by kernel_rfl) (S_val (.int .i64 x100) (by kernel_rfl) (S_val (.int .i64 x102) (by kernel_rfl) (S_nil (R_seq (R_seq (R_region (S_val (.int .i64 x96) (by kernel_rfl) (?_))))))))
            refine S_dec (x96 = 0) (by kernel_rfl) (fun c104 => ?_) (fun c104 => ?_)
            · refine S_val (.bool true) (by kernel_rfl) (S_skip (by kernel_rfl) (S_skip (by kernel_rfl) (S_val (.bool true) (by kernel_rfl) (S_val (.bool true) (by kernel_rfl) (S_skip (by kernel_rfl) (S_skip (by kernel_rfl) (S_val (.bool true) (by kernel_rfl) (S_val (.bool true) (by kernel_rfl) (S_skip (by kernel_rfl) (S_skip (by kernel_rfl) (S_skip (by kernel_rfl) (?_))))))))))))
              have HR := hr_pos HR c104
              refine S_skip (by kernel_rfl) (S_skip (by kernel_rfl) (S_val (.bool true) (by kernel_rfl) (S_val (.bool true) (by kernel_rfl) (S_skip (by kernel_rfl) (S_skip (by kernel_rfl) (S_val (.bool true) (by kernel_rfl) (S_nil (R_yes (by kernel_rfl) (R_seq (R_region (S_val (.agg #[.int .i64 0, .int .i64 0, .int .i64 0, .int .i64 0]) (by kernel_rfl) (?_))))))))))))
              refine S_store 5 0 #[.int .i64 0, .int .i64 0, .int .i64 0, .int .i64 0] hM94 (by kernel_rfl) (fun w105 hM106 => S_val (.bool false) (by kernel_rfl) (S_nil (?_)))
              refine R_ret hM106 rfl (.cons (.cell _ _ 5 0 (.agg #[.int .i64 0, .int .i64 0, .int .i64 0, .int .i64 0]) (by kernel_rfl)) (.cons (.tmp _ (.bool false) (by kernel_rfl)) .nil)) rfl ?_
              exact ⟨congrArg Ending.returned HR, hM106.below⟩
            · refine S_val (.bool false) (by kernel_rfl) (S_val (.int .i64 x98) (by kernel_rfl) (?_))
              have HR := hr_neg HR c104
              refine S_dec (x98 < 0) (by kernel_rfl) (fun c107 => ?_) (fun c107 => ?_)
              · refine S_val (.bool true) (by kernel_rfl) (S_val (.bool true) (by kernel_rfl) (S_skip (by kernel_rfl) (S_skip (by kernel_rfl) (S_val (.bool true) (by kernel_rfl) (S_val (.bool true) (by kernel_rfl) (S_skip (by kernel_rfl) (S_skip (by kernel_rfl) (S_skip (by kernel_rfl) (S_skip (by kernel_rfl) (S_skip (by kernel_rfl) (S_val (.bool true) (by kernel_rfl) (?_))))))))))))
                have HR := hr_pos HR c107
                refine S_val (.bool true) (by kernel_rfl) (S_skip (by kernel_rfl) (S_skip (by kernel_rfl) (S_val (.bool true) (by kernel_rfl) (S_nil (R_yes (by kernel_rfl) (R_seq (R_region (S_val (.agg #[.int .i64 0, .int .i64 0, .int .i64 0, .int .i64 0]) (by kernel_rfl) (S_store 5 0 #[.int .i64 0, .int .i64 0, .int .i64 0, .int .i64 0] hM94 (by kernel_rfl) (fun w108 hM109 => S_val (.bool false) (by kernel_rfl) (S_nil (?_))))))))))))
                refine R_ret hM109 rfl (.cons (.cell _ _ 5 0 (.agg #[.int .i64 0, .int .i64 0, .int .i64 0, .int .i64 0]) (by kernel_rfl)) (.cons (.tmp _ (.bool false) (by kernel_rfl)) .nil)) rfl ?_
                exact ⟨congrArg Ending.returned HR, hM109.below⟩
              · refine S_val (.bool false) (by kernel_rfl) (S_val (.bool false) (by kernel_rfl) (S_val (.int .i64 x100) (by kernel_rfl) (?_)))
                have HR := hr_neg HR c107
                refine S_dec (x100 < 0) (by kernel_rfl) (fun c110 => ?_) (fun c110 => ?_)
                · refine S_val (.bool true) (by kernel_rfl) (S_val (.bool true) (by kernel_rfl) (S_skip (by kernel_rfl) (S_skip (by kernel_rfl) (S_skip (by kernel_rfl) (S_skip (by kernel_rfl) (S_skip (by kernel_rfl) (S_val (.bool true) (by kernel_rfl) (S_val (.bool true) (by kernel_rfl) (S_skip (by kernel_rfl) (S_skip (by kernel_rfl) (S_val (.bool true) (by kernel_rfl) (?_))))))))))))
                  have HR := hr_pos HR c110
                  refine S_nil (R_yes (by kernel_rfl) (R_seq (R_region (S_val (.agg #[.int .i64 0, .int .i64 0, .int .i64 0, .int .i64 0]) (by kernel_rfl) (S_store 5 0 #[.int .i64 0, .int .i64 0, .int .i64 0, .int .i64 0] hM94 (by kernel_rfl) (fun w111 hM112 => S_val (.bool false) (by kernel_rfl) (S_nil (?_))))))))
                  refine R_ret hM112 rfl (.cons (.cell _ _ 5 0 (.agg #[.int .i64 0, .int .i64 0, .int .i64 0, .int .i64 0]) (by kernel_rfl)) (.cons (.tmp _ (.bool false) (by kernel_rfl)) .nil)) rfl ?_
                  exact ⟨congrArg Ending.returned HR, hM112.below⟩
                · refine S_val (.bool false) (by kernel_rfl) (S_val (.bool false) (by kernel_rfl) (S_val (.int .i64 x98) (by kernel_rfl) (S_val (.int .i64 x100) (by kernel_rfl) (S_int (IntKind.i64.wrap (x98 + x100)) .i64 (by kernel_rfl) (fun x113 h114 => S_val (.int .i64 x96) (by kernel_rfl) (?_))))))
                  have HR := hr_neg HR c110
                  have HR := hr_lt HR h114
                  refine S_dec (x113 > x96) (by kernel_rfl) (fun c115 => ?_) (fun c115 => ?_)
                  · refine S_val (.bool true) (by kernel_rfl) (S_val (.bool true) (by kernel_rfl) (S_skip (by kernel_rfl) (S_skip (by kernel_rfl) (S_val (.bool true) (by kernel_rfl) (S_nil (R_yes (by kernel_rfl) (R_seq (R_region (S_val (.agg #[.int .i64 0, .int .i64 0, .int .i64 0, .int .i64 0]) (by kernel_rfl) (S_store 5 0 #[.int .i64 0, .int .i64 0, .int .i64 0, .int .i64 0] hM94 (by kernel_rfl) (fun w116 hM117 => S_val (.bool false) (by kernel_rfl) (?_))))))))))))
                    have HR := hr_pos HR c115
                    refine S_nil (?_)
                    refine R_ret hM117 rfl (.cons (.cell _ _ 5 0 (.agg #[.int .i64 0, .int .i64 0, .int .i64 0, .int .i64 0]) (by kernel_rfl)) (.cons (.tmp _ (.bool false) (by kernel_rfl)) .nil)) rfl ?_
                    exact ⟨congrArg Ending.returned HR, hM117.below⟩
                  · refine S_val (.bool false) (by kernel_rfl) (S_val (.bool false) (by kernel_rfl) (S_val (.int .i64 x102) (by kernel_rfl) (?_)))
                    have HR := hr_neg HR c115
                    refine S_dec (x102 ≤ 0) (by kernel_rfl) (fun c118 => ?_) (fun c118 => ?_)
                    · refine S_val (.bool true) (by kernel_rfl) (S_nil (R_yes (by kernel_rfl) (R_seq (R_region (S_val (.agg #[.int .i64 0, .int .i64 0, .int .i64 0, .int .i64 0]) (by kernel_rfl) (S_store 5 0 #[.int .i64 0, .int .i64 0, .int .i64 0, .int .i64 0] hM94 (by kernel_rfl) (fun w119 hM120 => S_val (.bool false) (by kernel_rfl) (S_nil (?_)))))))))
                      have HR := hr_pos HR c118
                      refine R_ret hM120 rfl (.cons (.cell _ _ 5 0 (.agg #[.int .i64 0, .int .i64 0, .int .i64 0, .int .i64 0]) (by kernel_rfl)) (.cons (.tmp _ (.bool false) (by kernel_rfl)) .nil)) rfl ?_
                      exact ⟨congrArg Ending.returned HR, hM120.below⟩
                    · refine S_val (.bool false) (by kernel_rfl) (S_nil (R_no (by kernel_rfl) (R_skip (R_seq (R_region (S_val (.int .i64 x102) (by kernel_rfl) (S_val (.int .i64 x96) (by kernel_rfl) (S_val (.int .i64 x98) (by kernel_rfl) (S_val (.int .i64 x100) (by kernel_rfl) (S_val (.agg #[.int .i64 x102, .int .i64 x96, .int .i64 x98, .int .i64 x100]) (by kernel_rfl) (S_store 5 0 #[.int .i64 x102, .int .i64 x96, .int .i64 x98, .int .i64 x100] hM94 (by kernel_rfl) (fun w121 hM122 => ?_))))))))))))
                      have HR := hr_neg HR c118
                      refine S_val (.bool true) (by kernel_rfl) (S_nil (?_))
                      refine R_ret hM122 rfl (.cons (.cell _ _ 5 0 (.agg #[.int .i64 x102, .int .i64 x96, .int .i64 x98, .int .i64 x100]) (by kernel_rfl)) (.cons (.tmp _ (.bool true) (by kernel_rfl)) .nil)) rfl ?_
                      exact ⟨congrArg Ending.returned HR, hM122.below⟩
          · refine S_nil (R_no (by kernel_rfl) (R_skip (R_seq (R_seq (R_region (S_val (.int .i64 r61) (by kernel_rfl) (?_)))))))
            have HR := hr_neg HR c95
            refine S_dec (r61 = 0) (by kernel_rfl) (fun c123 => ?_) (fun c123 => ?_)
            · refine S_val (.bool true) (by kernel_rfl) (S_skip (by kernel_rfl) (S_skip (by kernel_rfl) (S_val (.bool true) (by kernel_rfl) (S_val (.bool true) (by kernel_rfl) (S_skip (by kernel_rfl) (S_skip (by kernel_rfl) (S_val (.bool true) (by kernel_rfl) (S_val (.bool true) (by kernel_rfl) (S_skip (by kernel_rfl) (S_skip (by kernel_rfl) (S_skip (by kernel_rfl) (?_))))))))))))
              have HR := hr_pos HR c123
              refine S_skip (by kernel_rfl) (S_skip (by kernel_rfl) (S_val (.bool true) (by kernel_rfl) (S_val (.bool true) (by kernel_rfl) (S_skip (by kernel_rfl) (S_skip (by kernel_rfl) (S_val (.bool true) (by kernel_rfl) (S_nil (R_yes (by kernel_rfl) (R_seq (R_region (S_val (.agg #[.int .i64 0, .int .i64 0, .int .i64 0, .int .i64 0]) (by kernel_rfl) (?_))))))))))))
              refine S_store 5 0 #[.int .i64 0, .int .i64 0, .int .i64 0, .int .i64 0] hM94 (by kernel_rfl) (fun w124 hM125 => S_val (.bool false) (by kernel_rfl) (S_nil (?_)))
              refine R_ret hM125 rfl (.cons (.cell _ _ 5 0 (.agg #[.int .i64 0, .int .i64 0, .int .i64 0, .int .i64 0]) (by kernel_rfl)) (.cons (.tmp _ (.bool false) (by kernel_rfl)) .nil)) rfl ?_
              exact ⟨congrArg Ending.returned HR, hM125.below⟩
            · refine S_val (.bool false) (by kernel_rfl) (S_val (.int .i64 r74) (by kernel_rfl) (?_))
              have HR := hr_neg HR c123
              refine S_dec (r74 < 0) (by kernel_rfl) (fun c126 => ?_) (fun c126 => ?_)
              · refine S_val (.bool true) (by kernel_rfl) (S_val (.bool true) (by kernel_rfl) (S_skip (by kernel_rfl) (S_skip (by kernel_rfl) (S_val (.bool true) (by kernel_rfl) (S_val (.bool true) (by kernel_rfl) (S_skip (by kernel_rfl) (S_skip (by kernel_rfl) (S_skip (by kernel_rfl) (S_skip (by kernel_rfl) (S_skip (by kernel_rfl) (S_val (.bool true) (by kernel_rfl) (?_))))))))))))
                have HR := hr_pos HR c126
                refine S_val (.bool true) (by kernel_rfl) (S_skip (by kernel_rfl) (S_skip (by kernel_rfl) (S_val (.bool true) (by kernel_rfl) (S_nil (R_yes (by kernel_rfl) (R_seq (R_region (S_val (.agg #[.int .i64 0, .int .i64 0, .int .i64 0, .int .i64 0]) (by kernel_rfl) (S_store 5 0 #[.int .i64 0, .int .i64 0, .int .i64 0, .int .i64 0] hM94 (by kernel_rfl) (fun w127 hM128 => S_val (.bool false) (by kernel_rfl) (S_nil (?_))))))))))))
                refine R_ret hM128 rfl (.cons (.cell _ _ 5 0 (.agg #[.int .i64 0, .int .i64 0, .int .i64 0, .int .i64 0]) (by kernel_rfl)) (.cons (.tmp _ (.bool false) (by kernel_rfl)) .nil)) rfl ?_
                exact ⟨congrArg Ending.returned HR, hM128.below⟩
              · refine S_val (.bool false) (by kernel_rfl) (S_val (.bool false) (by kernel_rfl) (S_val (.int .i64 r87) (by kernel_rfl) (?_)))
                have HR := hr_neg HR c126
                refine S_dec (r87 < 0) (by kernel_rfl) (fun c129 => ?_) (fun c129 => ?_)
                · refine S_val (.bool true) (by kernel_rfl) (S_val (.bool true) (by kernel_rfl) (S_skip (by kernel_rfl) (S_skip (by kernel_rfl) (S_skip (by kernel_rfl) (S_skip (by kernel_rfl) (S_skip (by kernel_rfl) (S_val (.bool true) (by kernel_rfl) (S_val (.bool true) (by kernel_rfl) (S_skip (by kernel_rfl) (S_skip (by kernel_rfl) (S_val (.bool true) (by kernel_rfl) (?_))))))))))))
                  have HR := hr_pos HR c129
                  refine S_nil (R_yes (by kernel_rfl) (R_seq (R_region (S_val (.agg #[.int .i64 0, .int .i64 0, .int .i64 0, .int .i64 0]) (by kernel_rfl) (S_store 5 0 #[.int .i64 0, .int .i64 0, .int .i64 0, .int .i64 0] hM94 (by kernel_rfl) (fun w130 hM131 => S_val (.bool false) (by kernel_rfl) (S_nil (?_))))))))
                  refine R_ret hM131 rfl (.cons (.cell _ _ 5 0 (.agg #[.int .i64 0, .int .i64 0, .int .i64 0, .int .i64 0]) (by kernel_rfl)) (.cons (.tmp _ (.bool false) (by kernel_rfl)) .nil)) rfl ?_
                  exact ⟨congrArg Ending.returned HR, hM131.below⟩
                · refine S_val (.bool false) (by kernel_rfl) (S_val (.bool false) (by kernel_rfl) (S_val (.int .i64 r74) (by kernel_rfl) (S_val (.int .i64 r87) (by kernel_rfl) (S_int (IntKind.i64.wrap (r74 + r87)) .i64 (by kernel_rfl) (fun x132 h133 => S_val (.int .i64 r61) (by kernel_rfl) (?_))))))
                  have HR := hr_neg HR c129
                  have HR := hr_lt HR h133
                  refine S_dec (x132 > r61) (by kernel_rfl) (fun c134 => ?_) (fun c134 => ?_)
                  · refine S_val (.bool true) (by kernel_rfl) (S_val (.bool true) (by kernel_rfl) (S_skip (by kernel_rfl) (S_skip (by kernel_rfl) (S_val (.bool true) (by kernel_rfl) (S_nil (R_yes (by kernel_rfl) (R_seq (R_region (S_val (.agg #[.int .i64 0, .int .i64 0, .int .i64 0, .int .i64 0]) (by kernel_rfl) (S_store 5 0 #[.int .i64 0, .int .i64 0, .int .i64 0, .int .i64 0] hM94 (by kernel_rfl) (fun w135 hM136 => S_val (.bool false) (by kernel_rfl) (?_))))))))))))
                    have HR := hr_pos HR c134
                    refine S_nil (?_)
                    refine R_ret hM136 rfl (.cons (.cell _ _ 5 0 (.agg #[.int .i64 0, .int .i64 0, .int .i64 0, .int .i64 0]) (by kernel_rfl)) (.cons (.tmp _ (.bool false) (by kernel_rfl)) .nil)) rfl ?_
                    exact ⟨congrArg Ending.returned HR, hM136.below⟩
                  · refine S_val (.bool false) (by kernel_rfl) (S_val (.bool false) (by kernel_rfl) (S_val (.int .i64 r91) (by kernel_rfl) (?_)))
                    have HR := hr_neg HR c134
                    refine S_dec (r91 ≤ 0) (by kernel_rfl) (fun c137 => ?_) (fun c137 => ?_)
                    · refine S_val (.bool true) (by kernel_rfl) (S_nil (R_yes (by kernel_rfl) (R_seq (R_region (S_val (.agg #[.int .i64 0, .int .i64 0, .int .i64 0, .int .i64 0]) (by kernel_rfl) (S_store 5 0 #[.int .i64 0, .int .i64 0, .int .i64 0, .int .i64 0] hM94 (by kernel_rfl) (fun w138 hM139 => S_val (.bool false) (by kernel_rfl) (S_nil (?_)))))))))
                      have HR := hr_pos HR c137
                      refine R_ret hM139 rfl (.cons (.cell _ _ 5 0 (.agg #[.int .i64 0, .int .i64 0, .int .i64 0, .int .i64 0]) (by kernel_rfl)) (.cons (.tmp _ (.bool false) (by kernel_rfl)) .nil)) rfl ?_
                      exact ⟨congrArg Ending.returned HR, hM139.below⟩
                    · refine S_val (.bool false) (by kernel_rfl) (S_nil (R_no (by kernel_rfl) (R_skip (R_seq (R_region (S_val (.int .i64 r91) (by kernel_rfl) (S_val (.int .i64 r61) (by kernel_rfl) (S_val (.int .i64 r74) (by kernel_rfl) (S_val (.int .i64 r87) (by kernel_rfl) (S_val (.agg #[.int .i64 r91, .int .i64 r61, .int .i64 r74, .int .i64 r87]) (by kernel_rfl) (S_store 5 0 #[.int .i64 r91, .int .i64 r61, .int .i64 r74, .int .i64 r87] hM94 (by kernel_rfl) (fun w140 hM141 => ?_))))))))))))
                      have HR := hr_neg HR c137
                      refine S_val (.bool true) (by kernel_rfl) (S_nil (?_))
                      refine R_ret hM141 rfl (.cons (.cell _ _ 5 0 (.agg #[.int .i64 r91, .int .i64 r61, .int .i64 r74, .int .i64 r87]) (by kernel_rfl)) (.cons (.tmp _ (.bool true) (by kernel_rfl)) .nil)) rfl ?_
                      exact ⟨congrArg Ending.returned HR, hM141.below⟩
        · refine S_val (.bool true) (by kernel_rfl) (S_nil (R_yes (by kernel_rfl) (R_seq (R_region (S_val (.agg #[.int .i64 0, .int .i64 0, .int .i64 0, .int .i64 0]) (by kernel_rfl) (S_store 0 0 #[.int .i64 0, .int .i64 0, .int .i64 0, .int .i64 0] hM30 (by kernel_rfl) (fun w142 hM143 => S_val (.bool false) (by kernel_rfl) (S_nil (?_)))))))))
          have HR := hr_pos HR rfl
          refine R_ret hM143 rfl (.cons (.cell _ _ 0 0 (.agg #[.int .i64 0, .int .i64 0, .int .i64 0, .int .i64 0]) (by kernel_rfl)) (.cons (.tmp _ (.bool false) (by kernel_rfl)) .nil)) rfl ?_
          exact ⟨congrArg Ending.returned HR, hM143.below⟩
      · refine S_val (.bool true) (by kernel_rfl) (S_val (.bool true) (by kernel_rfl) (S_skip (by kernel_rfl) (S_skip (by kernel_rfl) (S_skip (by kernel_rfl) (S_val (.bool true) (by kernel_rfl) (S_nil (R_yes (by kernel_rfl) (R_seq (R_region (S_val (.agg #[.int .i64 0, .int .i64 0, .int .i64 0, .int .i64 0]) (by kernel_rfl) (S_store 0 0 #[.int .i64 0, .int .i64 0, .int .i64 0, .int .i64 0] hM26 (by kernel_rfl) (fun w144 hM145 => ?_))))))))))))
        have HR := hr_pos HR rfl
        refine S_val (.bool false) (by kernel_rfl) (S_nil (?_))
        refine R_ret hM145 rfl (.cons (.cell _ _ 0 0 (.agg #[.int .i64 0, .int .i64 0, .int .i64 0, .int .i64 0]) (by kernel_rfl)) (.cons (.tmp _ (.bool false) (by kernel_rfl)) .nil)) rfl ?_
        exact ⟨congrArg Ending.returned HR, hM145.below⟩
    · refine S_val (.bool true) (by kernel_rfl) (S_val (.bool true) (by kernel_rfl) (S_skip (by kernel_rfl) (S_skip (by kernel_rfl) (S_skip (by kernel_rfl) (S_val (.bool true) (by kernel_rfl) (S_val (.bool true) (by kernel_rfl) (S_skip (by kernel_rfl) (S_skip (by kernel_rfl) (S_skip (by kernel_rfl) (S_val (.bool true) (by kernel_rfl) (S_nil (?_))))))))))))
      have HR := hr_pos HR rfl
      refine R_yes (by kernel_rfl) (R_seq (R_region (S_val (.agg #[.int .i64 0, .int .i64 0, .int .i64 0, .int .i64 0]) (by kernel_rfl) (S_store 0 0 #[.int .i64 0, .int .i64 0, .int .i64 0, .int .i64 0] hM22 (by kernel_rfl) (fun w146 hM147 => S_val (.bool false) (by kernel_rfl) (S_nil (?_)))))))
      refine R_ret hM147 rfl (.cons (.cell _ _ 0 0 (.agg #[.int .i64 0, .int .i64 0, .int .i64 0, .int .i64 0]) (by kernel_rfl)) (.cons (.tmp _ (.bool false) (by kernel_rfl)) .nil)) rfl ?_
      exact ⟨congrArg Ending.returned HR, hM147.below⟩

end Go.Proofs.Ytbfgmedjogjkeaa
