/- Walk: umbralaw20.TriAimed. -/
import Derived.Test.YtbfgmedjogjkeaaL20b
import Derived.Test.YtbfgmedjogjkeaaGoW
namespace Go.Proofs.Ytbfgmedjogjkeaa
open Go.RowKit Go.Sort
set_option linter.unusedVariables false
set_option linter.unusedSimpArgs false

def e_umbralaw20_far (r : Bool) : Value := .bool r
def s_umbralaw20_far (p : Int × Int × Int) (most : Int) : Bool :=
  lt (gmax (gmax p.1 p.2.1) p.2.2) fun x4 =>
  if x4 > most then
    true
  else
    lt (gmin (gmin p.1 p.2.1) p.2.2) fun x7 =>
    lt (IntKind.i64.wrap (0 - most)) fun x9 =>
    if x7 < x9 then
      true
    else
      false
set_option maxRecDepth 100000 in
set_option maxHeartbeats 4000000 in
theorem w_umbralaw20_far (p : Int × Int × Int) (most : Int) (w : World) : Calls Try.prog 39 #[.agg #[.int .i64 p.1, .int .i64 p.2.1, .int .i64 p.2.2], .int .i64 most] w (Ret (e_umbralaw20_far (s_umbralaw20_far p most)) w) := by
  obtain ⟨R, HR⟩ : ∃ R, e_umbralaw20_far (s_umbralaw20_far p most) = R := ⟨_, rfl⟩
  rw [HR]
  unfold s_umbralaw20_far at HR
  have hM0 := St.start w
  refine calls_run Try.func39 rfl ?_
  refine R_seq (R_region (S_fresh none #[.int .i64 p.1, .int .i64 p.2.1, .int .i64 p.2.2] 23 hM0 (by kernel_rfl) (fun g1 w2 hM3 => S_val (.bool false) (by kernel_rfl) (S_nil (R_seq (R_region (S_val (.pointer (some ⟨g1, 0, none⟩)) (by kernel_rfl) (S_load 0 0 (.int .i64 p.1) hM3 (by kernel_rfl) (S_val (.pointer (some ⟨g1, 1, none⟩)) (by kernel_rfl) (S_load 0 1 (.int .i64 p.2.1) hM3 (by kernel_rfl) (S_val (.pointer (some ⟨g1, 2, none⟩)) (by kernel_rfl) (?_))))))))))))
  refine S_load 0 2 (.int .i64 p.2.2) hM3 (by kernel_rfl) (S_int (gmax (gmax p.1 p.2.1) p.2.2) .i64 (by kernel_rfl) (fun x4 h5 => S_val (.int .i64 most) (by kernel_rfl) (?_)))
  have HR := hr_lt HR h5
  refine S_dec (x4 > most) (by kernel_rfl) (fun c6 => ?_) (fun c6 => ?_)
  · refine S_val (.bool true) (by kernel_rfl) (S_skip (by kernel_rfl) (S_skip (by kernel_rfl) (S_skip (by kernel_rfl) (S_skip (by kernel_rfl) (S_skip (by kernel_rfl) (S_skip (by kernel_rfl) (S_skip (by kernel_rfl) (S_skip (by kernel_rfl) (S_skip (by kernel_rfl) (S_skip (by kernel_rfl) (S_val (.bool true) (by kernel_rfl) (?_))))))))))))
    have HR := hr_pos HR c6
    refine S_val (.bool true) (by kernel_rfl) (S_nil (?_))
    refine R_ret hM3 rfl (.cons (.tmp _ (.bool true) (by kernel_rfl)) .nil) rfl ?_
    exact ⟨congrArg Ending.returned HR, hM3.below⟩
  · refine S_val (.bool false) (by kernel_rfl) (S_val (.pointer (some ⟨g1, 0, none⟩)) (by kernel_rfl) (S_load 0 0 (.int .i64 p.1) hM3 (by kernel_rfl) (S_val (.pointer (some ⟨g1, 1, none⟩)) (by kernel_rfl) (S_load 0 1 (.int .i64 p.2.1) hM3 (by kernel_rfl) (S_val (.pointer (some ⟨g1, 2, none⟩)) (by kernel_rfl) (S_load 0 2 (.int .i64 p.2.2) hM3 (by kernel_rfl) (S_int (gmin (gmin p.1 p.2.1) p.2.2) .i64 (by kernel_rfl) (fun x7 h8 => S_val (.int .i64 most) (by kernel_rfl) (S_int (IntKind.i64.wrap (0 - most)) .i64 (by kernel_rfl) (fun x9 h10 => ?_))))))))))
    have HR := hr_neg HR c6
    have HR := hr_lt HR h8
    have HR := hr_lt HR h10
    refine S_dec (x7 < x9) (by kernel_rfl) (fun c11 => ?_) (fun c11 => ?_)
    · refine S_val (.bool true) (by kernel_rfl) (S_val (.bool true) (by kernel_rfl) (S_nil (?_)))
      have HR := hr_pos HR c11
      refine R_ret hM3 rfl (.cons (.tmp _ (.bool true) (by kernel_rfl)) .nil) rfl ?_
      exact ⟨congrArg Ending.returned HR, hM3.below⟩
    · refine S_val (.bool false) (by kernel_rfl) (S_val (.bool false) (by kernel_rfl) (S_nil (?_)))
      have HR := hr_neg HR c11
      refine R_ret hM3 rfl (.cons (.tmp _ (.bool false) (by kernel_rfl)) .nil) rfl ?_
      exact ⟨congrArg Ending.returned HR, hM3.below⟩

def e_umbralaw20_TriAimed_1 (r : Int × Int × Int) : Value := .agg #[.int .i64 r.1, .int .i64 r.2.1, .int .i64 r.2.2]
def s_umbralaw20_TriAimed_1 (x : Int × Int × Int) : Int × Int × Int :=
  lt (IntKind.i64.wrap (2 * x.1)) fun x7 =>
  lt (IntKind.i64.wrap (2 * x.2.1)) fun x9 =>
  lt (IntKind.i64.wrap (2 * x.2.2)) fun x11 =>
  (x7, x9, x11)
set_option maxRecDepth 100000 in
set_option maxHeartbeats 4000000 in
theorem w_umbralaw20_TriAimed_1 (x : Int × Int × Int) (w : World) : Calls Try.prog 43 #[.agg #[.int .i64 x.1, .int .i64 x.2.1, .int .i64 x.2.2]] w (Ret (e_umbralaw20_TriAimed_1 (s_umbralaw20_TriAimed_1 x)) w) := by
  obtain ⟨R, HR⟩ : ∃ R, e_umbralaw20_TriAimed_1 (s_umbralaw20_TriAimed_1 x) = R := ⟨_, rfl⟩
  rw [HR]
  unfold s_umbralaw20_TriAimed_1 at HR
  have hM0 := St.start w
  refine calls_run Try.func43 rfl ?_
  refine R_seq (R_region (S_fresh none #[.int .i64 x.1, .int .i64 x.2.1, .int .i64 x.2.2] 23 hM0 (by kernel_rfl) (fun g1 w2 hM3 => S_fresh none #[.int .i64 0, .int .i64 0, .int .i64 0] 23 hM3 (by kernel_rfl) (fun g4 w5 hM6 => S_nil (R_seq (R_region (S_val (.pointer (some ⟨g1, 0, none⟩)) (by kernel_rfl) (S_load 1 0 (.int .i64 x.1) hM6 (by kernel_rfl) (S_int (IntKind.i64.wrap (2 * x.1)) .i64 (by kernel_rfl) (fun x7 h8 => S_val (.pointer (some ⟨g1, 1, none⟩)) (by kernel_rfl) (S_load 1 1 (.int .i64 x.2.1) hM6 (by kernel_rfl) (?_))))))))))))
  have HR := hr_lt HR h8
  refine S_int (IntKind.i64.wrap (2 * x.2.1)) .i64 (by kernel_rfl) (fun x9 h10 => S_val (.pointer (some ⟨g1, 2, none⟩)) (by kernel_rfl) (S_load 1 2 (.int .i64 x.2.2) hM6 (by kernel_rfl) (S_int (IntKind.i64.wrap (2 * x.2.2)) .i64 (by kernel_rfl) (fun x11 h12 => S_val (.agg #[.int .i64 x7, .int .i64 x9, .int .i64 x11]) (by kernel_rfl) (S_store 0 0 #[.int .i64 x7, .int .i64 x9, .int .i64 x11] hM6 (by kernel_rfl) (fun w13 hM14 => S_nil (?_)))))))
  have HR := hr_lt HR h10
  have HR := hr_lt HR h12
  refine R_ret hM14 rfl (.cons (.cell _ _ 0 0 (.agg #[.int .i64 x7, .int .i64 x9, .int .i64 x11]) (by kernel_rfl)) .nil) rfl ?_
  exact ⟨congrArg Ending.returned HR, hM14.below⟩

theorem twice_I (x : T3) : InV (s_umbralaw20_TriAimed_1 x) := by
  unfold s_umbralaw20_TriAimed_1
  simp only [lt]
  exact ⟨wr_i64 rfl, wr_i64 rfl, wr_i64 rfl⟩
theorem sSub_I (a b : T3) : InV (s_tri_Sub a b) := by rw [sSub_eq]; exact tsub_I a b

def e_umbralaw20_TriAimed (r : Bool) : Value := .bool r
def s_umbralaw20_TriAimed (o : Int × Int × Int) (p : (Int × Int × Int) × (Int × Int × Int) × (Int × Int × Int)) : Bool :=
  lt (s_umbralaw20_far o 32768) fun r15 =>
  if r15 = true then
    lt (s_umbralaw20_works ) fun r339 =>
    if r339 = true then
      true
    else
      false
  else
    lt (s_umbralaw20_far p.1 32768) fun r24 =>
    if r24 = true then
      lt (s_umbralaw20_works ) fun r335 =>
      if r335 = true then
        true
      else
        false
    else
      lt (s_umbralaw20_far p.2.1 32768) fun r33 =>
      if r33 = true then
        lt (s_umbralaw20_works ) fun r331 =>
        if r331 = true then
          true
        else
          false
      else
        lt (s_umbralaw20_far p.2.2 32768) fun r42 =>
        if r42 = true then
          lt (s_umbralaw20_works ) fun r327 =>
          if r327 = true then
            true
          else
            false
        else
          lt (s_tri_Sub p.2.1 p.1) fun r49 =>
          lt (s_tri_Sub p.2.2 p.1) fun r51 =>
          lt (s_tri_Cross r49 r51) fun r53 =>
          lt (s_tri_Sub o p.1) fun r66 =>
          lt (s_tri_Dot r66 r53) fun r68 =>
          if r68 = 0 then
            lt (s_umbralaw20_works ) fun r73 =>
            if r73 = true then
              true
            else
              false
          else
            lt (s_umbralaw20_TriAimed_1 p.1) fun r82 =>
            lt (s_umbralaw20_TriAimed_1 p.2.1) fun r84 =>
            lt (s_umbralaw20_TriAimed_1 p.2.2) fun r86 =>
            lt (s_umbralaw20_TriAimed_1 o) fun r96 =>
            lt (IntKind.i64.wrap (p.2.1.1 + p.2.2.1)) fun x105 =>
            lt (IntKind.i64.wrap (p.2.1.2.1 + p.2.2.2.1)) fun x107 =>
            lt (IntKind.i64.wrap (p.2.1.2.2 + p.2.2.2.2)) fun x109 =>
            lt (s_tri_Sub r82 r96) fun r127 =>
            lt (hitT r96 r127 (r82, r84, r86)) fun r129 =>
            if r129.2 = true then
              if r129.1.1 = r129.1.2.1 then
                lt (s_tri_Sub r82 r96) fun r161 =>
                lt (placeV r96 r161 r129.1) fun r163 =>
                if (r163 : Int × Int × Int) = r82 then
                  lt (s_tri_Sub r84 r96) fun r178 =>
                  lt (hitT r96 r178 (r82, r84, r86)) fun r180 =>
                  if r180.2 = true then
                    if r180.1.1 = r180.1.2.1 then
                      lt (s_tri_Sub r84 r96) fun r212 =>
                      lt (placeV r96 r212 r180.1) fun r214 =>
                      if (r214 : Int × Int × Int) = r84 then
                        lt (s_tri_Sub r86 r96) fun r229 =>
                        lt (hitT r96 r229 (r82, r84, r86)) fun r231 =>
                        if r231.2 = true then
                          if r231.1.1 = r231.1.2.1 then
                            lt (s_tri_Sub r86 r96) fun r263 =>
                            lt (placeV r96 r263 r231.1) fun r265 =>
                            if (r265 : Int × Int × Int) = r86 then
                              lt (s_tri_Sub (x105, x107, x109) r96) fun r280 =>
                              lt (hitT r96 r280 (r82, r84, r86)) fun r282 =>
                              if r282.2 = true then
                                if r282.1.1 = r282.1.2.1 then
                                  lt (s_tri_Sub (x105, x107, x109) r96) fun r314 =>
                                  lt (placeV r96 r314 r282.1) fun r316 =>
                                  if (r316 : Int × Int × Int) = (x105, x107, x109) then
                                    lt (s_umbralaw20_works ) fun r323 =>
                                    if r323 = true then
                                      true
                                    else
                                      false
                                  else
                                    false
                                else
                                  false
                              else
                                false
                            else
                              false
                          else
                            false
                        else
                          false
                      else
                        false
                    else
                      false
                  else
                    false
                else
                  false
              else
                false
            else
              false
set_option maxRecDepth 100000 in
set_option maxHeartbeats 4000000 in
theorem w_umbralaw20_TriAimed (o : Int × Int × Int) (p : (Int × Int × Int) × (Int × Int × Int) × (Int × Int × Int)) (w : World) : Calls Try.prog 11 #[.agg #[.int .i64 o.1, .int .i64 o.2.1, .int .i64 o.2.2], .agg #[.int .i64 p.1.1, .int .i64 p.1.2.1, .int .i64 p.1.2.2, .int .i64 p.2.1.1, .int .i64 p.2.1.2.1, .int .i64 p.2.1.2.2, .int .i64 p.2.2.1, .int .i64 p.2.2.2.1, .int .i64 p.2.2.2.2]] w (Ret (e_umbralaw20_TriAimed (s_umbralaw20_TriAimed o p)) w) := by
  obtain ⟨R, HR⟩ : ∃ R, e_umbralaw20_TriAimed (s_umbralaw20_TriAimed o p) = R := ⟨_, rfl⟩
  rw [HR]
  unfold s_umbralaw20_TriAimed at HR
  have hM0 := St.start w
  refine calls_run Try.func11 rfl ?_
  refine R_seq (R_region (S_fresh none #[.int .i64 o.1, .int .i64 o.2.1, .int .i64 o.2.2] 23 hM0 (by kernel_rfl) (fun g1 w2 hM3 => S_fresh none #[.int .i64 p.1.1, .int .i64 p.1.2.1, .int .i64 p.1.2.2, .int .i64 p.2.1.1, .int .i64 p.2.1.2.1, .int .i64 p.2.1.2.2, .int .i64 p.2.2.1, .int .i64 p.2.2.2.1, .int .i64 p.2.2.2.2] 48 hM3 (by kernel_rfl) (fun g4 w5 hM6 => S_val (.bool false) (by kernel_rfl) (S_nil (R_seq (R_seq (R_region (S_load 1 0 (.agg #[.int .i64 o.1, .int .i64 o.2.1, .int .i64 o.2.2]) hM6 (by kernel_rfl) (S_val (.pointer (some ⟨g4, 0, none⟩)) (by kernel_rfl) (S_load 0 0 (.agg #[.int .i64 p.1.1, .int .i64 p.1.2.1, .int .i64 p.1.2.2]) hM6 (by kernel_rfl) (?_))))))))))))
  refine S_val (.pointer (some ⟨g4, 3, none⟩)) (by kernel_rfl) (S_load 0 3 (.agg #[.int .i64 p.2.1.1, .int .i64 p.2.1.2.1, .int .i64 p.2.1.2.2]) hM6 (by kernel_rfl) (S_val (.pointer (some ⟨g4, 6, none⟩)) (by kernel_rfl) (S_load 0 6 (.agg #[.int .i64 p.2.2.1, .int .i64 p.2.2.2.1, .int .i64 p.2.2.2.2]) hM6 (by kernel_rfl) (S_fresh (some 4) #[.int .i64 o.1, .int .i64 o.2.1, .int .i64 o.2.2, .int .i64 p.1.1, .int .i64 p.1.2.1, .int .i64 p.1.2.2, .int .i64 p.2.1.1, .int .i64 p.2.1.2.1, .int .i64 p.2.1.2.2, .int .i64 p.2.2.1, .int .i64 p.2.2.2.1, .int .i64 p.2.2.2.2] 23 hM6 (by kernel_rfl) (fun g7 w8 hM9 => S_val (.int .i64 4) (by kernel_rfl) (S_val (.int .i64 0) (by kernel_rfl) (S_nil (R_block (R_loop (R_seq (R_region (?_))))))))))))
  refine S_val (.bool true) (by kernel_rfl) (S_nil (R_seq (R_yes (by kernel_rfl) (R_skip (R_seq (R_block (R_seq (R_region (S_val (.pointer (some ⟨g7, 0, none⟩)) (by kernel_rfl) (S_load 0 0 (.agg #[.int .i64 o.1, .int .i64 o.2.1, .int .i64 o.2.2]) hM9 (by kernel_rfl) (S_fresh none #[.int .i64 0, .int .i64 0, .int .i64 0] 23 hM9 (by kernel_rfl) (fun g10 w11 hM12 => ?_))))))))))))
  refine S_store 0 0 #[.int .i64 o.1, .int .i64 o.2.1, .int .i64 o.2.2] hM12 (by kernel_rfl) (fun w13 hM14 => S_nil (R_seq (R_region (S_load 0 0 (.agg #[.int .i64 o.1, .int .i64 o.2.1, .int .i64 o.2.2]) hM14 (by kernel_rfl) (S_call (s_umbralaw20_far o 32768) (fun r : Bool => .bool r) hM14 (w_umbralaw20_far o 32768 w13) (by kernel_rfl) (fun r15 h16 w17 hM18 => ?_))))))
  have HR := hr_lt HR h16
  cases r15
  · refine S_nil (R_no (by kernel_rfl) (R_skip (R_inBlock (R_region (S_val (.int .i64 1) (by kernel_rfl) (S_val (.int .i64 1) (by kernel_rfl) (S_nil (R_inLoop (R_seq (R_region (S_val (.bool true) (by kernel_rfl) (?_))))))))))))
    have HR := hr_neg HR Bool.false_ne_true
    refine S_nil (R_seq (R_yes (by kernel_rfl) (R_skip (R_seq (R_block (R_seq (R_region (S_val (.pointer (some ⟨g7, 3, none⟩)) (by kernel_rfl) (S_load 1 3 (.agg #[.int .i64 p.1.1, .int .i64 p.1.2.1, .int .i64 p.1.2.2]) hM18 (by kernel_rfl) (S_fresh none #[.int .i64 0, .int .i64 0, .int .i64 0] 23 hM18 (by kernel_rfl) (fun g19 w20 hM21 => S_store 0 0 #[.int .i64 p.1.1, .int .i64 p.1.2.1, .int .i64 p.1.2.2] hM21 (by kernel_rfl) (fun w22 hM23 => ?_))))))))))))
    refine S_nil (R_seq (R_region (S_load 0 0 (.agg #[.int .i64 p.1.1, .int .i64 p.1.2.1, .int .i64 p.1.2.2]) hM23 (by kernel_rfl) (S_call (s_umbralaw20_far p.1 32768) (fun r : Bool => .bool r) hM23 (w_umbralaw20_far p.1 32768 w22) (by kernel_rfl) (fun r24 h25 w26 hM27 => ?_)))))
    have HR := hr_lt HR h25
    cases r24
    · refine S_nil (R_no (by kernel_rfl) (R_skip (R_inBlock (R_region (S_val (.int .i64 2) (by kernel_rfl) (S_val (.int .i64 2) (by kernel_rfl) (S_nil (R_inLoop (R_seq (R_region (S_val (.bool true) (by kernel_rfl) (?_))))))))))))
      have HR := hr_neg HR Bool.false_ne_true
      refine S_nil (R_seq (R_yes (by kernel_rfl) (R_skip (R_seq (R_block (R_seq (R_region (S_val (.pointer (some ⟨g7, 6, none⟩)) (by kernel_rfl) (S_load 2 6 (.agg #[.int .i64 p.2.1.1, .int .i64 p.2.1.2.1, .int .i64 p.2.1.2.2]) hM27 (by kernel_rfl) (S_fresh none #[.int .i64 0, .int .i64 0, .int .i64 0] 23 hM27 (by kernel_rfl) (fun g28 w29 hM30 => S_store 0 0 #[.int .i64 p.2.1.1, .int .i64 p.2.1.2.1, .int .i64 p.2.1.2.2] hM30 (by kernel_rfl) (fun w31 hM32 => ?_))))))))))))
      refine S_nil (R_seq (R_region (S_load 0 0 (.agg #[.int .i64 p.2.1.1, .int .i64 p.2.1.2.1, .int .i64 p.2.1.2.2]) hM32 (by kernel_rfl) (S_call (s_umbralaw20_far p.2.1 32768) (fun r : Bool => .bool r) hM32 (w_umbralaw20_far p.2.1 32768 w31) (by kernel_rfl) (fun r33 h34 w35 hM36 => ?_)))))
      have HR := hr_lt HR h34
      cases r33
      · refine S_nil (R_no (by kernel_rfl) (R_skip (R_inBlock (R_region (S_val (.int .i64 3) (by kernel_rfl) (S_val (.int .i64 3) (by kernel_rfl) (S_nil (R_inLoop (R_seq (R_region (S_val (.bool true) (by kernel_rfl) (?_))))))))))))
        have HR := hr_neg HR Bool.false_ne_true
        refine S_nil (R_seq (R_yes (by kernel_rfl) (R_skip (R_seq (R_block (R_seq (R_region (S_val (.pointer (some ⟨g7, 9, none⟩)) (by kernel_rfl) (S_load 3 9 (.agg #[.int .i64 p.2.2.1, .int .i64 p.2.2.2.1, .int .i64 p.2.2.2.2]) hM36 (by kernel_rfl) (S_fresh none #[.int .i64 0, .int .i64 0, .int .i64 0] 23 hM36 (by kernel_rfl) (fun g37 w38 hM39 => S_store 0 0 #[.int .i64 p.2.2.1, .int .i64 p.2.2.2.1, .int .i64 p.2.2.2.2] hM39 (by kernel_rfl) (fun w40 hM41 => ?_))))))))))))
        refine S_nil (R_seq (R_region (S_load 0 0 (.agg #[.int .i64 p.2.2.1, .int .i64 p.2.2.2.1, .int .i64 p.2.2.2.2]) hM41 (by kernel_rfl) (S_call (s_umbralaw20_far p.2.2 32768) (fun r : Bool => .bool r) hM41 (w_umbralaw20_far p.2.2 32768 w40) (by kernel_rfl) (fun r42 h43 w44 hM45 => ?_)))))
        have HR := hr_lt HR h43
        cases r42
        · refine S_nil (R_no (by kernel_rfl) (R_skip (R_inBlock (R_region (S_val (.int .i64 4) (by kernel_rfl) (S_val (.int .i64 4) (by kernel_rfl) (S_nil (R_inLoop (R_seq (R_region (S_val (.bool false) (by kernel_rfl) (?_))))))))))))
          have HR := hr_neg HR Bool.false_ne_true
          refine S_nil (R_seq (R_no (by kernel_rfl) (R_exit rfl (R_seq (R_drawF 12 (by kernel_rfl) (fun F46 U47 hL48 => F_val (.pointer (some ⟨g4, 3, none⟩)) (fun _ => by kernel_rfl) (F_load 5 3 (.agg #[.int .i64 p.2.1.1, .int .i64 p.2.1.2.1, .int .i64 p.2.1.2.2]) hM45 (by kernel_rfl) (F_val (.pointer (some ⟨g4, 0, none⟩)) (fun _ => by kernel_rfl) (F_load 5 0 (.agg #[.int .i64 p.1.1, .int .i64 p.1.2.1, .int .i64 p.1.2.2]) hM45 (by kernel_rfl) (F_call (s_tri_Sub p.2.1 p.1) (fun r : Int × Int × Int => .agg #[.int .i64 r.1, .int .i64 r.2.1, .int .i64 r.2.2]) hM45 hL48 (fun w' hM' => w_tri_Sub p.2.1 p.1 w') (by kernel_rfl) (fun _ => by kernel_rfl) (fun r49 h50 => F_val (.pointer (some ⟨g4, 6, none⟩)) (fun _ => by kernel_rfl) (?_))))))))))))
          have HR := hr_lt HR h50
          refine F_load 5 6 (.agg #[.int .i64 p.2.2.1, .int .i64 p.2.2.2.1, .int .i64 p.2.2.2.2]) hM45 (by kernel_rfl) (F_val (.pointer (some ⟨g4, 0, none⟩)) (fun _ => by kernel_rfl) (F_load 5 0 (.agg #[.int .i64 p.1.1, .int .i64 p.1.2.1, .int .i64 p.1.2.2]) hM45 (by kernel_rfl) (F_call (s_tri_Sub p.2.2 p.1) (fun r : Int × Int × Int => .agg #[.int .i64 r.1, .int .i64 r.2.1, .int .i64 r.2.2]) hM45 hL48 (fun w' hM' => w_tri_Sub p.2.2 p.1 w') (by kernel_rfl) (fun _ => by kernel_rfl) (fun r51 h52 => F_call (s_tri_Cross r49 r51) (fun r : Int × Int × Int => .agg #[.int .i64 r.1, .int .i64 r.2.1, .int .i64 r.2.2]) hM45 hL48 (fun w' hM' => w_tri_Cross r49 r51 w') (by kernel_rfl) (fun _ => by kernel_rfl) (fun r53 h54 => F_fresh none #[.int .i64 0, .int .i64 0, .int .i64 0] 23 hL48 (by kernel_rfl) (fun _ => by kernel_rfl) (fun g55 F56 U57 hL58 => F_nil hM45 hL58 (fun w59 hM60 => S_store 0 0 #[.int .i64 r53.1, .int .i64 r53.2.1, .int .i64 r53.2.2] hM60 (by kernel_rfl) (fun w61 hM62 => S_nil (R_seq (R_seq (R_drawF 7 (by kernel_rfl) (fun F63 U64 hL65 => ?_))))))))))))
          have HR := hr_lt HR h52
          have HR := hr_lt HR h54
          refine F_load 7 0 (.agg #[.int .i64 o.1, .int .i64 o.2.1, .int .i64 o.2.2]) hM62 (by kernel_rfl) (F_val (.pointer (some ⟨g4, 0, none⟩)) (fun _ => by kernel_rfl) (F_load 6 0 (.agg #[.int .i64 p.1.1, .int .i64 p.1.2.1, .int .i64 p.1.2.2]) hM62 (by kernel_rfl) (F_call (s_tri_Sub o p.1) (fun r : Int × Int × Int => .agg #[.int .i64 r.1, .int .i64 r.2.1, .int .i64 r.2.2]) hM62 hL65 (fun w' hM' => w_tri_Sub o p.1 w') (by kernel_rfl) (fun _ => by kernel_rfl) (fun r66 h67 => F_load 0 0 (.agg #[.int .i64 r53.1, .int .i64 r53.2.1, .int .i64 r53.2.2]) hM62 (by kernel_rfl) (F_call (s_tri_Dot r66 r53) (fun r : Int => .int .i64 r) hM62 hL65 (fun w' hM' => w_tri_Dot r66 r53 w') (by kernel_rfl) (fun _ => by kernel_rfl) (fun r68 h69 => ?_))))))
          have HR := hr_lt HR h67
          have HR := hr_lt HR h69
          refine F_dec (r68 = 0) (fun _ => by kernel_rfl) (fun c70 => ?_) (fun c70 => ?_)
          · refine F_nil hM62 hL65 (fun w71 hM72 => S_nil (R_yes (by kernel_rfl) (R_seq (R_region (S_call (s_umbralaw20_works ) (fun r : Bool => .bool r) hM72 (w_umbralaw20_works  w71) (by kernel_rfl) (fun r73 h74 w75 hM76 => ?_))))))
            have HR := hr_pos HR c70
            have HR := hr_lt HR h74
            cases r73
            · refine S_val (.bool false) (by kernel_rfl) (S_nil (?_))
              have HR := hr_neg HR Bool.false_ne_true
              refine R_ret hM76 rfl (.cons (.tmp _ (.bool false) (by kernel_rfl)) .nil) rfl ?_
              exact ⟨congrArg Ending.returned HR, hM76.below⟩
            · refine S_val (.bool true) (by kernel_rfl) (S_nil (?_))
              have HR := hr_pos HR rfl
              refine R_ret hM76 rfl (.cons (.tmp _ (.bool true) (by kernel_rfl)) .nil) rfl ?_
              exact ⟨congrArg Ending.returned HR, hM76.below⟩
          · refine F_nil hM62 hL65 (fun w77 hM78 => S_nil (R_no (by kernel_rfl) (R_skip (R_seq (R_region (S_val (.func (.func 43) #[] #[]) (by kernel_rfl) (S_nil (R_seq (R_drawF 14 (by kernel_rfl) (fun F79 U80 hL81 => F_val (.func (.func 43) #[] #[]) (fun _ => by kernel_rfl) (F_val (.pointer (some ⟨g4, 0, none⟩)) (fun _ => by kernel_rfl) (?_))))))))))))
            have HR := hr_neg HR c70
            refine F_load 6 0 (.agg #[.int .i64 p.1.1, .int .i64 p.1.2.1, .int .i64 p.1.2.2]) hM78 (by kernel_rfl) (F_call (s_umbralaw20_TriAimed_1 p.1) (fun r : Int × Int × Int => .agg #[.int .i64 r.1, .int .i64 r.2.1, .int .i64 r.2.2]) hM78 hL81 (fun w' hM' => w_umbralaw20_TriAimed_1 p.1 w') (by kernel_rfl) (fun _ => by kernel_rfl) (fun r82 h83 => F_val (.func (.func 43) #[] #[]) (fun _ => by kernel_rfl) (F_val (.pointer (some ⟨g4, 3, none⟩)) (fun _ => by kernel_rfl) (F_load 6 3 (.agg #[.int .i64 p.2.1.1, .int .i64 p.2.1.2.1, .int .i64 p.2.1.2.2]) hM78 (by kernel_rfl) (F_call (s_umbralaw20_TriAimed_1 p.2.1) (fun r : Int × Int × Int => .agg #[.int .i64 r.1, .int .i64 r.2.1, .int .i64 r.2.2]) hM78 hL81 (fun w' hM' => w_umbralaw20_TriAimed_1 p.2.1 w') (by kernel_rfl) (fun _ => by kernel_rfl) (fun r84 h85 => F_val (.func (.func 43) #[] #[]) (fun _ => by kernel_rfl) (F_val (.pointer (some ⟨g4, 6, none⟩)) (fun _ => by kernel_rfl) (F_load 6 6 (.agg #[.int .i64 p.2.2.1, .int .i64 p.2.2.2.1, .int .i64 p.2.2.2.2]) hM78 (by kernel_rfl) (F_call (s_umbralaw20_TriAimed_1 p.2.2) (fun r : Int × Int × Int => .agg #[.int .i64 r.1, .int .i64 r.2.1, .int .i64 r.2.2]) hM78 hL81 (fun w' hM' => w_umbralaw20_TriAimed_1 p.2.2 w') (by kernel_rfl) (fun _ => by kernel_rfl) (fun r86 h87 => F_val (.agg #[.int .i64 r82.1, .int .i64 r82.2.1, .int .i64 r82.2.2, .int .i64 r84.1, .int .i64 r84.2.1, .int .i64 r84.2.2, .int .i64 r86.1, .int .i64 r86.2.1, .int .i64 r86.2.2]) (fun _ => by kernel_rfl) (F_fresh none #[.int .i64 0, .int .i64 0, .int .i64 0, .int .i64 0, .int .i64 0, .int .i64 0, .int .i64 0, .int .i64 0, .int .i64 0] 48 hL81 (by kernel_rfl) (fun _ => by kernel_rfl) (fun g88 F89 U90 hL91 => ?_))))))))))))
            have HR := hr_lt HR h83
            have HR := hr_lt HR h85
            have HR := hr_lt HR h87
            refine F_nil hM78 hL91 (fun w92 hM93 => S_store 0 0 #[.int .i64 r82.1, .int .i64 r82.2.1, .int .i64 r82.2.2, .int .i64 r84.1, .int .i64 r84.2.1, .int .i64 r84.2.2, .int .i64 r86.1, .int .i64 r86.2.1, .int .i64 r86.2.2] hM93 (by kernel_rfl) (fun w94 hM95 => S_nil (R_seq (R_region (S_val (.func (.func 43) #[] #[]) (by kernel_rfl) (S_load 8 0 (.agg #[.int .i64 o.1, .int .i64 o.2.1, .int .i64 o.2.2]) hM95 (by kernel_rfl) (S_call (s_umbralaw20_TriAimed_1 o) (fun r : Int × Int × Int => .agg #[.int .i64 r.1, .int .i64 r.2.1, .int .i64 r.2.2]) hM95 (w_umbralaw20_TriAimed_1 o w94) (by kernel_rfl) (fun r96 h97 w98 hM99 => S_fresh none #[.int .i64 0, .int .i64 0, .int .i64 0] 23 hM99 (by kernel_rfl) (fun g100 w101 hM102 => S_store 0 0 #[.int .i64 r96.1, .int .i64 r96.2.1, .int .i64 r96.2.2] hM102 (by kernel_rfl) (fun w103 hM104 => S_nil (R_seq (?_))))))))))))
            have HR := hr_lt HR h97
            refine R_region (S_val (.pointer (some ⟨g4, 3, none⟩)) (by kernel_rfl) (S_val (.pointer (some ⟨g4, 3, none⟩)) (by kernel_rfl) (S_load 8 3 (.int .i64 p.2.1.1) hM104 (by kernel_rfl) (S_val (.pointer (some ⟨g4, 6, none⟩)) (by kernel_rfl) (S_val (.pointer (some ⟨g4, 6, none⟩)) (by kernel_rfl) (S_load 8 6 (.int .i64 p.2.2.1) hM104 (by kernel_rfl) (S_int (IntKind.i64.wrap (p.2.1.1 + p.2.2.1)) .i64 (by kernel_rfl) (fun x105 h106 => S_val (.pointer (some ⟨g4, 3, none⟩)) (by kernel_rfl) (S_val (.pointer (some ⟨g4, 4, none⟩)) (by kernel_rfl) (S_load 8 4 (.int .i64 p.2.1.2.1) hM104 (by kernel_rfl) (S_val (.pointer (some ⟨g4, 6, none⟩)) (by kernel_rfl) (?_))))))))))))
            have HR := hr_lt HR h106
            refine S_val (.pointer (some ⟨g4, 7, none⟩)) (by kernel_rfl) (S_load 8 7 (.int .i64 p.2.2.2.1) hM104 (by kernel_rfl) (S_int (IntKind.i64.wrap (p.2.1.2.1 + p.2.2.2.1)) .i64 (by kernel_rfl) (fun x107 h108 => S_val (.pointer (some ⟨g4, 3, none⟩)) (by kernel_rfl) (S_val (.pointer (some ⟨g4, 5, none⟩)) (by kernel_rfl) (S_load 8 5 (.int .i64 p.2.1.2.2) hM104 (by kernel_rfl) (S_val (.pointer (some ⟨g4, 6, none⟩)) (by kernel_rfl) (S_val (.pointer (some ⟨g4, 8, none⟩)) (by kernel_rfl) (S_load 8 8 (.int .i64 p.2.2.2.2) hM104 (by kernel_rfl) (S_int (IntKind.i64.wrap (p.2.1.2.2 + p.2.2.2.2)) .i64 (by kernel_rfl) (fun x109 h110 => S_val (.agg #[.int .i64 x105, .int .i64 x107, .int .i64 x109]) (by kernel_rfl) (S_fresh none #[.int .i64 0, .int .i64 0, .int .i64 0] 23 hM104 (by kernel_rfl) (fun g111 w112 hM113 => ?_))))))))))))
            have HR := hr_lt HR h108
            have HR := hr_lt HR h110
            refine S_store 0 0 #[.int .i64 x105, .int .i64 x107, .int .i64 x109] hM113 (by kernel_rfl) (fun w114 hM115 => S_nil (R_seq (R_seq (R_region (S_val (.pointer (some ⟨g88, 0, none⟩)) (by kernel_rfl) (S_load 2 0 (.agg #[.int .i64 r82.1, .int .i64 r82.2.1, .int .i64 r82.2.2]) hM115 (by kernel_rfl) (S_val (.pointer (some ⟨g88, 3, none⟩)) (by kernel_rfl) (S_load 2 3 (.agg #[.int .i64 r84.1, .int .i64 r84.2.1, .int .i64 r84.2.2]) hM115 (by kernel_rfl) (S_val (.pointer (some ⟨g88, 6, none⟩)) (by kernel_rfl) (S_load 2 6 (.agg #[.int .i64 r86.1, .int .i64 r86.2.1, .int .i64 r86.2.2]) hM115 (by kernel_rfl) (S_load 0 0 (.agg #[.int .i64 x105, .int .i64 x107, .int .i64 x109]) hM115 (by kernel_rfl) (?_))))))))))))
            refine S_fresh (some 4) #[.int .i64 r82.1, .int .i64 r82.2.1, .int .i64 r82.2.2, .int .i64 r84.1, .int .i64 r84.2.1, .int .i64 r84.2.2, .int .i64 r86.1, .int .i64 r86.2.1, .int .i64 r86.2.2, .int .i64 x105, .int .i64 x107, .int .i64 x109] 23 hM115 (by kernel_rfl) (fun g116 w117 hM118 => S_val (.int .i64 4) (by kernel_rfl) (S_val (.int .i64 0) (by kernel_rfl) (S_nil (R_block (R_loop (R_seq (R_region (S_val (.bool true) (by kernel_rfl) (S_nil (R_seq (R_yes (by kernel_rfl) (?_))))))))))))
            refine R_skip (R_seq (R_block (R_seq (R_region (S_val (.pointer (some ⟨g116, 0, none⟩)) (by kernel_rfl) (S_load 0 0 (.agg #[.int .i64 r82.1, .int .i64 r82.2.1, .int .i64 r82.2.2]) hM118 (by kernel_rfl) (S_fresh none #[.int .i64 0, .int .i64 0, .int .i64 0] 23 hM118 (by kernel_rfl) (fun g119 w120 hM121 => S_store 0 0 #[.int .i64 r82.1, .int .i64 r82.2.1, .int .i64 r82.2.2] hM121 (by kernel_rfl) (fun w122 hM123 => S_nil (R_seq (R_drawG 12 (by kernel_rfl) (fun F124 U125 hL126 => ?_))))))))))))
            refine G_load 3 0 (.agg #[.int .i64 r96.1, .int .i64 r96.2.1, .int .i64 r96.2.2]) hM123 (by kernel_rfl) (G_load 0 0 (.agg #[.int .i64 r82.1, .int .i64 r82.2.1, .int .i64 r82.2.2]) hM123 (by kernel_rfl) (G_load 3 0 (.agg #[.int .i64 r96.1, .int .i64 r96.2.1, .int .i64 r96.2.2]) hM123 (by kernel_rfl) (G_call (s_tri_Sub r82 r96) (fun r : Int × Int × Int => .agg #[.int .i64 r.1, .int .i64 r.2.1, .int .i64 r.2.2]) hM123 hL126 (fun w' hM' => w_tri_Sub r82 r96 w') (by kernel_rfl) (fun _ => by kernel_rfl) (fun r127 h128 => G_load 4 0 (.agg #[.int .i64 r82.1, .int .i64 r82.2.1, .int .i64 r82.2.2, .int .i64 r84.1, .int .i64 r84.2.1, .int .i64 r84.2.2, .int .i64 r86.1, .int .i64 r86.2.1, .int .i64 r86.2.2]) hM123 (by kernel_rfl) (G_call (hitT r96 r127 (r82, r84, r86)) (fun r : (Int × Int × Int × Int) × Bool => .tuple #[.agg #[.int .i64 r.1.1, .int .i64 r.1.2.1, .int .i64 r.1.2.2.1, .int .i64 r.1.2.2.2], .bool r.2]) hM123 hL126 (fun w' hM' => tHit r96 r127 (r82, r84, r86) w') (by kernel_rfl) (fun _ => by kernel_rfl) (fun r129 h130 => ?_))))))
            have HR := hr_lt HR h128
            have HR := hr_lt HR h130
            obtain ⟨r131, b133⟩ := r129
            cases b133
            · refine G_val (.tuple #[.agg #[.int .i64 r131.1, .int .i64 r131.2.1, .int .i64 r131.2.2.1, .int .i64 r131.2.2.2], .bool false]) (fun _ => by kernel_rfl) (G_val (.agg #[.int .i64 r131.1, .int .i64 r131.2.1, .int .i64 r131.2.2.1, .int .i64 r131.2.2.2]) (fun _ => by kernel_rfl) (G_val (.bool false) (fun _ => by kernel_rfl) (G_fresh none #[.int .i64 0, .int .i64 0, .int .i64 0, .int .i64 0] 50 hL126 (by kernel_rfl) (fun _ => by kernel_rfl) (fun g134 F135 U136 hL137 => G_store 0 0 #[.int .i64 r131.1, .int .i64 r131.2.1, .int .i64 r131.2.2.1, .int .i64 r131.2.2.2] hL137 (by kernel_rfl) (by kernel_rfl) (fun F138 hL139 => G_val (.bool false) (fun _ => by kernel_rfl) (G_nil hM123 hL139 (fun w140 hM141 => S_nil (R_seq (R_drawF 19 (by kernel_rfl) (fun F142 U143 hL144 => F_val (.bool false) (fun _ => by kernel_rfl) (F_val (.bool true) (fun _ => by kernel_rfl) (?_))))))))))))
              have HR := hr_neg HR Bool.false_ne_true
              refine F_val (.bool true) (fun _ => by kernel_rfl) (F_skip (by kernel_rfl) (F_skip (by kernel_rfl) (F_skip (by kernel_rfl) (F_skip (by kernel_rfl) (F_skip (by kernel_rfl) (F_val (.bool true) (fun _ => by kernel_rfl) (F_val (.bool true) (fun _ => by kernel_rfl) (F_skip (by kernel_rfl) (F_skip (by kernel_rfl) (F_skip (by kernel_rfl) (F_skip (by kernel_rfl) (?_))))))))))))
              refine F_skip (by kernel_rfl) (F_skip (by kernel_rfl) (F_skip (by kernel_rfl) (F_skip (by kernel_rfl) (F_val (.bool true) (fun _ => by kernel_rfl) (F_nil hM141 hL144 (fun w145 hM146 => S_nil (R_yes (by kernel_rfl) (R_seq (R_region (S_val (.bool false) (by kernel_rfl) (S_nil (?_))))))))))))
              refine R_ret hM146 rfl (.cons (.tmp _ (.bool false) (by kernel_rfl)) .nil) rfl ?_
              exact ⟨congrArg Ending.returned HR, hM146.below⟩
            · refine G_val (.tuple #[.agg #[.int .i64 r131.1, .int .i64 r131.2.1, .int .i64 r131.2.2.1, .int .i64 r131.2.2.2], .bool true]) (fun _ => by kernel_rfl) (G_val (.agg #[.int .i64 r131.1, .int .i64 r131.2.1, .int .i64 r131.2.2.1, .int .i64 r131.2.2.2]) (fun _ => by kernel_rfl) (G_val (.bool true) (fun _ => by kernel_rfl) (G_fresh none #[.int .i64 0, .int .i64 0, .int .i64 0, .int .i64 0] 50 hL126 (by kernel_rfl) (fun _ => by kernel_rfl) (fun g147 F148 U149 hL150 => G_store 0 0 #[.int .i64 r131.1, .int .i64 r131.2.1, .int .i64 r131.2.2.1, .int .i64 r131.2.2.2] hL150 (by kernel_rfl) (by kernel_rfl) (fun F151 hL152 => G_val (.bool true) (fun _ => by kernel_rfl) (G_nil hM123 hL152 (fun w153 hM154 => S_nil (R_seq (R_drawF 19 (by kernel_rfl) (fun F155 U156 hL157 => F_val (.bool true) (fun _ => by kernel_rfl) (F_val (.bool false) (fun _ => by kernel_rfl) (?_))))))))))))
              have HR := hr_pos HR rfl
              refine F_val (.bool false) (fun _ => by kernel_rfl) (F_val (.pointer (some ⟨g147, 0, none⟩)) (fun _ => by kernel_rfl) (F_load 0 0 (.int .i64 r131.1) hM154 (by kernel_rfl) (F_val (.pointer (some ⟨g147, 1, none⟩)) (fun _ => by kernel_rfl) (F_load 0 1 (.int .i64 r131.2.1) hM154 (by kernel_rfl) (?_)))))
              refine F_decn (r131.1 = r131.2.1) (fun _ => by kernel_rfl) (fun c158 => ?_) (fun c158 => ?_)
              · refine F_val (.bool true) (fun _ => by kernel_rfl) (F_val (.bool true) (fun _ => by kernel_rfl) (F_skip (by kernel_rfl) (F_skip (by kernel_rfl) (F_skip (by kernel_rfl) (F_skip (by kernel_rfl) (F_skip (by kernel_rfl) (F_skip (by kernel_rfl) (F_skip (by kernel_rfl) (F_skip (by kernel_rfl) (F_val (.bool true) (fun _ => by kernel_rfl) (F_nil hM154 hL157 (fun w159 hM160 => ?_))))))))))))
                have HR := hr_neg HR c158
                refine S_nil (R_yes (by kernel_rfl) (R_seq (R_region (S_val (.bool false) (by kernel_rfl) (S_nil (?_))))))
                refine R_ret hM160 rfl (.cons (.tmp _ (.bool false) (by kernel_rfl)) .nil) rfl ?_
                exact ⟨congrArg Ending.returned HR, hM160.below⟩
              · refine F_val (.bool false) (fun _ => by kernel_rfl) (F_val (.bool false) (fun _ => by kernel_rfl) (F_load 4 0 (.agg #[.int .i64 r96.1, .int .i64 r96.2.1, .int .i64 r96.2.2]) hM154 (by kernel_rfl) (F_load 1 0 (.agg #[.int .i64 r82.1, .int .i64 r82.2.1, .int .i64 r82.2.2]) hM154 (by kernel_rfl) (F_load 4 0 (.agg #[.int .i64 r96.1, .int .i64 r96.2.1, .int .i64 r96.2.2]) hM154 (by kernel_rfl) (F_call (s_tri_Sub r82 r96) (fun r : Int × Int × Int => .agg #[.int .i64 r.1, .int .i64 r.2.1, .int .i64 r.2.2]) hM154 hL157 (fun w' hM' => w_tri_Sub r82 r96 w') (by kernel_rfl) (fun _ => by kernel_rfl) (fun r161 h162 => F_load 0 0 (.agg #[.int .i64 r131.1, .int .i64 r131.2.1, .int .i64 r131.2.2.1, .int .i64 r131.2.2.2]) hM154 (by kernel_rfl) (F_call (placeV r96 r161 r131) (fun r : Int × Int × Int => .agg #[.int .i64 r.1, .int .i64 r.2.1, .int .i64 r.2.2]) hM154 hL157 (fun w' hM' => tPlace r96 r161 r131 ((tr (P := fun r : Int × Int × Int => InV r) h97 (twice_I o)).out) ((tr (P := fun r : Int × Int × Int => InV r) h162 (sSub_I r82 r96)).out) ((tr (P := fun r : (Int × Int × Int × Int) × Bool => (InM r.1 ∧ True)) h130 (hitT_I r96 r127 (r82, r84, r86))).out.1) w') (by kernel_rfl) (fun _ => by kernel_rfl) (fun r163 h164 => F_load 1 0 (.agg #[.int .i64 r82.1, .int .i64 r82.2.1, .int .i64 r82.2.2]) hM154 (by kernel_rfl) (?_)))))))))
                have HR := hr_pos HR c158
                have HR := hr_lt HR h162
                have HR := hr_lt HR h164
                refine F_decn ((r163 : Int × Int × Int) = r82) (fun _ => eqv_umbra_api_Pointn (x := r163) (y := r82) (by kernel_rfl) (by kernel_rfl) (by kernel_rfl)) (fun c165 => ?_) (fun c165 => ?_)
                · refine F_val (.bool true) (fun _ => by kernel_rfl) (F_nil hM154 hL157 (fun w166 hM167 => S_nil (R_yes (by kernel_rfl) (R_seq (R_region (S_val (.bool false) (by kernel_rfl) (S_nil (?_))))))))
                  have HR := hr_neg HR c165
                  refine R_ret hM167 rfl (.cons (.tmp _ (.bool false) (by kernel_rfl)) .nil) rfl ?_
                  exact ⟨congrArg Ending.returned HR, hM167.below⟩
                · refine F_val (.bool false) (fun _ => by kernel_rfl) (F_nil hM154 hL157 (fun w168 hM169 => S_nil (R_no (by kernel_rfl) (R_skip (R_inBlock (R_region (S_val (.int .i64 1) (by kernel_rfl) (S_val (.int .i64 1) (by kernel_rfl) (S_nil (R_inLoop (R_seq (?_))))))))))))
                  have HR := hr_pos HR c165
                  refine R_region (S_val (.bool true) (by kernel_rfl) (S_nil (R_seq (R_yes (by kernel_rfl) (R_skip (R_seq (R_block (R_seq (R_region (S_val (.pointer (some ⟨g116, 3, none⟩)) (by kernel_rfl) (S_load 2 3 (.agg #[.int .i64 r84.1, .int .i64 r84.2.1, .int .i64 r84.2.2]) hM169 (by kernel_rfl) (?_))))))))))))
                  refine S_fresh none #[.int .i64 0, .int .i64 0, .int .i64 0] 23 hM169 (by kernel_rfl) (fun g170 w171 hM172 => S_store 0 0 #[.int .i64 r84.1, .int .i64 r84.2.1, .int .i64 r84.2.2] hM172 (by kernel_rfl) (fun w173 hM174 => S_nil (R_seq (R_drawG 12 (by kernel_rfl) (fun F175 U176 hL177 => G_load 5 0 (.agg #[.int .i64 r96.1, .int .i64 r96.2.1, .int .i64 r96.2.2]) hM174 (by kernel_rfl) (G_load 0 0 (.agg #[.int .i64 r84.1, .int .i64 r84.2.1, .int .i64 r84.2.2]) hM174 (by kernel_rfl) (G_load 5 0 (.agg #[.int .i64 r96.1, .int .i64 r96.2.1, .int .i64 r96.2.2]) hM174 (by kernel_rfl) (G_call (s_tri_Sub r84 r96) (fun r : Int × Int × Int => .agg #[.int .i64 r.1, .int .i64 r.2.1, .int .i64 r.2.2]) hM174 hL177 (fun w' hM' => w_tri_Sub r84 r96 w') (by kernel_rfl) (fun _ => by kernel_rfl) (fun r178 h179 => G_load 6 0 (.agg #[.int .i64 r82.1, .int .i64 r82.2.1, .int .i64 r82.2.2, .int .i64 r84.1, .int .i64 r84.2.1, .int .i64 r84.2.2, .int .i64 r86.1, .int .i64 r86.2.1, .int .i64 r86.2.2]) hM174 (by kernel_rfl) (G_call (hitT r96 r178 (r82, r84, r86)) (fun r : (Int × Int × Int × Int) × Bool => .tuple #[.agg #[.int .i64 r.1.1, .int .i64 r.1.2.1, .int .i64 r.1.2.2.1, .int .i64 r.1.2.2.2], .bool r.2]) hM174 hL177 (fun w' hM' => tHit r96 r178 (r82, r84, r86) w') (by kernel_rfl) (fun _ => by kernel_rfl) (fun r180 h181 => ?_)))))))))))
                  have HR := hr_lt HR h179
                  have HR := hr_lt HR h181
                  obtain ⟨r182, b184⟩ := r180
                  cases b184
                  · refine G_val (.tuple #[.agg #[.int .i64 r182.1, .int .i64 r182.2.1, .int .i64 r182.2.2.1, .int .i64 r182.2.2.2], .bool false]) (fun _ => by kernel_rfl) (G_val (.agg #[.int .i64 r182.1, .int .i64 r182.2.1, .int .i64 r182.2.2.1, .int .i64 r182.2.2.2]) (fun _ => by kernel_rfl) (G_val (.bool false) (fun _ => by kernel_rfl) (G_fresh none #[.int .i64 0, .int .i64 0, .int .i64 0, .int .i64 0] 50 hL177 (by kernel_rfl) (fun _ => by kernel_rfl) (fun g185 F186 U187 hL188 => G_store 0 0 #[.int .i64 r182.1, .int .i64 r182.2.1, .int .i64 r182.2.2.1, .int .i64 r182.2.2.2] hL188 (by kernel_rfl) (by kernel_rfl) (fun F189 hL190 => G_val (.bool false) (fun _ => by kernel_rfl) (G_nil hM174 hL190 (fun w191 hM192 => S_nil (R_seq (R_drawF 19 (by kernel_rfl) (fun F193 U194 hL195 => F_val (.bool false) (fun _ => by kernel_rfl) (F_val (.bool true) (fun _ => by kernel_rfl) (?_))))))))))))
                    have HR := hr_neg HR Bool.false_ne_true
                    refine F_val (.bool true) (fun _ => by kernel_rfl) (F_skip (by kernel_rfl) (F_skip (by kernel_rfl) (F_skip (by kernel_rfl) (F_skip (by kernel_rfl) (F_skip (by kernel_rfl) (F_val (.bool true) (fun _ => by kernel_rfl) (F_val (.bool true) (fun _ => by kernel_rfl) (F_skip (by kernel_rfl) (F_skip (by kernel_rfl) (F_skip (by kernel_rfl) (F_skip (by kernel_rfl) (?_))))))))))))
                    refine F_skip (by kernel_rfl) (F_skip (by kernel_rfl) (F_skip (by kernel_rfl) (F_skip (by kernel_rfl) (F_val (.bool true) (fun _ => by kernel_rfl) (F_nil hM192 hL195 (fun w196 hM197 => S_nil (R_yes (by kernel_rfl) (R_seq (R_region (S_val (.bool false) (by kernel_rfl) (S_nil (?_))))))))))))
                    refine R_ret hM197 rfl (.cons (.tmp _ (.bool false) (by kernel_rfl)) .nil) rfl ?_
                    exact ⟨congrArg Ending.returned HR, hM197.below⟩
                  · refine G_val (.tuple #[.agg #[.int .i64 r182.1, .int .i64 r182.2.1, .int .i64 r182.2.2.1, .int .i64 r182.2.2.2], .bool true]) (fun _ => by kernel_rfl) (G_val (.agg #[.int .i64 r182.1, .int .i64 r182.2.1, .int .i64 r182.2.2.1, .int .i64 r182.2.2.2]) (fun _ => by kernel_rfl) (G_val (.bool true) (fun _ => by kernel_rfl) (G_fresh none #[.int .i64 0, .int .i64 0, .int .i64 0, .int .i64 0] 50 hL177 (by kernel_rfl) (fun _ => by kernel_rfl) (fun g198 F199 U200 hL201 => G_store 0 0 #[.int .i64 r182.1, .int .i64 r182.2.1, .int .i64 r182.2.2.1, .int .i64 r182.2.2.2] hL201 (by kernel_rfl) (by kernel_rfl) (fun F202 hL203 => G_val (.bool true) (fun _ => by kernel_rfl) (G_nil hM174 hL203 (fun w204 hM205 => S_nil (R_seq (R_drawF 19 (by kernel_rfl) (fun F206 U207 hL208 => F_val (.bool true) (fun _ => by kernel_rfl) (F_val (.bool false) (fun _ => by kernel_rfl) (?_))))))))))))
                    have HR := hr_pos HR rfl
                    refine F_val (.bool false) (fun _ => by kernel_rfl) (F_val (.pointer (some ⟨g198, 0, none⟩)) (fun _ => by kernel_rfl) (F_load 0 0 (.int .i64 r182.1) hM205 (by kernel_rfl) (F_val (.pointer (some ⟨g198, 1, none⟩)) (fun _ => by kernel_rfl) (F_load 0 1 (.int .i64 r182.2.1) hM205 (by kernel_rfl) (?_)))))
                    refine F_decn (r182.1 = r182.2.1) (fun _ => by kernel_rfl) (fun c209 => ?_) (fun c209 => ?_)
                    · refine F_val (.bool true) (fun _ => by kernel_rfl) (F_val (.bool true) (fun _ => by kernel_rfl) (F_skip (by kernel_rfl) (F_skip (by kernel_rfl) (F_skip (by kernel_rfl) (F_skip (by kernel_rfl) (F_skip (by kernel_rfl) (F_skip (by kernel_rfl) (F_skip (by kernel_rfl) (F_skip (by kernel_rfl) (F_val (.bool true) (fun _ => by kernel_rfl) (F_nil hM205 hL208 (fun w210 hM211 => ?_))))))))))))
                      have HR := hr_neg HR c209
                      refine S_nil (R_yes (by kernel_rfl) (R_seq (R_region (S_val (.bool false) (by kernel_rfl) (S_nil (?_))))))
                      refine R_ret hM211 rfl (.cons (.tmp _ (.bool false) (by kernel_rfl)) .nil) rfl ?_
                      exact ⟨congrArg Ending.returned HR, hM211.below⟩
                    · refine F_val (.bool false) (fun _ => by kernel_rfl) (F_val (.bool false) (fun _ => by kernel_rfl) (F_load 6 0 (.agg #[.int .i64 r96.1, .int .i64 r96.2.1, .int .i64 r96.2.2]) hM205 (by kernel_rfl) (F_load 1 0 (.agg #[.int .i64 r84.1, .int .i64 r84.2.1, .int .i64 r84.2.2]) hM205 (by kernel_rfl) (F_load 6 0 (.agg #[.int .i64 r96.1, .int .i64 r96.2.1, .int .i64 r96.2.2]) hM205 (by kernel_rfl) (F_call (s_tri_Sub r84 r96) (fun r : Int × Int × Int => .agg #[.int .i64 r.1, .int .i64 r.2.1, .int .i64 r.2.2]) hM205 hL208 (fun w' hM' => w_tri_Sub r84 r96 w') (by kernel_rfl) (fun _ => by kernel_rfl) (fun r212 h213 => F_load 0 0 (.agg #[.int .i64 r182.1, .int .i64 r182.2.1, .int .i64 r182.2.2.1, .int .i64 r182.2.2.2]) hM205 (by kernel_rfl) (F_call (placeV r96 r212 r182) (fun r : Int × Int × Int => .agg #[.int .i64 r.1, .int .i64 r.2.1, .int .i64 r.2.2]) hM205 hL208 (fun w' hM' => tPlace r96 r212 r182 ((tr (P := fun r : Int × Int × Int => InV r) h97 (twice_I o)).out) ((tr (P := fun r : Int × Int × Int => InV r) h213 (sSub_I r84 r96)).out) ((tr (P := fun r : (Int × Int × Int × Int) × Bool => (InM r.1 ∧ True)) h181 (hitT_I r96 r178 (r82, r84, r86))).out.1) w') (by kernel_rfl) (fun _ => by kernel_rfl) (fun r214 h215 => F_load 1 0 (.agg #[.int .i64 r84.1, .int .i64 r84.2.1, .int .i64 r84.2.2]) hM205 (by kernel_rfl) (?_)))))))))
                      have HR := hr_pos HR c209
                      have HR := hr_lt HR h213
                      have HR := hr_lt HR h215
                      refine F_decn ((r214 : Int × Int × Int) = r84) (fun _ => eqv_umbra_api_Pointn (x := r214) (y := r84) (by kernel_rfl) (by kernel_rfl) (by kernel_rfl)) (fun c216 => ?_) (fun c216 => ?_)
                      · refine F_val (.bool true) (fun _ => by kernel_rfl) (F_nil hM205 hL208 (fun w217 hM218 => S_nil (R_yes (by kernel_rfl) (R_seq (R_region (S_val (.bool false) (by kernel_rfl) (S_nil (?_))))))))
                        have HR := hr_neg HR c216
                        refine R_ret hM218 rfl (.cons (.tmp _ (.bool false) (by kernel_rfl)) .nil) rfl ?_
                        exact ⟨congrArg Ending.returned HR, hM218.below⟩
                      · refine F_val (.bool false) (fun _ => by kernel_rfl) (F_nil hM205 hL208 (fun w219 hM220 => S_nil (R_no (by kernel_rfl) (R_skip (R_inBlock (R_region (S_val (.int .i64 2) (by kernel_rfl) (S_val (.int .i64 2) (by kernel_rfl) (S_nil (R_inLoop (R_seq (?_))))))))))))
                        have HR := hr_pos HR c216
                        refine R_region (S_val (.bool true) (by kernel_rfl) (S_nil (R_seq (R_yes (by kernel_rfl) (R_skip (R_seq (R_block (R_seq (R_region (S_val (.pointer (some ⟨g116, 6, none⟩)) (by kernel_rfl) (S_load 4 6 (.agg #[.int .i64 r86.1, .int .i64 r86.2.1, .int .i64 r86.2.2]) hM220 (by kernel_rfl) (?_))))))))))))
                        refine S_fresh none #[.int .i64 0, .int .i64 0, .int .i64 0] 23 hM220 (by kernel_rfl) (fun g221 w222 hM223 => S_store 0 0 #[.int .i64 r86.1, .int .i64 r86.2.1, .int .i64 r86.2.2] hM223 (by kernel_rfl) (fun w224 hM225 => S_nil (R_seq (R_drawG 12 (by kernel_rfl) (fun F226 U227 hL228 => G_load 7 0 (.agg #[.int .i64 r96.1, .int .i64 r96.2.1, .int .i64 r96.2.2]) hM225 (by kernel_rfl) (G_load 0 0 (.agg #[.int .i64 r86.1, .int .i64 r86.2.1, .int .i64 r86.2.2]) hM225 (by kernel_rfl) (G_load 7 0 (.agg #[.int .i64 r96.1, .int .i64 r96.2.1, .int .i64 r96.2.2]) hM225 (by kernel_rfl) (G_call (s_tri_Sub r86 r96) (fun r : Int × Int × Int => .agg #[.int .i64 r.1, .int .i64 r.2.1, .int .i64 r.2.2]) hM225 hL228 (fun w' hM' => w_tri_Sub r86 r96 w') (by kernel_rfl) (fun _ => by kernel_rfl) (fun r229 h230 => G_load 8 0 (.agg #[.int .i64 r82.1, .int .i64 r82.2.1, .int .i64 r82.2.2, .int .i64 r84.1, .int .i64 r84.2.1, .int .i64 r84.2.2, .int .i64 r86.1, .int .i64 r86.2.1, .int .i64 r86.2.2]) hM225 (by kernel_rfl) (G_call (hitT r96 r229 (r82, r84, r86)) (fun r : (Int × Int × Int × Int) × Bool => .tuple #[.agg #[.int .i64 r.1.1, .int .i64 r.1.2.1, .int .i64 r.1.2.2.1, .int .i64 r.1.2.2.2], .bool r.2]) hM225 hL228 (fun w' hM' => tHit r96 r229 (r82, r84, r86) w') (by kernel_rfl) (fun _ => by kernel_rfl) (fun r231 h232 => ?_)))))))))))
                        have HR := hr_lt HR h230
                        have HR := hr_lt HR h232
                        obtain ⟨r233, b235⟩ := r231
                        cases b235
                        · refine G_val (.tuple #[.agg #[.int .i64 r233.1, .int .i64 r233.2.1, .int .i64 r233.2.2.1, .int .i64 r233.2.2.2], .bool false]) (fun _ => by kernel_rfl) (G_val (.agg #[.int .i64 r233.1, .int .i64 r233.2.1, .int .i64 r233.2.2.1, .int .i64 r233.2.2.2]) (fun _ => by kernel_rfl) (G_val (.bool false) (fun _ => by kernel_rfl) (G_fresh none #[.int .i64 0, .int .i64 0, .int .i64 0, .int .i64 0] 50 hL228 (by kernel_rfl) (fun _ => by kernel_rfl) (fun g236 F237 U238 hL239 => G_store 0 0 #[.int .i64 r233.1, .int .i64 r233.2.1, .int .i64 r233.2.2.1, .int .i64 r233.2.2.2] hL239 (by kernel_rfl) (by kernel_rfl) (fun F240 hL241 => G_val (.bool false) (fun _ => by kernel_rfl) (G_nil hM225 hL241 (fun w242 hM243 => S_nil (R_seq (R_drawF 19 (by kernel_rfl) (fun F244 U245 hL246 => F_val (.bool false) (fun _ => by kernel_rfl) (F_val (.bool true) (fun _ => by kernel_rfl) (?_))))))))))))
                          have HR := hr_neg HR Bool.false_ne_true
                          refine F_val (.bool true) (fun _ => by kernel_rfl) (F_skip (by kernel_rfl) (F_skip (by kernel_rfl) (F_skip (by kernel_rfl) (F_skip (by kernel_rfl) (F_skip (by kernel_rfl) (F_val (.bool true) (fun _ => by kernel_rfl) (F_val (.bool true) (fun _ => by kernel_rfl) (F_skip (by kernel_rfl) (F_skip (by kernel_rfl) (F_skip (by kernel_rfl) (F_skip (by kernel_rfl) (?_))))))))))))
                          refine F_skip (by kernel_rfl) (F_skip (by kernel_rfl) (F_skip (by kernel_rfl) (F_skip (by kernel_rfl) (F_val (.bool true) (fun _ => by kernel_rfl) (F_nil hM243 hL246 (fun w247 hM248 => S_nil (R_yes (by kernel_rfl) (R_seq (R_region (S_val (.bool false) (by kernel_rfl) (S_nil (?_))))))))))))
                          refine R_ret hM248 rfl (.cons (.tmp _ (.bool false) (by kernel_rfl)) .nil) rfl ?_
                          exact ⟨congrArg Ending.returned HR, hM248.below⟩
                        · refine G_val (.tuple #[.agg #[.int .i64 r233.1, .int .i64 r233.2.1, .int .i64 r233.2.2.1, .int .i64 r233.2.2.2], .bool true]) (fun _ => by kernel_rfl) (G_val (.agg #[.int .i64 r233.1, .int .i64 r233.2.1, .int .i64 r233.2.2.1, .int .i64 r233.2.2.2]) (fun _ => by kernel_rfl) (G_val (.bool true) (fun _ => by kernel_rfl) (G_fresh none #[.int .i64 0, .int .i64 0, .int .i64 0, .int .i64 0] 50 hL228 (by kernel_rfl) (fun _ => by kernel_rfl) (fun g249 F250 U251 hL252 => G_store 0 0 #[.int .i64 r233.1, .int .i64 r233.2.1, .int .i64 r233.2.2.1, .int .i64 r233.2.2.2] hL252 (by kernel_rfl) (by kernel_rfl) (fun F253 hL254 => G_val (.bool true) (fun _ => by kernel_rfl) (G_nil hM225 hL254 (fun w255 hM256 => S_nil (R_seq (R_drawF 19 (by kernel_rfl) (fun F257 U258 hL259 => F_val (.bool true) (fun _ => by kernel_rfl) (F_val (.bool false) (fun _ => by kernel_rfl) (?_))))))))))))
                          have HR := hr_pos HR rfl
                          refine F_val (.bool false) (fun _ => by kernel_rfl) (F_val (.pointer (some ⟨g249, 0, none⟩)) (fun _ => by kernel_rfl) (F_load 0 0 (.int .i64 r233.1) hM256 (by kernel_rfl) (F_val (.pointer (some ⟨g249, 1, none⟩)) (fun _ => by kernel_rfl) (F_load 0 1 (.int .i64 r233.2.1) hM256 (by kernel_rfl) (?_)))))
                          refine F_decn (r233.1 = r233.2.1) (fun _ => by kernel_rfl) (fun c260 => ?_) (fun c260 => ?_)
                          · refine F_val (.bool true) (fun _ => by kernel_rfl) (F_val (.bool true) (fun _ => by kernel_rfl) (F_skip (by kernel_rfl) (F_skip (by kernel_rfl) (F_skip (by kernel_rfl) (F_skip (by kernel_rfl) (F_skip (by kernel_rfl) (F_skip (by kernel_rfl) (F_skip (by kernel_rfl) (F_skip (by kernel_rfl) (F_val (.bool true) (fun _ => by kernel_rfl) (F_nil hM256 hL259 (fun w261 hM262 => ?_))))))))))))
                            have HR := hr_neg HR c260
                            refine S_nil (R_yes (by kernel_rfl) (R_seq (R_region (S_val (.bool false) (by kernel_rfl) (S_nil (?_))))))
                            refine R_ret hM262 rfl (.cons (.tmp _ (.bool false) (by kernel_rfl)) .nil) rfl ?_
                            exact ⟨congrArg Ending.returned HR, hM262.below⟩
                          · refine F_val (.bool false) (fun _ => by kernel_rfl) (F_val (.bool false) (fun _ => by kernel_rfl) (F_load 8 0 (.agg #[.int .i64 r96.1, .int .i64 r96.2.1, .int .i64 r96.2.2]) hM256 (by kernel_rfl) (F_load 1 0 (.agg #[.int .i64 r86.1, .int .i64 r86.2.1, .int .i64 r86.2.2]) hM256 (by kernel_rfl) (F_load 8 0 (.agg #[.int .i64 r96.1, .int .i64 r96.2.1, .int .i64 r96.2.2]) hM256 (by kernel_rfl) (F_call (s_tri_Sub r86 r96) (fun r : Int × Int × Int => .agg #[.int .i64 r.1, .int .i64 r.2.1, .int .i64 r.2.2]) hM256 hL259 (fun w' hM' => w_tri_Sub r86 r96 w') (by kernel_rfl) (fun _ => by kernel_rfl) (fun r263 h264 => F_load 0 0 (.agg #[.int .i64 r233.1, .int .i64 r233.2.1, .int .i64 r233.2.2.1, .int .i64 r233.2.2.2]) hM256 (by kernel_rfl) (F_call (placeV r96 r263 r233) (fun r : Int × Int × Int => .agg #[.int .i64 r.1, .int .i64 r.2.1, .int .i64 r.2.2]) hM256 hL259 (fun w' hM' => tPlace r96 r263 r233 ((tr (P := fun r : Int × Int × Int => InV r) h97 (twice_I o)).out) ((tr (P := fun r : Int × Int × Int => InV r) h264 (sSub_I r86 r96)).out) ((tr (P := fun r : (Int × Int × Int × Int) × Bool => (InM r.1 ∧ True)) h232 (hitT_I r96 r229 (r82, r84, r86))).out.1) w') (by kernel_rfl) (fun _ => by kernel_rfl) (fun r265 h266 => F_load 1 0 (.agg #[.int .i64 r86.1, .int .i64 r86.2.1, .int .i64 r86.2.2]) hM256 (by kernel_rfl) (?_)))))))))
                            have HR := hr_pos HR c260
                            have HR := hr_lt HR h264
                            have HR := hr_lt HR h266
                            refine F_decn ((r265 : Int × Int × Int) = r86) (fun _ => eqv_umbra_api_Pointn (x := r265) (y := r86) (by kernel_rfl) (by kernel_rfl) (by kernel_rfl)) (fun c267 => ?_) (fun c267 => ?_)
                            · refine F_val (.bool true) (fun _ => by kernel_rfl) (F_nil hM256 hL259 (fun w268 hM269 => S_nil (R_yes (by kernel_rfl) (R_seq (R_region (S_val (.bool false) (by kernel_rfl) (S_nil (?_))))))))
                              have HR := hr_neg HR c267
                              refine R_ret hM269 rfl (.cons (.tmp _ (.bool false) (by kernel_rfl)) .nil) rfl ?_
                              exact ⟨congrArg Ending.returned HR, hM269.below⟩
                            · refine F_val (.bool false) (fun _ => by kernel_rfl) (F_nil hM256 hL259 (fun w270 hM271 => S_nil (R_no (by kernel_rfl) (R_skip (R_inBlock (R_region (S_val (.int .i64 3) (by kernel_rfl) (S_val (.int .i64 3) (by kernel_rfl) (S_nil (R_inLoop (R_seq (?_))))))))))))
                              have HR := hr_pos HR c267
                              refine R_region (S_val (.bool true) (by kernel_rfl) (S_nil (R_seq (R_yes (by kernel_rfl) (R_skip (R_seq (R_block (R_seq (R_region (S_val (.pointer (some ⟨g116, 9, none⟩)) (by kernel_rfl) (S_load 6 9 (.agg #[.int .i64 x105, .int .i64 x107, .int .i64 x109]) hM271 (by kernel_rfl) (?_))))))))))))
                              refine S_fresh none #[.int .i64 0, .int .i64 0, .int .i64 0] 23 hM271 (by kernel_rfl) (fun g272 w273 hM274 => S_store 0 0 #[.int .i64 x105, .int .i64 x107, .int .i64 x109] hM274 (by kernel_rfl) (fun w275 hM276 => S_nil (R_seq (R_drawG 12 (by kernel_rfl) (fun F277 U278 hL279 => G_load 9 0 (.agg #[.int .i64 r96.1, .int .i64 r96.2.1, .int .i64 r96.2.2]) hM276 (by kernel_rfl) (G_load 0 0 (.agg #[.int .i64 x105, .int .i64 x107, .int .i64 x109]) hM276 (by kernel_rfl) (G_load 9 0 (.agg #[.int .i64 r96.1, .int .i64 r96.2.1, .int .i64 r96.2.2]) hM276 (by kernel_rfl) (G_call (s_tri_Sub (x105, x107, x109) r96) (fun r : Int × Int × Int => .agg #[.int .i64 r.1, .int .i64 r.2.1, .int .i64 r.2.2]) hM276 hL279 (fun w' hM' => w_tri_Sub (x105, x107, x109) r96 w') (by kernel_rfl) (fun _ => by kernel_rfl) (fun r280 h281 => G_load 10 0 (.agg #[.int .i64 r82.1, .int .i64 r82.2.1, .int .i64 r82.2.2, .int .i64 r84.1, .int .i64 r84.2.1, .int .i64 r84.2.2, .int .i64 r86.1, .int .i64 r86.2.1, .int .i64 r86.2.2]) hM276 (by kernel_rfl) (G_call (hitT r96 r280 (r82, r84, r86)) (fun r : (Int × Int × Int × Int) × Bool => .tuple #[.agg #[.int .i64 r.1.1, .int .i64 r.1.2.1, .int .i64 r.1.2.2.1, .int .i64 r.1.2.2.2], .bool r.2]) hM276 hL279 (fun w' hM' => tHit r96 r280 (r82, r84, r86) w') (by kernel_rfl) (fun _ => by kernel_rfl) (fun r282 h283 => ?_)))))))))))
                              have HR := hr_lt HR h281
                              have HR := hr_lt HR h283
                              obtain ⟨r284, b286⟩ := r282
                              cases b286
                              · refine G_val (.tuple #[.agg #[.int .i64 r284.1, .int .i64 r284.2.1, .int .i64 r284.2.2.1, .int .i64 r284.2.2.2], .bool false]) (fun _ => by kernel_rfl) (G_val (.agg #[.int .i64 r284.1, .int .i64 r284.2.1, .int .i64 r284.2.2.1, .int .i64 r284.2.2.2]) (fun _ => by kernel_rfl) (G_val (.bool false) (fun _ => by kernel_rfl) (G_fresh none #[.int .i64 0, .int .i64 0, .int .i64 0, .int .i64 0] 50 hL279 (by kernel_rfl) (fun _ => by kernel_rfl) (fun g287 F288 U289 hL290 => G_store 0 0 #[.int .i64 r284.1, .int .i64 r284.2.1, .int .i64 r284.2.2.1, .int .i64 r284.2.2.2] hL290 (by kernel_rfl) (by kernel_rfl) (fun F291 hL292 => G_val (.bool false) (fun _ => by kernel_rfl) (G_nil hM276 hL292 (fun w293 hM294 => S_nil (R_seq (R_drawF 19 (by kernel_rfl) (fun F295 U296 hL297 => F_val (.bool false) (fun _ => by kernel_rfl) (F_val (.bool true) (fun _ => by kernel_rfl) (?_))))))))))))
                                have HR := hr_neg HR Bool.false_ne_true
                                refine F_val (.bool true) (fun _ => by kernel_rfl) (F_skip (by kernel_rfl) (F_skip (by kernel_rfl) (F_skip (by kernel_rfl) (F_skip (by kernel_rfl) (F_skip (by kernel_rfl) (F_val (.bool true) (fun _ => by kernel_rfl) (F_val (.bool true) (fun _ => by kernel_rfl) (F_skip (by kernel_rfl) (F_skip (by kernel_rfl) (F_skip (by kernel_rfl) (F_skip (by kernel_rfl) (?_))))))))))))
                                refine F_skip (by kernel_rfl) (F_skip (by kernel_rfl) (F_skip (by kernel_rfl) (F_skip (by kernel_rfl) (F_val (.bool true) (fun _ => by kernel_rfl) (F_nil hM294 hL297 (fun w298 hM299 => S_nil (R_yes (by kernel_rfl) (R_seq (R_region (S_val (.bool false) (by kernel_rfl) (S_nil (?_))))))))))))
                                refine R_ret hM299 rfl (.cons (.tmp _ (.bool false) (by kernel_rfl)) .nil) rfl ?_
                                exact ⟨congrArg Ending.returned HR, hM299.below⟩
                              · refine G_val (.tuple #[.agg #[.int .i64 r284.1, .int .i64 r284.2.1, .int .i64 r284.2.2.1, .int .i64 r284.2.2.2], .bool true]) (fun _ => by kernel_rfl) (G_val (.agg #[.int .i64 r284.1, .int .i64 r284.2.1, .int .i64 r284.2.2.1, .int .i64 r284.2.2.2]) (fun _ => by kernel_rfl) (G_val (.bool true) (fun _ => by kernel_rfl) (G_fresh none #[.int .i64 0, .int .i64 0, .int .i64 0, .int .i64 0] 50 hL279 (by kernel_rfl) (fun _ => by kernel_rfl) (fun g300 F301 U302 hL303 => G_store 0 0 #[.int .i64 r284.1, .int .i64 r284.2.1, .int .i64 r284.2.2.1, .int .i64 r284.2.2.2] hL303 (by kernel_rfl) (by kernel_rfl) (fun F304 hL305 => G_val (.bool true) (fun _ => by kernel_rfl) (G_nil hM276 hL305 (fun w306 hM307 => S_nil (R_seq (R_drawF 19 (by kernel_rfl) (fun F308 U309 hL310 => F_val (.bool true) (fun _ => by kernel_rfl) (F_val (.bool false) (fun _ => by kernel_rfl) (?_))))))))))))
                                have HR := hr_pos HR rfl
                                refine F_val (.bool false) (fun _ => by kernel_rfl) (F_val (.pointer (some ⟨g300, 0, none⟩)) (fun _ => by kernel_rfl) (F_load 0 0 (.int .i64 r284.1) hM307 (by kernel_rfl) (F_val (.pointer (some ⟨g300, 1, none⟩)) (fun _ => by kernel_rfl) (F_load 0 1 (.int .i64 r284.2.1) hM307 (by kernel_rfl) (?_)))))
                                refine F_decn (r284.1 = r284.2.1) (fun _ => by kernel_rfl) (fun c311 => ?_) (fun c311 => ?_)
                                · refine F_val (.bool true) (fun _ => by kernel_rfl) (F_val (.bool true) (fun _ => by kernel_rfl) (F_skip (by kernel_rfl) (F_skip (by kernel_rfl) (F_skip (by kernel_rfl) (F_skip (by kernel_rfl) (F_skip (by kernel_rfl) (F_skip (by kernel_rfl) (F_skip (by kernel_rfl) (F_skip (by kernel_rfl) (F_val (.bool true) (fun _ => by kernel_rfl) (F_nil hM307 hL310 (fun w312 hM313 => ?_))))))))))))
                                  have HR := hr_neg HR c311
                                  refine S_nil (R_yes (by kernel_rfl) (R_seq (R_region (S_val (.bool false) (by kernel_rfl) (S_nil (?_))))))
                                  refine R_ret hM313 rfl (.cons (.tmp _ (.bool false) (by kernel_rfl)) .nil) rfl ?_
                                  exact ⟨congrArg Ending.returned HR, hM313.below⟩
                                · refine F_val (.bool false) (fun _ => by kernel_rfl) (F_val (.bool false) (fun _ => by kernel_rfl) (F_load 10 0 (.agg #[.int .i64 r96.1, .int .i64 r96.2.1, .int .i64 r96.2.2]) hM307 (by kernel_rfl) (F_load 1 0 (.agg #[.int .i64 x105, .int .i64 x107, .int .i64 x109]) hM307 (by kernel_rfl) (F_load 10 0 (.agg #[.int .i64 r96.1, .int .i64 r96.2.1, .int .i64 r96.2.2]) hM307 (by kernel_rfl) (F_call (s_tri_Sub (x105, x107, x109) r96) (fun r : Int × Int × Int => .agg #[.int .i64 r.1, .int .i64 r.2.1, .int .i64 r.2.2]) hM307 hL310 (fun w' hM' => w_tri_Sub (x105, x107, x109) r96 w') (by kernel_rfl) (fun _ => by kernel_rfl) (fun r314 h315 => F_load 0 0 (.agg #[.int .i64 r284.1, .int .i64 r284.2.1, .int .i64 r284.2.2.1, .int .i64 r284.2.2.2]) hM307 (by kernel_rfl) (F_call (placeV r96 r314 r284) (fun r : Int × Int × Int => .agg #[.int .i64 r.1, .int .i64 r.2.1, .int .i64 r.2.2]) hM307 hL310 (fun w' hM' => tPlace r96 r314 r284 ((tr (P := fun r : Int × Int × Int => InV r) h97 (twice_I o)).out) ((tr (P := fun r : Int × Int × Int => InV r) h315 (sSub_I (x105, x107, x109) r96)).out) ((tr (P := fun r : (Int × Int × Int × Int) × Bool => (InM r.1 ∧ True)) h283 (hitT_I r96 r280 (r82, r84, r86))).out.1) w') (by kernel_rfl) (fun _ => by kernel_rfl) (fun r316 h317 => F_load 1 0 (.agg #[.int .i64 x105, .int .i64 x107, .int .i64 x109]) hM307 (by kernel_rfl) (?_)))))))))
                                  have HR := hr_pos HR c311
                                  have HR := hr_lt HR h315
                                  have HR := hr_lt HR h317
                                  refine F_decn ((r316 : Int × Int × Int) = (x105, x107, x109)) (fun _ => eqv_umbra_api_Pointn (x := r316) (y := (x105, x107, x109)) (by kernel_rfl) (by kernel_rfl) (by kernel_rfl)) (fun c318 => ?_) (fun c318 => ?_)
                                  · refine F_val (.bool true) (fun _ => by kernel_rfl) (F_nil hM307 hL310 (fun w319 hM320 => S_nil (R_yes (by kernel_rfl) (R_seq (R_region (S_val (.bool false) (by kernel_rfl) (S_nil (?_))))))))
                                    have HR := hr_neg HR c318
                                    refine R_ret hM320 rfl (.cons (.tmp _ (.bool false) (by kernel_rfl)) .nil) rfl ?_
                                    exact ⟨congrArg Ending.returned HR, hM320.below⟩
                                  · refine F_val (.bool false) (fun _ => by kernel_rfl) (F_nil hM307 hL310 (fun w321 hM322 => S_nil (R_no (by kernel_rfl) (R_skip (R_inBlock (R_region (S_val (.int .i64 4) (by kernel_rfl) (S_val (.int .i64 4) (by kernel_rfl) (S_nil (R_inLoop (R_seq (?_))))))))))))
                                    have HR := hr_pos HR c318
                                    refine R_region (S_val (.bool false) (by kernel_rfl) (S_nil (R_seq (R_no (by kernel_rfl) (R_exit rfl (R_seq (R_region (S_call (s_umbralaw20_works ) (fun r : Bool => .bool r) hM322 (w_umbralaw20_works  w321) (by kernel_rfl) (fun r323 h324 w325 hM326 => ?_)))))))))
                                    have HR := hr_lt HR h324
                                    cases r323
                                    · refine S_val (.bool false) (by kernel_rfl) (S_nil (?_))
                                      have HR := hr_neg HR Bool.false_ne_true
                                      refine R_ret hM326 rfl (.cons (.tmp _ (.bool false) (by kernel_rfl)) .nil) rfl ?_
                                      exact ⟨congrArg Ending.returned HR, hM326.below⟩
                                    · refine S_val (.bool true) (by kernel_rfl) (S_nil (?_))
                                      have HR := hr_pos HR rfl
                                      refine R_ret hM326 rfl (.cons (.tmp _ (.bool true) (by kernel_rfl)) .nil) rfl ?_
                                      exact ⟨congrArg Ending.returned HR, hM326.below⟩
        · refine S_nil (R_yes (by kernel_rfl) (R_seq (R_region (S_call (s_umbralaw20_works ) (fun r : Bool => .bool r) hM45 (w_umbralaw20_works  w44) (by kernel_rfl) (fun r327 h328 w329 hM330 => ?_)))))
          have HR := hr_pos HR rfl
          have HR := hr_lt HR h328
          cases r327
          · refine S_val (.bool false) (by kernel_rfl) (S_nil (?_))
            have HR := hr_neg HR Bool.false_ne_true
            refine R_ret hM330 rfl (.cons (.tmp _ (.bool false) (by kernel_rfl)) .nil) rfl ?_
            exact ⟨congrArg Ending.returned HR, hM330.below⟩
          · refine S_val (.bool true) (by kernel_rfl) (S_nil (?_))
            have HR := hr_pos HR rfl
            refine R_ret hM330 rfl (.cons (.tmp _ (.bool true) (by kernel_rfl)) .nil) rfl ?_
            exact ⟨congrArg Ending.returned HR, hM330.below⟩
      · refine S_nil (R_yes (by kernel_rfl) (R_seq (R_region (S_call (s_umbralaw20_works ) (fun r : Bool => .bool r) hM36 (w_umbralaw20_works  w35) (by kernel_rfl) (fun r331 h332 w333 hM334 => ?_)))))
        have HR := hr_pos HR rfl
        have HR := hr_lt HR h332
        cases r331
        · refine S_val (.bool false) (by kernel_rfl) (S_nil (?_))
          have HR := hr_neg HR Bool.false_ne_true
          refine R_ret hM334 rfl (.cons (.tmp _ (.bool false) (by kernel_rfl)) .nil) rfl ?_
          exact ⟨congrArg Ending.returned HR, hM334.below⟩
        · refine S_val (.bool true) (by kernel_rfl) (S_nil (?_))
          have HR := hr_pos HR rfl
          refine R_ret hM334 rfl (.cons (.tmp _ (.bool true) (by kernel_rfl)) .nil) rfl ?_
          exact ⟨congrArg Ending.returned HR, hM334.below⟩
    · refine S_nil (R_yes (by kernel_rfl) (R_seq (R_region (S_call (s_umbralaw20_works ) (fun r : Bool => .bool r) hM27 (w_umbralaw20_works  w26) (by kernel_rfl) (fun r335 h336 w337 hM338 => ?_)))))
      have HR := hr_pos HR rfl
      have HR := hr_lt HR h336
      cases r335
      · refine S_val (.bool false) (by kernel_rfl) (S_nil (?_))
        have HR := hr_neg HR Bool.false_ne_true
        refine R_ret hM338 rfl (.cons (.tmp _ (.bool false) (by kernel_rfl)) .nil) rfl ?_
        exact ⟨congrArg Ending.returned HR, hM338.below⟩
      · refine S_val (.bool true) (by kernel_rfl) (S_nil (?_))
        have HR := hr_pos HR rfl
        refine R_ret hM338 rfl (.cons (.tmp _ (.bool true) (by kernel_rfl)) .nil) rfl ?_
        exact ⟨congrArg Ending.returned HR, hM338.below⟩
  · refine S_nil (R_yes (by kernel_rfl) (R_seq (R_region (S_call (s_umbralaw20_works ) (fun r : Bool => .bool r) hM18 (w_umbralaw20_works  w17) (by kernel_rfl) (fun r339 h340 w341 hM342 => ?_)))))
    have HR := hr_pos HR rfl
    have HR := hr_lt HR h340
    cases r339
    · refine S_val (.bool false) (by kernel_rfl) (S_nil (?_))
      have HR := hr_neg HR Bool.false_ne_true
      refine R_ret hM342 rfl (.cons (.tmp _ (.bool false) (by kernel_rfl)) .nil) rfl ?_
      exact ⟨congrArg Ending.returned HR, hM342.below⟩
    · refine S_val (.bool true) (by kernel_rfl) (S_nil (?_))
      have HR := hr_pos HR rfl
      refine R_ret hM342 rfl (.cons (.tmp _ (.bool true) (by kernel_rfl)) .nil) rfl ?_
      exact ⟨congrArg Ending.returned HR, hM342.below⟩

end Go.Proofs.Ytbfgmedjogjkeaa
