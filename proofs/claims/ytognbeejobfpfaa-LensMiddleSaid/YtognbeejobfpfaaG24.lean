/- Walks: stream, octa, lens. -/
import Derived.Test.YtognbeejobfpfaaGoC
import Derived.Test.YtognbeejobfpfaaOctaM
namespace Go.Proofs.Ytognbeejobfpfaa
open Go.RowKit Go.Sort
set_option linter.unusedVariables false
set_option linter.unusedSimpArgs false

def e_octa_May (r : Bool) : Value := .bool r
def s_octa_May (d0_ : Int × Int × Int) : Bool :=
  if (d0_ : Int × Int × Int) = (0, 0, 0) then
    false
  else
    lt (gmax (gmax d0_.1 d0_.2.1) d0_.2.2) fun x5 =>
    if x5 ≤ 16384 then
      lt (gmin (gmin d0_.1 d0_.2.1) d0_.2.2) fun x8 =>
      if x8 ≥ (-16384) then
        true
      else
        false
    else
      false
set_option maxRecDepth 100000 in
set_option maxHeartbeats 4000000 in
theorem w_octa_May (d0_ : Int × Int × Int) (w : World) : Calls Try.prog 38 #[.agg #[.int .i64 d0_.1, .int .i64 d0_.2.1, .int .i64 d0_.2.2]] w (Ret (e_octa_May (s_octa_May d0_)) w) := by
  obtain ⟨R, HR⟩ : ∃ R, e_octa_May (s_octa_May d0_) = R := ⟨_, rfl⟩
  rw [HR]
  unfold s_octa_May at HR
  have hM0 := St.start w
  refine calls_run Try.func38 rfl ?_
  refine R_seq (R_region (S_fresh none #[.int .i64 d0_.1, .int .i64 d0_.2.1, .int .i64 d0_.2.2] 69 hM0 (by kernel_rfl) (fun g1 w2 hM3 => S_val (.bool false) (by kernel_rfl) (S_nil (R_seq (R_region (S_load 0 0 (.agg #[.int .i64 d0_.1, .int .i64 d0_.2.1, .int .i64 d0_.2.2]) hM3 (by kernel_rfl) (S_val (.agg #[.int .i64 0, .int .i64 0, .int .i64 0]) (by kernel_rfl) (?_)))))))))
  refine S_decn ((d0_ : Int × Int × Int) = (0, 0, 0)) (eqv_umbra_api_Pointn (x := d0_) (y := (0, 0, 0)) (by kernel_rfl) (by kernel_rfl) (by kernel_rfl)) (fun c4 => ?_) (fun c4 => ?_)
  · refine S_val (.bool true) (by kernel_rfl) (S_val (.pointer (some ⟨g1, 0, none⟩)) (by kernel_rfl) (S_load 0 0 (.int .i64 d0_.1) hM3 (by kernel_rfl) (S_val (.pointer (some ⟨g1, 1, none⟩)) (by kernel_rfl) (S_load 0 1 (.int .i64 d0_.2.1) hM3 (by kernel_rfl) (S_val (.pointer (some ⟨g1, 2, none⟩)) (by kernel_rfl) (S_load 0 2 (.int .i64 d0_.2.2) hM3 (by kernel_rfl) (S_int (gmax (gmax d0_.1 d0_.2.1) d0_.2.2) .i64 (by kernel_rfl) (fun x5 h6 => ?_))))))))
    have HR := hr_neg HR c4
    have HR := hr_lt HR h6
    refine S_dec (x5 ≤ 16384) (by kernel_rfl) (fun c7 => ?_) (fun c7 => ?_)
    · refine S_val (.bool true) (by kernel_rfl) (S_val (.bool true) (by kernel_rfl) (S_val (.pointer (some ⟨g1, 0, none⟩)) (by kernel_rfl) (S_load 0 0 (.int .i64 d0_.1) hM3 (by kernel_rfl) (S_val (.pointer (some ⟨g1, 1, none⟩)) (by kernel_rfl) (S_load 0 1 (.int .i64 d0_.2.1) hM3 (by kernel_rfl) (S_val (.pointer (some ⟨g1, 2, none⟩)) (by kernel_rfl) (S_load 0 2 (.int .i64 d0_.2.2) hM3 (by kernel_rfl) (S_int (gmin (gmin d0_.1 d0_.2.1) d0_.2.2) .i64 (by kernel_rfl) (fun x8 h9 => ?_)))))))))
      have HR := hr_pos HR c7
      have HR := hr_lt HR h9
      refine S_dec (x8 ≥ (-16384)) (by kernel_rfl) (fun c10 => ?_) (fun c10 => ?_)
      · refine S_val (.bool true) (by kernel_rfl) (S_val (.bool true) (by kernel_rfl) (S_nil (?_)))
        have HR := hr_pos HR c10
        refine R_ret hM3 rfl (.cons (.tmp _ (.bool true) (by kernel_rfl)) .nil) rfl ?_
        exact ⟨congrArg Ending.returned HR, hM3.below⟩
      · refine S_val (.bool false) (by kernel_rfl) (S_val (.bool false) (by kernel_rfl) (S_nil (?_)))
        have HR := hr_neg HR c10
        refine R_ret hM3 rfl (.cons (.tmp _ (.bool false) (by kernel_rfl)) .nil) rfl ?_
        exact ⟨congrArg Ending.returned HR, hM3.below⟩
    · refine S_val (.bool false) (by kernel_rfl) (S_val (.bool false) (by kernel_rfl) (S_skip (by kernel_rfl) (S_skip (by kernel_rfl) (S_skip (by kernel_rfl) (S_skip (by kernel_rfl) (S_skip (by kernel_rfl) (S_skip (by kernel_rfl) (S_skip (by kernel_rfl) (S_skip (by kernel_rfl) (S_val (.bool false) (by kernel_rfl) (S_val (.bool false) (by kernel_rfl) (?_))))))))))))
      have HR := hr_neg HR c7
      refine S_nil (?_)
      refine R_ret hM3 rfl (.cons (.tmp _ (.bool false) (by kernel_rfl)) .nil) rfl ?_
      exact ⟨congrArg Ending.returned HR, hM3.below⟩
  · refine S_val (.bool false) (by kernel_rfl) (S_skip (by kernel_rfl) (S_skip (by kernel_rfl) (S_skip (by kernel_rfl) (S_skip (by kernel_rfl) (S_skip (by kernel_rfl) (S_skip (by kernel_rfl) (S_skip (by kernel_rfl) (S_skip (by kernel_rfl) (S_val (.bool false) (by kernel_rfl) (S_val (.bool false) (by kernel_rfl) (S_skip (by kernel_rfl) (?_))))))))))))
    have HR := hr_pos HR c4
    refine S_skip (by kernel_rfl) (S_skip (by kernel_rfl) (S_skip (by kernel_rfl) (S_skip (by kernel_rfl) (S_skip (by kernel_rfl) (S_skip (by kernel_rfl) (S_skip (by kernel_rfl) (S_val (.bool false) (by kernel_rfl) (S_val (.bool false) (by kernel_rfl) (S_nil (?_))))))))))
    refine R_ret hM3 rfl (.cons (.tmp _ (.bool false) (by kernel_rfl)) .nil) rfl ?_
    exact ⟨congrArg Ending.returned HR, hM3.below⟩

def e_umbraref05_May (r : Bool) : Value := .bool r
def s_umbraref05_May (d0_ : Int × Int × Int) : Bool :=
  if d0_.1 > 16384 then
    false
  else
    if d0_.1 < (-16384) then
      false
    else
      if d0_.1 = 0 then
        if d0_.2.1 > 16384 then
          false
        else
          if d0_.2.1 < (-16384) then
            false
          else
            if d0_.2.1 = 0 then
              if d0_.2.2 > 16384 then
                false
              else
                if d0_.2.2 < (-16384) then
                  false
                else
                  if d0_.2.2 = 0 then
                    false
                  else
                    true
            else
              if d0_.2.2 > 16384 then
                false
              else
                if d0_.2.2 < (-16384) then
                  false
                else
                  true
      else
        if d0_.2.1 > 16384 then
          false
        else
          if d0_.2.1 < (-16384) then
            false
          else
            if d0_.2.2 > 16384 then
              false
            else
              if d0_.2.2 < (-16384) then
                false
              else
                true
set_option maxRecDepth 100000 in
set_option maxHeartbeats 4000000 in
theorem w_umbraref05_May (d0_ : Int × Int × Int) (w : World) : Calls Try.prog 65 #[.agg #[.int .i64 d0_.1, .int .i64 d0_.2.1, .int .i64 d0_.2.2]] w (Ret (e_umbraref05_May (s_umbraref05_May d0_)) w) := by
  obtain ⟨R, HR⟩ : ∃ R, e_umbraref05_May (s_umbraref05_May d0_) = R := ⟨_, rfl⟩
  rw [HR]
  unfold s_umbraref05_May at HR
  have hM0 := St.start w
  refine calls_run Try.func65 rfl ?_
  refine R_seq (R_region (S_fresh none #[.int .i64 d0_.1, .int .i64 d0_.2.1, .int .i64 d0_.2.2] 69 hM0 (by kernel_rfl) (fun g1 w2 hM3 => S_val (.bool false) (by kernel_rfl) (S_nil (R_seq (R_region (S_val (.pointer (some ⟨g1, 0, none⟩)) (by kernel_rfl) (S_load 0 0 (.int .i64 d0_.1) hM3 (by kernel_rfl) (S_val (.pointer (some ⟨g1, 1, none⟩)) (by kernel_rfl) (S_load 0 1 (.int .i64 d0_.2.1) hM3 (by kernel_rfl) (S_val (.pointer (some ⟨g1, 2, none⟩)) (by kernel_rfl) (?_))))))))))))
  refine S_load 0 2 (.int .i64 d0_.2.2) hM3 (by kernel_rfl) (S_fresh (some 3) #[.int .i64 d0_.1, .int .i64 d0_.2.1, .int .i64 d0_.2.2] 3 hM3 (by kernel_rfl) (fun g4 w5 hM6 => S_val (.slice (some ⟨g4, 0, none⟩) 3 3) (by kernel_rfl) (S_nil (R_seq (R_region (S_val (.bool false) (by kernel_rfl) (S_nil (R_seq (R_seq (R_region (S_val (.int .i64 0) (by kernel_rfl) (?_))))))))))))
  refine S_nil (R_block (R_loop (R_seq (R_seq (R_region (S_val (.int .i64 0) (by kernel_rfl) (S_val (.bool true) (by kernel_rfl) (S_nil (R_yes (by kernel_rfl) (R_skip (R_seq (?_))))))))))))
  refine R_block (R_seq (R_seq (R_region (S_val (.slice (some ⟨g4, 0, none⟩) 3 3) (by kernel_rfl) (S_val (.int .i64 0) (by kernel_rfl) (S_val (.pointer (some ⟨g4, 0, none⟩)) (by kernel_rfl) (S_load 0 0 (.int .i64 d0_.1) hM6 (by kernel_rfl) (?_))))))))
  refine S_dec (d0_.1 > 16384) (by kernel_rfl) (fun c7 => ?_) (fun c7 => ?_)
  · refine S_val (.bool true) (by kernel_rfl) (S_skip (by kernel_rfl) (S_skip (by kernel_rfl) (S_skip (by kernel_rfl) (S_skip (by kernel_rfl) (S_skip (by kernel_rfl) (S_val (.bool true) (by kernel_rfl) (S_nil (R_yes (by kernel_rfl) (R_seq (R_region (S_val (.bool false) (by kernel_rfl) (?_))))))))))))
    have HR := hr_pos HR c7
    refine S_nil (?_)
    refine R_ret hM6 rfl (.cons (.tmp _ (.bool false) (by kernel_rfl)) .nil) rfl ?_
    exact ⟨congrArg Ending.returned HR, hM6.below⟩
  · refine S_val (.bool false) (by kernel_rfl) (S_val (.slice (some ⟨g4, 0, none⟩) 3 3) (by kernel_rfl) (S_val (.int .i64 0) (by kernel_rfl) (S_val (.pointer (some ⟨g4, 0, none⟩)) (by kernel_rfl) (S_load 0 0 (.int .i64 d0_.1) hM6 (by kernel_rfl) (?_)))))
    have HR := hr_neg HR c7
    refine S_dec (d0_.1 < (-16384)) (by kernel_rfl) (fun c8 => ?_) (fun c8 => ?_)
    · refine S_val (.bool true) (by kernel_rfl) (S_nil (R_yes (by kernel_rfl) (R_seq (R_region (S_val (.bool false) (by kernel_rfl) (S_nil (?_)))))))
      have HR := hr_pos HR c8
      refine R_ret hM6 rfl (.cons (.tmp _ (.bool false) (by kernel_rfl)) .nil) rfl ?_
      exact ⟨congrArg Ending.returned HR, hM6.below⟩
    · refine S_val (.bool false) (by kernel_rfl) (S_nil (R_no (by kernel_rfl) (R_skip (R_region (S_val (.bool false) (by kernel_rfl) (S_val (.bool false) (by kernel_rfl) (S_val (.slice (some ⟨g4, 0, none⟩) 3 3) (by kernel_rfl) (S_val (.int .i64 0) (by kernel_rfl) (S_val (.pointer (some ⟨g4, 0, none⟩)) (by kernel_rfl) (S_load 0 0 (.int .i64 d0_.1) hM6 (by kernel_rfl) (?_)))))))))))
      have HR := hr_neg HR c8
      refine S_decn (d0_.1 = 0) (by kernel_rfl) (fun c9 => ?_) (fun c9 => ?_)
      · refine S_val (.bool true) (by kernel_rfl) (S_val (.bool true) (by kernel_rfl) (S_nil (R_inBlock (R_region (S_val (.int .i64 0) (by kernel_rfl) (S_val (.int .i64 1) (by kernel_rfl) (S_val (.int .i64 1) (by kernel_rfl) (S_nil (R_inLoop (R_seq (R_seq (?_))))))))))))
        have HR := hr_neg HR c9
        refine R_region (S_val (.int .i64 1) (by kernel_rfl) (S_val (.bool true) (by kernel_rfl) (S_nil (R_yes (by kernel_rfl) (R_skip (R_seq (R_block (R_seq (R_seq (R_region (S_val (.slice (some ⟨g4, 0, none⟩) 3 3) (by kernel_rfl) (?_))))))))))))
        refine S_val (.int .i64 1) (by kernel_rfl) (S_val (.pointer (some ⟨g4, 1, none⟩)) (by kernel_rfl) (S_load 0 1 (.int .i64 d0_.2.1) hM6 (by kernel_rfl) (?_)))
        refine S_dec (d0_.2.1 > 16384) (by kernel_rfl) (fun c10 => ?_) (fun c10 => ?_)
        · refine S_val (.bool true) (by kernel_rfl) (S_skip (by kernel_rfl) (S_skip (by kernel_rfl) (S_skip (by kernel_rfl) (S_skip (by kernel_rfl) (S_skip (by kernel_rfl) (S_val (.bool true) (by kernel_rfl) (S_nil (R_yes (by kernel_rfl) (R_seq (R_region (S_val (.bool false) (by kernel_rfl) (?_))))))))))))
          have HR := hr_pos HR c10
          refine S_nil (?_)
          refine R_ret hM6 rfl (.cons (.tmp _ (.bool false) (by kernel_rfl)) .nil) rfl ?_
          exact ⟨congrArg Ending.returned HR, hM6.below⟩
        · refine S_val (.bool false) (by kernel_rfl) (S_val (.slice (some ⟨g4, 0, none⟩) 3 3) (by kernel_rfl) (S_val (.int .i64 1) (by kernel_rfl) (S_val (.pointer (some ⟨g4, 1, none⟩)) (by kernel_rfl) (S_load 0 1 (.int .i64 d0_.2.1) hM6 (by kernel_rfl) (?_)))))
          have HR := hr_neg HR c10
          refine S_dec (d0_.2.1 < (-16384)) (by kernel_rfl) (fun c11 => ?_) (fun c11 => ?_)
          · refine S_val (.bool true) (by kernel_rfl) (S_nil (R_yes (by kernel_rfl) (R_seq (R_region (S_val (.bool false) (by kernel_rfl) (S_nil (?_)))))))
            have HR := hr_pos HR c11
            refine R_ret hM6 rfl (.cons (.tmp _ (.bool false) (by kernel_rfl)) .nil) rfl ?_
            exact ⟨congrArg Ending.returned HR, hM6.below⟩
          · refine S_val (.bool false) (by kernel_rfl) (S_nil (R_no (by kernel_rfl) (R_skip (R_region (S_val (.bool true) (by kernel_rfl) (S_val (.bool true) (by kernel_rfl) (S_skip (by kernel_rfl) (S_skip (by kernel_rfl) (S_skip (by kernel_rfl) (S_skip (by kernel_rfl) (S_skip (by kernel_rfl) (?_))))))))))))
            have HR := hr_neg HR c11
            refine S_val (.bool true) (by kernel_rfl) (S_val (.bool true) (by kernel_rfl) (S_nil (R_inBlock (R_region (S_val (.int .i64 1) (by kernel_rfl) (S_val (.int .i64 2) (by kernel_rfl) (S_val (.int .i64 2) (by kernel_rfl) (S_nil (R_inLoop (R_seq (R_seq (?_))))))))))))
            refine R_region (S_val (.int .i64 2) (by kernel_rfl) (S_val (.bool true) (by kernel_rfl) (S_nil (R_yes (by kernel_rfl) (R_skip (R_seq (R_block (R_seq (R_seq (R_region (S_val (.slice (some ⟨g4, 0, none⟩) 3 3) (by kernel_rfl) (?_))))))))))))
            refine S_val (.int .i64 2) (by kernel_rfl) (S_val (.pointer (some ⟨g4, 2, none⟩)) (by kernel_rfl) (S_load 0 2 (.int .i64 d0_.2.2) hM6 (by kernel_rfl) (?_)))
            refine S_dec (d0_.2.2 > 16384) (by kernel_rfl) (fun c12 => ?_) (fun c12 => ?_)
            · refine S_val (.bool true) (by kernel_rfl) (S_skip (by kernel_rfl) (S_skip (by kernel_rfl) (S_skip (by kernel_rfl) (S_skip (by kernel_rfl) (S_skip (by kernel_rfl) (S_val (.bool true) (by kernel_rfl) (S_nil (R_yes (by kernel_rfl) (R_seq (R_region (S_val (.bool false) (by kernel_rfl) (?_))))))))))))
              have HR := hr_pos HR c12
              refine S_nil (?_)
              refine R_ret hM6 rfl (.cons (.tmp _ (.bool false) (by kernel_rfl)) .nil) rfl ?_
              exact ⟨congrArg Ending.returned HR, hM6.below⟩
            · refine S_val (.bool false) (by kernel_rfl) (S_val (.slice (some ⟨g4, 0, none⟩) 3 3) (by kernel_rfl) (S_val (.int .i64 2) (by kernel_rfl) (S_val (.pointer (some ⟨g4, 2, none⟩)) (by kernel_rfl) (S_load 0 2 (.int .i64 d0_.2.2) hM6 (by kernel_rfl) (?_)))))
              have HR := hr_neg HR c12
              refine S_dec (d0_.2.2 < (-16384)) (by kernel_rfl) (fun c13 => ?_) (fun c13 => ?_)
              · refine S_val (.bool true) (by kernel_rfl) (S_nil (R_yes (by kernel_rfl) (R_seq (R_region (S_val (.bool false) (by kernel_rfl) (S_nil (?_)))))))
                have HR := hr_pos HR c13
                refine R_ret hM6 rfl (.cons (.tmp _ (.bool false) (by kernel_rfl)) .nil) rfl ?_
                exact ⟨congrArg Ending.returned HR, hM6.below⟩
              · refine S_val (.bool false) (by kernel_rfl) (S_nil (R_no (by kernel_rfl) (R_skip (R_region (S_val (.bool true) (by kernel_rfl) (S_val (.bool true) (by kernel_rfl) (S_skip (by kernel_rfl) (S_skip (by kernel_rfl) (S_skip (by kernel_rfl) (S_skip (by kernel_rfl) (S_skip (by kernel_rfl) (?_))))))))))))
                have HR := hr_neg HR c13
                refine S_val (.bool true) (by kernel_rfl) (S_val (.bool true) (by kernel_rfl) (S_nil (R_inBlock (R_region (S_val (.int .i64 2) (by kernel_rfl) (S_val (.int .i64 3) (by kernel_rfl) (S_val (.int .i64 3) (by kernel_rfl) (S_nil (R_inLoop (R_seq (R_seq (?_))))))))))))
                refine R_region (S_val (.int .i64 3) (by kernel_rfl) (S_val (.bool false) (by kernel_rfl) (S_nil (R_no (by kernel_rfl) (R_exit rfl (R_seq (R_region (S_val (.bool true) (by kernel_rfl) (S_val (.bool true) (by kernel_rfl) (S_nil (?_)))))))))))
                refine R_ret hM6 rfl (.cons (.tmp _ (.bool true) (by kernel_rfl)) .nil) rfl ?_
                exact ⟨congrArg Ending.returned HR, hM6.below⟩
      · refine S_val (.bool false) (by kernel_rfl) (S_val (.bool false) (by kernel_rfl) (S_nil (R_inBlock (R_region (S_val (.int .i64 0) (by kernel_rfl) (S_val (.int .i64 1) (by kernel_rfl) (S_val (.int .i64 1) (by kernel_rfl) (S_nil (R_inLoop (R_seq (R_seq (?_))))))))))))
        have HR := hr_pos HR c9
        refine R_region (S_val (.int .i64 1) (by kernel_rfl) (S_val (.bool true) (by kernel_rfl) (S_nil (R_yes (by kernel_rfl) (R_skip (R_seq (R_block (R_seq (R_seq (R_region (S_val (.slice (some ⟨g4, 0, none⟩) 3 3) (by kernel_rfl) (?_))))))))))))
        refine S_val (.int .i64 1) (by kernel_rfl) (S_val (.pointer (some ⟨g4, 1, none⟩)) (by kernel_rfl) (S_load 0 1 (.int .i64 d0_.2.1) hM6 (by kernel_rfl) (?_)))
        refine S_dec (d0_.2.1 > 16384) (by kernel_rfl) (fun c14 => ?_) (fun c14 => ?_)
        · refine S_val (.bool true) (by kernel_rfl) (S_skip (by kernel_rfl) (S_skip (by kernel_rfl) (S_skip (by kernel_rfl) (S_skip (by kernel_rfl) (S_skip (by kernel_rfl) (S_val (.bool true) (by kernel_rfl) (S_nil (R_yes (by kernel_rfl) (R_seq (R_region (S_val (.bool false) (by kernel_rfl) (?_))))))))))))
          have HR := hr_pos HR c14
          refine S_nil (?_)
          refine R_ret hM6 rfl (.cons (.tmp _ (.bool false) (by kernel_rfl)) .nil) rfl ?_
          exact ⟨congrArg Ending.returned HR, hM6.below⟩
        · refine S_val (.bool false) (by kernel_rfl) (S_val (.slice (some ⟨g4, 0, none⟩) 3 3) (by kernel_rfl) (S_val (.int .i64 1) (by kernel_rfl) (S_val (.pointer (some ⟨g4, 1, none⟩)) (by kernel_rfl) (S_load 0 1 (.int .i64 d0_.2.1) hM6 (by kernel_rfl) (?_)))))
          have HR := hr_neg HR c14
          refine S_dec (d0_.2.1 < (-16384)) (by kernel_rfl) (fun c15 => ?_) (fun c15 => ?_)
          · refine S_val (.bool true) (by kernel_rfl) (S_nil (R_yes (by kernel_rfl) (R_seq (R_region (S_val (.bool false) (by kernel_rfl) (S_nil (?_)))))))
            have HR := hr_pos HR c15
            refine R_ret hM6 rfl (.cons (.tmp _ (.bool false) (by kernel_rfl)) .nil) rfl ?_
            exact ⟨congrArg Ending.returned HR, hM6.below⟩
          · refine S_val (.bool false) (by kernel_rfl) (S_nil (R_no (by kernel_rfl) (R_skip (R_region (S_val (.bool false) (by kernel_rfl) (S_val (.bool false) (by kernel_rfl) (S_val (.slice (some ⟨g4, 0, none⟩) 3 3) (by kernel_rfl) (S_val (.int .i64 1) (by kernel_rfl) (S_val (.pointer (some ⟨g4, 1, none⟩)) (by kernel_rfl) (S_load 0 1 (.int .i64 d0_.2.1) hM6 (by kernel_rfl) (?_)))))))))))
            have HR := hr_neg HR c15
            refine S_decn (d0_.2.1 = 0) (by kernel_rfl) (fun c16 => ?_) (fun c16 => ?_)
            · refine S_val (.bool true) (by kernel_rfl) (S_val (.bool true) (by kernel_rfl) (S_nil (R_inBlock (R_region (S_val (.int .i64 1) (by kernel_rfl) (S_val (.int .i64 2) (by kernel_rfl) (S_val (.int .i64 2) (by kernel_rfl) (S_nil (R_inLoop (R_seq (R_seq (?_))))))))))))
              have HR := hr_neg HR c16
              refine R_region (S_val (.int .i64 2) (by kernel_rfl) (S_val (.bool true) (by kernel_rfl) (S_nil (R_yes (by kernel_rfl) (R_skip (R_seq (R_block (R_seq (R_seq (R_region (S_val (.slice (some ⟨g4, 0, none⟩) 3 3) (by kernel_rfl) (?_))))))))))))
              refine S_val (.int .i64 2) (by kernel_rfl) (S_val (.pointer (some ⟨g4, 2, none⟩)) (by kernel_rfl) (S_load 0 2 (.int .i64 d0_.2.2) hM6 (by kernel_rfl) (?_)))
              refine S_dec (d0_.2.2 > 16384) (by kernel_rfl) (fun c17 => ?_) (fun c17 => ?_)
              · refine S_val (.bool true) (by kernel_rfl) (S_skip (by kernel_rfl) (S_skip (by kernel_rfl) (S_skip (by kernel_rfl) (S_skip (by kernel_rfl) (S_skip (by kernel_rfl) (S_val (.bool true) (by kernel_rfl) (S_nil (R_yes (by kernel_rfl) (R_seq (R_region (S_val (.bool false) (by kernel_rfl) (?_))))))))))))
                have HR := hr_pos HR c17
                refine S_nil (?_)
                refine R_ret hM6 rfl (.cons (.tmp _ (.bool false) (by kernel_rfl)) .nil) rfl ?_
                exact ⟨congrArg Ending.returned HR, hM6.below⟩
              · refine S_val (.bool false) (by kernel_rfl) (S_val (.slice (some ⟨g4, 0, none⟩) 3 3) (by kernel_rfl) (S_val (.int .i64 2) (by kernel_rfl) (S_val (.pointer (some ⟨g4, 2, none⟩)) (by kernel_rfl) (S_load 0 2 (.int .i64 d0_.2.2) hM6 (by kernel_rfl) (?_)))))
                have HR := hr_neg HR c17
                refine S_dec (d0_.2.2 < (-16384)) (by kernel_rfl) (fun c18 => ?_) (fun c18 => ?_)
                · refine S_val (.bool true) (by kernel_rfl) (S_nil (R_yes (by kernel_rfl) (R_seq (R_region (S_val (.bool false) (by kernel_rfl) (S_nil (?_)))))))
                  have HR := hr_pos HR c18
                  refine R_ret hM6 rfl (.cons (.tmp _ (.bool false) (by kernel_rfl)) .nil) rfl ?_
                  exact ⟨congrArg Ending.returned HR, hM6.below⟩
                · refine S_val (.bool false) (by kernel_rfl) (S_nil (R_no (by kernel_rfl) (R_skip (R_region (S_val (.bool true) (by kernel_rfl) (S_val (.bool true) (by kernel_rfl) (S_skip (by kernel_rfl) (S_skip (by kernel_rfl) (S_skip (by kernel_rfl) (S_skip (by kernel_rfl) (S_skip (by kernel_rfl) (?_))))))))))))
                  have HR := hr_neg HR c18
                  refine S_val (.bool true) (by kernel_rfl) (S_val (.bool true) (by kernel_rfl) (S_nil (R_inBlock (R_region (S_val (.int .i64 2) (by kernel_rfl) (S_val (.int .i64 3) (by kernel_rfl) (S_val (.int .i64 3) (by kernel_rfl) (S_nil (R_inLoop (R_seq (R_seq (?_))))))))))))
                  refine R_region (S_val (.int .i64 3) (by kernel_rfl) (S_val (.bool false) (by kernel_rfl) (S_nil (R_no (by kernel_rfl) (R_exit rfl (R_seq (R_region (S_val (.bool true) (by kernel_rfl) (S_val (.bool true) (by kernel_rfl) (S_nil (?_)))))))))))
                  refine R_ret hM6 rfl (.cons (.tmp _ (.bool true) (by kernel_rfl)) .nil) rfl ?_
                  exact ⟨congrArg Ending.returned HR, hM6.below⟩
            · refine S_val (.bool false) (by kernel_rfl) (S_val (.bool false) (by kernel_rfl) (S_nil (R_inBlock (R_region (S_val (.int .i64 1) (by kernel_rfl) (S_val (.int .i64 2) (by kernel_rfl) (S_val (.int .i64 2) (by kernel_rfl) (S_nil (R_inLoop (R_seq (R_seq (?_))))))))))))
              have HR := hr_pos HR c16
              refine R_region (S_val (.int .i64 2) (by kernel_rfl) (S_val (.bool true) (by kernel_rfl) (S_nil (R_yes (by kernel_rfl) (R_skip (R_seq (R_block (R_seq (R_seq (R_region (S_val (.slice (some ⟨g4, 0, none⟩) 3 3) (by kernel_rfl) (?_))))))))))))
              refine S_val (.int .i64 2) (by kernel_rfl) (S_val (.pointer (some ⟨g4, 2, none⟩)) (by kernel_rfl) (S_load 0 2 (.int .i64 d0_.2.2) hM6 (by kernel_rfl) (?_)))
              refine S_dec (d0_.2.2 > 16384) (by kernel_rfl) (fun c19 => ?_) (fun c19 => ?_)
              · refine S_val (.bool true) (by kernel_rfl) (S_skip (by kernel_rfl) (S_skip (by kernel_rfl) (S_skip (by kernel_rfl) (S_skip (by kernel_rfl) (S_skip (by kernel_rfl) (S_val (.bool true) (by kernel_rfl) (S_nil (R_yes (by kernel_rfl) (R_seq (R_region (S_val (.bool false) (by kernel_rfl) (?_))))))))))))
                have HR := hr_pos HR c19
                refine S_nil (?_)
                refine R_ret hM6 rfl (.cons (.tmp _ (.bool false) (by kernel_rfl)) .nil) rfl ?_
                exact ⟨congrArg Ending.returned HR, hM6.below⟩
              · refine S_val (.bool false) (by kernel_rfl) (S_val (.slice (some ⟨g4, 0, none⟩) 3 3) (by kernel_rfl) (S_val (.int .i64 2) (by kernel_rfl) (S_val (.pointer (some ⟨g4, 2, none⟩)) (by kernel_rfl) (S_load 0 2 (.int .i64 d0_.2.2) hM6 (by kernel_rfl) (?_)))))
                have HR := hr_neg HR c19
                refine S_dec (d0_.2.2 < (-16384)) (by kernel_rfl) (fun c20 => ?_) (fun c20 => ?_)
                · refine S_val (.bool true) (by kernel_rfl) (S_nil (R_yes (by kernel_rfl) (R_seq (R_region (S_val (.bool false) (by kernel_rfl) (S_nil (?_)))))))
                  have HR := hr_pos HR c20
                  refine R_ret hM6 rfl (.cons (.tmp _ (.bool false) (by kernel_rfl)) .nil) rfl ?_
                  exact ⟨congrArg Ending.returned HR, hM6.below⟩
                · refine S_val (.bool false) (by kernel_rfl) (S_nil (R_no (by kernel_rfl) (R_skip (R_region (S_val (.bool false) (by kernel_rfl) (S_val (.bool false) (by kernel_rfl) (S_val (.slice (some ⟨g4, 0, none⟩) 3 3) (by kernel_rfl) (S_val (.int .i64 2) (by kernel_rfl) (S_val (.pointer (some ⟨g4, 2, none⟩)) (by kernel_rfl) (S_load 0 2 (.int .i64 d0_.2.2) hM6 (by kernel_rfl) (?_)))))))))))
                  have HR := hr_neg HR c20
                  refine S_decn (d0_.2.2 = 0) (by kernel_rfl) (fun c21 => ?_) (fun c21 => ?_)
                  · refine S_val (.bool true) (by kernel_rfl) (S_val (.bool true) (by kernel_rfl) (S_nil (R_inBlock (R_region (S_val (.int .i64 2) (by kernel_rfl) (S_val (.int .i64 3) (by kernel_rfl) (S_val (.int .i64 3) (by kernel_rfl) (S_nil (R_inLoop (R_seq (R_seq (?_))))))))))))
                    have HR := hr_neg HR c21
                    refine R_region (S_val (.int .i64 3) (by kernel_rfl) (S_val (.bool false) (by kernel_rfl) (S_nil (R_no (by kernel_rfl) (R_exit rfl (R_seq (R_region (S_val (.bool true) (by kernel_rfl) (S_val (.bool true) (by kernel_rfl) (S_nil (?_)))))))))))
                    refine R_ret hM6 rfl (.cons (.tmp _ (.bool true) (by kernel_rfl)) .nil) rfl ?_
                    exact ⟨congrArg Ending.returned HR, hM6.below⟩
                  · refine S_val (.bool false) (by kernel_rfl) (S_val (.bool false) (by kernel_rfl) (S_nil (R_inBlock (R_region (S_val (.int .i64 2) (by kernel_rfl) (S_val (.int .i64 3) (by kernel_rfl) (S_val (.int .i64 3) (by kernel_rfl) (S_nil (R_inLoop (R_seq (R_seq (?_))))))))))))
                    have HR := hr_pos HR c21
                    refine R_region (S_val (.int .i64 3) (by kernel_rfl) (S_val (.bool false) (by kernel_rfl) (S_nil (R_no (by kernel_rfl) (R_exit rfl (R_seq (R_region (S_val (.bool false) (by kernel_rfl) (S_val (.bool false) (by kernel_rfl) (S_nil (?_)))))))))))
                    refine R_ret hM6 rfl (.cons (.tmp _ (.bool false) (by kernel_rfl)) .nil) rfl ?_
                    exact ⟨congrArg Ending.returned HR, hM6.below⟩

def e_umbraref13_Off (r : Bool) : Value := .bool r
def s_umbraref13_Off (p : Int × Int × Int) (far : Int) : Bool :=
  if p.1 > far then
    true
  else
    lt (IntKind.i64.wrap (0 - far)) fun x5 =>
    if p.1 < x5 then
      true
    else
      if p.2.1 > far then
        true
      else
        lt (IntKind.i64.wrap (0 - far)) fun x9 =>
        if p.2.1 < x9 then
          true
        else
          if p.2.2 > far then
            true
          else
            lt (IntKind.i64.wrap (0 - far)) fun x13 =>
            if p.2.2 < x13 then
              true
            else
              false
set_option maxRecDepth 100000 in
set_option maxHeartbeats 4000000 in
theorem w_umbraref13_Off (p : Int × Int × Int) (far : Int) (w : World) : Calls Try.prog 64 #[.agg #[.int .i64 p.1, .int .i64 p.2.1, .int .i64 p.2.2], .int .i64 far] w (Ret (e_umbraref13_Off (s_umbraref13_Off p far)) w) := by
  obtain ⟨R, HR⟩ : ∃ R, e_umbraref13_Off (s_umbraref13_Off p far) = R := ⟨_, rfl⟩
  rw [HR]
  unfold s_umbraref13_Off at HR
  have hM0 := St.start w
  refine calls_run Try.func64 rfl ?_
  refine R_seq (R_region (S_fresh none #[.int .i64 p.1, .int .i64 p.2.1, .int .i64 p.2.2] 69 hM0 (by kernel_rfl) (fun g1 w2 hM3 => S_val (.bool false) (by kernel_rfl) (S_nil (R_seq (R_region (S_val (.pointer (some ⟨g1, 0, none⟩)) (by kernel_rfl) (S_load 0 0 (.int .i64 p.1) hM3 (by kernel_rfl) (S_val (.int .i64 far) (by kernel_rfl) (?_))))))))))
  refine S_dec (p.1 > far) (by kernel_rfl) (fun c4 => ?_) (fun c4 => ?_)
  · refine S_val (.bool true) (by kernel_rfl) (S_skip (by kernel_rfl) (S_skip (by kernel_rfl) (S_skip (by kernel_rfl) (S_skip (by kernel_rfl) (S_skip (by kernel_rfl) (S_val (.bool true) (by kernel_rfl) (S_val (.bool true) (by kernel_rfl) (S_skip (by kernel_rfl) (S_skip (by kernel_rfl) (S_skip (by kernel_rfl) (S_skip (by kernel_rfl) (?_))))))))))))
    have HR := hr_pos HR c4
    refine S_val (.bool true) (by kernel_rfl) (S_val (.bool true) (by kernel_rfl) (S_skip (by kernel_rfl) (S_skip (by kernel_rfl) (S_skip (by kernel_rfl) (S_skip (by kernel_rfl) (S_skip (by kernel_rfl) (S_val (.bool true) (by kernel_rfl) (S_val (.bool true) (by kernel_rfl) (S_skip (by kernel_rfl) (S_skip (by kernel_rfl) (S_skip (by kernel_rfl) (?_))))))))))))
    refine S_skip (by kernel_rfl) (S_val (.bool true) (by kernel_rfl) (S_val (.bool true) (by kernel_rfl) (S_skip (by kernel_rfl) (S_skip (by kernel_rfl) (S_skip (by kernel_rfl) (S_skip (by kernel_rfl) (S_skip (by kernel_rfl) (S_val (.bool true) (by kernel_rfl) (S_val (.bool true) (by kernel_rfl) (S_nil (?_)))))))))))
    refine R_ret hM3 rfl (.cons (.tmp _ (.bool true) (by kernel_rfl)) .nil) rfl ?_
    exact ⟨congrArg Ending.returned HR, hM3.below⟩
  · refine S_val (.bool false) (by kernel_rfl) (S_val (.pointer (some ⟨g1, 0, none⟩)) (by kernel_rfl) (S_load 0 0 (.int .i64 p.1) hM3 (by kernel_rfl) (S_val (.int .i64 far) (by kernel_rfl) (S_int (IntKind.i64.wrap (0 - far)) .i64 (by kernel_rfl) (fun x5 h6 => ?_)))))
    have HR := hr_neg HR c4
    have HR := hr_lt HR h6
    refine S_dec (p.1 < x5) (by kernel_rfl) (fun c7 => ?_) (fun c7 => ?_)
    · refine S_val (.bool true) (by kernel_rfl) (S_val (.bool true) (by kernel_rfl) (S_skip (by kernel_rfl) (S_skip (by kernel_rfl) (S_skip (by kernel_rfl) (S_skip (by kernel_rfl) (S_val (.bool true) (by kernel_rfl) (S_val (.bool true) (by kernel_rfl) (S_skip (by kernel_rfl) (S_skip (by kernel_rfl) (S_skip (by kernel_rfl) (S_skip (by kernel_rfl) (?_))))))))))))
      have HR := hr_pos HR c7
      refine S_skip (by kernel_rfl) (S_val (.bool true) (by kernel_rfl) (S_val (.bool true) (by kernel_rfl) (S_skip (by kernel_rfl) (S_skip (by kernel_rfl) (S_skip (by kernel_rfl) (S_skip (by kernel_rfl) (S_val (.bool true) (by kernel_rfl) (S_val (.bool true) (by kernel_rfl) (S_skip (by kernel_rfl) (S_skip (by kernel_rfl) (S_skip (by kernel_rfl) (?_))))))))))))
      refine S_skip (by kernel_rfl) (S_skip (by kernel_rfl) (S_val (.bool true) (by kernel_rfl) (S_val (.bool true) (by kernel_rfl) (S_nil (?_)))))
      refine R_ret hM3 rfl (.cons (.tmp _ (.bool true) (by kernel_rfl)) .nil) rfl ?_
      exact ⟨congrArg Ending.returned HR, hM3.below⟩
    · refine S_val (.bool false) (by kernel_rfl) (S_val (.bool false) (by kernel_rfl) (S_val (.pointer (some ⟨g1, 1, none⟩)) (by kernel_rfl) (S_load 0 1 (.int .i64 p.2.1) hM3 (by kernel_rfl) (S_val (.int .i64 far) (by kernel_rfl) (?_)))))
      have HR := hr_neg HR c7
      refine S_dec (p.2.1 > far) (by kernel_rfl) (fun c8 => ?_) (fun c8 => ?_)
      · refine S_val (.bool true) (by kernel_rfl) (S_val (.bool true) (by kernel_rfl) (S_skip (by kernel_rfl) (S_skip (by kernel_rfl) (S_skip (by kernel_rfl) (S_skip (by kernel_rfl) (S_skip (by kernel_rfl) (S_val (.bool true) (by kernel_rfl) (S_val (.bool true) (by kernel_rfl) (S_skip (by kernel_rfl) (S_skip (by kernel_rfl) (S_skip (by kernel_rfl) (?_))))))))))))
        have HR := hr_pos HR c8
        refine S_skip (by kernel_rfl) (S_val (.bool true) (by kernel_rfl) (S_val (.bool true) (by kernel_rfl) (S_skip (by kernel_rfl) (S_skip (by kernel_rfl) (S_skip (by kernel_rfl) (S_skip (by kernel_rfl) (S_skip (by kernel_rfl) (S_val (.bool true) (by kernel_rfl) (S_val (.bool true) (by kernel_rfl) (S_nil (?_)))))))))))
        refine R_ret hM3 rfl (.cons (.tmp _ (.bool true) (by kernel_rfl)) .nil) rfl ?_
        exact ⟨congrArg Ending.returned HR, hM3.below⟩
      · refine S_val (.bool false) (by kernel_rfl) (S_val (.bool false) (by kernel_rfl) (S_val (.pointer (some ⟨g1, 1, none⟩)) (by kernel_rfl) (S_load 0 1 (.int .i64 p.2.1) hM3 (by kernel_rfl) (S_val (.int .i64 far) (by kernel_rfl) (S_int (IntKind.i64.wrap (0 - far)) .i64 (by kernel_rfl) (fun x9 h10 => ?_))))))
        have HR := hr_neg HR c8
        have HR := hr_lt HR h10
        refine S_dec (p.2.1 < x9) (by kernel_rfl) (fun c11 => ?_) (fun c11 => ?_)
        · refine S_val (.bool true) (by kernel_rfl) (S_val (.bool true) (by kernel_rfl) (S_skip (by kernel_rfl) (S_skip (by kernel_rfl) (S_skip (by kernel_rfl) (S_skip (by kernel_rfl) (S_val (.bool true) (by kernel_rfl) (S_val (.bool true) (by kernel_rfl) (S_skip (by kernel_rfl) (S_skip (by kernel_rfl) (S_skip (by kernel_rfl) (S_skip (by kernel_rfl) (?_))))))))))))
          have HR := hr_pos HR c11
          refine S_skip (by kernel_rfl) (S_val (.bool true) (by kernel_rfl) (S_val (.bool true) (by kernel_rfl) (S_nil (?_))))
          refine R_ret hM3 rfl (.cons (.tmp _ (.bool true) (by kernel_rfl)) .nil) rfl ?_
          exact ⟨congrArg Ending.returned HR, hM3.below⟩
        · refine S_val (.bool false) (by kernel_rfl) (S_val (.bool false) (by kernel_rfl) (S_val (.pointer (some ⟨g1, 2, none⟩)) (by kernel_rfl) (S_load 0 2 (.int .i64 p.2.2) hM3 (by kernel_rfl) (S_val (.int .i64 far) (by kernel_rfl) (?_)))))
          have HR := hr_neg HR c11
          refine S_dec (p.2.2 > far) (by kernel_rfl) (fun c12 => ?_) (fun c12 => ?_)
          · refine S_val (.bool true) (by kernel_rfl) (S_val (.bool true) (by kernel_rfl) (S_skip (by kernel_rfl) (S_skip (by kernel_rfl) (S_skip (by kernel_rfl) (S_skip (by kernel_rfl) (S_skip (by kernel_rfl) (S_val (.bool true) (by kernel_rfl) (S_val (.bool true) (by kernel_rfl) (S_nil (?_))))))))))
            have HR := hr_pos HR c12
            refine R_ret hM3 rfl (.cons (.tmp _ (.bool true) (by kernel_rfl)) .nil) rfl ?_
            exact ⟨congrArg Ending.returned HR, hM3.below⟩
          · refine S_val (.bool false) (by kernel_rfl) (S_val (.bool false) (by kernel_rfl) (S_val (.pointer (some ⟨g1, 2, none⟩)) (by kernel_rfl) (S_load 0 2 (.int .i64 p.2.2) hM3 (by kernel_rfl) (S_val (.int .i64 far) (by kernel_rfl) (S_int (IntKind.i64.wrap (0 - far)) .i64 (by kernel_rfl) (fun x13 h14 => ?_))))))
            have HR := hr_neg HR c12
            have HR := hr_lt HR h14
            refine S_dec (p.2.2 < x13) (by kernel_rfl) (fun c15 => ?_) (fun c15 => ?_)
            · refine S_val (.bool true) (by kernel_rfl) (S_val (.bool true) (by kernel_rfl) (S_nil (?_)))
              have HR := hr_pos HR c15
              refine R_ret hM3 rfl (.cons (.tmp _ (.bool true) (by kernel_rfl)) .nil) rfl ?_
              exact ⟨congrArg Ending.returned HR, hM3.below⟩
            · refine S_val (.bool false) (by kernel_rfl) (S_val (.bool false) (by kernel_rfl) (S_nil (?_)))
              have HR := hr_neg HR c15
              refine R_ret hM3 rfl (.cons (.tmp _ (.bool false) (by kernel_rfl)) .nil) rfl ?_
              exact ⟨congrArg Ending.returned HR, hM3.below⟩

def e_lens_Check_1 (r : Bool) : Value := .bool r
def s_lens_Check_1 (n : Int) (lo : Int) (hi : Int) : Bool :=
  if n ≥ lo then
    if n ≤ hi then
      true
    else
      false
  else
    false
set_option maxRecDepth 100000 in
set_option maxHeartbeats 4000000 in
theorem w_lens_Check_1 (n : Int) (lo : Int) (hi : Int) (w : World) : Calls Try.prog 63 #[.int .i64 n, .int .i64 lo, .int .i64 hi] w (Ret (e_lens_Check_1 (s_lens_Check_1 n lo hi)) w) := by
  obtain ⟨R, HR⟩ : ∃ R, e_lens_Check_1 (s_lens_Check_1 n lo hi) = R := ⟨_, rfl⟩
  rw [HR]
  unfold s_lens_Check_1 at HR
  have hM0 := St.start w
  refine calls_run Try.func63 rfl ?_
  refine R_seq (R_region (S_val (.bool false) (by kernel_rfl) (S_nil (R_seq (R_region (S_val (.int .i64 n) (by kernel_rfl) (S_val (.int .i64 lo) (by kernel_rfl) (?_))))))))
  refine S_dec (n ≥ lo) (by kernel_rfl) (fun c1 => ?_) (fun c1 => ?_)
  · refine S_val (.bool true) (by kernel_rfl) (S_val (.int .i64 n) (by kernel_rfl) (S_val (.int .i64 hi) (by kernel_rfl) (?_)))
    have HR := hr_pos HR c1
    refine S_dec (n ≤ hi) (by kernel_rfl) (fun c2 => ?_) (fun c2 => ?_)
    · refine S_val (.bool true) (by kernel_rfl) (S_val (.bool true) (by kernel_rfl) (S_nil (?_)))
      have HR := hr_pos HR c2
      refine R_ret hM0 rfl (.cons (.tmp _ (.bool true) (by kernel_rfl)) .nil) rfl ?_
      exact ⟨congrArg Ending.returned HR, hM0.below⟩
    · refine S_val (.bool false) (by kernel_rfl) (S_val (.bool false) (by kernel_rfl) (S_nil (?_)))
      have HR := hr_neg HR c2
      refine R_ret hM0 rfl (.cons (.tmp _ (.bool false) (by kernel_rfl)) .nil) rfl ?_
      exact ⟨congrArg Ending.returned HR, hM0.below⟩
  · refine S_val (.bool false) (by kernel_rfl) (S_skip (by kernel_rfl) (S_skip (by kernel_rfl) (S_skip (by kernel_rfl) (S_val (.bool false) (by kernel_rfl) (S_val (.bool false) (by kernel_rfl) (S_nil (?_)))))))
    have HR := hr_neg HR c1
    refine R_ret hM0 rfl (.cons (.tmp _ (.bool false) (by kernel_rfl)) .nil) rfl ?_
    exact ⟨congrArg Ending.returned HR, hM0.below⟩

def e_lens_Check (r : Int) : Value := .int .i64 r
def s_lens_Check (c : (Int × Int × Int) × (Int × Int × Int) × (Int × Int × Int) × (Int × Int × Int) × Int × Int) (w1_ : Int) (h2_ : Int) : Int :=
  lt (gmax (gmax c.1.1 c.1.2.1) c.1.2.2) fun x9 =>
  if x9 > 32768 then
    8
  else
    lt (gmin (gmin c.1.1 c.1.2.1) c.1.2.2) fun x12 =>
    if x12 < (-32768) then
      8
    else
      lt (s_octa_May c.2.1) fun r15 =>
      if r15 = true then
        lt (s_octa_May c.2.2.1) fun r19 =>
        if r19 = true then
          lt (s_octa_May c.2.2.2.1) fun r23 =>
          if r23 = true then
            lt (s_lens_Check_1 c.2.2.2.2.1 0 1024) fun r27 =>
            if r27 = true then
              lt (s_lens_Check_1 c.2.2.2.2.2 1 32768) fun r31 =>
              if r31 = true then
                lt (s_lens_Check_1 w1_ 1 64) fun r35 =>
                if r35 = true then
                  lt (s_lens_Check_1 h2_ 1 64) fun r39 =>
                  if r39 = true then
                    0
                  else
                    2
                else
                  2
              else
                2
            else
              2
          else
            2
        else
          2
      else
        2
set_option maxRecDepth 100000 in
set_option maxHeartbeats 4000000 in
theorem w_lens_Check (c : (Int × Int × Int) × (Int × Int × Int) × (Int × Int × Int) × (Int × Int × Int) × Int × Int) (w1_ : Int) (h2_ : Int) (h_c : (InV c.1 ∧ InV c.2.1 ∧ InV c.2.2.1 ∧ InV c.2.2.2.1 ∧ InI c.2.2.2.2.1 ∧ InI c.2.2.2.2.2)) (h_w1_ : InI w1_) (h_h2_ : InI h2_) (w : World) : Calls Try.prog 29 #[.agg #[.int .i64 c.1.1, .int .i64 c.1.2.1, .int .i64 c.1.2.2, .int .i64 c.2.1.1, .int .i64 c.2.1.2.1, .int .i64 c.2.1.2.2, .int .i64 c.2.2.1.1, .int .i64 c.2.2.1.2.1, .int .i64 c.2.2.1.2.2, .int .i64 c.2.2.2.1.1, .int .i64 c.2.2.2.1.2.1, .int .i64 c.2.2.2.1.2.2, .int .i64 c.2.2.2.2.1, .int .i64 c.2.2.2.2.2], .int .i64 w1_, .int .i64 h2_] w (Ret (e_lens_Check (s_lens_Check c w1_ h2_)) w) := by
  obtain ⟨R, HR⟩ : ∃ R, e_lens_Check (s_lens_Check c w1_ h2_) = R := ⟨_, rfl⟩
  rw [HR]
  unfold s_lens_Check at HR
  have hM0 := St.start w
  refine calls_run Try.func29 rfl ?_
  refine R_seq (R_region (S_fresh none #[.int .i64 c.1.1, .int .i64 c.1.2.1, .int .i64 c.1.2.2, .int .i64 c.2.1.1, .int .i64 c.2.1.2.1, .int .i64 c.2.1.2.2, .int .i64 c.2.2.1.1, .int .i64 c.2.2.1.2.1, .int .i64 c.2.2.1.2.2, .int .i64 c.2.2.2.1.1, .int .i64 c.2.2.2.1.2.1, .int .i64 c.2.2.2.1.2.2, .int .i64 c.2.2.2.2.1, .int .i64 c.2.2.2.2.2] 71 hM0 (by kernel_rfl) (fun g1 w2 hM3 => S_val (.int .i64 0) (by kernel_rfl) (S_nil (R_seq (R_region (S_val (.pointer (some ⟨g1, 0, none⟩)) (by kernel_rfl) (S_load 0 0 (.agg #[.int .i64 c.1.1, .int .i64 c.1.2.1, .int .i64 c.1.2.2]) hM3 (by kernel_rfl) (S_fresh none #[.int .i64 0, .int .i64 0, .int .i64 0] 69 hM3 (by kernel_rfl) (fun g4 w5 hM6 => S_store 0 0 #[.int .i64 c.1.1, .int .i64 c.1.2.1, .int .i64 c.1.2.2] hM6 (by kernel_rfl) (fun w7 hM8 => S_nil (?_))))))))))))
  refine R_seq (R_region (S_val (.func (.func 63) #[] #[]) (by kernel_rfl) (S_nil (R_seq (R_block (R_seq (R_region (S_val (.pointer (some ⟨g4, 0, none⟩)) (by kernel_rfl) (S_load 0 0 (.int .i64 c.1.1) hM8 (by kernel_rfl) (S_val (.pointer (some ⟨g4, 1, none⟩)) (by kernel_rfl) (S_load 0 1 (.int .i64 c.1.2.1) hM8 (by kernel_rfl) (?_))))))))))))
  refine S_val (.pointer (some ⟨g4, 2, none⟩)) (by kernel_rfl) (S_load 0 2 (.int .i64 c.1.2.2) hM8 (by kernel_rfl) (S_int (gmax (gmax c.1.1 c.1.2.1) c.1.2.2) .i64 (by kernel_rfl) (fun x9 h10 => ?_)))
  have HR := hr_lt HR h10
  refine S_dec (x9 > 32768) (by kernel_rfl) (fun c11 => ?_) (fun c11 => ?_)
  · refine S_val (.bool true) (by kernel_rfl) (S_skip (by kernel_rfl) (S_skip (by kernel_rfl) (S_skip (by kernel_rfl) (S_skip (by kernel_rfl) (S_skip (by kernel_rfl) (S_skip (by kernel_rfl) (S_skip (by kernel_rfl) (S_skip (by kernel_rfl) (S_val (.bool true) (by kernel_rfl) (S_val (.bool true) (by kernel_rfl) (S_nil (?_))))))))))))
    have HR := hr_pos HR c11
    refine R_yes (by kernel_rfl) (R_seq (R_region (S_val (.int .i64 8) (by kernel_rfl) (S_nil (?_)))))
    refine R_ret hM8 rfl (.cons (.tmp _ (.int .i64 8) (by kernel_rfl)) .nil) rfl ?_
    exact ⟨congrArg Ending.returned HR, hM8.below⟩
  · refine S_val (.bool false) (by kernel_rfl) (S_val (.pointer (some ⟨g4, 0, none⟩)) (by kernel_rfl) (S_load 0 0 (.int .i64 c.1.1) hM8 (by kernel_rfl) (S_val (.pointer (some ⟨g4, 1, none⟩)) (by kernel_rfl) (S_load 0 1 (.int .i64 c.1.2.1) hM8 (by kernel_rfl) (S_val (.pointer (some ⟨g4, 2, none⟩)) (by kernel_rfl) (S_load 0 2 (.int .i64 c.1.2.2) hM8 (by kernel_rfl) (S_int (gmin (gmin c.1.1 c.1.2.1) c.1.2.2) .i64 (by kernel_rfl) (fun x12 h13 => ?_))))))))
    have HR := hr_neg HR c11
    have HR := hr_lt HR h13
    refine S_dec (x12 < (-32768)) (by kernel_rfl) (fun c14 => ?_) (fun c14 => ?_)
    · refine S_val (.bool true) (by kernel_rfl) (S_val (.bool true) (by kernel_rfl) (S_nil (R_yes (by kernel_rfl) (R_seq (R_region (S_val (.int .i64 8) (by kernel_rfl) (S_nil (?_))))))))
      have HR := hr_pos HR c14
      refine R_ret hM8 rfl (.cons (.tmp _ (.int .i64 8) (by kernel_rfl)) .nil) rfl ?_
      exact ⟨congrArg Ending.returned HR, hM8.below⟩
    · refine S_val (.bool false) (by kernel_rfl) (S_val (.bool false) (by kernel_rfl) (S_nil (R_no (by kernel_rfl) (R_seq (R_region (S_val (.pointer (some ⟨g1, 3, none⟩)) (by kernel_rfl) (S_load 1 3 (.agg #[.int .i64 c.2.1.1, .int .i64 c.2.1.2.1, .int .i64 c.2.1.2.2]) hM8 (by kernel_rfl) (S_call (s_octa_May c.2.1) (fun r : Bool => .bool r) hM8 (w_octa_May c.2.1 w7) (by kernel_rfl) (fun r15 h16 w17 hM18 => ?_)))))))))
      have HR := hr_neg HR c14
      have HR := hr_lt HR h16
      cases r15
      · refine S_val (.bool true) (by kernel_rfl) (S_val (.bool true) (by kernel_rfl) (S_skip (by kernel_rfl) (S_skip (by kernel_rfl) (S_skip (by kernel_rfl) (S_skip (by kernel_rfl) (S_val (.bool true) (by kernel_rfl) (S_val (.bool true) (by kernel_rfl) (S_skip (by kernel_rfl) (S_skip (by kernel_rfl) (S_skip (by kernel_rfl) (S_skip (by kernel_rfl) (?_))))))))))))
        have HR := hr_neg HR Bool.false_ne_true
        refine S_val (.bool true) (by kernel_rfl) (S_val (.bool true) (by kernel_rfl) (S_nil (R_yes (by kernel_rfl) (R_seq (R_region (S_val (.int .i64 2) (by kernel_rfl) (S_nil (?_))))))))
        refine R_ret hM18 rfl (.cons (.tmp _ (.int .i64 2) (by kernel_rfl)) .nil) rfl ?_
        exact ⟨congrArg Ending.returned HR, hM18.below⟩
      · refine S_val (.bool false) (by kernel_rfl) (S_val (.bool false) (by kernel_rfl) (S_val (.pointer (some ⟨g1, 6, none⟩)) (by kernel_rfl) (S_load 1 6 (.agg #[.int .i64 c.2.2.1.1, .int .i64 c.2.2.1.2.1, .int .i64 c.2.2.1.2.2]) hM18 (by kernel_rfl) (S_call (s_octa_May c.2.2.1) (fun r : Bool => .bool r) hM18 (w_octa_May c.2.2.1 w17) (by kernel_rfl) (fun r19 h20 w21 hM22 => ?_)))))
        have HR := hr_pos HR rfl
        have HR := hr_lt HR h20
        cases r19
        · refine S_val (.bool true) (by kernel_rfl) (S_val (.bool true) (by kernel_rfl) (S_val (.bool true) (by kernel_rfl) (S_skip (by kernel_rfl) (S_skip (by kernel_rfl) (S_skip (by kernel_rfl) (S_skip (by kernel_rfl) (S_val (.bool true) (by kernel_rfl) (S_val (.bool true) (by kernel_rfl) (S_nil (R_yes (by kernel_rfl) (R_seq (?_))))))))))))
          have HR := hr_neg HR Bool.false_ne_true
          refine R_region (S_val (.int .i64 2) (by kernel_rfl) (S_nil (?_)))
          refine R_ret hM22 rfl (.cons (.tmp _ (.int .i64 2) (by kernel_rfl)) .nil) rfl ?_
          exact ⟨congrArg Ending.returned HR, hM22.below⟩
        · refine S_val (.bool false) (by kernel_rfl) (S_val (.bool false) (by kernel_rfl) (S_val (.bool false) (by kernel_rfl) (S_val (.pointer (some ⟨g1, 9, none⟩)) (by kernel_rfl) (S_load 1 9 (.agg #[.int .i64 c.2.2.2.1.1, .int .i64 c.2.2.2.1.2.1, .int .i64 c.2.2.2.1.2.2]) hM22 (by kernel_rfl) (S_call (s_octa_May c.2.2.2.1) (fun r : Bool => .bool r) hM22 (w_octa_May c.2.2.2.1 w21) (by kernel_rfl) (fun r23 h24 w25 hM26 => ?_))))))
          have HR := hr_pos HR rfl
          have HR := hr_lt HR h24
          cases r23
          · refine S_val (.bool true) (by kernel_rfl) (S_val (.bool true) (by kernel_rfl) (S_val (.bool true) (by kernel_rfl) (S_nil (R_yes (by kernel_rfl) (R_seq (R_region (S_val (.int .i64 2) (by kernel_rfl) (S_nil (?_)))))))))
            have HR := hr_neg HR Bool.false_ne_true
            refine R_ret hM26 rfl (.cons (.tmp _ (.int .i64 2) (by kernel_rfl)) .nil) rfl ?_
            exact ⟨congrArg Ending.returned HR, hM26.below⟩
          · refine S_val (.bool false) (by kernel_rfl) (S_val (.bool false) (by kernel_rfl) (S_val (.bool false) (by kernel_rfl) (S_nil (R_no (by kernel_rfl) (R_seq (R_region (S_val (.func (.func 63) #[] #[]) (by kernel_rfl) (S_val (.pointer (some ⟨g1, 12, none⟩)) (by kernel_rfl) (S_load 1 12 (.int .i64 c.2.2.2.2.1) hM26 (by kernel_rfl) (S_call (s_lens_Check_1 c.2.2.2.2.1 0 1024) (fun r : Bool => .bool r) hM26 (w_lens_Check_1 c.2.2.2.2.1 0 1024 w25) (by kernel_rfl) (fun r27 h28 w29 hM30 => ?_)))))))))))
            have HR := hr_pos HR rfl
            have HR := hr_lt HR h28
            cases r27
            · refine S_val (.bool true) (by kernel_rfl) (S_val (.bool true) (by kernel_rfl) (S_skip (by kernel_rfl) (S_skip (by kernel_rfl) (S_skip (by kernel_rfl) (S_skip (by kernel_rfl) (S_skip (by kernel_rfl) (S_val (.bool true) (by kernel_rfl) (S_val (.bool true) (by kernel_rfl) (S_skip (by kernel_rfl) (S_skip (by kernel_rfl) (S_skip (by kernel_rfl) (?_))))))))))))
              have HR := hr_neg HR Bool.false_ne_true
              refine S_skip (by kernel_rfl) (S_val (.bool true) (by kernel_rfl) (S_val (.bool true) (by kernel_rfl) (S_skip (by kernel_rfl) (S_skip (by kernel_rfl) (S_skip (by kernel_rfl) (S_skip (by kernel_rfl) (S_val (.bool true) (by kernel_rfl) (S_val (.bool true) (by kernel_rfl) (S_nil (R_yes (by kernel_rfl) (R_seq (?_))))))))))))
              refine R_region (S_val (.int .i64 2) (by kernel_rfl) (S_nil (?_)))
              refine R_ret hM30 rfl (.cons (.tmp _ (.int .i64 2) (by kernel_rfl)) .nil) rfl ?_
              exact ⟨congrArg Ending.returned HR, hM30.below⟩
            · refine S_val (.bool false) (by kernel_rfl) (S_val (.bool false) (by kernel_rfl) (S_val (.func (.func 63) #[] #[]) (by kernel_rfl) (S_val (.pointer (some ⟨g1, 13, none⟩)) (by kernel_rfl) (S_load 1 13 (.int .i64 c.2.2.2.2.2) hM30 (by kernel_rfl) (S_call (s_lens_Check_1 c.2.2.2.2.2 1 32768) (fun r : Bool => .bool r) hM30 (w_lens_Check_1 c.2.2.2.2.2 1 32768 w29) (by kernel_rfl) (fun r31 h32 w33 hM34 => ?_))))))
              have HR := hr_pos HR rfl
              have HR := hr_lt HR h32
              cases r31
              · refine S_val (.bool true) (by kernel_rfl) (S_val (.bool true) (by kernel_rfl) (S_val (.bool true) (by kernel_rfl) (S_skip (by kernel_rfl) (S_skip (by kernel_rfl) (S_skip (by kernel_rfl) (S_skip (by kernel_rfl) (S_val (.bool true) (by kernel_rfl) (S_val (.bool true) (by kernel_rfl) (S_skip (by kernel_rfl) (S_skip (by kernel_rfl) (S_skip (by kernel_rfl) (?_))))))))))))
                have HR := hr_neg HR Bool.false_ne_true
                refine S_skip (by kernel_rfl) (S_val (.bool true) (by kernel_rfl) (S_val (.bool true) (by kernel_rfl) (S_nil (R_yes (by kernel_rfl) (R_seq (R_region (S_val (.int .i64 2) (by kernel_rfl) (S_nil (?_)))))))))
                refine R_ret hM34 rfl (.cons (.tmp _ (.int .i64 2) (by kernel_rfl)) .nil) rfl ?_
                exact ⟨congrArg Ending.returned HR, hM34.below⟩
              · refine S_val (.bool false) (by kernel_rfl) (S_val (.bool false) (by kernel_rfl) (S_val (.bool false) (by kernel_rfl) (S_val (.func (.func 63) #[] #[]) (by kernel_rfl) (S_val (.int .i64 w1_) (by kernel_rfl) (S_call (s_lens_Check_1 w1_ 1 64) (fun r : Bool => .bool r) hM34 (w_lens_Check_1 w1_ 1 64 w33) (by kernel_rfl) (fun r35 h36 w37 hM38 => ?_))))))
                have HR := hr_pos HR rfl
                have HR := hr_lt HR h36
                cases r35
                · refine S_val (.bool true) (by kernel_rfl) (S_val (.bool true) (by kernel_rfl) (S_val (.bool true) (by kernel_rfl) (S_skip (by kernel_rfl) (S_skip (by kernel_rfl) (S_skip (by kernel_rfl) (S_skip (by kernel_rfl) (S_val (.bool true) (by kernel_rfl) (S_val (.bool true) (by kernel_rfl) (S_nil (R_yes (by kernel_rfl) (R_seq (?_))))))))))))
                  have HR := hr_neg HR Bool.false_ne_true
                  refine R_region (S_val (.int .i64 2) (by kernel_rfl) (S_nil (?_)))
                  refine R_ret hM38 rfl (.cons (.tmp _ (.int .i64 2) (by kernel_rfl)) .nil) rfl ?_
                  exact ⟨congrArg Ending.returned HR, hM38.below⟩
                · refine S_val (.bool false) (by kernel_rfl) (S_val (.bool false) (by kernel_rfl) (S_val (.bool false) (by kernel_rfl) (S_val (.func (.func 63) #[] #[]) (by kernel_rfl) (S_val (.int .i64 h2_) (by kernel_rfl) (S_call (s_lens_Check_1 h2_ 1 64) (fun r : Bool => .bool r) hM38 (w_lens_Check_1 h2_ 1 64 w37) (by kernel_rfl) (fun r39 h40 w41 hM42 => ?_))))))
                  have HR := hr_pos HR rfl
                  have HR := hr_lt HR h40
                  cases r39
                  · refine S_val (.bool true) (by kernel_rfl) (S_val (.bool true) (by kernel_rfl) (S_val (.bool true) (by kernel_rfl) (S_nil (R_yes (by kernel_rfl) (R_seq (R_region (S_val (.int .i64 2) (by kernel_rfl) (S_nil (?_)))))))))
                    have HR := hr_neg HR Bool.false_ne_true
                    refine R_ret hM42 rfl (.cons (.tmp _ (.int .i64 2) (by kernel_rfl)) .nil) rfl ?_
                    exact ⟨congrArg Ending.returned HR, hM42.below⟩
                  · refine S_val (.bool false) (by kernel_rfl) (S_val (.bool false) (by kernel_rfl) (S_val (.bool false) (by kernel_rfl) (S_nil (R_no (by kernel_rfl) (R_skip (R_inBlock (R_seq (R_region (S_val (.int .i64 0) (by kernel_rfl) (S_nil (?_)))))))))))
                    have HR := hr_pos HR rfl
                    refine R_ret hM42 rfl (.cons (.tmp _ (.int .i64 0) (by kernel_rfl)) .nil) rfl ?_
                    exact ⟨congrArg Ending.returned HR, hM42.below⟩

def P_lens_Check (r : Int) : Prop := InI r
theorem i_lens_Check (c : (Int × Int × Int) × (Int × Int × Int) × (Int × Int × Int) × (Int × Int × Int) × Int × Int) (w1_ : Int) (h2_ : Int) (h_c : (InV c.1 ∧ InV c.2.1 ∧ InV c.2.2.1 ∧ InV c.2.2.2.1 ∧ InI c.2.2.2.2.1 ∧ InI c.2.2.2.2.2)) (h_w1_ : InI w1_) (h_h2_ : InI h2_) : P_lens_Check (s_lens_Check c w1_ h2_) := by
  unfold s_lens_Check
  exact (lt_P fun x9 h10 => (ite_P (fun c11 => (show InI 8 from (show InI 8 from by unfold InI; omega))) (fun c11 => (lt_P fun x12 h13 => (ite_P (fun c14 => (show InI 8 from (show InI 8 from by unfold InI; omega))) (fun c14 => (lt_P fun r15 h16 => ite_P (fun c49 => (lt_P fun r19 h20 => ite_P (fun c48 => (lt_P fun r23 h24 => ite_P (fun c47 => (lt_P fun r27 h28 => ite_P (fun c46 => (lt_P fun r31 h32 => ite_P (fun c45 => (lt_P fun r35 h36 => ite_P (fun c44 => (lt_P fun r39 h40 => ite_P (fun c43 => (show InI 0 from (show InI 0 from by unfold InI; omega))) (fun c43 => (show InI 2 from (show InI 2 from by unfold InI; omega))))) (fun c44 => (show InI 2 from (show InI 2 from by unfold InI; omega))))) (fun c45 => (show InI 2 from (show InI 2 from by unfold InI; omega))))) (fun c46 => (show InI 2 from (show InI 2 from by unfold InI; omega))))) (fun c47 => (show InI 2 from (show InI 2 from by unfold InI; omega))))) (fun c48 => (show InI 2 from (show InI 2 from by unfold InI; omega))))) (fun c49 => (show InI 2 from (show InI 2 from by unfold InI; omega))))))))))

def e_umbraref24_Check (r : Int) : Value := .int .i64 r
def s_umbraref24_Check (c : (Int × Int × Int) × (Int × Int × Int) × (Int × Int × Int) × (Int × Int × Int) × Int × Int) (w1_ : Int) (h2_ : Int) : Int :=
  lt (s_umbraref13_Off c.1 32768) fun r4 =>
  if r4 = true then
    8
  else
    lt (s_umbraref05_May c.2.1) fun r8 =>
    if r8 = true then
      lt (s_umbraref05_May c.2.2.1) fun r12 =>
      if r12 = true then
        lt (s_umbraref05_May c.2.2.2.1) fun r16 =>
        if r16 = true then
          if c.2.2.2.2.1 < 0 then
            2
          else
            if c.2.2.2.2.1 > 1024 then
              2
            else
              if c.2.2.2.2.2 < 1 then
                2
              else
                if c.2.2.2.2.2 > 32768 then
                  2
                else
                  if w1_ < 1 then
                    2
                  else
                    if w1_ > 64 then
                      2
                    else
                      if h2_ < 1 then
                        2
                      else
                        if h2_ > 64 then
                          2
                        else
                          0
        else
          2
      else
        2
    else
      2
set_option maxRecDepth 100000 in
set_option maxHeartbeats 4000000 in
theorem w_umbraref24_Check (c : (Int × Int × Int) × (Int × Int × Int) × (Int × Int × Int) × (Int × Int × Int) × Int × Int) (w1_ : Int) (h2_ : Int) (h_c : (InV c.1 ∧ InV c.2.1 ∧ InV c.2.2.1 ∧ InV c.2.2.2.1 ∧ InI c.2.2.2.2.1 ∧ InI c.2.2.2.2.2)) (h_w1_ : InI w1_) (h_h2_ : InI h2_) (w : World) : Calls Try.prog 30 #[.agg #[.int .i64 c.1.1, .int .i64 c.1.2.1, .int .i64 c.1.2.2, .int .i64 c.2.1.1, .int .i64 c.2.1.2.1, .int .i64 c.2.1.2.2, .int .i64 c.2.2.1.1, .int .i64 c.2.2.1.2.1, .int .i64 c.2.2.1.2.2, .int .i64 c.2.2.2.1.1, .int .i64 c.2.2.2.1.2.1, .int .i64 c.2.2.2.1.2.2, .int .i64 c.2.2.2.2.1, .int .i64 c.2.2.2.2.2], .int .i64 w1_, .int .i64 h2_] w (Ret (e_umbraref24_Check (s_umbraref24_Check c w1_ h2_)) w) := by
  obtain ⟨R, HR⟩ : ∃ R, e_umbraref24_Check (s_umbraref24_Check c w1_ h2_) = R := ⟨_, rfl⟩
  rw [HR]
  unfold s_umbraref24_Check at HR
  have hM0 := St.start w
  refine calls_run Try.func30 rfl ?_
  refine R_seq (R_region (S_fresh none #[.int .i64 c.1.1, .int .i64 c.1.2.1, .int .i64 c.1.2.2, .int .i64 c.2.1.1, .int .i64 c.2.1.2.1, .int .i64 c.2.1.2.2, .int .i64 c.2.2.1.1, .int .i64 c.2.2.1.2.1, .int .i64 c.2.2.1.2.2, .int .i64 c.2.2.2.1.1, .int .i64 c.2.2.2.1.2.1, .int .i64 c.2.2.2.1.2.2, .int .i64 c.2.2.2.2.1, .int .i64 c.2.2.2.2.2] 71 hM0 (by kernel_rfl) (fun g1 w2 hM3 => S_val (.int .i64 0) (by kernel_rfl) (S_nil (R_seq (R_seq (R_region (S_val (.pointer (some ⟨g1, 0, none⟩)) (by kernel_rfl) (S_load 0 0 (.agg #[.int .i64 c.1.1, .int .i64 c.1.2.1, .int .i64 c.1.2.2]) hM3 (by kernel_rfl) (S_call (s_umbraref13_Off c.1 32768) (fun r : Bool => .bool r) hM3 (w_umbraref13_Off c.1 32768 w2) (by kernel_rfl) (fun r4 h5 w6 hM7 => ?_)))))))))))
  have HR := hr_lt HR h5
  cases r4
  · refine S_nil (R_no (by kernel_rfl) (R_skip (R_seq (R_seq (R_region (S_val (.pointer (some ⟨g1, 3, none⟩)) (by kernel_rfl) (S_load 0 3 (.agg #[.int .i64 c.2.1.1, .int .i64 c.2.1.2.1, .int .i64 c.2.1.2.2]) hM7 (by kernel_rfl) (S_call (s_umbraref05_May c.2.1) (fun r : Bool => .bool r) hM7 (w_umbraref05_May c.2.1 w6) (by kernel_rfl) (fun r8 h9 w10 hM11 => ?_)))))))))
    have HR := hr_neg HR Bool.false_ne_true
    have HR := hr_lt HR h9
    cases r8
    · refine S_val (.bool true) (by kernel_rfl) (S_val (.bool true) (by kernel_rfl) (S_skip (by kernel_rfl) (S_skip (by kernel_rfl) (S_skip (by kernel_rfl) (S_skip (by kernel_rfl) (S_val (.bool true) (by kernel_rfl) (S_val (.bool true) (by kernel_rfl) (S_skip (by kernel_rfl) (S_skip (by kernel_rfl) (S_skip (by kernel_rfl) (S_skip (by kernel_rfl) (?_))))))))))))
      have HR := hr_neg HR Bool.false_ne_true
      refine S_val (.bool true) (by kernel_rfl) (S_nil (R_yes (by kernel_rfl) (R_seq (R_region (S_val (.int .i64 2) (by kernel_rfl) (S_nil (?_)))))))
      refine R_ret hM11 rfl (.cons (.tmp _ (.int .i64 2) (by kernel_rfl)) .nil) rfl ?_
      exact ⟨congrArg Ending.returned HR, hM11.below⟩
    · refine S_val (.bool false) (by kernel_rfl) (S_val (.bool false) (by kernel_rfl) (S_val (.pointer (some ⟨g1, 6, none⟩)) (by kernel_rfl) (S_load 0 6 (.agg #[.int .i64 c.2.2.1.1, .int .i64 c.2.2.1.2.1, .int .i64 c.2.2.1.2.2]) hM11 (by kernel_rfl) (S_call (s_umbraref05_May c.2.2.1) (fun r : Bool => .bool r) hM11 (w_umbraref05_May c.2.2.1 w10) (by kernel_rfl) (fun r12 h13 w14 hM15 => ?_)))))
      have HR := hr_pos HR rfl
      have HR := hr_lt HR h13
      cases r12
      · refine S_val (.bool true) (by kernel_rfl) (S_val (.bool true) (by kernel_rfl) (S_val (.bool true) (by kernel_rfl) (S_skip (by kernel_rfl) (S_skip (by kernel_rfl) (S_skip (by kernel_rfl) (S_skip (by kernel_rfl) (S_val (.bool true) (by kernel_rfl) (S_nil (R_yes (by kernel_rfl) (R_seq (R_region (?_))))))))))))
        have HR := hr_neg HR Bool.false_ne_true
        refine S_val (.int .i64 2) (by kernel_rfl) (S_nil (?_))
        refine R_ret hM15 rfl (.cons (.tmp _ (.int .i64 2) (by kernel_rfl)) .nil) rfl ?_
        exact ⟨congrArg Ending.returned HR, hM15.below⟩
      · refine S_val (.bool false) (by kernel_rfl) (S_val (.bool false) (by kernel_rfl) (S_val (.bool false) (by kernel_rfl) (S_val (.pointer (some ⟨g1, 9, none⟩)) (by kernel_rfl) (S_load 0 9 (.agg #[.int .i64 c.2.2.2.1.1, .int .i64 c.2.2.2.1.2.1, .int .i64 c.2.2.2.1.2.2]) hM15 (by kernel_rfl) (S_call (s_umbraref05_May c.2.2.2.1) (fun r : Bool => .bool r) hM15 (w_umbraref05_May c.2.2.2.1 w14) (by kernel_rfl) (fun r16 h17 w18 hM19 => ?_))))))
        have HR := hr_pos HR rfl
        have HR := hr_lt HR h17
        cases r16
        · refine S_val (.bool true) (by kernel_rfl) (S_val (.bool true) (by kernel_rfl) (S_nil (R_yes (by kernel_rfl) (R_seq (R_region (S_val (.int .i64 2) (by kernel_rfl) (S_nil (?_))))))))
          have HR := hr_neg HR Bool.false_ne_true
          refine R_ret hM19 rfl (.cons (.tmp _ (.int .i64 2) (by kernel_rfl)) .nil) rfl ?_
          exact ⟨congrArg Ending.returned HR, hM19.below⟩
        · refine S_val (.bool false) (by kernel_rfl) (S_val (.bool false) (by kernel_rfl) (S_nil (R_no (by kernel_rfl) (R_skip (R_seq (R_seq (R_region (S_val (.pointer (some ⟨g1, 12, none⟩)) (by kernel_rfl) (S_load 0 12 (.int .i64 c.2.2.2.2.1) hM19 (by kernel_rfl) (?_))))))))))
          have HR := hr_pos HR rfl
          refine S_dec (c.2.2.2.2.1 < 0) (by kernel_rfl) (fun c20 => ?_) (fun c20 => ?_)
          · refine S_val (.bool true) (by kernel_rfl) (S_skip (by kernel_rfl) (S_skip (by kernel_rfl) (S_skip (by kernel_rfl) (S_val (.bool true) (by kernel_rfl) (S_val (.bool true) (by kernel_rfl) (S_skip (by kernel_rfl) (S_skip (by kernel_rfl) (S_skip (by kernel_rfl) (S_val (.bool true) (by kernel_rfl) (S_val (.bool true) (by kernel_rfl) (S_skip (by kernel_rfl) (?_))))))))))))
            have HR := hr_pos HR c20
            refine S_skip (by kernel_rfl) (S_skip (by kernel_rfl) (S_val (.bool true) (by kernel_rfl) (S_val (.bool true) (by kernel_rfl) (S_skip (by kernel_rfl) (S_skip (by kernel_rfl) (S_val (.bool true) (by kernel_rfl) (S_val (.bool true) (by kernel_rfl) (S_skip (by kernel_rfl) (S_skip (by kernel_rfl) (S_val (.bool true) (by kernel_rfl) (S_val (.bool true) (by kernel_rfl) (?_))))))))))))
            refine S_skip (by kernel_rfl) (S_skip (by kernel_rfl) (S_val (.bool true) (by kernel_rfl) (S_val (.bool true) (by kernel_rfl) (S_skip (by kernel_rfl) (S_skip (by kernel_rfl) (S_val (.bool true) (by kernel_rfl) (S_nil (R_yes (by kernel_rfl) (R_seq (R_region (S_val (.int .i64 2) (by kernel_rfl) (?_))))))))))))
            refine S_nil (?_)
            refine R_ret hM19 rfl (.cons (.tmp _ (.int .i64 2) (by kernel_rfl)) .nil) rfl ?_
            exact ⟨congrArg Ending.returned HR, hM19.below⟩
          · refine S_val (.bool false) (by kernel_rfl) (S_val (.pointer (some ⟨g1, 12, none⟩)) (by kernel_rfl) (S_load 0 12 (.int .i64 c.2.2.2.2.1) hM19 (by kernel_rfl) (?_)))
            have HR := hr_neg HR c20
            refine S_dec (c.2.2.2.2.1 > 1024) (by kernel_rfl) (fun c21 => ?_) (fun c21 => ?_)
            · refine S_val (.bool true) (by kernel_rfl) (S_val (.bool true) (by kernel_rfl) (S_skip (by kernel_rfl) (S_skip (by kernel_rfl) (S_skip (by kernel_rfl) (S_val (.bool true) (by kernel_rfl) (S_val (.bool true) (by kernel_rfl) (S_skip (by kernel_rfl) (S_skip (by kernel_rfl) (S_skip (by kernel_rfl) (S_val (.bool true) (by kernel_rfl) (S_val (.bool true) (by kernel_rfl) (?_))))))))))))
              have HR := hr_pos HR c21
              refine S_skip (by kernel_rfl) (S_skip (by kernel_rfl) (S_val (.bool true) (by kernel_rfl) (S_val (.bool true) (by kernel_rfl) (S_skip (by kernel_rfl) (S_skip (by kernel_rfl) (S_val (.bool true) (by kernel_rfl) (S_val (.bool true) (by kernel_rfl) (S_skip (by kernel_rfl) (S_skip (by kernel_rfl) (S_val (.bool true) (by kernel_rfl) (S_val (.bool true) (by kernel_rfl) (?_))))))))))))
              refine S_skip (by kernel_rfl) (S_skip (by kernel_rfl) (S_val (.bool true) (by kernel_rfl) (S_nil (R_yes (by kernel_rfl) (R_seq (R_region (S_val (.int .i64 2) (by kernel_rfl) (S_nil (?_)))))))))
              refine R_ret hM19 rfl (.cons (.tmp _ (.int .i64 2) (by kernel_rfl)) .nil) rfl ?_
              exact ⟨congrArg Ending.returned HR, hM19.below⟩
            · refine S_val (.bool false) (by kernel_rfl) (S_val (.bool false) (by kernel_rfl) (S_val (.pointer (some ⟨g1, 13, none⟩)) (by kernel_rfl) (S_load 0 13 (.int .i64 c.2.2.2.2.2) hM19 (by kernel_rfl) (?_))))
              have HR := hr_neg HR c21
              refine S_dec (c.2.2.2.2.2 < 1) (by kernel_rfl) (fun c22 => ?_) (fun c22 => ?_)
              · refine S_val (.bool true) (by kernel_rfl) (S_val (.bool true) (by kernel_rfl) (S_skip (by kernel_rfl) (S_skip (by kernel_rfl) (S_skip (by kernel_rfl) (S_val (.bool true) (by kernel_rfl) (S_val (.bool true) (by kernel_rfl) (S_skip (by kernel_rfl) (S_skip (by kernel_rfl) (S_val (.bool true) (by kernel_rfl) (S_val (.bool true) (by kernel_rfl) (S_skip (by kernel_rfl) (?_))))))))))))
                have HR := hr_pos HR c22
                refine S_skip (by kernel_rfl) (S_val (.bool true) (by kernel_rfl) (S_val (.bool true) (by kernel_rfl) (S_skip (by kernel_rfl) (S_skip (by kernel_rfl) (S_val (.bool true) (by kernel_rfl) (S_val (.bool true) (by kernel_rfl) (S_skip (by kernel_rfl) (S_skip (by kernel_rfl) (S_val (.bool true) (by kernel_rfl) (S_nil (R_yes (by kernel_rfl) (?_))))))))))))
                refine R_seq (R_region (S_val (.int .i64 2) (by kernel_rfl) (S_nil (?_))))
                refine R_ret hM19 rfl (.cons (.tmp _ (.int .i64 2) (by kernel_rfl)) .nil) rfl ?_
                exact ⟨congrArg Ending.returned HR, hM19.below⟩
              · refine S_val (.bool false) (by kernel_rfl) (S_val (.bool false) (by kernel_rfl) (S_val (.pointer (some ⟨g1, 13, none⟩)) (by kernel_rfl) (S_load 0 13 (.int .i64 c.2.2.2.2.2) hM19 (by kernel_rfl) (?_))))
                have HR := hr_neg HR c22
                refine S_dec (c.2.2.2.2.2 > 32768) (by kernel_rfl) (fun c23 => ?_) (fun c23 => ?_)
                · refine S_val (.bool true) (by kernel_rfl) (S_val (.bool true) (by kernel_rfl) (S_skip (by kernel_rfl) (S_skip (by kernel_rfl) (S_val (.bool true) (by kernel_rfl) (S_val (.bool true) (by kernel_rfl) (S_skip (by kernel_rfl) (S_skip (by kernel_rfl) (S_val (.bool true) (by kernel_rfl) (S_val (.bool true) (by kernel_rfl) (S_skip (by kernel_rfl) (S_skip (by kernel_rfl) (?_))))))))))))
                  have HR := hr_pos HR c23
                  refine S_val (.bool true) (by kernel_rfl) (S_val (.bool true) (by kernel_rfl) (S_skip (by kernel_rfl) (S_skip (by kernel_rfl) (S_val (.bool true) (by kernel_rfl) (S_nil (R_yes (by kernel_rfl) (R_seq (R_region (S_val (.int .i64 2) (by kernel_rfl) (S_nil (?_)))))))))))
                  refine R_ret hM19 rfl (.cons (.tmp _ (.int .i64 2) (by kernel_rfl)) .nil) rfl ?_
                  exact ⟨congrArg Ending.returned HR, hM19.below⟩
                · refine S_val (.bool false) (by kernel_rfl) (S_val (.bool false) (by kernel_rfl) (S_val (.int .i64 w1_) (by kernel_rfl) (?_)))
                  have HR := hr_neg HR c23
                  refine S_dec (w1_ < 1) (by kernel_rfl) (fun c24 => ?_) (fun c24 => ?_)
                  · refine S_val (.bool true) (by kernel_rfl) (S_val (.bool true) (by kernel_rfl) (S_skip (by kernel_rfl) (S_skip (by kernel_rfl) (S_val (.bool true) (by kernel_rfl) (S_val (.bool true) (by kernel_rfl) (S_skip (by kernel_rfl) (S_skip (by kernel_rfl) (S_val (.bool true) (by kernel_rfl) (S_val (.bool true) (by kernel_rfl) (S_skip (by kernel_rfl) (S_skip (by kernel_rfl) (?_))))))))))))
                    have HR := hr_pos HR c24
                    refine S_val (.bool true) (by kernel_rfl) (S_nil (R_yes (by kernel_rfl) (R_seq (R_region (S_val (.int .i64 2) (by kernel_rfl) (S_nil (?_)))))))
                    refine R_ret hM19 rfl (.cons (.tmp _ (.int .i64 2) (by kernel_rfl)) .nil) rfl ?_
                    exact ⟨congrArg Ending.returned HR, hM19.below⟩
                  · refine S_val (.bool false) (by kernel_rfl) (S_val (.bool false) (by kernel_rfl) (S_val (.int .i64 w1_) (by kernel_rfl) (?_)))
                    have HR := hr_neg HR c24
                    refine S_dec (w1_ > 64) (by kernel_rfl) (fun c25 => ?_) (fun c25 => ?_)
                    · refine S_val (.bool true) (by kernel_rfl) (S_val (.bool true) (by kernel_rfl) (S_skip (by kernel_rfl) (S_skip (by kernel_rfl) (S_val (.bool true) (by kernel_rfl) (S_val (.bool true) (by kernel_rfl) (S_skip (by kernel_rfl) (S_skip (by kernel_rfl) (S_val (.bool true) (by kernel_rfl) (S_nil (R_yes (by kernel_rfl) (R_seq (?_))))))))))))
                      have HR := hr_pos HR c25
                      refine R_region (S_val (.int .i64 2) (by kernel_rfl) (S_nil (?_)))
                      refine R_ret hM19 rfl (.cons (.tmp _ (.int .i64 2) (by kernel_rfl)) .nil) rfl ?_
                      exact ⟨congrArg Ending.returned HR, hM19.below⟩
                    · refine S_val (.bool false) (by kernel_rfl) (S_val (.bool false) (by kernel_rfl) (S_val (.int .i64 h2_) (by kernel_rfl) (?_)))
                      have HR := hr_neg HR c25
                      refine S_dec (h2_ < 1) (by kernel_rfl) (fun c26 => ?_) (fun c26 => ?_)
                      · refine S_val (.bool true) (by kernel_rfl) (S_val (.bool true) (by kernel_rfl) (S_skip (by kernel_rfl) (S_skip (by kernel_rfl) (S_val (.bool true) (by kernel_rfl) (S_nil (R_yes (by kernel_rfl) (R_seq (R_region (S_val (.int .i64 2) (by kernel_rfl) (S_nil (?_)))))))))))
                        have HR := hr_pos HR c26
                        refine R_ret hM19 rfl (.cons (.tmp _ (.int .i64 2) (by kernel_rfl)) .nil) rfl ?_
                        exact ⟨congrArg Ending.returned HR, hM19.below⟩
                      · refine S_val (.bool false) (by kernel_rfl) (S_val (.bool false) (by kernel_rfl) (S_val (.int .i64 h2_) (by kernel_rfl) (?_)))
                        have HR := hr_neg HR c26
                        refine S_dec (h2_ > 64) (by kernel_rfl) (fun c27 => ?_) (fun c27 => ?_)
                        · refine S_val (.bool true) (by kernel_rfl) (S_nil (R_yes (by kernel_rfl) (R_seq (R_region (S_val (.int .i64 2) (by kernel_rfl) (S_nil (?_)))))))
                          have HR := hr_pos HR c27
                          refine R_ret hM19 rfl (.cons (.tmp _ (.int .i64 2) (by kernel_rfl)) .nil) rfl ?_
                          exact ⟨congrArg Ending.returned HR, hM19.below⟩
                        · refine S_val (.bool false) (by kernel_rfl) (S_nil (R_no (by kernel_rfl) (R_skip (R_seq (R_region (S_val (.int .i64 0) (by kernel_rfl) (S_nil (?_))))))))
                          have HR := hr_neg HR c27
                          refine R_ret hM19 rfl (.cons (.tmp _ (.int .i64 0) (by kernel_rfl)) .nil) rfl ?_
                          exact ⟨congrArg Ending.returned HR, hM19.below⟩
  · refine S_nil (R_yes (by kernel_rfl) (R_seq (R_region (S_val (.int .i64 8) (by kernel_rfl) (S_nil (?_))))))
    have HR := hr_pos HR rfl
    refine R_ret hM7 rfl (.cons (.tmp _ (.int .i64 8) (by kernel_rfl)) .nil) rfl ?_
    exact ⟨congrArg Ending.returned HR, hM7.below⟩

def P_umbraref24_Check (r : Int) : Prop := InI r
theorem i_umbraref24_Check (c : (Int × Int × Int) × (Int × Int × Int) × (Int × Int × Int) × (Int × Int × Int) × Int × Int) (w1_ : Int) (h2_ : Int) (h_c : (InV c.1 ∧ InV c.2.1 ∧ InV c.2.2.1 ∧ InV c.2.2.2.1 ∧ InI c.2.2.2.2.1 ∧ InI c.2.2.2.2.2)) (h_w1_ : InI w1_) (h_h2_ : InI h2_) : P_umbraref24_Check (s_umbraref24_Check c w1_ h2_) := by
  unfold s_umbraref24_Check
  exact (lt_P fun r4 h5 => ite_P (fun c31 => (show InI 8 from (show InI 8 from by unfold InI; omega))) (fun c31 => (lt_P fun r8 h9 => ite_P (fun c30 => (lt_P fun r12 h13 => ite_P (fun c29 => (lt_P fun r16 h17 => ite_P (fun c28 => (ite_P (fun c20 => (show InI 2 from (show InI 2 from by unfold InI; omega))) (fun c20 => (ite_P (fun c21 => (show InI 2 from (show InI 2 from by unfold InI; omega))) (fun c21 => (ite_P (fun c22 => (show InI 2 from (show InI 2 from by unfold InI; omega))) (fun c22 => (ite_P (fun c23 => (show InI 2 from (show InI 2 from by unfold InI; omega))) (fun c23 => (ite_P (fun c24 => (show InI 2 from (show InI 2 from by unfold InI; omega))) (fun c24 => (ite_P (fun c25 => (show InI 2 from (show InI 2 from by unfold InI; omega))) (fun c25 => (ite_P (fun c26 => (show InI 2 from (show InI 2 from by unfold InI; omega))) (fun c26 => (ite_P (fun c27 => (show InI 2 from (show InI 2 from by unfold InI; omega))) (fun c27 => (show InI 0 from (show InI 0 from by unfold InI; omega))))))))))))))))))) (fun c28 => (show InI 2 from (show InI 2 from by unfold InI; omega))))) (fun c29 => (show InI 2 from (show InI 2 from by unfold InI; omega))))) (fun c30 => (show InI 2 from (show InI 2 from by unfold InI; omega))))))

def e_stream_Unit (r : Int) : Value := .int .i64 r
def s_stream_Unit (x : Int) : Int :=
  lt (IntKind.i64.wrap x) fun x1 =>
  x1
set_option maxRecDepth 100000 in
set_option maxHeartbeats 4000000 in
theorem w_stream_Unit (x : Int) (h_x : InU32 x) (w : World) : Calls Try.prog 67 #[.int .u32 x] w (Ret (e_stream_Unit (s_stream_Unit x)) w) := by
  obtain ⟨R, HR⟩ : ∃ R, e_stream_Unit (s_stream_Unit x) = R := ⟨_, rfl⟩
  rw [HR]
  unfold s_stream_Unit at HR
  have hM0 := St.start w
  refine calls_run Try.func67 rfl ?_
  refine R_seq (R_region (S_val (.int .i64 0) (by kernel_rfl) (S_nil (R_seq (R_region (S_val (.int .u32 x) (by kernel_rfl) (S_int (IntKind.i64.wrap x) .i64 (by kernel_rfl) (fun x1 h2 => S_val (.int .i64 x1) (by kernel_rfl) (S_nil (?_))))))))))
  have HR := hr_lt HR h2
  refine R_ret hM0 rfl (.cons (.tmp _ (.int .i64 x1) (by kernel_rfl)) .nil) rfl ?_
  exact ⟨congrArg Ending.returned HR, hM0.below⟩

def P_stream_Unit (r : Int) : Prop := InI r
theorem i_stream_Unit (x : Int) (h_x : InU32 x) : P_stream_Unit (s_stream_Unit x) := by
  unfold s_stream_Unit
  exact (lt_P fun x1 h2 => (show InI x1 from (wr_i64 h2)))

def e_stream_Below (r : Int) : Value := .int .i64 r
def s_stream_Below (x : Int) (n : Int) : Int :=
  lt (gmax n 0) fun x1 =>
  lt (gmin x1 2147483648) fun x3 =>
  lt (IntKind.u64.wrap x) fun x5 =>
  lt (IntKind.u64.wrap x3) fun x7 =>
  lt (IntKind.u64.wrap (x5 * x7)) fun x9 =>
  lt (Int.fdiv x9 (2 ^ 32)) fun x11 =>
  lt (IntKind.i64.wrap x11) fun x13 =>
  x13
set_option maxRecDepth 100000 in
set_option maxHeartbeats 4000000 in
theorem w_stream_Below (x : Int) (n : Int) (h_x : InU32 x) (h_n : InI n) (w : World) : Calls Try.prog 99 #[.int .u32 x, .int .i64 n] w (Ret (e_stream_Below (s_stream_Below x n)) w) := by
  obtain ⟨R, HR⟩ : ∃ R, e_stream_Below (s_stream_Below x n) = R := ⟨_, rfl⟩
  rw [HR]
  unfold s_stream_Below at HR
  have hM0 := St.start w
  refine calls_run Try.func99 rfl ?_
  refine R_seq (R_region (S_val (.int .i64 0) (by kernel_rfl) (S_nil (R_seq (R_region (S_val (.int .i64 n) (by kernel_rfl) (S_int (gmax n 0) .i64 (by kernel_rfl) (fun x1 h2 => S_int (gmin x1 2147483648) .i64 (by kernel_rfl) (fun x3 h4 => S_val (.int .i64 x3) (by kernel_rfl) (S_nil (R_seq (?_))))))))))))
  have HR := hr_lt HR h2
  have HR := hr_lt HR h4
  refine R_region (S_val (.int .u32 x) (by kernel_rfl) (S_int (IntKind.u64.wrap x) .u64 (by kernel_rfl) (fun x5 h6 => S_val (.int .i64 x3) (by kernel_rfl) (S_int (IntKind.u64.wrap x3) .u64 (by kernel_rfl) (fun x7 h8 => S_int (IntKind.u64.wrap (x5 * x7)) .u64 (by kernel_rfl) (fun x9 h10 => S_int (Int.fdiv x9 (2 ^ 32)) .u64 (by kernel_rfl) (fun x11 h12 => S_int (IntKind.i64.wrap x11) .i64 (by kernel_rfl) (fun x13 h14 => S_val (.int .i64 x13) (by kernel_rfl) (S_nil (?_))))))))))
  have HR := hr_lt HR h6
  have HR := hr_lt HR h8
  have HR := hr_lt HR h10
  have HR := hr_lt HR h12
  have HR := hr_lt HR h14
  refine R_ret hM0 rfl (.cons (.tmp _ (.int .i64 x13) (by kernel_rfl)) .nil) rfl ?_
  exact ⟨congrArg Ending.returned HR, hM0.below⟩

def P_stream_Below (r : Int) : Prop := InI r
theorem i_stream_Below (x : Int) (n : Int) (h_x : InU32 x) (h_n : InI n) : P_stream_Below (s_stream_Below x n) := by
  unfold s_stream_Below
  exact (lt_P fun x1 h2 => (lt_P fun x3 h4 => (lt_P fun x5 h6 => (lt_P fun x7 h8 => (lt_P fun x9 h10 => (lt_P fun x11 h12 => (lt_P fun x13 h14 => (show InI x13 from (wr_i64 h14)))))))))

def e_octa_Quant_1 (r : Int) : Value := .int .i64 r
def s_octa_Quant_1 (m : Int) (x : Int) : Int :=
  lt (mdN x 16384 m) fun r1 =>
  lt (gmax r1 (-16384)) fun x5 =>
  x5
set_option maxRecDepth 100000 in
set_option maxHeartbeats 4000000 in
theorem w_octa_Quant_1 (m : Int) (x : Int) (h_m : InI m) (h_x : InI x) (B0 : Nat) (T0 : TypeId) (fr0 : Nat × Nat) (w : World) (hB0 : Has B0 (.cells #[.int .i64 m] T0 fr0) w) : Calls Try.prog 102 #[.int .i64 x, .pointer (some ⟨B0, 0, none⟩)] w (Ret (e_octa_Quant_1 (s_octa_Quant_1 m x)) w) := by
  obtain ⟨R, HR⟩ : ∃ R, e_octa_Quant_1 (s_octa_Quant_1 m x) = R := ⟨_, rfl⟩
  rw [HR]
  unfold s_octa_Quant_1 at HR
  have hM0 := St.start1 hB0
  refine calls_run Try.func102 rfl ?_
  refine R_seq (R_region (S_val (.int .i64 0) (by kernel_rfl) (S_nil (R_seq (R_region (S_val (.int .i64 x) (by kernel_rfl) (S_load 0 0 (.int .i64 m) hM0 (by kernel_rfl) (S_call (mdN x 16384 m) (fun r : Int => .int .i64 r) hM0 (c_wide_MulDiv x 16384 m h_x (show InI 16384 from by unfold InI; omega) h_m w) (by kernel_rfl) (fun r1 h2 w3 hM4 => S_int (gmax r1 (-16384)) .i64 (by kernel_rfl) (fun x5 h6 => S_val (.int .i64 x5) (by kernel_rfl) (S_nil (?_))))))))))))
  have HR := hr_lt HR h2
  have HR := hr_lt HR h6
  refine R_ret hM4 rfl (.cons (.tmp _ (.int .i64 x5) (by kernel_rfl)) .nil) rfl ?_
  exact ⟨congrArg Ending.returned HR, hM4.below⟩

def P_octa_Quant_1 (r : Int) : Prop := InI r
theorem i_octa_Quant_1 (m : Int) (x : Int) (h_m : InI m) (h_x : InI x) : P_octa_Quant_1 (s_octa_Quant_1 m x) := by
  unfold s_octa_Quant_1
  exact (lt_P fun r1 h2 => (lt_P fun x5 h6 => (show InI x5 from (tr (P := InI) h6 (gmax_InI (tr (P := fun r : Int => InI r) h2 (mdN_I x 16384 m)).out (show InI (-16384) from by unfold InI; omega))).out)))

def e_octa_Quant (r : (Int × Int × Int) × Int) : Value := .tuple #[.agg #[.int .i64 r.1.1, .int .i64 r.1.2.1, .int .i64 r.1.2.2], .int .i64 r.2]
def s_octa_Quant (v : Int × Int × Int) : (Int × Int × Int) × Int :=
  lt (vmost v) fun r7 =>
  if r7 = 0 then
    ((0, 0, 0), 2)
  else
    lt (s_octa_Quant_1 r7 v.1) fun r22 =>
    lt (s_octa_Quant_1 r7 v.2.1) fun r24 =>
    lt (s_octa_Quant_1 r7 v.2.2) fun r26 =>
    ((r22, r24, r26), 0)
set_option maxRecDepth 100000 in
set_option maxHeartbeats 4000000 in
theorem w_octa_Quant (v : Int × Int × Int) (h_v : InV v) (w : World) : Calls Try.prog 73 #[.agg #[.int .i64 v.1, .int .i64 v.2.1, .int .i64 v.2.2]] w (Ret (e_octa_Quant (s_octa_Quant v)) w) := by
  obtain ⟨R, HR⟩ : ∃ R, e_octa_Quant (s_octa_Quant v) = R := ⟨_, rfl⟩
  rw [HR]
  unfold s_octa_Quant at HR
  have hM0 := St.start w
  refine calls_run Try.func73 rfl ?_
  refine R_seq (R_region (S_fresh none #[.int .i64 v.1, .int .i64 v.2.1, .int .i64 v.2.2] 29 hM0 (by kernel_rfl) (fun g1 w2 hM3 => S_fresh none #[.int .i64 0, .int .i64 0, .int .i64 0] 69 hM3 (by kernel_rfl) (fun g4 w5 hM6 => S_val (.int .i64 0) (by kernel_rfl) (S_nil (R_seq (R_region (S_load 1 0 (.agg #[.int .i64 v.1, .int .i64 v.2.1, .int .i64 v.2.2]) hM6 (by kernel_rfl) (S_call (vmost v) (fun r : Int => .int .i64 r) hM6 (c_vec_Most v h_v w5) (by kernel_rfl) (fun r7 h8 w9 hM10 => S_fresh none #[.int .i64 0] 27 hM10 (by kernel_rfl) (fun g11 w12 hM13 => S_store 0 0 #[.int .i64 r7] hM13 (by kernel_rfl) (fun w14 hM15 => ?_))))))))))))
  have HR := hr_lt HR h8
  refine S_nil (R_seq (R_seq (R_region (S_load 0 0 (.int .i64 r7) hM15 (by kernel_rfl) (?_)))))
  refine S_dec (r7 = 0) (by kernel_rfl) (fun c16 => ?_) (fun c16 => ?_)
  · refine S_nil (R_yes (by kernel_rfl) (R_seq (R_region (S_val (.agg #[.int .i64 0, .int .i64 0, .int .i64 0]) (by kernel_rfl) (S_store 1 0 #[.int .i64 0, .int .i64 0, .int .i64 0] hM15 (by kernel_rfl) (fun w17 hM18 => S_val (.int .i64 2) (by kernel_rfl) (S_nil (?_))))))))
    have HR := hr_pos HR c16
    refine R_ret hM18 rfl (.cons (.cell _ _ 1 0 (.agg #[.int .i64 0, .int .i64 0, .int .i64 0]) (by kernel_rfl)) (.cons (.tmp _ (.int .i64 2) (by kernel_rfl)) .nil)) rfl ?_
    exact ⟨congrArg Ending.returned HR, hM18.below⟩
  · refine S_nil (R_no (by kernel_rfl) (R_skip (R_seq (R_region (S_val (.func (.func 102) #[] #[.pointer (some ⟨g11, 0, none⟩)]) (by kernel_rfl) (S_val (.func (.func 102) #[] #[.pointer (some ⟨g11, 0, none⟩)]) (by kernel_rfl) (S_nil (R_seq (R_drawF 13 (by kernel_rfl) (fun F19 U20 hL21 => F_val (.func (.func 102) #[] #[.pointer (some ⟨g11, 0, none⟩)]) (fun _ => by kernel_rfl) (F_val (.pointer (some ⟨g1, 0, none⟩)) (fun _ => by kernel_rfl) (?_))))))))))))
    have HR := hr_neg HR c16
    refine F_load 2 0 (.int .i64 v.1) hM15 (by kernel_rfl) (F_call (s_octa_Quant_1 r7 v.1) (fun r : Int => .int .i64 r) hM15 hL21 (fun w' hM' => w_octa_Quant_1 r7 v.1 ((tr (P := fun r : Int => InI r) h8 (vmost_I h_v)).out) h_v.1 g11 _ _ w' (hM'.at 0 rfl)) (by kernel_rfl) (fun _ => by kernel_rfl) (fun r22 h23 => F_val (.func (.func 102) #[] #[.pointer (some ⟨g11, 0, none⟩)]) (fun _ => by kernel_rfl) (F_val (.pointer (some ⟨g1, 1, none⟩)) (fun _ => by kernel_rfl) (F_load 2 1 (.int .i64 v.2.1) hM15 (by kernel_rfl) (F_call (s_octa_Quant_1 r7 v.2.1) (fun r : Int => .int .i64 r) hM15 hL21 (fun w' hM' => w_octa_Quant_1 r7 v.2.1 ((tr (P := fun r : Int => InI r) h8 (vmost_I h_v)).out) h_v.2.1 g11 _ _ w' (hM'.at 0 rfl)) (by kernel_rfl) (fun _ => by kernel_rfl) (fun r24 h25 => F_val (.func (.func 102) #[] #[.pointer (some ⟨g11, 0, none⟩)]) (fun _ => by kernel_rfl) (F_val (.pointer (some ⟨g1, 2, none⟩)) (fun _ => by kernel_rfl) (F_load 2 2 (.int .i64 v.2.2) hM15 (by kernel_rfl) (F_call (s_octa_Quant_1 r7 v.2.2) (fun r : Int => .int .i64 r) hM15 hL21 (fun w' hM' => w_octa_Quant_1 r7 v.2.2 ((tr (P := fun r : Int => InI r) h8 (vmost_I h_v)).out) h_v.2.2 g11 _ _ w' (hM'.at 0 rfl)) (by kernel_rfl) (fun _ => by kernel_rfl) (fun r26 h27 => F_val (.agg #[.int .i64 r22, .int .i64 r24, .int .i64 r26]) (fun _ => by kernel_rfl) (F_nil hM15 hL21 (fun w28 hM29 => ?_))))))))))))
    have HR := hr_lt HR h23
    have HR := hr_lt HR h25
    have HR := hr_lt HR h27
    refine S_store 1 0 #[.int .i64 r22, .int .i64 r24, .int .i64 r26] hM29 (by kernel_rfl) (fun w30 hM31 => S_val (.int .i64 0) (by kernel_rfl) (S_nil (?_)))
    refine R_ret hM31 rfl (.cons (.cell _ _ 1 0 (.agg #[.int .i64 r22, .int .i64 r24, .int .i64 r26]) (by kernel_rfl)) (.cons (.tmp _ (.int .i64 0) (by kernel_rfl)) .nil)) rfl ?_
    exact ⟨congrArg Ending.returned HR, hM31.below⟩

def P_octa_Quant (r : (Int × Int × Int) × Int) : Prop := (InV r.1 ∧ InI r.2)
theorem i_octa_Quant (v : Int × Int × Int) (h_v : InV v) : P_octa_Quant (s_octa_Quant v) := by
  unfold s_octa_Quant
  exact (lt_P fun r7 h8 => (ite_P (fun c16 => (show (InV (0, 0, 0) ∧ InI 2) from ⟨⟨(show InI 0 from by unfold InI; omega), (show InI 0 from by unfold InI; omega), (show InI 0 from by unfold InI; omega)⟩, (show InI 2 from by unfold InI; omega)⟩)) (fun c16 => (lt_P fun r22 h23 => (lt_P fun r24 h25 => (lt_P fun r26 h27 => (show (InV (r22, r24, r26) ∧ InI 0) from ⟨⟨(tr (P := fun r : Int => InI r) h23 (i_octa_Quant_1 r7 v.1 ((tr (P := fun r : Int => InI r) h8 (vmost_I h_v)).out) h_v.1)).out, (tr (P := fun r : Int => InI r) h25 (i_octa_Quant_1 r7 v.2.1 ((tr (P := fun r : Int => InI r) h8 (vmost_I h_v)).out) h_v.2.1)).out, (tr (P := fun r : Int => InI r) h27 (i_octa_Quant_1 r7 v.2.2 ((tr (P := fun r : Int => InI r) h8 (vmost_I h_v)).out) h_v.2.2)).out⟩, (show InI 0 from by unfold InI; omega)⟩)))))))

def e_lens_Toward (r : (Int × Int × Int) × Int) : Value := .tuple #[.agg #[.int .i64 r.1.1, .int .i64 r.1.2.1, .int .i64 r.1.2.2], .int .i64 r.2]
def s_lens_Toward (c : (Int × Int × Int) × (Int × Int × Int) × (Int × Int × Int) × (Int × Int × Int) × Int × Int) (w1_ : Int) (h2_ : Int) (x : Int) (y : Int) (draw : Int × Int) : (Int × Int × Int) × Int :=
  lt (s_lens_Check c w1_ h2_) fun r10 =>
  if r10 = 0 then
    if x < 0 then
      ((0, 0, 0), 2)
    else
      if x ≥ w1_ then
        ((0, 0, 0), 2)
      else
        if y < 0 then
          ((0, 0, 0), 2)
        else
          if y ≥ h2_ then
            ((0, 0, 0), 2)
          else
            lt (IntKind.i64.wrap (2 * x)) fun x32 =>
            lt (IntKind.i64.wrap (x32 - w1_)) fun x34 =>
            lt (fof x34) fun r36 =>
            lt (s_stream_Unit draw.1) fun r38 =>
            lt (IntKind.i64.wrap (2 * r38)) fun x40 =>
            lt (sumF [r36, x40]) fun r46 =>
            lt (fof w1_) fun r48 =>
            lt (fdiv r46 r48) fun r50 =>
            lt (IntKind.i64.wrap (2 * y)) fun x57 =>
            lt (IntKind.i64.wrap (h2_ - x57)) fun x59 =>
            lt (fof x59) fun r61 =>
            lt (s_stream_Unit draw.2) fun r63 =>
            lt (IntKind.i64.wrap (2 * r63)) fun x65 =>
            lt (satSub r61 x65) fun r67 =>
            lt (fof h2_) fun r69 =>
            lt (fdiv r67 r69) fun r71 =>
            lt (vof c.2.2.2.1) fun r78 =>
            lt (vof c.2.1) fun r80 =>
            lt (vscale r80 r50) fun r82 =>
            lt (vof c.2.2.1) fun r84 =>
            lt (vscale r84 r71) fun r86 =>
            lt (sumT [r78, r82, r86]) fun r92 =>
            (r92, 0)
  else
    ((0, 0, 0), r10)
set_option maxRecDepth 100000 in
set_option maxHeartbeats 4000000 in
theorem w_lens_Toward (c : (Int × Int × Int) × (Int × Int × Int) × (Int × Int × Int) × (Int × Int × Int) × Int × Int) (w1_ : Int) (h2_ : Int) (x : Int) (y : Int) (draw : Int × Int) (h_c : (InV c.1 ∧ InV c.2.1 ∧ InV c.2.2.1 ∧ InV c.2.2.2.1 ∧ InI c.2.2.2.2.1 ∧ InI c.2.2.2.2.2)) (h_w1_ : InI w1_) (h_h2_ : InI h2_) (h_x : InI x) (h_y : InI y) (h_draw : (InU32 draw.1 ∧ InU32 draw.2)) (w : World) : Calls Try.prog 32 #[.agg #[.int .i64 c.1.1, .int .i64 c.1.2.1, .int .i64 c.1.2.2, .int .i64 c.2.1.1, .int .i64 c.2.1.2.1, .int .i64 c.2.1.2.2, .int .i64 c.2.2.1.1, .int .i64 c.2.2.1.2.1, .int .i64 c.2.2.1.2.2, .int .i64 c.2.2.2.1.1, .int .i64 c.2.2.2.1.2.1, .int .i64 c.2.2.2.1.2.2, .int .i64 c.2.2.2.2.1, .int .i64 c.2.2.2.2.2], .int .i64 w1_, .int .i64 h2_, .int .i64 x, .int .i64 y, .agg #[.int .u32 draw.1, .int .u32 draw.2]] w (Ret (e_lens_Toward (s_lens_Toward c w1_ h2_ x y draw)) w) := by
  obtain ⟨R, HR⟩ : ∃ R, e_lens_Toward (s_lens_Toward c w1_ h2_ x y draw) = R := ⟨_, rfl⟩
  rw [HR]
  unfold s_lens_Toward at HR
  have hM0 := St.start w
  refine calls_run Try.func32 rfl ?_
  refine R_seq (R_region (S_fresh none #[.int .i64 c.1.1, .int .i64 c.1.2.1, .int .i64 c.1.2.2, .int .i64 c.2.1.1, .int .i64 c.2.1.2.1, .int .i64 c.2.1.2.2, .int .i64 c.2.2.1.1, .int .i64 c.2.2.1.2.1, .int .i64 c.2.2.1.2.2, .int .i64 c.2.2.2.1.1, .int .i64 c.2.2.2.1.2.1, .int .i64 c.2.2.2.1.2.2, .int .i64 c.2.2.2.2.1, .int .i64 c.2.2.2.2.2] 71 hM0 (by kernel_rfl) (fun g1 w2 hM3 => S_fresh none #[.int .u32 draw.1, .int .u32 draw.2] 78 hM3 (by kernel_rfl) (fun g4 w5 hM6 => S_fresh none #[.int .i64 0, .int .i64 0, .int .i64 0] 29 hM6 (by kernel_rfl) (fun g7 w8 hM9 => S_val (.int .i64 0) (by kernel_rfl) (S_nil (R_seq (R_seq (R_region (S_load 2 0 (.agg #[.int .i64 c.1.1, .int .i64 c.1.2.1, .int .i64 c.1.2.2, .int .i64 c.2.1.1, .int .i64 c.2.1.2.1, .int .i64 c.2.1.2.2, .int .i64 c.2.2.1.1, .int .i64 c.2.2.1.2.1, .int .i64 c.2.2.1.2.2, .int .i64 c.2.2.2.1.1, .int .i64 c.2.2.2.1.2.1, .int .i64 c.2.2.2.1.2.2, .int .i64 c.2.2.2.2.1, .int .i64 c.2.2.2.2.2]) hM9 (by kernel_rfl) (S_val (.int .i64 w1_) (by kernel_rfl) (?_))))))))))))
  refine S_val (.int .i64 h2_) (by kernel_rfl) (S_call (s_lens_Check c w1_ h2_) (fun r : Int => .int .i64 r) hM9 (w_lens_Check c w1_ h2_ h_c h_w1_ h_h2_ w8) (by kernel_rfl) (fun r10 h11 w12 hM13 => S_val (.int .i64 r10) (by kernel_rfl) (S_nil (R_seq (R_region (S_val (.int .i64 r10) (by kernel_rfl) (?_)))))))
  have HR := hr_lt HR h11
  refine S_decn (r10 = 0) (by kernel_rfl) (fun c14 => ?_) (fun c14 => ?_)
  · refine S_nil (R_yes (by kernel_rfl) (R_seq (R_region (S_val (.agg #[.int .i64 0, .int .i64 0, .int .i64 0]) (by kernel_rfl) (S_val (.int .i64 r10) (by kernel_rfl) (S_store 0 0 #[.int .i64 0, .int .i64 0, .int .i64 0] hM13 (by kernel_rfl) (fun w15 hM16 => S_val (.int .i64 r10) (by kernel_rfl) (S_nil (?_)))))))))
    have HR := hr_neg HR c14
    refine R_ret hM16 rfl (.cons (.cell _ _ 0 0 (.agg #[.int .i64 0, .int .i64 0, .int .i64 0]) (by kernel_rfl)) (.cons (.tmp _ (.int .i64 r10) (by kernel_rfl)) .nil)) rfl ?_
    exact ⟨congrArg Ending.returned HR, hM16.below⟩
  · refine S_nil (R_no (by kernel_rfl) (R_skip (R_seq (R_seq (R_region (S_val (.int .i64 x) (by kernel_rfl) (?_)))))))
    have HR := hr_pos HR c14
    refine S_dec (x < 0) (by kernel_rfl) (fun c17 => ?_) (fun c17 => ?_)
    · refine S_val (.bool true) (by kernel_rfl) (S_skip (by kernel_rfl) (S_skip (by kernel_rfl) (S_skip (by kernel_rfl) (S_val (.bool true) (by kernel_rfl) (S_val (.bool true) (by kernel_rfl) (S_skip (by kernel_rfl) (S_skip (by kernel_rfl) (S_val (.bool true) (by kernel_rfl) (S_val (.bool true) (by kernel_rfl) (S_skip (by kernel_rfl) (S_skip (by kernel_rfl) (?_))))))))))))
      have HR := hr_pos HR c17
      refine S_skip (by kernel_rfl) (S_val (.bool true) (by kernel_rfl) (S_nil (R_yes (by kernel_rfl) (R_seq (R_region (S_val (.agg #[.int .i64 0, .int .i64 0, .int .i64 0]) (by kernel_rfl) (S_store 0 0 #[.int .i64 0, .int .i64 0, .int .i64 0] hM13 (by kernel_rfl) (fun w18 hM19 => S_val (.int .i64 2) (by kernel_rfl) (S_nil (?_))))))))))
      refine R_ret hM19 rfl (.cons (.cell _ _ 0 0 (.agg #[.int .i64 0, .int .i64 0, .int .i64 0]) (by kernel_rfl)) (.cons (.tmp _ (.int .i64 2) (by kernel_rfl)) .nil)) rfl ?_
      exact ⟨congrArg Ending.returned HR, hM19.below⟩
    · refine S_val (.bool false) (by kernel_rfl) (S_val (.int .i64 x) (by kernel_rfl) (S_val (.int .i64 w1_) (by kernel_rfl) (?_)))
      have HR := hr_neg HR c17
      refine S_dec (x ≥ w1_) (by kernel_rfl) (fun c20 => ?_) (fun c20 => ?_)
      · refine S_val (.bool true) (by kernel_rfl) (S_val (.bool true) (by kernel_rfl) (S_skip (by kernel_rfl) (S_skip (by kernel_rfl) (S_val (.bool true) (by kernel_rfl) (S_val (.bool true) (by kernel_rfl) (S_skip (by kernel_rfl) (S_skip (by kernel_rfl) (S_skip (by kernel_rfl) (S_val (.bool true) (by kernel_rfl) (S_nil (R_yes (by kernel_rfl) (?_))))))))))))
        have HR := hr_pos HR c20
        refine R_seq (R_region (S_val (.agg #[.int .i64 0, .int .i64 0, .int .i64 0]) (by kernel_rfl) (S_store 0 0 #[.int .i64 0, .int .i64 0, .int .i64 0] hM13 (by kernel_rfl) (fun w21 hM22 => S_val (.int .i64 2) (by kernel_rfl) (S_nil (?_))))))
        refine R_ret hM22 rfl (.cons (.cell _ _ 0 0 (.agg #[.int .i64 0, .int .i64 0, .int .i64 0]) (by kernel_rfl)) (.cons (.tmp _ (.int .i64 2) (by kernel_rfl)) .nil)) rfl ?_
        exact ⟨congrArg Ending.returned HR, hM22.below⟩
      · refine S_val (.bool false) (by kernel_rfl) (S_val (.bool false) (by kernel_rfl) (S_val (.int .i64 y) (by kernel_rfl) (?_)))
        have HR := hr_neg HR c20
        refine S_dec (y < 0) (by kernel_rfl) (fun c23 => ?_) (fun c23 => ?_)
        · refine S_val (.bool true) (by kernel_rfl) (S_val (.bool true) (by kernel_rfl) (S_skip (by kernel_rfl) (S_skip (by kernel_rfl) (S_skip (by kernel_rfl) (S_val (.bool true) (by kernel_rfl) (S_nil (R_yes (by kernel_rfl) (R_seq (R_region (S_val (.agg #[.int .i64 0, .int .i64 0, .int .i64 0]) (by kernel_rfl) (S_store 0 0 #[.int .i64 0, .int .i64 0, .int .i64 0] hM13 (by kernel_rfl) (fun w24 hM25 => ?_))))))))))))
          have HR := hr_pos HR c23
          refine S_val (.int .i64 2) (by kernel_rfl) (S_nil (?_))
          refine R_ret hM25 rfl (.cons (.cell _ _ 0 0 (.agg #[.int .i64 0, .int .i64 0, .int .i64 0]) (by kernel_rfl)) (.cons (.tmp _ (.int .i64 2) (by kernel_rfl)) .nil)) rfl ?_
          exact ⟨congrArg Ending.returned HR, hM25.below⟩
        · refine S_val (.bool false) (by kernel_rfl) (S_val (.bool false) (by kernel_rfl) (S_val (.int .i64 y) (by kernel_rfl) (S_val (.int .i64 h2_) (by kernel_rfl) (?_))))
          have HR := hr_neg HR c23
          refine S_dec (y ≥ h2_) (by kernel_rfl) (fun c26 => ?_) (fun c26 => ?_)
          · refine S_val (.bool true) (by kernel_rfl) (S_nil (R_yes (by kernel_rfl) (R_seq (R_region (S_val (.agg #[.int .i64 0, .int .i64 0, .int .i64 0]) (by kernel_rfl) (S_store 0 0 #[.int .i64 0, .int .i64 0, .int .i64 0] hM13 (by kernel_rfl) (fun w27 hM28 => S_val (.int .i64 2) (by kernel_rfl) (S_nil (?_)))))))))
            have HR := hr_pos HR c26
            refine R_ret hM28 rfl (.cons (.cell _ _ 0 0 (.agg #[.int .i64 0, .int .i64 0, .int .i64 0]) (by kernel_rfl)) (.cons (.tmp _ (.int .i64 2) (by kernel_rfl)) .nil)) rfl ?_
            exact ⟨congrArg Ending.returned HR, hM28.below⟩
          · refine S_val (.bool false) (by kernel_rfl) (S_nil (R_no (by kernel_rfl) (R_skip (R_seq (R_drawF 15 (by kernel_rfl) (fun F29 U30 hL31 => F_val (.int .i64 x) (fun _ => by kernel_rfl) (F_int (IntKind.i64.wrap (2 * x)) .i64 (fun _ => by kernel_rfl) (fun x32 h33 => F_val (.int .i64 w1_) (fun _ => by kernel_rfl) (F_int (IntKind.i64.wrap (x32 - w1_)) .i64 (fun _ => by kernel_rfl) (fun x34 h35 => F_call (fof x34) (fun r : Int => .int .i64 r) hM13 hL31 (fun w' hM' => c_fix_Of x34 (wr_i64 h35) w') (by kernel_rfl) (fun _ => by kernel_rfl) (fun r36 h37 => F_val (.pointer (some ⟨g4, 0, none⟩)) (fun _ => by kernel_rfl) (?_))))))))))))
            have HR := hr_neg HR c26
            have HR := hr_lt HR h33
            have HR := hr_lt HR h35
            have HR := hr_lt HR h37
            refine F_load 1 0 (.int .u32 draw.1) hM13 (by kernel_rfl) (F_call (s_stream_Unit draw.1) (fun r : Int => .int .i64 r) hM13 hL31 (fun w' hM' => w_stream_Unit draw.1 h_draw.1 w') (by kernel_rfl) (fun _ => by kernel_rfl) (fun r38 h39 => F_int (IntKind.i64.wrap (2 * r38)) .i64 (fun _ => by kernel_rfl) (fun x40 h41 => F_fresh (some 2) #[.int .i64 r36, .int .i64 x40] 27 hL31 (by kernel_rfl) (fun _ => by kernel_rfl) (fun g42 F43 U44 hL45 => F_call (sumF [r36, x40]) (fun r : Int => .int .i64 r) hM13 hL45 (fun w' hM' => c_fixAdd [r36, x40] ⟨(tr (P := fun r : Int => InI r) h37 (fof_I x34)).out, (wr_i64 h41), trivial⟩ (by kernel_rfl) hM' 0 2 2 rfl (by kernel_rfl) (by kernel_rfl)) (by kernel_rfl) (fun _ => by kernel_rfl) (fun r46 h47 => F_val (.int .i64 w1_) (fun _ => by kernel_rfl) (F_call (fof w1_) (fun r : Int => .int .i64 r) hM13 hL45 (fun w' hM' => c_fix_Of w1_ h_w1_ w') (by kernel_rfl) (fun _ => by kernel_rfl) (fun r48 h49 => F_call (fdiv r46 r48) (fun r : Int => .int .i64 r) hM13 hL45 (fun w' hM' => c_fix_Div r46 r48 ((tr (P := fun r : Int => InI r) h47 (sumF_I [r36, x40])).out) ((tr (P := fun r : Int => InI r) h49 (fof_I w1_)).out) w') (by kernel_rfl) (fun _ => by kernel_rfl) (fun r50 h51 => F_val (.int .i64 r50) (fun _ => by kernel_rfl) (F_nil hM13 hL45 (fun w52 hM53 => S_nil (R_seq (?_))))))))))))
            have HR := hr_lt HR h39
            have HR := hr_lt HR h41
            have HR := hr_lt HR h47
            have HR := hr_lt HR h49
            have HR := hr_lt HR h51
            refine R_drawF 14 (by kernel_rfl) (fun F54 U55 hL56 => F_val (.int .i64 h2_) (fun _ => by kernel_rfl) (F_val (.int .i64 y) (fun _ => by kernel_rfl) (F_int (IntKind.i64.wrap (2 * y)) .i64 (fun _ => by kernel_rfl) (fun x57 h58 => F_int (IntKind.i64.wrap (h2_ - x57)) .i64 (fun _ => by kernel_rfl) (fun x59 h60 => F_call (fof x59) (fun r : Int => .int .i64 r) hM53 hL56 (fun w' hM' => c_fix_Of x59 (wr_i64 h60) w') (by kernel_rfl) (fun _ => by kernel_rfl) (fun r61 h62 => F_val (.pointer (some ⟨g4, 1, none⟩)) (fun _ => by kernel_rfl) (F_load 2 1 (.int .u32 draw.2) hM53 (by kernel_rfl) (F_call (s_stream_Unit draw.2) (fun r : Int => .int .i64 r) hM53 hL56 (fun w' hM' => w_stream_Unit draw.2 h_draw.2 w') (by kernel_rfl) (fun _ => by kernel_rfl) (fun r63 h64 => F_int (IntKind.i64.wrap (2 * r63)) .i64 (fun _ => by kernel_rfl) (fun x65 h66 => F_call (satSub r61 x65) (fun r : Int => .int .i64 r) hM53 hL56 (fun w' hM' => c_fix_Sub r61 x65 ((tr (P := fun r : Int => InI r) h62 (fof_I x59)).out) (wr_i64 h66) w') (by kernel_rfl) (fun _ => by kernel_rfl) (fun r67 h68 => F_val (.int .i64 h2_) (fun _ => by kernel_rfl) (?_))))))))))))
            have HR := hr_lt HR h58
            have HR := hr_lt HR h60
            have HR := hr_lt HR h62
            have HR := hr_lt HR h64
            have HR := hr_lt HR h66
            have HR := hr_lt HR h68
            refine F_call (fof h2_) (fun r : Int => .int .i64 r) hM53 hL56 (fun w' hM' => c_fix_Of h2_ h_h2_ w') (by kernel_rfl) (fun _ => by kernel_rfl) (fun r69 h70 => F_call (fdiv r67 r69) (fun r : Int => .int .i64 r) hM53 hL56 (fun w' hM' => c_fix_Div r67 r69 ((tr (P := fun r : Int => InI r) h68 (satSub_I r61 x65)).out) ((tr (P := fun r : Int => InI r) h70 (fof_I h2_)).out) w') (by kernel_rfl) (fun _ => by kernel_rfl) (fun r71 h72 => F_val (.int .i64 r71) (fun _ => by kernel_rfl) (F_nil hM53 hL56 (fun w73 hM74 => S_nil (R_seq (R_drawF 15 (by kernel_rfl) (fun F75 U76 hL77 => F_val (.pointer (some ⟨g1, 9, none⟩)) (fun _ => by kernel_rfl) (F_load 3 9 (.agg #[.int .i64 c.2.2.2.1.1, .int .i64 c.2.2.2.1.2.1, .int .i64 c.2.2.2.1.2.2]) hM74 (by kernel_rfl) (F_call (vof c.2.2.2.1) (fun r : Int × Int × Int => .agg #[.int .i64 r.1, .int .i64 r.2.1, .int .i64 r.2.2]) hM74 hL77 (fun w' hM' => c_vec_Of c.2.2.2.1 h_c.2.2.2.1 w') (by kernel_rfl) (fun _ => by kernel_rfl) (fun r78 h79 => F_val (.pointer (some ⟨g1, 3, none⟩)) (fun _ => by kernel_rfl) (F_load 3 3 (.agg #[.int .i64 c.2.1.1, .int .i64 c.2.1.2.1, .int .i64 c.2.1.2.2]) hM74 (by kernel_rfl) (?_))))))))))))
            have HR := hr_lt HR h70
            have HR := hr_lt HR h72
            have HR := hr_lt HR h79
            refine F_call (vof c.2.1) (fun r : Int × Int × Int => .agg #[.int .i64 r.1, .int .i64 r.2.1, .int .i64 r.2.2]) hM74 hL77 (fun w' hM' => c_vec_Of c.2.1 h_c.2.1 w') (by kernel_rfl) (fun _ => by kernel_rfl) (fun r80 h81 => F_val (.int .i64 r50) (fun _ => by kernel_rfl) (F_call (vscale r80 r50) (fun r : Int × Int × Int => .agg #[.int .i64 r.1, .int .i64 r.2.1, .int .i64 r.2.2]) hM74 hL77 (fun w' hM' => c_vec_Scale r80 r50 ((tr (P := fun r : Int × Int × Int => InV r) h81 (vof_I c.2.1)).out) ((tr (P := fun r : Int => InI r) h51 (fdiv_I r46 r48)).out) w') (by kernel_rfl) (fun _ => by kernel_rfl) (fun r82 h83 => F_val (.pointer (some ⟨g1, 6, none⟩)) (fun _ => by kernel_rfl) (F_load 3 6 (.agg #[.int .i64 c.2.2.1.1, .int .i64 c.2.2.1.2.1, .int .i64 c.2.2.1.2.2]) hM74 (by kernel_rfl) (F_call (vof c.2.2.1) (fun r : Int × Int × Int => .agg #[.int .i64 r.1, .int .i64 r.2.1, .int .i64 r.2.2]) hM74 hL77 (fun w' hM' => c_vec_Of c.2.2.1 h_c.2.2.1 w') (by kernel_rfl) (fun _ => by kernel_rfl) (fun r84 h85 => F_val (.int .i64 r71) (fun _ => by kernel_rfl) (F_call (vscale r84 r71) (fun r : Int × Int × Int => .agg #[.int .i64 r.1, .int .i64 r.2.1, .int .i64 r.2.2]) hM74 hL77 (fun w' hM' => c_vec_Scale r84 r71 ((tr (P := fun r : Int × Int × Int => InV r) h85 (vof_I c.2.2.1)).out) ((tr (P := fun r : Int => InI r) h72 (fdiv_I r67 r69)).out) w') (by kernel_rfl) (fun _ => by kernel_rfl) (fun r86 h87 => F_fresh (some 3) #[.int .i64 r78.1, .int .i64 r78.2.1, .int .i64 r78.2.2, .int .i64 r82.1, .int .i64 r82.2.1, .int .i64 r82.2.2, .int .i64 r86.1, .int .i64 r86.2.1, .int .i64 r86.2.2] 29 hL77 (by kernel_rfl) (fun _ => by kernel_rfl) (fun g88 F89 U90 hL91 => F_call (sumT [r78, r82, r86]) (fun r : Int × Int × Int => .agg #[.int .i64 r.1, .int .i64 r.2.1, .int .i64 r.2.2]) hM74 hL91 (fun w' hM' => c_vecAdd [r78, r82, r86] ⟨(tr (P := fun r : Int × Int × Int => InV r) h79 (vof_I c.2.2.2.1)).out, (tr (P := fun r : Int × Int × Int => InV r) h83 (vscale_I r80 r50)).out, (tr (P := fun r : Int × Int × Int => InV r) h87 (vscale_I r84 r71)).out, trivial⟩ (by kernel_rfl) hM' 0 3 3 rfl (by kernel_rfl) (by kernel_rfl)) (by kernel_rfl) (fun _ => by kernel_rfl) (fun r92 h93 => F_nil hM74 hL91 (fun w94 hM95 => S_store 2 0 #[.int .i64 r92.1, .int .i64 r92.2.1, .int .i64 r92.2.2] hM95 (by kernel_rfl) (fun w96 hM97 => ?_))))))))))))
            have HR := hr_lt HR h81
            have HR := hr_lt HR h83
            have HR := hr_lt HR h85
            have HR := hr_lt HR h87
            have HR := hr_lt HR h93
            refine S_val (.int .i64 0) (by kernel_rfl) (S_nil (?_))
            refine R_ret hM97 rfl (.cons (.cell _ _ 2 0 (.agg #[.int .i64 r92.1, .int .i64 r92.2.1, .int .i64 r92.2.2]) (by kernel_rfl)) (.cons (.tmp _ (.int .i64 0) (by kernel_rfl)) .nil)) rfl ?_
            exact ⟨congrArg Ending.returned HR, hM97.below⟩

def P_lens_Toward (r : (Int × Int × Int) × Int) : Prop := (InV r.1 ∧ InI r.2)
theorem i_lens_Toward (c : (Int × Int × Int) × (Int × Int × Int) × (Int × Int × Int) × (Int × Int × Int) × Int × Int) (w1_ : Int) (h2_ : Int) (x : Int) (y : Int) (draw : Int × Int) (h_c : (InV c.1 ∧ InV c.2.1 ∧ InV c.2.2.1 ∧ InV c.2.2.2.1 ∧ InI c.2.2.2.2.1 ∧ InI c.2.2.2.2.2)) (h_w1_ : InI w1_) (h_h2_ : InI h2_) (h_x : InI x) (h_y : InI y) (h_draw : (InU32 draw.1 ∧ InU32 draw.2)) : P_lens_Toward (s_lens_Toward c w1_ h2_ x y draw) := by
  unfold s_lens_Toward
  exact (lt_P fun r10 h11 => (ite_P (fun c14 => (ite_P (fun c17 => (show (InV (0, 0, 0) ∧ InI 2) from ⟨⟨(show InI 0 from by unfold InI; omega), (show InI 0 from by unfold InI; omega), (show InI 0 from by unfold InI; omega)⟩, (show InI 2 from by unfold InI; omega)⟩)) (fun c17 => (ite_P (fun c20 => (show (InV (0, 0, 0) ∧ InI 2) from ⟨⟨(show InI 0 from by unfold InI; omega), (show InI 0 from by unfold InI; omega), (show InI 0 from by unfold InI; omega)⟩, (show InI 2 from by unfold InI; omega)⟩)) (fun c20 => (ite_P (fun c23 => (show (InV (0, 0, 0) ∧ InI 2) from ⟨⟨(show InI 0 from by unfold InI; omega), (show InI 0 from by unfold InI; omega), (show InI 0 from by unfold InI; omega)⟩, (show InI 2 from by unfold InI; omega)⟩)) (fun c23 => (ite_P (fun c26 => (show (InV (0, 0, 0) ∧ InI 2) from ⟨⟨(show InI 0 from by unfold InI; omega), (show InI 0 from by unfold InI; omega), (show InI 0 from by unfold InI; omega)⟩, (show InI 2 from by unfold InI; omega)⟩)) (fun c26 => (lt_P fun x32 h33 => (lt_P fun x34 h35 => (lt_P fun r36 h37 => (lt_P fun r38 h39 => (lt_P fun x40 h41 => (lt_P fun r46 h47 => (lt_P fun r48 h49 => (lt_P fun r50 h51 => (lt_P fun x57 h58 => (lt_P fun x59 h60 => (lt_P fun r61 h62 => (lt_P fun r63 h64 => (lt_P fun x65 h66 => (lt_P fun r67 h68 => (lt_P fun r69 h70 => (lt_P fun r71 h72 => (lt_P fun r78 h79 => (lt_P fun r80 h81 => (lt_P fun r82 h83 => (lt_P fun r84 h85 => (lt_P fun r86 h87 => (lt_P fun r92 h93 => (show (InV r92 ∧ InI 0) from ⟨(tr (P := fun r : Int × Int × Int => InV r) h93 (sumT_I [r78, r82, r86])).out, (show InI 0 from by unfold InI; omega)⟩)))))))))))))))))))))))))))))))) (fun c14 => (show (InV (0, 0, 0) ∧ InI r10) from ⟨⟨(show InI 0 from by unfold InI; omega), (show InI 0 from by unfold InI; omega), (show InI 0 from by unfold InI; omega)⟩, (tr (P := fun r : Int => InI r) h11 (i_lens_Check c w1_ h2_ h_c h_w1_ h_h2_)).out⟩))))

def e_lens_shift_1 (r : Int) : Value := .int .i64 r
def s_lens_shift_1 (c : (Int × Int × Int) × (Int × Int × Int) × (Int × Int × Int) × (Int × Int × Int) × Int × Int) (draw : Int) : Int :=
  lt (IntKind.i64.wrap (2 * c.2.2.2.2.1)) fun x4 =>
  lt (IntKind.i64.wrap (x4 + 1)) fun x6 =>
  lt (s_stream_Below draw x6) fun r8 =>
  lt (IntKind.i64.wrap (r8 - c.2.2.2.2.1)) fun x10 =>
  lt (fof x10) fun r12 =>
  lt (fof 16384) fun r14 =>
  lt (fdiv r12 r14) fun r16 =>
  r16
set_option maxRecDepth 100000 in
set_option maxHeartbeats 4000000 in
theorem w_lens_shift_1 (c : (Int × Int × Int) × (Int × Int × Int) × (Int × Int × Int) × (Int × Int × Int) × Int × Int) (draw : Int) (h_c : (InV c.1 ∧ InV c.2.1 ∧ InV c.2.2.1 ∧ InV c.2.2.2.1 ∧ InI c.2.2.2.2.1 ∧ InI c.2.2.2.2.2)) (h_draw : InU32 draw) (B0 : Nat) (T0 : TypeId) (fr0 : Nat × Nat) (w : World) (hB0 : Has B0 (.cells #[.int .i64 c.1.1, .int .i64 c.1.2.1, .int .i64 c.1.2.2, .int .i64 c.2.1.1, .int .i64 c.2.1.2.1, .int .i64 c.2.1.2.2, .int .i64 c.2.2.1.1, .int .i64 c.2.2.1.2.1, .int .i64 c.2.2.1.2.2, .int .i64 c.2.2.2.1.1, .int .i64 c.2.2.2.1.2.1, .int .i64 c.2.2.2.1.2.2, .int .i64 c.2.2.2.2.1, .int .i64 c.2.2.2.2.2] T0 fr0) w) : Calls Try.prog 98 #[.int .u32 draw, .pointer (some ⟨B0, 0, none⟩)] w (Ret (e_lens_shift_1 (s_lens_shift_1 c draw)) w) := by
  obtain ⟨R, HR⟩ : ∃ R, e_lens_shift_1 (s_lens_shift_1 c draw) = R := ⟨_, rfl⟩
  rw [HR]
  unfold s_lens_shift_1 at HR
  have hM0 := St.start1 hB0
  refine calls_run Try.func98 rfl ?_
  refine R_seq (R_region (S_val (.int .i64 0) (by kernel_rfl) (S_nil (R_seq (R_drawF 13 (by kernel_rfl) (fun F1 U2 hL3 => F_val (.int .u32 draw) (fun _ => by kernel_rfl) (F_val (.pointer (some ⟨B0, 12, none⟩)) (fun _ => by kernel_rfl) (F_load 0 12 (.int .i64 c.2.2.2.2.1) hM0 (by kernel_rfl) (F_int (IntKind.i64.wrap (2 * c.2.2.2.2.1)) .i64 (fun _ => by kernel_rfl) (fun x4 h5 => F_int (IntKind.i64.wrap (x4 + 1)) .i64 (fun _ => by kernel_rfl) (fun x6 h7 => F_call (s_stream_Below draw x6) (fun r : Int => .int .i64 r) hM0 hL3 (fun w' hM' => w_stream_Below draw x6 h_draw (wr_i64 h7) w') (by kernel_rfl) (fun _ => by kernel_rfl) (fun r8 h9 => ?_))))))))))))
  have HR := hr_lt HR h5
  have HR := hr_lt HR h7
  have HR := hr_lt HR h9
  refine F_val (.pointer (some ⟨B0, 12, none⟩)) (fun _ => by kernel_rfl) (F_load 0 12 (.int .i64 c.2.2.2.2.1) hM0 (by kernel_rfl) (F_int (IntKind.i64.wrap (r8 - c.2.2.2.2.1)) .i64 (fun _ => by kernel_rfl) (fun x10 h11 => F_call (fof x10) (fun r : Int => .int .i64 r) hM0 hL3 (fun w' hM' => c_fix_Of x10 (wr_i64 h11) w') (by kernel_rfl) (fun _ => by kernel_rfl) (fun r12 h13 => F_call (fof 16384) (fun r : Int => .int .i64 r) hM0 hL3 (fun w' hM' => c_fix_Of 16384 (show InI 16384 from by unfold InI; omega) w') (by kernel_rfl) (fun _ => by kernel_rfl) (fun r14 h15 => F_call (fdiv r12 r14) (fun r : Int => .int .i64 r) hM0 hL3 (fun w' hM' => c_fix_Div r12 r14 ((tr (P := fun r : Int => InI r) h13 (fof_I x10)).out) ((tr (P := fun r : Int => InI r) h15 (fof_I 16384)).out) w') (by kernel_rfl) (fun _ => by kernel_rfl) (fun r16 h17 => F_val (.int .i64 r16) (fun _ => by kernel_rfl) (F_nil hM0 hL3 (fun w18 hM19 => S_nil (?_)))))))))
  have HR := hr_lt HR h11
  have HR := hr_lt HR h13
  have HR := hr_lt HR h15
  have HR := hr_lt HR h17
  refine R_ret hM19 rfl (.cons (.tmp _ (.int .i64 r16) (by kernel_rfl)) .nil) rfl ?_
  exact ⟨congrArg Ending.returned HR, hM19.below⟩

def P_lens_shift_1 (r : Int) : Prop := InI r
theorem i_lens_shift_1 (c : (Int × Int × Int) × (Int × Int × Int) × (Int × Int × Int) × (Int × Int × Int) × Int × Int) (draw : Int) (h_c : (InV c.1 ∧ InV c.2.1 ∧ InV c.2.2.1 ∧ InV c.2.2.2.1 ∧ InI c.2.2.2.2.1 ∧ InI c.2.2.2.2.2)) (h_draw : InU32 draw) : P_lens_shift_1 (s_lens_shift_1 c draw) := by
  unfold s_lens_shift_1
  exact (lt_P fun x4 h5 => (lt_P fun x6 h7 => (lt_P fun r8 h9 => (lt_P fun x10 h11 => (lt_P fun r12 h13 => (lt_P fun r14 h15 => (lt_P fun r16 h17 => (show InI r16 from (tr (P := fun r : Int => InI r) h17 (fdiv_I r12 r14)).out))))))))

def e_lens_shift (r : Int × Int × Int) : Value := .agg #[.int .i64 r.1, .int .i64 r.2.1, .int .i64 r.2.2]
def s_lens_shift (c : (Int × Int × Int) × (Int × Int × Int) × (Int × Int × Int) × (Int × Int × Int) × Int × Int) (draw : Int × Int × Int × Int) : Int × Int × Int :=
  lt (vof c.2.1) fun r13 =>
  lt (s_lens_shift_1 c draw.2.2.1) fun r15 =>
  lt (vscale r13 r15) fun r17 =>
  lt (vof c.2.2.1) fun r19 =>
  lt (s_lens_shift_1 c draw.2.2.2) fun r21 =>
  lt (vscale r19 r21) fun r23 =>
  lt (sumT [r17, r23]) fun r29 =>
  lt (fround r29.1) fun r42 =>
  lt (fround r29.2.1) fun r44 =>
  lt (fround r29.2.2) fun r46 =>
  (r42, r44, r46)
set_option maxRecDepth 100000 in
set_option maxHeartbeats 4000000 in
theorem w_lens_shift (c : (Int × Int × Int) × (Int × Int × Int) × (Int × Int × Int) × (Int × Int × Int) × Int × Int) (draw : Int × Int × Int × Int) (h_c : (InV c.1 ∧ InV c.2.1 ∧ InV c.2.2.1 ∧ InV c.2.2.2.1 ∧ InI c.2.2.2.2.1 ∧ InI c.2.2.2.2.2)) (h_draw : (InU32 draw.1 ∧ InU32 draw.2.1 ∧ InU32 draw.2.2.1 ∧ InU32 draw.2.2.2)) (w : World) : Calls Try.prog 71 #[.agg #[.int .i64 c.1.1, .int .i64 c.1.2.1, .int .i64 c.1.2.2, .int .i64 c.2.1.1, .int .i64 c.2.1.2.1, .int .i64 c.2.1.2.2, .int .i64 c.2.2.1.1, .int .i64 c.2.2.1.2.1, .int .i64 c.2.2.1.2.2, .int .i64 c.2.2.2.1.1, .int .i64 c.2.2.2.1.2.1, .int .i64 c.2.2.2.1.2.2, .int .i64 c.2.2.2.2.1, .int .i64 c.2.2.2.2.2], .agg #[.int .u32 draw.1, .int .u32 draw.2.1, .int .u32 draw.2.2.1, .int .u32 draw.2.2.2]] w (Ret (e_lens_shift (s_lens_shift c draw)) w) := by
  obtain ⟨R, HR⟩ : ∃ R, e_lens_shift (s_lens_shift c draw) = R := ⟨_, rfl⟩
  rw [HR]
  unfold s_lens_shift at HR
  have hM0 := St.start w
  refine calls_run Try.func71 rfl ?_
  refine R_seq (R_region (S_fresh none #[.int .i64 c.1.1, .int .i64 c.1.2.1, .int .i64 c.1.2.2, .int .i64 c.2.1.1, .int .i64 c.2.1.2.1, .int .i64 c.2.1.2.2, .int .i64 c.2.2.1.1, .int .i64 c.2.2.1.2.1, .int .i64 c.2.2.1.2.2, .int .i64 c.2.2.2.1.1, .int .i64 c.2.2.2.1.2.1, .int .i64 c.2.2.2.1.2.2, .int .i64 c.2.2.2.2.1, .int .i64 c.2.2.2.2.2] 71 hM0 (by kernel_rfl) (fun g1 w2 hM3 => S_fresh none #[.int .u32 draw.1, .int .u32 draw.2.1, .int .u32 draw.2.2.1, .int .u32 draw.2.2.2] 81 hM3 (by kernel_rfl) (fun g4 w5 hM6 => S_fresh none #[.int .i64 0, .int .i64 0, .int .i64 0] 69 hM6 (by kernel_rfl) (fun g7 w8 hM9 => S_nil (R_seq (R_region (S_val (.func (.func 98) #[] #[.pointer (some ⟨g1, 0, none⟩)]) (by kernel_rfl) (S_val (.func (.func 98) #[] #[.pointer (some ⟨g1, 0, none⟩)]) (by kernel_rfl) (S_nil (R_seq (?_))))))))))))
  refine R_drawF 19 (by kernel_rfl) (fun F10 U11 hL12 => F_val (.pointer (some ⟨g1, 3, none⟩)) (fun _ => by kernel_rfl) (F_load 2 3 (.agg #[.int .i64 c.2.1.1, .int .i64 c.2.1.2.1, .int .i64 c.2.1.2.2]) hM9 (by kernel_rfl) (F_call (vof c.2.1) (fun r : Int × Int × Int => .agg #[.int .i64 r.1, .int .i64 r.2.1, .int .i64 r.2.2]) hM9 hL12 (fun w' hM' => c_vec_Of c.2.1 h_c.2.1 w') (by kernel_rfl) (fun _ => by kernel_rfl) (fun r13 h14 => F_val (.func (.func 98) #[] #[.pointer (some ⟨g1, 0, none⟩)]) (fun _ => by kernel_rfl) (F_val (.pointer (some ⟨g4, 2, none⟩)) (fun _ => by kernel_rfl) (F_load 1 2 (.int .u32 draw.2.2.1) hM9 (by kernel_rfl) (F_call (s_lens_shift_1 c draw.2.2.1) (fun r : Int => .int .i64 r) hM9 hL12 (fun w' hM' => w_lens_shift_1 c draw.2.2.1 h_c h_draw.2.2.1 g1 _ _ w' (hM'.at 2 rfl)) (by kernel_rfl) (fun _ => by kernel_rfl) (fun r15 h16 => F_call (vscale r13 r15) (fun r : Int × Int × Int => .agg #[.int .i64 r.1, .int .i64 r.2.1, .int .i64 r.2.2]) hM9 hL12 (fun w' hM' => c_vec_Scale r13 r15 ((tr (P := fun r : Int × Int × Int => InV r) h14 (vof_I c.2.1)).out) ((tr (P := fun r : Int => InI r) h16 (i_lens_shift_1 c draw.2.2.1 h_c h_draw.2.2.1)).out) w') (by kernel_rfl) (fun _ => by kernel_rfl) (fun r17 h18 => F_val (.pointer (some ⟨g1, 6, none⟩)) (fun _ => by kernel_rfl) (F_load 2 6 (.agg #[.int .i64 c.2.2.1.1, .int .i64 c.2.2.1.2.1, .int .i64 c.2.2.1.2.2]) hM9 (by kernel_rfl) (F_call (vof c.2.2.1) (fun r : Int × Int × Int => .agg #[.int .i64 r.1, .int .i64 r.2.1, .int .i64 r.2.2]) hM9 hL12 (fun w' hM' => c_vec_Of c.2.2.1 h_c.2.2.1 w') (by kernel_rfl) (fun _ => by kernel_rfl) (fun r19 h20 => ?_))))))))))))
  have HR := hr_lt HR h14
  have HR := hr_lt HR h16
  have HR := hr_lt HR h18
  have HR := hr_lt HR h20
  refine F_val (.func (.func 98) #[] #[.pointer (some ⟨g1, 0, none⟩)]) (fun _ => by kernel_rfl) (F_val (.pointer (some ⟨g4, 3, none⟩)) (fun _ => by kernel_rfl) (F_load 1 3 (.int .u32 draw.2.2.2) hM9 (by kernel_rfl) (F_call (s_lens_shift_1 c draw.2.2.2) (fun r : Int => .int .i64 r) hM9 hL12 (fun w' hM' => w_lens_shift_1 c draw.2.2.2 h_c h_draw.2.2.2 g1 _ _ w' (hM'.at 2 rfl)) (by kernel_rfl) (fun _ => by kernel_rfl) (fun r21 h22 => F_call (vscale r19 r21) (fun r : Int × Int × Int => .agg #[.int .i64 r.1, .int .i64 r.2.1, .int .i64 r.2.2]) hM9 hL12 (fun w' hM' => c_vec_Scale r19 r21 ((tr (P := fun r : Int × Int × Int => InV r) h20 (vof_I c.2.2.1)).out) ((tr (P := fun r : Int => InI r) h22 (i_lens_shift_1 c draw.2.2.2 h_c h_draw.2.2.2)).out) w') (by kernel_rfl) (fun _ => by kernel_rfl) (fun r23 h24 => F_fresh (some 2) #[.int .i64 r17.1, .int .i64 r17.2.1, .int .i64 r17.2.2, .int .i64 r23.1, .int .i64 r23.2.1, .int .i64 r23.2.2] 29 hL12 (by kernel_rfl) (fun _ => by kernel_rfl) (fun g25 F26 U27 hL28 => F_call (sumT [r17, r23]) (fun r : Int × Int × Int => .agg #[.int .i64 r.1, .int .i64 r.2.1, .int .i64 r.2.2]) hM9 hL28 (fun w' hM' => c_vecAdd [r17, r23] ⟨(tr (P := fun r : Int × Int × Int => InV r) h18 (vscale_I r13 r15)).out, (tr (P := fun r : Int × Int × Int => InV r) h24 (vscale_I r19 r21)).out, trivial⟩ (by kernel_rfl) hM' 0 2 2 rfl (by kernel_rfl) (by kernel_rfl)) (by kernel_rfl) (fun _ => by kernel_rfl) (fun r29 h30 => F_fresh none #[.int .i64 0, .int .i64 0, .int .i64 0] 29 hL28 (by kernel_rfl) (fun _ => by kernel_rfl) (fun g31 F32 U33 hL34 => F_nil hM9 hL34 (fun w35 hM36 => S_store 0 0 #[.int .i64 r29.1, .int .i64 r29.2.1, .int .i64 r29.2.2] hM36 (by kernel_rfl) (fun w37 hM38 => S_nil (R_seq (?_))))))))))))
  have HR := hr_lt HR h22
  have HR := hr_lt HR h24
  have HR := hr_lt HR h30
  refine R_drawF 10 (by kernel_rfl) (fun F39 U40 hL41 => F_val (.pointer (some ⟨g31, 0, none⟩)) (fun _ => by kernel_rfl) (F_load 0 0 (.int .i64 r29.1) hM38 (by kernel_rfl) (F_call (fround r29.1) (fun r : Int => .int .i64 r) hM38 hL41 (fun w' hM' => c_fix_Round r29.1 ((tr (P := fun r : Int × Int × Int => InV r) h30 (sumT_I [r17, r23])).out.1) w') (by kernel_rfl) (fun _ => by kernel_rfl) (fun r42 h43 => F_val (.pointer (some ⟨g31, 1, none⟩)) (fun _ => by kernel_rfl) (F_load 0 1 (.int .i64 r29.2.1) hM38 (by kernel_rfl) (F_call (fround r29.2.1) (fun r : Int => .int .i64 r) hM38 hL41 (fun w' hM' => c_fix_Round r29.2.1 ((tr (P := fun r : Int × Int × Int => InV r) h30 (sumT_I [r17, r23])).out.2.1) w') (by kernel_rfl) (fun _ => by kernel_rfl) (fun r44 h45 => F_val (.pointer (some ⟨g31, 2, none⟩)) (fun _ => by kernel_rfl) (F_load 0 2 (.int .i64 r29.2.2) hM38 (by kernel_rfl) (F_call (fround r29.2.2) (fun r : Int => .int .i64 r) hM38 hL41 (fun w' hM' => c_fix_Round r29.2.2 ((tr (P := fun r : Int × Int × Int => InV r) h30 (sumT_I [r17, r23])).out.2.2) w') (by kernel_rfl) (fun _ => by kernel_rfl) (fun r46 h47 => F_val (.agg #[.int .i64 r42, .int .i64 r44, .int .i64 r46]) (fun _ => by kernel_rfl) (F_nil hM38 hL41 (fun w48 hM49 => ?_))))))))))))
  have HR := hr_lt HR h43
  have HR := hr_lt HR h45
  have HR := hr_lt HR h47
  refine S_store 2 0 #[.int .i64 r42, .int .i64 r44, .int .i64 r46] hM49 (by kernel_rfl) (fun w50 hM51 => S_nil (?_))
  refine R_ret hM51 rfl (.cons (.cell _ _ 2 0 (.agg #[.int .i64 r42, .int .i64 r44, .int .i64 r46]) (by kernel_rfl)) .nil) rfl ?_
  exact ⟨congrArg Ending.returned HR, hM51.below⟩

def P_lens_shift (r : Int × Int × Int) : Prop := InV r
theorem i_lens_shift (c : (Int × Int × Int) × (Int × Int × Int) × (Int × Int × Int) × (Int × Int × Int) × Int × Int) (draw : Int × Int × Int × Int) (h_c : (InV c.1 ∧ InV c.2.1 ∧ InV c.2.2.1 ∧ InV c.2.2.2.1 ∧ InI c.2.2.2.2.1 ∧ InI c.2.2.2.2.2)) (h_draw : (InU32 draw.1 ∧ InU32 draw.2.1 ∧ InU32 draw.2.2.1 ∧ InU32 draw.2.2.2)) : P_lens_shift (s_lens_shift c draw) := by
  unfold s_lens_shift
  exact (lt_P fun r13 h14 => (lt_P fun r15 h16 => (lt_P fun r17 h18 => (lt_P fun r19 h20 => (lt_P fun r21 h22 => (lt_P fun r23 h24 => (lt_P fun r29 h30 => (lt_P fun r42 h43 => (lt_P fun r44 h45 => (lt_P fun r46 h47 => (show InV (r42, r44, r46) from ⟨(tr (P := fun r : Int => InI r) h43 (fround_I ((tr (P := fun r : Int × Int × Int => InV r) h30 (sumT_I [r17, r23])).out.1))).out, (tr (P := fun r : Int => InI r) h45 (fround_I ((tr (P := fun r : Int × Int × Int => InV r) h30 (sumT_I [r17, r23])).out.2.1))).out, (tr (P := fun r : Int => InI r) h47 (fround_I ((tr (P := fun r : Int × Int × Int => InV r) h30 (sumT_I [r17, r23])).out.2.2))).out⟩)))))))))))

def e_lens_Ray (r : (Int × Int × Int) × (Int × Int × Int) × Int) : Value := .tuple #[.agg #[.int .i64 r.1.1, .int .i64 r.1.2.1, .int .i64 r.1.2.2], .agg #[.int .i64 r.2.1.1, .int .i64 r.2.1.2.1, .int .i64 r.2.1.2.2], .int .i64 r.2.2]
def s_lens_Ray (c : (Int × Int × Int) × (Int × Int × Int) × (Int × Int × Int) × (Int × Int × Int) × Int × Int) (w1_ : Int) (h2_ : Int) (x : Int) (y : Int) (draw : Int × Int × Int × Int) : (Int × Int × Int) × (Int × Int × Int) × Int :=
  lt (s_lens_Toward c w1_ h2_ x y (draw.1, draw.2.1)) fun r13 =>
  if r13.2 = 0 then
    if c.2.2.2.2.1 > 0 then
      lt (s_lens_shift c draw) fun r32 =>
      lt (IntKind.i64.wrap (c.1.1 + r32.1)) fun x41 =>
      lt (IntKind.i64.wrap (c.1.2.1 + r32.2.1)) fun x43 =>
      lt (IntKind.i64.wrap (c.1.2.2 + r32.2.2)) fun x45 =>
      lt (fof c.2.2.2.2.2) fun r52 =>
      lt (fof 16384) fun r54 =>
      lt (fdiv r52 r54) fun r56 =>
      lt (vscale r13.1 r56) fun r58 =>
      lt (vof r32) fun r60 =>
      lt (vsub r58 r60) fun r62 =>
      lt (s_octa_Quant r62) fun r68 =>
      if r68.2 = 0 then
        ((x41, x43, x45), r68.1, 0)
      else
        ((0, 0, 0), (0, 0, 0), r68.2)
    else
      lt (s_octa_Quant r13.1) fun r85 =>
      if r85.2 = 0 then
        (c.1, r85.1, 0)
      else
        ((0, 0, 0), (0, 0, 0), r85.2)
  else
    ((0, 0, 0), (0, 0, 0), r13.2)
set_option maxRecDepth 100000 in
set_option maxHeartbeats 4000000 in
theorem w_lens_Ray (c : (Int × Int × Int) × (Int × Int × Int) × (Int × Int × Int) × (Int × Int × Int) × Int × Int) (w1_ : Int) (h2_ : Int) (x : Int) (y : Int) (draw : Int × Int × Int × Int) (h_c : (InV c.1 ∧ InV c.2.1 ∧ InV c.2.2.1 ∧ InV c.2.2.2.1 ∧ InI c.2.2.2.2.1 ∧ InI c.2.2.2.2.2)) (h_w1_ : InI w1_) (h_h2_ : InI h2_) (h_x : InI x) (h_y : InI y) (h_draw : (InU32 draw.1 ∧ InU32 draw.2.1 ∧ InU32 draw.2.2.1 ∧ InU32 draw.2.2.2)) (w : World) : Calls Try.prog 35 #[.agg #[.int .i64 c.1.1, .int .i64 c.1.2.1, .int .i64 c.1.2.2, .int .i64 c.2.1.1, .int .i64 c.2.1.2.1, .int .i64 c.2.1.2.2, .int .i64 c.2.2.1.1, .int .i64 c.2.2.1.2.1, .int .i64 c.2.2.1.2.2, .int .i64 c.2.2.2.1.1, .int .i64 c.2.2.2.1.2.1, .int .i64 c.2.2.2.1.2.2, .int .i64 c.2.2.2.2.1, .int .i64 c.2.2.2.2.2], .int .i64 w1_, .int .i64 h2_, .int .i64 x, .int .i64 y, .agg #[.int .u32 draw.1, .int .u32 draw.2.1, .int .u32 draw.2.2.1, .int .u32 draw.2.2.2]] w (Ret (e_lens_Ray (s_lens_Ray c w1_ h2_ x y draw)) w) := by
  obtain ⟨R, HR⟩ : ∃ R, e_lens_Ray (s_lens_Ray c w1_ h2_ x y draw) = R := ⟨_, rfl⟩
  rw [HR]
  unfold s_lens_Ray at HR
  have hM0 := St.start w
  refine calls_run Try.func35 rfl ?_
  refine R_seq (R_region (S_fresh none #[.int .i64 c.1.1, .int .i64 c.1.2.1, .int .i64 c.1.2.2, .int .i64 c.2.1.1, .int .i64 c.2.1.2.1, .int .i64 c.2.1.2.2, .int .i64 c.2.2.1.1, .int .i64 c.2.2.1.2.1, .int .i64 c.2.2.1.2.2, .int .i64 c.2.2.2.1.1, .int .i64 c.2.2.2.1.2.1, .int .i64 c.2.2.2.1.2.2, .int .i64 c.2.2.2.2.1, .int .i64 c.2.2.2.2.2] 71 hM0 (by kernel_rfl) (fun g1 w2 hM3 => S_fresh none #[.int .u32 draw.1, .int .u32 draw.2.1, .int .u32 draw.2.2.1, .int .u32 draw.2.2.2] 81 hM3 (by kernel_rfl) (fun g4 w5 hM6 => S_fresh none #[.int .i64 0, .int .i64 0, .int .i64 0] 69 hM6 (by kernel_rfl) (fun g7 w8 hM9 => S_fresh none #[.int .i64 0, .int .i64 0, .int .i64 0] 69 hM9 (by kernel_rfl) (fun g10 w11 hM12 => S_val (.int .i64 0) (by kernel_rfl) (S_nil (R_seq (R_region (S_load 3 0 (.agg #[.int .i64 c.1.1, .int .i64 c.1.2.1, .int .i64 c.1.2.2, .int .i64 c.2.1.1, .int .i64 c.2.1.2.1, .int .i64 c.2.1.2.2, .int .i64 c.2.2.1.1, .int .i64 c.2.2.1.2.1, .int .i64 c.2.2.1.2.2, .int .i64 c.2.2.2.1.1, .int .i64 c.2.2.2.1.2.1, .int .i64 c.2.2.2.1.2.2, .int .i64 c.2.2.2.2.1, .int .i64 c.2.2.2.2.2]) hM12 (by kernel_rfl) (S_val (.int .i64 w1_) (by kernel_rfl) (?_))))))))))))
  refine S_val (.int .i64 h2_) (by kernel_rfl) (S_val (.int .i64 x) (by kernel_rfl) (S_val (.int .i64 y) (by kernel_rfl) (S_val (.pointer (some ⟨g4, 0, none⟩)) (by kernel_rfl) (S_load 2 0 (.int .u32 draw.1) hM12 (by kernel_rfl) (S_val (.pointer (some ⟨g4, 1, none⟩)) (by kernel_rfl) (S_load 2 1 (.int .u32 draw.2.1) hM12 (by kernel_rfl) (S_val (.agg #[.int .u32 draw.1, .int .u32 draw.2.1]) (by kernel_rfl) (S_call (s_lens_Toward c w1_ h2_ x y (draw.1, draw.2.1)) (fun r : (Int × Int × Int) × Int => .tuple #[.agg #[.int .i64 r.1.1, .int .i64 r.1.2.1, .int .i64 r.1.2.2], .int .i64 r.2]) hM12 (w_lens_Toward c w1_ h2_ x y (draw.1, draw.2.1) h_c h_w1_ h_h2_ h_x h_y (⟨h_draw.1, h_draw.2.1⟩) w11) (by kernel_rfl) (fun r13 h14 w15 hM16 => S_val (.tuple #[.agg #[.int .i64 r13.1.1, .int .i64 r13.1.2.1, .int .i64 r13.1.2.2], .int .i64 r13.2]) (by kernel_rfl) (S_val (.agg #[.int .i64 r13.1.1, .int .i64 r13.1.2.1, .int .i64 r13.1.2.2]) (by kernel_rfl) (S_val (.int .i64 r13.2) (by kernel_rfl) (?_))))))))))))
  have HR := hr_lt HR h14
  refine S_fresh none #[.int .i64 0, .int .i64 0, .int .i64 0] 29 hM16 (by kernel_rfl) (fun g17 w18 hM19 => S_store 0 0 #[.int .i64 r13.1.1, .int .i64 r13.1.2.1, .int .i64 r13.1.2.2] hM19 (by kernel_rfl) (fun w20 hM21 => S_val (.int .i64 r13.2) (by kernel_rfl) (S_nil (R_seq (R_seq (R_region (S_val (.int .i64 r13.2) (by kernel_rfl) (?_))))))))
  refine S_decn (r13.2 = 0) (by kernel_rfl) (fun c22 => ?_) (fun c22 => ?_)
  · refine S_nil (R_yes (by kernel_rfl) (R_seq (R_drawE [[0, 1, 2, 3, 4, 5], [0, 1, 3, 2, 4, 5], [0, 1, 3, 4, 2, 5], [0, 2, 1, 3, 4, 5], [0, 2, 3, 1, 4, 5], [0, 3, 1, 2, 4, 5], [0, 3, 1, 4, 2, 5], [0, 3, 2, 1, 4, 5], [1, 0, 2, 3, 4, 5], [1, 0, 3, 2, 4, 5], [1, 0, 3, 4, 2, 5], [1, 2, 0, 3, 4, 5], [2, 0, 1, 3, 4, 5], [2, 0, 3, 1, 4, 5], [2, 1, 0, 3, 4, 5]] hM21 (by kernel_rfl) (fun w23 hM24 => ?_))))
    have HR := hr_neg HR c22
    refine ⟨?_, ?_, ?_, ?_, ?_, ?_, ?_, ?_, ?_, ?_, ?_, ?_, ?_, ?_, ?_, trivial⟩
    · refine S_load 2 0 (.agg #[.int .i64 0, .int .i64 0, .int .i64 0]) hM24 (by kernel_rfl) (S_load 1 0 (.agg #[.int .i64 0, .int .i64 0, .int .i64 0]) hM24 (by kernel_rfl) (S_val (.int .i64 r13.2) (by kernel_rfl) (S_store 2 0 #[.int .i64 0, .int .i64 0, .int .i64 0] hM24 (by kernel_rfl) (fun w25 hM26 => S_store 1 0 #[.int .i64 0, .int .i64 0, .int .i64 0] hM26 (by kernel_rfl) (fun w27 hM28 => S_val (.int .i64 r13.2) (by kernel_rfl) (S_nil (?_)))))))
      refine R_ret hM28 rfl (.cons (.cell _ _ 2 0 (.agg #[.int .i64 0, .int .i64 0, .int .i64 0]) (by kernel_rfl)) (.cons (.cell _ _ 1 0 (.agg #[.int .i64 0, .int .i64 0, .int .i64 0]) (by kernel_rfl)) (.cons (.tmp _ (.int .i64 r13.2) (by kernel_rfl)) .nil))) rfl ?_
      exact ⟨congrArg Ending.returned HR, hM28.below⟩
    · refine S_load 2 0 (.agg #[.int .i64 0, .int .i64 0, .int .i64 0]) hM24 (by kernel_rfl) (S_load 1 0 (.agg #[.int .i64 0, .int .i64 0, .int .i64 0]) hM24 (by kernel_rfl) (S_store 2 0 #[.int .i64 0, .int .i64 0, .int .i64 0] hM24 (by kernel_rfl) (fun w25 hM26 => S_val (.int .i64 r13.2) (by kernel_rfl) (S_store 1 0 #[.int .i64 0, .int .i64 0, .int .i64 0] hM26 (by kernel_rfl) (fun w27 hM28 => S_val (.int .i64 r13.2) (by kernel_rfl) (S_nil (?_)))))))
      refine R_ret hM28 rfl (.cons (.cell _ _ 2 0 (.agg #[.int .i64 0, .int .i64 0, .int .i64 0]) (by kernel_rfl)) (.cons (.cell _ _ 1 0 (.agg #[.int .i64 0, .int .i64 0, .int .i64 0]) (by kernel_rfl)) (.cons (.tmp _ (.int .i64 r13.2) (by kernel_rfl)) .nil))) rfl ?_
      exact ⟨congrArg Ending.returned HR, hM28.below⟩
    · refine S_load 2 0 (.agg #[.int .i64 0, .int .i64 0, .int .i64 0]) hM24 (by kernel_rfl) (S_load 1 0 (.agg #[.int .i64 0, .int .i64 0, .int .i64 0]) hM24 (by kernel_rfl) (S_store 2 0 #[.int .i64 0, .int .i64 0, .int .i64 0] hM24 (by kernel_rfl) (fun w25 hM26 => S_store 1 0 #[.int .i64 0, .int .i64 0, .int .i64 0] hM26 (by kernel_rfl) (fun w27 hM28 => S_val (.int .i64 r13.2) (by kernel_rfl) (S_val (.int .i64 r13.2) (by kernel_rfl) (S_nil (?_)))))))
      refine R_ret hM28 rfl (.cons (.cell _ _ 2 0 (.agg #[.int .i64 0, .int .i64 0, .int .i64 0]) (by kernel_rfl)) (.cons (.cell _ _ 1 0 (.agg #[.int .i64 0, .int .i64 0, .int .i64 0]) (by kernel_rfl)) (.cons (.tmp _ (.int .i64 r13.2) (by kernel_rfl)) .nil))) rfl ?_
      exact ⟨congrArg Ending.returned HR, hM28.below⟩
    · refine S_load 2 0 (.agg #[.int .i64 0, .int .i64 0, .int .i64 0]) hM24 (by kernel_rfl) (S_val (.int .i64 r13.2) (by kernel_rfl) (S_load 1 0 (.agg #[.int .i64 0, .int .i64 0, .int .i64 0]) hM24 (by kernel_rfl) (S_store 2 0 #[.int .i64 0, .int .i64 0, .int .i64 0] hM24 (by kernel_rfl) (fun w25 hM26 => S_store 1 0 #[.int .i64 0, .int .i64 0, .int .i64 0] hM26 (by kernel_rfl) (fun w27 hM28 => S_val (.int .i64 r13.2) (by kernel_rfl) (S_nil (?_)))))))
      refine R_ret hM28 rfl (.cons (.cell _ _ 2 0 (.agg #[.int .i64 0, .int .i64 0, .int .i64 0]) (by kernel_rfl)) (.cons (.cell _ _ 1 0 (.agg #[.int .i64 0, .int .i64 0, .int .i64 0]) (by kernel_rfl)) (.cons (.tmp _ (.int .i64 r13.2) (by kernel_rfl)) .nil))) rfl ?_
      exact ⟨congrArg Ending.returned HR, hM28.below⟩
    · refine S_load 2 0 (.agg #[.int .i64 0, .int .i64 0, .int .i64 0]) hM24 (by kernel_rfl) (S_val (.int .i64 r13.2) (by kernel_rfl) (S_store 2 0 #[.int .i64 0, .int .i64 0, .int .i64 0] hM24 (by kernel_rfl) (fun w25 hM26 => S_load 1 0 (.agg #[.int .i64 0, .int .i64 0, .int .i64 0]) hM26 (by kernel_rfl) (S_store 1 0 #[.int .i64 0, .int .i64 0, .int .i64 0] hM26 (by kernel_rfl) (fun w27 hM28 => S_val (.int .i64 r13.2) (by kernel_rfl) (S_nil (?_)))))))
      refine R_ret hM28 rfl (.cons (.cell _ _ 2 0 (.agg #[.int .i64 0, .int .i64 0, .int .i64 0]) (by kernel_rfl)) (.cons (.cell _ _ 1 0 (.agg #[.int .i64 0, .int .i64 0, .int .i64 0]) (by kernel_rfl)) (.cons (.tmp _ (.int .i64 r13.2) (by kernel_rfl)) .nil))) rfl ?_
      exact ⟨congrArg Ending.returned HR, hM28.below⟩
    · refine S_load 2 0 (.agg #[.int .i64 0, .int .i64 0, .int .i64 0]) hM24 (by kernel_rfl) (S_store 2 0 #[.int .i64 0, .int .i64 0, .int .i64 0] hM24 (by kernel_rfl) (fun w25 hM26 => S_load 1 0 (.agg #[.int .i64 0, .int .i64 0, .int .i64 0]) hM26 (by kernel_rfl) (S_val (.int .i64 r13.2) (by kernel_rfl) (S_store 1 0 #[.int .i64 0, .int .i64 0, .int .i64 0] hM26 (by kernel_rfl) (fun w27 hM28 => S_val (.int .i64 r13.2) (by kernel_rfl) (S_nil (?_)))))))
      refine R_ret hM28 rfl (.cons (.cell _ _ 2 0 (.agg #[.int .i64 0, .int .i64 0, .int .i64 0]) (by kernel_rfl)) (.cons (.cell _ _ 1 0 (.agg #[.int .i64 0, .int .i64 0, .int .i64 0]) (by kernel_rfl)) (.cons (.tmp _ (.int .i64 r13.2) (by kernel_rfl)) .nil))) rfl ?_
      exact ⟨congrArg Ending.returned HR, hM28.below⟩
    · refine S_load 2 0 (.agg #[.int .i64 0, .int .i64 0, .int .i64 0]) hM24 (by kernel_rfl) (S_store 2 0 #[.int .i64 0, .int .i64 0, .int .i64 0] hM24 (by kernel_rfl) (fun w25 hM26 => S_load 1 0 (.agg #[.int .i64 0, .int .i64 0, .int .i64 0]) hM26 (by kernel_rfl) (S_store 1 0 #[.int .i64 0, .int .i64 0, .int .i64 0] hM26 (by kernel_rfl) (fun w27 hM28 => S_val (.int .i64 r13.2) (by kernel_rfl) (S_val (.int .i64 r13.2) (by kernel_rfl) (S_nil (?_)))))))
      refine R_ret hM28 rfl (.cons (.cell _ _ 2 0 (.agg #[.int .i64 0, .int .i64 0, .int .i64 0]) (by kernel_rfl)) (.cons (.cell _ _ 1 0 (.agg #[.int .i64 0, .int .i64 0, .int .i64 0]) (by kernel_rfl)) (.cons (.tmp _ (.int .i64 r13.2) (by kernel_rfl)) .nil))) rfl ?_
      exact ⟨congrArg Ending.returned HR, hM28.below⟩
    · refine S_load 2 0 (.agg #[.int .i64 0, .int .i64 0, .int .i64 0]) hM24 (by kernel_rfl) (S_store 2 0 #[.int .i64 0, .int .i64 0, .int .i64 0] hM24 (by kernel_rfl) (fun w25 hM26 => S_val (.int .i64 r13.2) (by kernel_rfl) (S_load 1 0 (.agg #[.int .i64 0, .int .i64 0, .int .i64 0]) hM26 (by kernel_rfl) (S_store 1 0 #[.int .i64 0, .int .i64 0, .int .i64 0] hM26 (by kernel_rfl) (fun w27 hM28 => S_val (.int .i64 r13.2) (by kernel_rfl) (S_nil (?_)))))))
      refine R_ret hM28 rfl (.cons (.cell _ _ 2 0 (.agg #[.int .i64 0, .int .i64 0, .int .i64 0]) (by kernel_rfl)) (.cons (.cell _ _ 1 0 (.agg #[.int .i64 0, .int .i64 0, .int .i64 0]) (by kernel_rfl)) (.cons (.tmp _ (.int .i64 r13.2) (by kernel_rfl)) .nil))) rfl ?_
      exact ⟨congrArg Ending.returned HR, hM28.below⟩
    · refine S_load 1 0 (.agg #[.int .i64 0, .int .i64 0, .int .i64 0]) hM24 (by kernel_rfl) (S_load 2 0 (.agg #[.int .i64 0, .int .i64 0, .int .i64 0]) hM24 (by kernel_rfl) (S_val (.int .i64 r13.2) (by kernel_rfl) (S_store 2 0 #[.int .i64 0, .int .i64 0, .int .i64 0] hM24 (by kernel_rfl) (fun w25 hM26 => S_store 1 0 #[.int .i64 0, .int .i64 0, .int .i64 0] hM26 (by kernel_rfl) (fun w27 hM28 => S_val (.int .i64 r13.2) (by kernel_rfl) (S_nil (?_)))))))
      refine R_ret hM28 rfl (.cons (.cell _ _ 2 0 (.agg #[.int .i64 0, .int .i64 0, .int .i64 0]) (by kernel_rfl)) (.cons (.cell _ _ 1 0 (.agg #[.int .i64 0, .int .i64 0, .int .i64 0]) (by kernel_rfl)) (.cons (.tmp _ (.int .i64 r13.2) (by kernel_rfl)) .nil))) rfl ?_
      exact ⟨congrArg Ending.returned HR, hM28.below⟩
    · refine S_load 1 0 (.agg #[.int .i64 0, .int .i64 0, .int .i64 0]) hM24 (by kernel_rfl) (S_load 2 0 (.agg #[.int .i64 0, .int .i64 0, .int .i64 0]) hM24 (by kernel_rfl) (S_store 2 0 #[.int .i64 0, .int .i64 0, .int .i64 0] hM24 (by kernel_rfl) (fun w25 hM26 => S_val (.int .i64 r13.2) (by kernel_rfl) (S_store 1 0 #[.int .i64 0, .int .i64 0, .int .i64 0] hM26 (by kernel_rfl) (fun w27 hM28 => S_val (.int .i64 r13.2) (by kernel_rfl) (S_nil (?_)))))))
      refine R_ret hM28 rfl (.cons (.cell _ _ 2 0 (.agg #[.int .i64 0, .int .i64 0, .int .i64 0]) (by kernel_rfl)) (.cons (.cell _ _ 1 0 (.agg #[.int .i64 0, .int .i64 0, .int .i64 0]) (by kernel_rfl)) (.cons (.tmp _ (.int .i64 r13.2) (by kernel_rfl)) .nil))) rfl ?_
      exact ⟨congrArg Ending.returned HR, hM28.below⟩
    · refine S_load 1 0 (.agg #[.int .i64 0, .int .i64 0, .int .i64 0]) hM24 (by kernel_rfl) (S_load 2 0 (.agg #[.int .i64 0, .int .i64 0, .int .i64 0]) hM24 (by kernel_rfl) (S_store 2 0 #[.int .i64 0, .int .i64 0, .int .i64 0] hM24 (by kernel_rfl) (fun w25 hM26 => S_store 1 0 #[.int .i64 0, .int .i64 0, .int .i64 0] hM26 (by kernel_rfl) (fun w27 hM28 => S_val (.int .i64 r13.2) (by kernel_rfl) (S_val (.int .i64 r13.2) (by kernel_rfl) (S_nil (?_)))))))
      refine R_ret hM28 rfl (.cons (.cell _ _ 2 0 (.agg #[.int .i64 0, .int .i64 0, .int .i64 0]) (by kernel_rfl)) (.cons (.cell _ _ 1 0 (.agg #[.int .i64 0, .int .i64 0, .int .i64 0]) (by kernel_rfl)) (.cons (.tmp _ (.int .i64 r13.2) (by kernel_rfl)) .nil))) rfl ?_
      exact ⟨congrArg Ending.returned HR, hM28.below⟩
    · refine S_load 1 0 (.agg #[.int .i64 0, .int .i64 0, .int .i64 0]) hM24 (by kernel_rfl) (S_val (.int .i64 r13.2) (by kernel_rfl) (S_load 2 0 (.agg #[.int .i64 0, .int .i64 0, .int .i64 0]) hM24 (by kernel_rfl) (S_store 2 0 #[.int .i64 0, .int .i64 0, .int .i64 0] hM24 (by kernel_rfl) (fun w25 hM26 => S_store 1 0 #[.int .i64 0, .int .i64 0, .int .i64 0] hM26 (by kernel_rfl) (fun w27 hM28 => S_val (.int .i64 r13.2) (by kernel_rfl) (S_nil (?_)))))))
      refine R_ret hM28 rfl (.cons (.cell _ _ 2 0 (.agg #[.int .i64 0, .int .i64 0, .int .i64 0]) (by kernel_rfl)) (.cons (.cell _ _ 1 0 (.agg #[.int .i64 0, .int .i64 0, .int .i64 0]) (by kernel_rfl)) (.cons (.tmp _ (.int .i64 r13.2) (by kernel_rfl)) .nil))) rfl ?_
      exact ⟨congrArg Ending.returned HR, hM28.below⟩
    · refine S_val (.int .i64 r13.2) (by kernel_rfl) (S_load 2 0 (.agg #[.int .i64 0, .int .i64 0, .int .i64 0]) hM24 (by kernel_rfl) (S_load 1 0 (.agg #[.int .i64 0, .int .i64 0, .int .i64 0]) hM24 (by kernel_rfl) (S_store 2 0 #[.int .i64 0, .int .i64 0, .int .i64 0] hM24 (by kernel_rfl) (fun w25 hM26 => S_store 1 0 #[.int .i64 0, .int .i64 0, .int .i64 0] hM26 (by kernel_rfl) (fun w27 hM28 => S_val (.int .i64 r13.2) (by kernel_rfl) (S_nil (?_)))))))
      refine R_ret hM28 rfl (.cons (.cell _ _ 2 0 (.agg #[.int .i64 0, .int .i64 0, .int .i64 0]) (by kernel_rfl)) (.cons (.cell _ _ 1 0 (.agg #[.int .i64 0, .int .i64 0, .int .i64 0]) (by kernel_rfl)) (.cons (.tmp _ (.int .i64 r13.2) (by kernel_rfl)) .nil))) rfl ?_
      exact ⟨congrArg Ending.returned HR, hM28.below⟩
    · refine S_val (.int .i64 r13.2) (by kernel_rfl) (S_load 2 0 (.agg #[.int .i64 0, .int .i64 0, .int .i64 0]) hM24 (by kernel_rfl) (S_store 2 0 #[.int .i64 0, .int .i64 0, .int .i64 0] hM24 (by kernel_rfl) (fun w25 hM26 => S_load 1 0 (.agg #[.int .i64 0, .int .i64 0, .int .i64 0]) hM26 (by kernel_rfl) (S_store 1 0 #[.int .i64 0, .int .i64 0, .int .i64 0] hM26 (by kernel_rfl) (fun w27 hM28 => S_val (.int .i64 r13.2) (by kernel_rfl) (S_nil (?_)))))))
      refine R_ret hM28 rfl (.cons (.cell _ _ 2 0 (.agg #[.int .i64 0, .int .i64 0, .int .i64 0]) (by kernel_rfl)) (.cons (.cell _ _ 1 0 (.agg #[.int .i64 0, .int .i64 0, .int .i64 0]) (by kernel_rfl)) (.cons (.tmp _ (.int .i64 r13.2) (by kernel_rfl)) .nil))) rfl ?_
      exact ⟨congrArg Ending.returned HR, hM28.below⟩
    · refine S_val (.int .i64 r13.2) (by kernel_rfl) (S_load 1 0 (.agg #[.int .i64 0, .int .i64 0, .int .i64 0]) hM24 (by kernel_rfl) (S_load 2 0 (.agg #[.int .i64 0, .int .i64 0, .int .i64 0]) hM24 (by kernel_rfl) (S_store 2 0 #[.int .i64 0, .int .i64 0, .int .i64 0] hM24 (by kernel_rfl) (fun w25 hM26 => S_store 1 0 #[.int .i64 0, .int .i64 0, .int .i64 0] hM26 (by kernel_rfl) (fun w27 hM28 => S_val (.int .i64 r13.2) (by kernel_rfl) (S_nil (?_)))))))
      refine R_ret hM28 rfl (.cons (.cell _ _ 2 0 (.agg #[.int .i64 0, .int .i64 0, .int .i64 0]) (by kernel_rfl)) (.cons (.cell _ _ 1 0 (.agg #[.int .i64 0, .int .i64 0, .int .i64 0]) (by kernel_rfl)) (.cons (.tmp _ (.int .i64 r13.2) (by kernel_rfl)) .nil))) rfl ?_
      exact ⟨congrArg Ending.returned HR, hM28.below⟩
  · refine S_nil (R_no (by kernel_rfl) (R_skip (R_seq (R_region (S_val (.pointer (some ⟨g1, 0, none⟩)) (by kernel_rfl) (S_load 4 0 (.agg #[.int .i64 c.1.1, .int .i64 c.1.2.1, .int .i64 c.1.2.2]) hM21 (by kernel_rfl) (S_store 2 0 #[.int .i64 c.1.1, .int .i64 c.1.2.1, .int .i64 c.1.2.2] hM21 (by kernel_rfl) (fun w29 hM30 => S_nil (R_seq (R_seq (R_region (?_))))))))))))
    have HR := hr_pos HR c22
    refine S_val (.pointer (some ⟨g1, 12, none⟩)) (by kernel_rfl) (S_load 4 12 (.int .i64 c.2.2.2.2.1) hM30 (by kernel_rfl) (?_))
    refine S_dec (c.2.2.2.2.1 > 0) (by kernel_rfl) (fun c31 => ?_) (fun c31 => ?_)
    · refine S_nil (R_yes (by kernel_rfl) (R_seq (R_region (S_load 4 0 (.agg #[.int .i64 c.1.1, .int .i64 c.1.2.1, .int .i64 c.1.2.2, .int .i64 c.2.1.1, .int .i64 c.2.1.2.1, .int .i64 c.2.1.2.2, .int .i64 c.2.2.1.1, .int .i64 c.2.2.1.2.1, .int .i64 c.2.2.1.2.2, .int .i64 c.2.2.2.1.1, .int .i64 c.2.2.2.1.2.1, .int .i64 c.2.2.2.1.2.2, .int .i64 c.2.2.2.2.1, .int .i64 c.2.2.2.2.2]) hM30 (by kernel_rfl) (S_load 3 0 (.agg #[.int .u32 draw.1, .int .u32 draw.2.1, .int .u32 draw.2.2.1, .int .u32 draw.2.2.2]) hM30 (by kernel_rfl) (S_call (s_lens_shift c draw) (fun r : Int × Int × Int => .agg #[.int .i64 r.1, .int .i64 r.2.1, .int .i64 r.2.2]) hM30 (w_lens_shift c draw h_c h_draw w29) (by kernel_rfl) (fun r32 h33 w34 hM35 => S_fresh none #[.int .i64 0, .int .i64 0, .int .i64 0] 69 hM35 (by kernel_rfl) (fun g36 w37 hM38 => S_store 0 0 #[.int .i64 r32.1, .int .i64 r32.2.1, .int .i64 r32.2.2] hM38 (by kernel_rfl) (fun w39 hM40 => S_nil (R_seq (R_region (?_))))))))))))
      have HR := hr_pos HR c31
      have HR := hr_lt HR h33
      refine S_val (.pointer (some ⟨g7, 0, none⟩)) (by kernel_rfl) (S_load 3 0 (.int .i64 c.1.1) hM40 (by kernel_rfl) (S_val (.pointer (some ⟨g36, 0, none⟩)) (by kernel_rfl) (S_load 0 0 (.int .i64 r32.1) hM40 (by kernel_rfl) (S_int (IntKind.i64.wrap (c.1.1 + r32.1)) .i64 (by kernel_rfl) (fun x41 h42 => S_val (.pointer (some ⟨g7, 1, none⟩)) (by kernel_rfl) (S_load 3 1 (.int .i64 c.1.2.1) hM40 (by kernel_rfl) (S_val (.pointer (some ⟨g36, 1, none⟩)) (by kernel_rfl) (S_load 0 1 (.int .i64 r32.2.1) hM40 (by kernel_rfl) (S_int (IntKind.i64.wrap (c.1.2.1 + r32.2.1)) .i64 (by kernel_rfl) (fun x43 h44 => S_val (.pointer (some ⟨g7, 2, none⟩)) (by kernel_rfl) (S_load 3 2 (.int .i64 c.1.2.2) hM40 (by kernel_rfl) (?_))))))))))))
      have HR := hr_lt HR h42
      have HR := hr_lt HR h44
      refine S_val (.pointer (some ⟨g36, 2, none⟩)) (by kernel_rfl) (S_load 0 2 (.int .i64 r32.2.2) hM40 (by kernel_rfl) (S_int (IntKind.i64.wrap (c.1.2.2 + r32.2.2)) .i64 (by kernel_rfl) (fun x45 h46 => S_val (.agg #[.int .i64 x41, .int .i64 x43, .int .i64 x45]) (by kernel_rfl) (S_store 3 0 #[.int .i64 x41, .int .i64 x43, .int .i64 x45] hM40 (by kernel_rfl) (fun w47 hM48 => S_nil (R_drawF 10 (by kernel_rfl) (fun F49 U50 hL51 => F_load 1 0 (.agg #[.int .i64 r13.1.1, .int .i64 r13.1.2.1, .int .i64 r13.1.2.2]) hM48 (by kernel_rfl) (F_val (.pointer (some ⟨g1, 13, none⟩)) (fun _ => by kernel_rfl) (F_load 5 13 (.int .i64 c.2.2.2.2.2) hM48 (by kernel_rfl) (F_call (fof c.2.2.2.2.2) (fun r : Int => .int .i64 r) hM48 hL51 (fun w' hM' => c_fix_Of c.2.2.2.2.2 h_c.2.2.2.2.2 w') (by kernel_rfl) (fun _ => by kernel_rfl) (fun r52 h53 => F_call (fof 16384) (fun r : Int => .int .i64 r) hM48 hL51 (fun w' hM' => c_fix_Of 16384 (show InI 16384 from by unfold InI; omega) w') (by kernel_rfl) (fun _ => by kernel_rfl) (fun r54 h55 => ?_))))))))))))
      have HR := hr_lt HR h46
      have HR := hr_lt HR h53
      have HR := hr_lt HR h55
      refine F_call (fdiv r52 r54) (fun r : Int => .int .i64 r) hM48 hL51 (fun w' hM' => c_fix_Div r52 r54 ((tr (P := fun r : Int => InI r) h53 (fof_I c.2.2.2.2.2)).out) ((tr (P := fun r : Int => InI r) h55 (fof_I 16384)).out) w') (by kernel_rfl) (fun _ => by kernel_rfl) (fun r56 h57 => F_call (vscale r13.1 r56) (fun r : Int × Int × Int => .agg #[.int .i64 r.1, .int .i64 r.2.1, .int .i64 r.2.2]) hM48 hL51 (fun w' hM' => c_vec_Scale r13.1 r56 ((tr (P := fun r : (Int × Int × Int) × Int => (InV r.1 ∧ InI r.2)) h14 (i_lens_Toward c w1_ h2_ x y (draw.1, draw.2.1) h_c h_w1_ h_h2_ h_x h_y (⟨h_draw.1, h_draw.2.1⟩))).out.1) ((tr (P := fun r : Int => InI r) h57 (fdiv_I r52 r54)).out) w') (by kernel_rfl) (fun _ => by kernel_rfl) (fun r58 h59 => F_load 0 0 (.agg #[.int .i64 r32.1, .int .i64 r32.2.1, .int .i64 r32.2.2]) hM48 (by kernel_rfl) (F_call (vof r32) (fun r : Int × Int × Int => .agg #[.int .i64 r.1, .int .i64 r.2.1, .int .i64 r.2.2]) hM48 hL51 (fun w' hM' => c_vec_Of r32 ((tr (P := fun r : Int × Int × Int => InV r) h33 (i_lens_shift c draw h_c h_draw)).out) w') (by kernel_rfl) (fun _ => by kernel_rfl) (fun r60 h61 => F_call (vsub r58 r60) (fun r : Int × Int × Int => .agg #[.int .i64 r.1, .int .i64 r.2.1, .int .i64 r.2.2]) hM48 hL51 (fun w' hM' => c_vec_Sub r58 r60 ((tr (P := fun r : Int × Int × Int => InV r) h59 (vscale_I r13.1 r56)).out) ((tr (P := fun r : Int × Int × Int => InV r) h61 (vof_I r32)).out) w') (by kernel_rfl) (fun _ => by kernel_rfl) (fun r62 h63 => F_nil hM48 hL51 (fun w64 hM65 => S_store 1 0 #[.int .i64 r62.1, .int .i64 r62.2.1, .int .i64 r62.2.2] hM65 (by kernel_rfl) (fun w66 hM67 => S_nil (R_seq (R_seq (R_region (S_load 1 0 (.agg #[.int .i64 r62.1, .int .i64 r62.2.1, .int .i64 r62.2.2]) hM67 (by kernel_rfl) (?_))))))))))))
      have HR := hr_lt HR h57
      have HR := hr_lt HR h59
      have HR := hr_lt HR h61
      have HR := hr_lt HR h63
      refine S_call (s_octa_Quant r62) (fun r : (Int × Int × Int) × Int => .tuple #[.agg #[.int .i64 r.1.1, .int .i64 r.1.2.1, .int .i64 r.1.2.2], .int .i64 r.2]) hM67 (w_octa_Quant r62 ((tr (P := fun r : Int × Int × Int => InV r) h63 (vsub_I r58 r60)).out) w66) (by kernel_rfl) (fun r68 h69 w70 hM71 => S_val (.tuple #[.agg #[.int .i64 r68.1.1, .int .i64 r68.1.2.1, .int .i64 r68.1.2.2], .int .i64 r68.2]) (by kernel_rfl) (S_val (.agg #[.int .i64 r68.1.1, .int .i64 r68.1.2.1, .int .i64 r68.1.2.2]) (by kernel_rfl) (S_val (.int .i64 r68.2) (by kernel_rfl) (S_store 2 0 #[.int .i64 r68.1.1, .int .i64 r68.1.2.1, .int .i64 r68.1.2.2] hM71 (by kernel_rfl) (fun w72 hM73 => S_val (.int .i64 r68.2) (by kernel_rfl) (S_nil (R_seq (R_region (S_val (.int .i64 r68.2) (by kernel_rfl) (?_))))))))))
      have HR := hr_lt HR h69
      refine S_decn (r68.2 = 0) (by kernel_rfl) (fun c74 => ?_) (fun c74 => ?_)
      · refine S_nil (R_yes (by kernel_rfl) (R_seq (R_region (S_val (.agg #[.int .i64 0, .int .i64 0, .int .i64 0]) (by kernel_rfl) (S_val (.agg #[.int .i64 0, .int .i64 0, .int .i64 0]) (by kernel_rfl) (S_val (.int .i64 r68.2) (by kernel_rfl) (S_store 3 0 #[.int .i64 0, .int .i64 0, .int .i64 0] hM73 (by kernel_rfl) (fun w75 hM76 => S_store 2 0 #[.int .i64 0, .int .i64 0, .int .i64 0] hM76 (by kernel_rfl) (fun w77 hM78 => S_val (.int .i64 r68.2) (by kernel_rfl) (S_nil (?_)))))))))))
        have HR := hr_neg HR c74
        refine R_ret hM78 rfl (.cons (.cell _ _ 3 0 (.agg #[.int .i64 0, .int .i64 0, .int .i64 0]) (by kernel_rfl)) (.cons (.cell _ _ 2 0 (.agg #[.int .i64 0, .int .i64 0, .int .i64 0]) (by kernel_rfl)) (.cons (.tmp _ (.int .i64 r68.2) (by kernel_rfl)) .nil))) rfl ?_
        exact ⟨congrArg Ending.returned HR, hM78.below⟩
      · refine S_nil (R_no (by kernel_rfl) (R_skip (R_seq (R_drawE [[0, 1, 2, 3, 4], [0, 2, 1, 3, 4], [1, 0, 2, 3, 4]] hM73 (by kernel_rfl) (fun w79 hM80 => ?_)))))
        have HR := hr_pos HR c74
        refine ⟨?_, ?_, ?_, trivial⟩
        · refine S_load 3 0 (.agg #[.int .i64 x41, .int .i64 x43, .int .i64 x45]) hM80 (by kernel_rfl) (S_load 2 0 (.agg #[.int .i64 r68.1.1, .int .i64 r68.1.2.1, .int .i64 r68.1.2.2]) hM80 (by kernel_rfl) (S_store 3 0 #[.int .i64 x41, .int .i64 x43, .int .i64 x45] hM80 (by kernel_rfl) (fun w81 hM82 => S_store 2 0 #[.int .i64 r68.1.1, .int .i64 r68.1.2.1, .int .i64 r68.1.2.2] hM82 (by kernel_rfl) (fun w83 hM84 => S_val (.int .i64 0) (by kernel_rfl) (S_nil (?_))))))
          refine R_ret hM84 rfl (.cons (.cell _ _ 3 0 (.agg #[.int .i64 x41, .int .i64 x43, .int .i64 x45]) (by kernel_rfl)) (.cons (.cell _ _ 2 0 (.agg #[.int .i64 r68.1.1, .int .i64 r68.1.2.1, .int .i64 r68.1.2.2]) (by kernel_rfl)) (.cons (.tmp _ (.int .i64 0) (by kernel_rfl)) .nil))) rfl ?_
          exact ⟨congrArg Ending.returned HR, hM84.below⟩
        · refine S_load 3 0 (.agg #[.int .i64 x41, .int .i64 x43, .int .i64 x45]) hM80 (by kernel_rfl) (S_store 3 0 #[.int .i64 x41, .int .i64 x43, .int .i64 x45] hM80 (by kernel_rfl) (fun w81 hM82 => S_load 2 0 (.agg #[.int .i64 r68.1.1, .int .i64 r68.1.2.1, .int .i64 r68.1.2.2]) hM82 (by kernel_rfl) (S_store 2 0 #[.int .i64 r68.1.1, .int .i64 r68.1.2.1, .int .i64 r68.1.2.2] hM82 (by kernel_rfl) (fun w83 hM84 => S_val (.int .i64 0) (by kernel_rfl) (S_nil (?_))))))
          refine R_ret hM84 rfl (.cons (.cell _ _ 3 0 (.agg #[.int .i64 x41, .int .i64 x43, .int .i64 x45]) (by kernel_rfl)) (.cons (.cell _ _ 2 0 (.agg #[.int .i64 r68.1.1, .int .i64 r68.1.2.1, .int .i64 r68.1.2.2]) (by kernel_rfl)) (.cons (.tmp _ (.int .i64 0) (by kernel_rfl)) .nil))) rfl ?_
          exact ⟨congrArg Ending.returned HR, hM84.below⟩
        · refine S_load 2 0 (.agg #[.int .i64 r68.1.1, .int .i64 r68.1.2.1, .int .i64 r68.1.2.2]) hM80 (by kernel_rfl) (S_load 3 0 (.agg #[.int .i64 x41, .int .i64 x43, .int .i64 x45]) hM80 (by kernel_rfl) (S_store 3 0 #[.int .i64 x41, .int .i64 x43, .int .i64 x45] hM80 (by kernel_rfl) (fun w81 hM82 => S_store 2 0 #[.int .i64 r68.1.1, .int .i64 r68.1.2.1, .int .i64 r68.1.2.2] hM82 (by kernel_rfl) (fun w83 hM84 => S_val (.int .i64 0) (by kernel_rfl) (S_nil (?_))))))
          refine R_ret hM84 rfl (.cons (.cell _ _ 3 0 (.agg #[.int .i64 x41, .int .i64 x43, .int .i64 x45]) (by kernel_rfl)) (.cons (.cell _ _ 2 0 (.agg #[.int .i64 r68.1.1, .int .i64 r68.1.2.1, .int .i64 r68.1.2.2]) (by kernel_rfl)) (.cons (.tmp _ (.int .i64 0) (by kernel_rfl)) .nil))) rfl ?_
          exact ⟨congrArg Ending.returned HR, hM84.below⟩
    · refine S_nil (R_no (by kernel_rfl) (R_skip (R_seq (R_seq (R_region (S_load 0 0 (.agg #[.int .i64 r13.1.1, .int .i64 r13.1.2.1, .int .i64 r13.1.2.2]) hM30 (by kernel_rfl) (S_call (s_octa_Quant r13.1) (fun r : (Int × Int × Int) × Int => .tuple #[.agg #[.int .i64 r.1.1, .int .i64 r.1.2.1, .int .i64 r.1.2.2], .int .i64 r.2]) hM30 (w_octa_Quant r13.1 ((tr (P := fun r : (Int × Int × Int) × Int => (InV r.1 ∧ InI r.2)) h14 (i_lens_Toward c w1_ h2_ x y (draw.1, draw.2.1) h_c h_w1_ h_h2_ h_x h_y (⟨h_draw.1, h_draw.2.1⟩))).out.1) w29) (by kernel_rfl) (fun r85 h86 w87 hM88 => S_val (.tuple #[.agg #[.int .i64 r85.1.1, .int .i64 r85.1.2.1, .int .i64 r85.1.2.2], .int .i64 r85.2]) (by kernel_rfl) (S_val (.agg #[.int .i64 r85.1.1, .int .i64 r85.1.2.1, .int .i64 r85.1.2.2]) (by kernel_rfl) (S_val (.int .i64 r85.2) (by kernel_rfl) (S_store 1 0 #[.int .i64 r85.1.1, .int .i64 r85.1.2.1, .int .i64 r85.1.2.2] hM88 (by kernel_rfl) (fun w89 hM90 => ?_))))))))))))
      have HR := hr_neg HR c31
      have HR := hr_lt HR h86
      refine S_val (.int .i64 r85.2) (by kernel_rfl) (S_nil (R_seq (R_region (S_val (.int .i64 r85.2) (by kernel_rfl) (?_)))))
      refine S_decn (r85.2 = 0) (by kernel_rfl) (fun c91 => ?_) (fun c91 => ?_)
      · refine S_nil (R_yes (by kernel_rfl) (R_seq (R_region (S_val (.agg #[.int .i64 0, .int .i64 0, .int .i64 0]) (by kernel_rfl) (S_val (.agg #[.int .i64 0, .int .i64 0, .int .i64 0]) (by kernel_rfl) (S_val (.int .i64 r85.2) (by kernel_rfl) (S_store 2 0 #[.int .i64 0, .int .i64 0, .int .i64 0] hM90 (by kernel_rfl) (fun w92 hM93 => S_store 1 0 #[.int .i64 0, .int .i64 0, .int .i64 0] hM93 (by kernel_rfl) (fun w94 hM95 => S_val (.int .i64 r85.2) (by kernel_rfl) (S_nil (?_)))))))))))
        have HR := hr_neg HR c91
        refine R_ret hM95 rfl (.cons (.cell _ _ 2 0 (.agg #[.int .i64 0, .int .i64 0, .int .i64 0]) (by kernel_rfl)) (.cons (.cell _ _ 1 0 (.agg #[.int .i64 0, .int .i64 0, .int .i64 0]) (by kernel_rfl)) (.cons (.tmp _ (.int .i64 r85.2) (by kernel_rfl)) .nil))) rfl ?_
        exact ⟨congrArg Ending.returned HR, hM95.below⟩
      · refine S_nil (R_no (by kernel_rfl) (R_skip (R_seq (R_drawE [[0, 1, 2, 3, 4], [0, 2, 1, 3, 4], [1, 0, 2, 3, 4]] hM90 (by kernel_rfl) (fun w96 hM97 => ?_)))))
        have HR := hr_pos HR c91
        refine ⟨?_, ?_, ?_, trivial⟩
        · refine S_load 2 0 (.agg #[.int .i64 c.1.1, .int .i64 c.1.2.1, .int .i64 c.1.2.2]) hM97 (by kernel_rfl) (S_load 1 0 (.agg #[.int .i64 r85.1.1, .int .i64 r85.1.2.1, .int .i64 r85.1.2.2]) hM97 (by kernel_rfl) (S_store 2 0 #[.int .i64 c.1.1, .int .i64 c.1.2.1, .int .i64 c.1.2.2] hM97 (by kernel_rfl) (fun w98 hM99 => S_store 1 0 #[.int .i64 r85.1.1, .int .i64 r85.1.2.1, .int .i64 r85.1.2.2] hM99 (by kernel_rfl) (fun w100 hM101 => S_val (.int .i64 0) (by kernel_rfl) (S_nil (?_))))))
          refine R_ret hM101 rfl (.cons (.cell _ _ 2 0 (.agg #[.int .i64 c.1.1, .int .i64 c.1.2.1, .int .i64 c.1.2.2]) (by kernel_rfl)) (.cons (.cell _ _ 1 0 (.agg #[.int .i64 r85.1.1, .int .i64 r85.1.2.1, .int .i64 r85.1.2.2]) (by kernel_rfl)) (.cons (.tmp _ (.int .i64 0) (by kernel_rfl)) .nil))) rfl ?_
          exact ⟨congrArg Ending.returned HR, hM101.below⟩
        · refine S_load 2 0 (.agg #[.int .i64 c.1.1, .int .i64 c.1.2.1, .int .i64 c.1.2.2]) hM97 (by kernel_rfl) (S_store 2 0 #[.int .i64 c.1.1, .int .i64 c.1.2.1, .int .i64 c.1.2.2] hM97 (by kernel_rfl) (fun w98 hM99 => S_load 1 0 (.agg #[.int .i64 r85.1.1, .int .i64 r85.1.2.1, .int .i64 r85.1.2.2]) hM99 (by kernel_rfl) (S_store 1 0 #[.int .i64 r85.1.1, .int .i64 r85.1.2.1, .int .i64 r85.1.2.2] hM99 (by kernel_rfl) (fun w100 hM101 => S_val (.int .i64 0) (by kernel_rfl) (S_nil (?_))))))
          refine R_ret hM101 rfl (.cons (.cell _ _ 2 0 (.agg #[.int .i64 c.1.1, .int .i64 c.1.2.1, .int .i64 c.1.2.2]) (by kernel_rfl)) (.cons (.cell _ _ 1 0 (.agg #[.int .i64 r85.1.1, .int .i64 r85.1.2.1, .int .i64 r85.1.2.2]) (by kernel_rfl)) (.cons (.tmp _ (.int .i64 0) (by kernel_rfl)) .nil))) rfl ?_
          exact ⟨congrArg Ending.returned HR, hM101.below⟩
        · refine S_load 1 0 (.agg #[.int .i64 r85.1.1, .int .i64 r85.1.2.1, .int .i64 r85.1.2.2]) hM97 (by kernel_rfl) (S_load 2 0 (.agg #[.int .i64 c.1.1, .int .i64 c.1.2.1, .int .i64 c.1.2.2]) hM97 (by kernel_rfl) (S_store 2 0 #[.int .i64 c.1.1, .int .i64 c.1.2.1, .int .i64 c.1.2.2] hM97 (by kernel_rfl) (fun w98 hM99 => S_store 1 0 #[.int .i64 r85.1.1, .int .i64 r85.1.2.1, .int .i64 r85.1.2.2] hM99 (by kernel_rfl) (fun w100 hM101 => S_val (.int .i64 0) (by kernel_rfl) (S_nil (?_))))))
          refine R_ret hM101 rfl (.cons (.cell _ _ 2 0 (.agg #[.int .i64 c.1.1, .int .i64 c.1.2.1, .int .i64 c.1.2.2]) (by kernel_rfl)) (.cons (.cell _ _ 1 0 (.agg #[.int .i64 r85.1.1, .int .i64 r85.1.2.1, .int .i64 r85.1.2.2]) (by kernel_rfl)) (.cons (.tmp _ (.int .i64 0) (by kernel_rfl)) .nil))) rfl ?_
          exact ⟨congrArg Ending.returned HR, hM101.below⟩

def P_lens_Ray (r : (Int × Int × Int) × (Int × Int × Int) × Int) : Prop := (InV r.1 ∧ InV r.2.1 ∧ InI r.2.2)
theorem i_lens_Ray (c : (Int × Int × Int) × (Int × Int × Int) × (Int × Int × Int) × (Int × Int × Int) × Int × Int) (w1_ : Int) (h2_ : Int) (x : Int) (y : Int) (draw : Int × Int × Int × Int) (h_c : (InV c.1 ∧ InV c.2.1 ∧ InV c.2.2.1 ∧ InV c.2.2.2.1 ∧ InI c.2.2.2.2.1 ∧ InI c.2.2.2.2.2)) (h_w1_ : InI w1_) (h_h2_ : InI h2_) (h_x : InI x) (h_y : InI y) (h_draw : (InU32 draw.1 ∧ InU32 draw.2.1 ∧ InU32 draw.2.2.1 ∧ InU32 draw.2.2.2)) : P_lens_Ray (s_lens_Ray c w1_ h2_ x y draw) := by
  unfold s_lens_Ray
  exact (lt_P fun r13 h14 => (ite_P (fun c22 => (ite_P (fun c31 => (lt_P fun r32 h33 => (lt_P fun x41 h42 => (lt_P fun x43 h44 => (lt_P fun x45 h46 => (lt_P fun r52 h53 => (lt_P fun r54 h55 => (lt_P fun r56 h57 => (lt_P fun r58 h59 => (lt_P fun r60 h61 => (lt_P fun r62 h63 => (lt_P fun r68 h69 => (ite_P (fun c74 => (show (InV (x41, x43, x45) ∧ InV r68.1 ∧ InI 0) from ⟨⟨(wr_i64 h42), (wr_i64 h44), (wr_i64 h46)⟩, (tr (P := fun r : (Int × Int × Int) × Int => (InV r.1 ∧ InI r.2)) h69 (i_octa_Quant r62 ((tr (P := fun r : Int × Int × Int => InV r) h63 (vsub_I r58 r60)).out))).out.1, (show InI 0 from by unfold InI; omega)⟩)) (fun c74 => (show (InV (0, 0, 0) ∧ InV (0, 0, 0) ∧ InI r68.2) from ⟨⟨(show InI 0 from by unfold InI; omega), (show InI 0 from by unfold InI; omega), (show InI 0 from by unfold InI; omega)⟩, ⟨(show InI 0 from by unfold InI; omega), (show InI 0 from by unfold InI; omega), (show InI 0 from by unfold InI; omega)⟩, (tr (P := fun r : (Int × Int × Int) × Int => (InV r.1 ∧ InI r.2)) h69 (i_octa_Quant r62 ((tr (P := fun r : Int × Int × Int => InV r) h63 (vsub_I r58 r60)).out))).out.2⟩))))))))))))))) (fun c31 => (lt_P fun r85 h86 => (ite_P (fun c91 => (show (InV c.1 ∧ InV r85.1 ∧ InI 0) from ⟨h_c.1, (tr (P := fun r : (Int × Int × Int) × Int => (InV r.1 ∧ InI r.2)) h86 (i_octa_Quant r13.1 ((tr (P := fun r : (Int × Int × Int) × Int => (InV r.1 ∧ InI r.2)) h14 (i_lens_Toward c w1_ h2_ x y (draw.1, draw.2.1) h_c h_w1_ h_h2_ h_x h_y (⟨h_draw.1, h_draw.2.1⟩))).out.1))).out.1, (show InI 0 from by unfold InI; omega)⟩)) (fun c91 => (show (InV (0, 0, 0) ∧ InV (0, 0, 0) ∧ InI r85.2) from ⟨⟨(show InI 0 from by unfold InI; omega), (show InI 0 from by unfold InI; omega), (show InI 0 from by unfold InI; omega)⟩, ⟨(show InI 0 from by unfold InI; omega), (show InI 0 from by unfold InI; omega), (show InI 0 from by unfold InI; omega)⟩, (tr (P := fun r : (Int × Int × Int) × Int => (InV r.1 ∧ InI r.2)) h86 (i_octa_Quant r13.1 ((tr (P := fun r : (Int × Int × Int) × Int => (InV r.1 ∧ InI r.2)) h14 (i_lens_Toward c w1_ h2_ x y (draw.1, draw.2.1) h_c h_w1_ h_h2_ h_x h_y (⟨h_draw.1, h_draw.2.1⟩))).out.1))).out.2⟩))))))) (fun c22 => (show (InV (0, 0, 0) ∧ InV (0, 0, 0) ∧ InI r13.2) from ⟨⟨(show InI 0 from by unfold InI; omega), (show InI 0 from by unfold InI; omega), (show InI 0 from by unfold InI; omega)⟩, ⟨(show InI 0 from by unfold InI; omega), (show InI 0 from by unfold InI; omega), (show InI 0 from by unfold InI; omega)⟩, (tr (P := fun r : (Int × Int × Int) × Int => (InV r.1 ∧ InI r.2)) h14 (i_lens_Toward c w1_ h2_ x y (draw.1, draw.2.1) h_c h_w1_ h_h2_ h_x h_y (⟨h_draw.1, h_draw.2.1⟩))).out.2⟩))))

def e_umbralaw24_plain (r : (Int × Int × Int) × (Int × Int × Int) × (Int × Int × Int) × (Int × Int × Int) × Int × Int) : Value := .agg #[.int .i64 r.1.1, .int .i64 r.1.2.1, .int .i64 r.1.2.2, .int .i64 r.2.1.1, .int .i64 r.2.1.2.1, .int .i64 r.2.1.2.2, .int .i64 r.2.2.1.1, .int .i64 r.2.2.1.2.1, .int .i64 r.2.2.1.2.2, .int .i64 r.2.2.2.1.1, .int .i64 r.2.2.2.1.2.1, .int .i64 r.2.2.2.1.2.2, .int .i64 r.2.2.2.2.1, .int .i64 r.2.2.2.2.2]
def s_umbralaw24_plain  : (Int × Int × Int) × (Int × Int × Int) × (Int × Int × Int) × (Int × Int × Int) × Int × Int :=
  ((0, 0, 0), (16384, 0, 0), (0, 16384, 0), (0, 0, 16384), 0, 1)
set_option maxRecDepth 100000 in
set_option maxHeartbeats 4000000 in
theorem w_umbralaw24_plain  (w : World) : Calls Try.prog 34 #[] w (Ret (e_umbralaw24_plain (s_umbralaw24_plain )) w) := by
  obtain ⟨R, HR⟩ : ∃ R, e_umbralaw24_plain (s_umbralaw24_plain ) = R := ⟨_, rfl⟩
  rw [HR]
  unfold s_umbralaw24_plain at HR
  have hM0 := St.start w
  refine calls_run Try.func34 rfl ?_
  refine R_seq (R_region (S_fresh none #[.int .i64 0, .int .i64 0, .int .i64 0, .int .i64 0, .int .i64 0, .int .i64 0, .int .i64 0, .int .i64 0, .int .i64 0, .int .i64 0, .int .i64 0, .int .i64 0, .int .i64 0, .int .i64 0] 71 hM0 (by kernel_rfl) (fun g1 w2 hM3 => S_nil (R_seq (R_region (S_val (.agg #[.int .i64 16384, .int .i64 0, .int .i64 0]) (by kernel_rfl) (S_val (.agg #[.int .i64 0, .int .i64 16384, .int .i64 0]) (by kernel_rfl) (S_val (.agg #[.int .i64 0, .int .i64 0, .int .i64 16384]) (by kernel_rfl) (S_val (.agg #[.int .i64 0, .int .i64 0, .int .i64 0, .int .i64 16384, .int .i64 0, .int .i64 0, .int .i64 0, .int .i64 16384, .int .i64 0, .int .i64 0, .int .i64 0, .int .i64 16384, .int .i64 0, .int .i64 1]) (by kernel_rfl) (S_store 0 0 #[.int .i64 0, .int .i64 0, .int .i64 0, .int .i64 16384, .int .i64 0, .int .i64 0, .int .i64 0, .int .i64 16384, .int .i64 0, .int .i64 0, .int .i64 0, .int .i64 16384, .int .i64 0, .int .i64 1] hM3 (by kernel_rfl) (fun w4 hM5 => S_nil (?_))))))))))))
  refine R_ret hM5 rfl (.cons (.cell _ _ 0 0 (.agg #[.int .i64 0, .int .i64 0, .int .i64 0, .int .i64 16384, .int .i64 0, .int .i64 0, .int .i64 0, .int .i64 16384, .int .i64 0, .int .i64 0, .int .i64 0, .int .i64 16384, .int .i64 0, .int .i64 1]) (by kernel_rfl)) .nil) rfl ?_
  exact ⟨congrArg Ending.returned HR, hM5.below⟩

def P_umbralaw24_plain (r : (Int × Int × Int) × (Int × Int × Int) × (Int × Int × Int) × (Int × Int × Int) × Int × Int) : Prop := (InV r.1 ∧ InV r.2.1 ∧ InV r.2.2.1 ∧ InV r.2.2.2.1 ∧ InI r.2.2.2.2.1 ∧ InI r.2.2.2.2.2)
theorem i_umbralaw24_plain  : P_umbralaw24_plain (s_umbralaw24_plain ) := by
  unfold s_umbralaw24_plain
  exact (show (InV (0, 0, 0) ∧ InV (16384, 0, 0) ∧ InV (0, 16384, 0) ∧ InV (0, 0, 16384) ∧ InI 0 ∧ InI 1) from ⟨⟨(show InI 0 from by unfold InI; omega), (show InI 0 from by unfold InI; omega), (show InI 0 from by unfold InI; omega)⟩, ⟨(show InI 16384 from by unfold InI; omega), (show InI 0 from by unfold InI; omega), (show InI 0 from by unfold InI; omega)⟩, ⟨(show InI 0 from by unfold InI; omega), (show InI 16384 from by unfold InI; omega), (show InI 0 from by unfold InI; omega)⟩, ⟨(show InI 0 from by unfold InI; omega), (show InI 0 from by unfold InI; omega), (show InI 16384 from by unfold InI; omega)⟩, (show InI 0 from by unfold InI; omega), (show InI 1 from by unfold InI; omega)⟩)

def e_tri_Sub (r : Int × Int × Int) : Value := .agg #[.int .i64 r.1, .int .i64 r.2.1, .int .i64 r.2.2]
def s_tri_Sub (a : Int × Int × Int) (b : Int × Int × Int) : Int × Int × Int :=
  lt (IntKind.i64.wrap (a.1 - b.1)) fun x10 =>
  lt (IntKind.i64.wrap (a.2.1 - b.2.1)) fun x12 =>
  lt (IntKind.i64.wrap (a.2.2 - b.2.2)) fun x14 =>
  (x10, x12, x14)
set_option maxRecDepth 100000 in
set_option maxHeartbeats 4000000 in
theorem w_tri_Sub (a : Int × Int × Int) (b : Int × Int × Int) (w : World) : Calls Try.prog 36 #[.agg #[.int .i64 a.1, .int .i64 a.2.1, .int .i64 a.2.2], .agg #[.int .i64 b.1, .int .i64 b.2.1, .int .i64 b.2.2]] w (Ret (e_tri_Sub (s_tri_Sub a b)) w) := by
  obtain ⟨R, HR⟩ : ∃ R, e_tri_Sub (s_tri_Sub a b) = R := ⟨_, rfl⟩
  rw [HR]
  unfold s_tri_Sub at HR
  have hM0 := St.start w
  refine calls_run Try.func36 rfl ?_
  refine R_seq (R_region (S_fresh none #[.int .i64 a.1, .int .i64 a.2.1, .int .i64 a.2.2] 69 hM0 (by kernel_rfl) (fun g1 w2 hM3 => S_fresh none #[.int .i64 b.1, .int .i64 b.2.1, .int .i64 b.2.2] 69 hM3 (by kernel_rfl) (fun g4 w5 hM6 => S_fresh none #[.int .i64 0, .int .i64 0, .int .i64 0] 69 hM6 (by kernel_rfl) (fun g7 w8 hM9 => S_nil (R_seq (R_region (S_val (.pointer (some ⟨g1, 0, none⟩)) (by kernel_rfl) (S_load 2 0 (.int .i64 a.1) hM9 (by kernel_rfl) (S_val (.pointer (some ⟨g4, 0, none⟩)) (by kernel_rfl) (S_load 1 0 (.int .i64 b.1) hM9 (by kernel_rfl) (?_))))))))))))
  refine S_int (IntKind.i64.wrap (a.1 - b.1)) .i64 (by kernel_rfl) (fun x10 h11 => S_val (.pointer (some ⟨g1, 1, none⟩)) (by kernel_rfl) (S_load 2 1 (.int .i64 a.2.1) hM9 (by kernel_rfl) (S_val (.pointer (some ⟨g4, 1, none⟩)) (by kernel_rfl) (S_load 1 1 (.int .i64 b.2.1) hM9 (by kernel_rfl) (S_int (IntKind.i64.wrap (a.2.1 - b.2.1)) .i64 (by kernel_rfl) (fun x12 h13 => S_val (.pointer (some ⟨g1, 2, none⟩)) (by kernel_rfl) (S_load 2 2 (.int .i64 a.2.2) hM9 (by kernel_rfl) (S_val (.pointer (some ⟨g4, 2, none⟩)) (by kernel_rfl) (S_load 1 2 (.int .i64 b.2.2) hM9 (by kernel_rfl) (S_int (IntKind.i64.wrap (a.2.2 - b.2.2)) .i64 (by kernel_rfl) (fun x14 h15 => S_val (.agg #[.int .i64 x10, .int .i64 x12, .int .i64 x14]) (by kernel_rfl) (?_))))))))))))
  have HR := hr_lt HR h11
  have HR := hr_lt HR h13
  have HR := hr_lt HR h15
  refine S_store 0 0 #[.int .i64 x10, .int .i64 x12, .int .i64 x14] hM9 (by kernel_rfl) (fun w16 hM17 => S_nil (?_))
  refine R_ret hM17 rfl (.cons (.cell _ _ 0 0 (.agg #[.int .i64 x10, .int .i64 x12, .int .i64 x14]) (by kernel_rfl)) .nil) rfl ?_
  exact ⟨congrArg Ending.returned HR, hM17.below⟩

def P_tri_Sub (r : Int × Int × Int) : Prop := InV r
theorem i_tri_Sub (a : Int × Int × Int) (b : Int × Int × Int) : P_tri_Sub (s_tri_Sub a b) := by
  unfold s_tri_Sub
  exact (lt_P fun x10 h11 => (lt_P fun x12 h13 => (lt_P fun x14 h15 => (show InV (x10, x12, x14) from ⟨(wr_i64 h11), (wr_i64 h13), (wr_i64 h15)⟩))))

def e_tri_within (r : Bool) : Value := .bool r
def s_tri_within (p : Int × Int × Int) (most : Int) : Bool :=
  lt (gmax (gmax p.1 p.2.1) p.2.2) fun x4 =>
  if x4 ≤ most then
    lt (gmin (gmin p.1 p.2.1) p.2.2) fun x7 =>
    lt (IntKind.i64.wrap (0 - most)) fun x9 =>
    if x7 ≥ x9 then
      true
    else
      false
  else
    false
set_option maxRecDepth 100000 in
set_option maxHeartbeats 4000000 in
theorem w_tri_within (p : Int × Int × Int) (most : Int) (w : World) : Calls Try.prog 74 #[.agg #[.int .i64 p.1, .int .i64 p.2.1, .int .i64 p.2.2], .int .i64 most] w (Ret (e_tri_within (s_tri_within p most)) w) := by
  obtain ⟨R, HR⟩ : ∃ R, e_tri_within (s_tri_within p most) = R := ⟨_, rfl⟩
  rw [HR]
  unfold s_tri_within at HR
  have hM0 := St.start w
  refine calls_run Try.func74 rfl ?_
  refine R_seq (R_region (S_fresh none #[.int .i64 p.1, .int .i64 p.2.1, .int .i64 p.2.2] 69 hM0 (by kernel_rfl) (fun g1 w2 hM3 => S_val (.bool false) (by kernel_rfl) (S_nil (R_seq (R_region (S_val (.pointer (some ⟨g1, 0, none⟩)) (by kernel_rfl) (S_load 0 0 (.int .i64 p.1) hM3 (by kernel_rfl) (S_val (.pointer (some ⟨g1, 1, none⟩)) (by kernel_rfl) (S_load 0 1 (.int .i64 p.2.1) hM3 (by kernel_rfl) (S_val (.pointer (some ⟨g1, 2, none⟩)) (by kernel_rfl) (?_))))))))))))
  refine S_load 0 2 (.int .i64 p.2.2) hM3 (by kernel_rfl) (S_int (gmax (gmax p.1 p.2.1) p.2.2) .i64 (by kernel_rfl) (fun x4 h5 => S_val (.int .i64 most) (by kernel_rfl) (?_)))
  have HR := hr_lt HR h5
  refine S_dec (x4 ≤ most) (by kernel_rfl) (fun c6 => ?_) (fun c6 => ?_)
  · refine S_val (.bool true) (by kernel_rfl) (S_val (.pointer (some ⟨g1, 0, none⟩)) (by kernel_rfl) (S_load 0 0 (.int .i64 p.1) hM3 (by kernel_rfl) (S_val (.pointer (some ⟨g1, 1, none⟩)) (by kernel_rfl) (S_load 0 1 (.int .i64 p.2.1) hM3 (by kernel_rfl) (S_val (.pointer (some ⟨g1, 2, none⟩)) (by kernel_rfl) (S_load 0 2 (.int .i64 p.2.2) hM3 (by kernel_rfl) (S_int (gmin (gmin p.1 p.2.1) p.2.2) .i64 (by kernel_rfl) (fun x7 h8 => S_val (.int .i64 most) (by kernel_rfl) (S_int (IntKind.i64.wrap (0 - most)) .i64 (by kernel_rfl) (fun x9 h10 => ?_))))))))))
    have HR := hr_pos HR c6
    have HR := hr_lt HR h8
    have HR := hr_lt HR h10
    refine S_dec (x7 ≥ x9) (by kernel_rfl) (fun c11 => ?_) (fun c11 => ?_)
    · refine S_val (.bool true) (by kernel_rfl) (S_val (.bool true) (by kernel_rfl) (S_nil (?_)))
      have HR := hr_pos HR c11
      refine R_ret hM3 rfl (.cons (.tmp _ (.bool true) (by kernel_rfl)) .nil) rfl ?_
      exact ⟨congrArg Ending.returned HR, hM3.below⟩
    · refine S_val (.bool false) (by kernel_rfl) (S_val (.bool false) (by kernel_rfl) (S_nil (?_)))
      have HR := hr_neg HR c11
      refine R_ret hM3 rfl (.cons (.tmp _ (.bool false) (by kernel_rfl)) .nil) rfl ?_
      exact ⟨congrArg Ending.returned HR, hM3.below⟩
  · refine S_val (.bool false) (by kernel_rfl) (S_skip (by kernel_rfl) (S_skip (by kernel_rfl) (S_skip (by kernel_rfl) (S_skip (by kernel_rfl) (S_skip (by kernel_rfl) (S_skip (by kernel_rfl) (S_skip (by kernel_rfl) (S_skip (by kernel_rfl) (S_skip (by kernel_rfl) (S_skip (by kernel_rfl) (S_val (.bool false) (by kernel_rfl) (?_))))))))))))
    have HR := hr_neg HR c6
    refine S_val (.bool false) (by kernel_rfl) (S_nil (?_))
    refine R_ret hM3 rfl (.cons (.tmp _ (.bool false) (by kernel_rfl)) .nil) rfl ?_
    exact ⟨congrArg Ending.returned HR, hM3.below⟩

def e_tri_May (r : Bool) : Value := .bool r
def s_tri_May (o : Int × Int × Int) (d1_ : Int × Int × Int) : Bool :=
  lt (s_tri_within o 65536) fun r7 =>
  if r7 = true then
    lt (s_tri_within d1_ 131072) fun r11 =>
    if r11 = true then
      if (d1_ : Int × Int × Int) = (0, 0, 0) then
        false
      else
        true
    else
      false
  else
    false
set_option maxRecDepth 100000 in
set_option maxHeartbeats 4000000 in
theorem w_tri_May (o : Int × Int × Int) (d1_ : Int × Int × Int) (w : World) : Calls Try.prog 37 #[.agg #[.int .i64 o.1, .int .i64 o.2.1, .int .i64 o.2.2], .agg #[.int .i64 d1_.1, .int .i64 d1_.2.1, .int .i64 d1_.2.2]] w (Ret (e_tri_May (s_tri_May o d1_)) w) := by
  obtain ⟨R, HR⟩ : ∃ R, e_tri_May (s_tri_May o d1_) = R := ⟨_, rfl⟩
  rw [HR]
  unfold s_tri_May at HR
  have hM0 := St.start w
  refine calls_run Try.func37 rfl ?_
  refine R_seq (R_region (S_fresh none #[.int .i64 o.1, .int .i64 o.2.1, .int .i64 o.2.2] 69 hM0 (by kernel_rfl) (fun g1 w2 hM3 => S_fresh none #[.int .i64 d1_.1, .int .i64 d1_.2.1, .int .i64 d1_.2.2] 69 hM3 (by kernel_rfl) (fun g4 w5 hM6 => S_val (.bool false) (by kernel_rfl) (S_nil (R_seq (R_region (S_load 1 0 (.agg #[.int .i64 o.1, .int .i64 o.2.1, .int .i64 o.2.2]) hM6 (by kernel_rfl) (S_call (s_tri_within o 65536) (fun r : Bool => .bool r) hM6 (w_tri_within o 65536 w5) (by kernel_rfl) (fun r7 h8 w9 hM10 => ?_))))))))))
  have HR := hr_lt HR h8
  cases r7
  · refine S_val (.bool false) (by kernel_rfl) (S_skip (by kernel_rfl) (S_skip (by kernel_rfl) (S_val (.bool false) (by kernel_rfl) (S_val (.bool false) (by kernel_rfl) (S_skip (by kernel_rfl) (S_skip (by kernel_rfl) (S_skip (by kernel_rfl) (S_val (.bool false) (by kernel_rfl) (S_val (.bool false) (by kernel_rfl) (S_nil (?_)))))))))))
    have HR := hr_neg HR Bool.false_ne_true
    refine R_ret hM10 rfl (.cons (.tmp _ (.bool false) (by kernel_rfl)) .nil) rfl ?_
    exact ⟨congrArg Ending.returned HR, hM10.below⟩
  · refine S_val (.bool true) (by kernel_rfl) (S_load 0 0 (.agg #[.int .i64 d1_.1, .int .i64 d1_.2.1, .int .i64 d1_.2.2]) hM10 (by kernel_rfl) (S_call (s_tri_within d1_ 131072) (fun r : Bool => .bool r) hM10 (w_tri_within d1_ 131072 w9) (by kernel_rfl) (fun r11 h12 w13 hM14 => ?_)))
    have HR := hr_pos HR rfl
    have HR := hr_lt HR h12
    cases r11
    · refine S_val (.bool false) (by kernel_rfl) (S_val (.bool false) (by kernel_rfl) (S_skip (by kernel_rfl) (S_skip (by kernel_rfl) (S_skip (by kernel_rfl) (S_val (.bool false) (by kernel_rfl) (S_val (.bool false) (by kernel_rfl) (S_nil (?_))))))))
      have HR := hr_neg HR Bool.false_ne_true
      refine R_ret hM14 rfl (.cons (.tmp _ (.bool false) (by kernel_rfl)) .nil) rfl ?_
      exact ⟨congrArg Ending.returned HR, hM14.below⟩
    · refine S_val (.bool true) (by kernel_rfl) (S_val (.bool true) (by kernel_rfl) (S_load 0 0 (.agg #[.int .i64 d1_.1, .int .i64 d1_.2.1, .int .i64 d1_.2.2]) hM14 (by kernel_rfl) (S_val (.agg #[.int .i64 0, .int .i64 0, .int .i64 0]) (by kernel_rfl) (?_))))
      have HR := hr_pos HR rfl
      refine S_decn ((d1_ : Int × Int × Int) = (0, 0, 0)) (eqv_umbra_api_Pointn (x := d1_) (y := (0, 0, 0)) (by kernel_rfl) (by kernel_rfl) (by kernel_rfl)) (fun c15 => ?_) (fun c15 => ?_)
      · refine S_val (.bool true) (by kernel_rfl) (S_val (.bool true) (by kernel_rfl) (S_nil (?_)))
        have HR := hr_neg HR c15
        refine R_ret hM14 rfl (.cons (.tmp _ (.bool true) (by kernel_rfl)) .nil) rfl ?_
        exact ⟨congrArg Ending.returned HR, hM14.below⟩
      · refine S_val (.bool false) (by kernel_rfl) (S_val (.bool false) (by kernel_rfl) (S_nil (?_)))
        have HR := hr_pos HR c15
        refine R_ret hM14 rfl (.cons (.tmp _ (.bool false) (by kernel_rfl)) .nil) rfl ?_
        exact ⟨congrArg Ending.returned HR, hM14.below⟩

end Go.Proofs.Ytognbeejobfpfaa
