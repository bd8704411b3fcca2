/- Walk: umbralaw20.TriExact. -/
import Derived.Test.YtbfgmedjogjkeaaL20b
import Derived.Test.YtbfgmedjogjkeaaGoW
namespace Go.Proofs.Ytbfgmedjogjkeaa
open Go.RowKit Go.Sort
set_option linter.unusedVariables false
set_option linter.unusedSimpArgs false

def e_umbralaw20_TriExact (r : Bool) : Value := .bool r
def s_umbralaw20_TriExact (o : Int × Int × Int) (d1_ : Int × Int × Int) (p : (Int × Int × Int) × (Int × Int × Int) × (Int × Int × Int)) : Bool :=
  lt (hitT o d1_ p) fun r10 =>
  if r10.2 = true then
    lt (IntKind.i64.wrap (r10.1.2.1 - r10.1.2.2.1)) fun x32 =>
    lt (IntKind.i64.wrap (x32 - r10.1.2.2.2)) fun x34 =>
    if r10.1.2.1 < 1 then
      false
    else
      if r10.1.1 < 1 then
        false
      else
        if r10.1.2.2.1 < 0 then
          false
        else
          if r10.1.2.2.2 < 0 then
            false
          else
            if x34 < 0 then
              false
            else
              lt (r10.1.2.1 * o.1) fun r52 =>
              lt (r10.1.1 * d1_.1) fun r54 =>
              lt (addW [r52, r54]) fun r60 =>
              if r60.2 = true then
                lt (x34 * p.1.1) fun r118 =>
                lt (r10.1.2.2.1 * p.2.1.1) fun r120 =>
                lt (r10.1.2.2.2 * p.2.2.1) fun r122 =>
                lt (addW [r118, r120, r122]) fun r128 =>
                if r128.2 = true then
                  if (r60.1 : Int) = r128.1 then
                    lt (r10.1.2.1 * o.2.1) fun r158 =>
                    lt (r10.1.1 * d1_.2.1) fun r160 =>
                    lt (addW [r158, r160]) fun r166 =>
                    if r166.2 = true then
                      lt (x34 * p.1.2.1) fun r224 =>
                      lt (r10.1.2.2.1 * p.2.1.2.1) fun r226 =>
                      lt (r10.1.2.2.2 * p.2.2.2.1) fun r228 =>
                      lt (addW [r224, r226, r228]) fun r234 =>
                      if r234.2 = true then
                        if (r166.1 : Int) = r234.1 then
                          lt (r10.1.2.1 * o.2.2) fun r264 =>
                          lt (r10.1.1 * d1_.2.2) fun r266 =>
                          lt (addW [r264, r266]) fun r272 =>
                          if r272.2 = true then
                            lt (x34 * p.1.2.2) fun r330 =>
                            lt (r10.1.2.2.1 * p.2.1.2.2) fun r332 =>
                            lt (r10.1.2.2.2 * p.2.2.2.2) fun r334 =>
                            lt (addW [r330, r332, r334]) fun r340 =>
                            if r340.2 = true then
                              if (r272.1 : Int) = r340.1 then
                                lt (s_umbralaw20_works ) fun r362 =>
                                if r362 = true then
                                  true
                                else
                                  false
                              else
                                false
                            else
                              false
                          else
                            lt (x34 * p.1.2.2) fun r288 =>
                            lt (r10.1.2.2.1 * p.2.1.2.2) fun r290 =>
                            lt (r10.1.2.2.2 * p.2.2.2.2) fun r292 =>
                            lt (addW [r288, r290, r292]) fun r298 =>
                            if r298.2 = true then
                              false
                            else
                              false
                        else
                          false
                      else
                        false
                    else
                      lt (x34 * p.1.2.1) fun r182 =>
                      lt (r10.1.2.2.1 * p.2.1.2.1) fun r184 =>
                      lt (r10.1.2.2.2 * p.2.2.2.1) fun r186 =>
                      lt (addW [r182, r184, r186]) fun r192 =>
                      if r192.2 = true then
                        false
                      else
                        false
                  else
                    false
                else
                  false
              else
                lt (x34 * p.1.1) fun r76 =>
                lt (r10.1.2.2.1 * p.2.1.1) fun r78 =>
                lt (r10.1.2.2.2 * p.2.2.1) fun r80 =>
                lt (addW [r76, r78, r80]) fun r86 =>
                if r86.2 = true then
                  false
                else
                  false
  else
    if (r10.1 : Int × Int × Int × Int) = (0, 0, 0, 0) then
      lt (s_umbralaw20_works ) fun r23 =>
      if r23 = true then
        true
      else
        false
    else
      false
set_option maxRecDepth 100000 in
set_option maxHeartbeats 4000000 in
theorem w_umbralaw20_TriExact (o : Int × Int × Int) (d1_ : Int × Int × Int) (p : (Int × Int × Int) × (Int × Int × Int) × (Int × Int × Int)) (h_o : InV o) (h_d1_ : InV d1_) (h_p : (InV p.1 ∧ InV p.2.1 ∧ InV p.2.2)) (w : World) : Calls Try.prog 10 #[.agg #[.int .i64 o.1, .int .i64 o.2.1, .int .i64 o.2.2], .agg #[.int .i64 d1_.1, .int .i64 d1_.2.1, .int .i64 d1_.2.2], .agg #[.int .i64 p.1.1, .int .i64 p.1.2.1, .int .i64 p.1.2.2, .int .i64 p.2.1.1, .int .i64 p.2.1.2.1, .int .i64 p.2.1.2.2, .int .i64 p.2.2.1, .int .i64 p.2.2.2.1, .int .i64 p.2.2.2.2]] w (Ret (e_umbralaw20_TriExact (s_umbralaw20_TriExact o d1_ p)) w) := by
  obtain ⟨R, HR⟩ : ∃ R, e_umbralaw20_TriExact (s_umbralaw20_TriExact o d1_ p) = R := ⟨_, rfl⟩
  rw [HR]
  unfold s_umbralaw20_TriExact at HR
  have hM0 := St.start w
  refine calls_run Try.func10 rfl ?_
  refine R_seq (R_region (S_fresh none #[.int .i64 o.1, .int .i64 o.2.1, .int .i64 o.2.2] 23 hM0 (by kernel_rfl) (fun g1 w2 hM3 => S_fresh none #[.int .i64 d1_.1, .int .i64 d1_.2.1, .int .i64 d1_.2.2] 23 hM3 (by kernel_rfl) (fun g4 w5 hM6 => S_fresh none #[.int .i64 p.1.1, .int .i64 p.1.2.1, .int .i64 p.1.2.2, .int .i64 p.2.1.1, .int .i64 p.2.1.2.1, .int .i64 p.2.1.2.2, .int .i64 p.2.2.1, .int .i64 p.2.2.2.1, .int .i64 p.2.2.2.2] 48 hM6 (by kernel_rfl) (fun g7 w8 hM9 => S_val (.bool false) (by kernel_rfl) (S_nil (R_seq (R_region (S_load 2 0 (.agg #[.int .i64 o.1, .int .i64 o.2.1, .int .i64 o.2.2]) hM9 (by kernel_rfl) (S_load 1 0 (.agg #[.int .i64 d1_.1, .int .i64 d1_.2.1, .int .i64 d1_.2.2]) hM9 (by kernel_rfl) (S_load 0 0 (.agg #[.int .i64 p.1.1, .int .i64 p.1.2.1, .int .i64 p.1.2.2, .int .i64 p.2.1.1, .int .i64 p.2.1.2.1, .int .i64 p.2.1.2.2, .int .i64 p.2.2.1, .int .i64 p.2.2.2.1, .int .i64 p.2.2.2.2]) hM9 (by kernel_rfl) (?_))))))))))))
  refine S_call (hitT o d1_ p) (fun r : (Int × Int × Int × Int) × Bool => .tuple #[.agg #[.int .i64 r.1.1, .int .i64 r.1.2.1, .int .i64 r.1.2.2.1, .int .i64 r.1.2.2.2], .bool r.2]) hM9 (tHit o d1_ p w8) (by kernel_rfl) (fun r10 h11 w12 hM13 => ?_)
  have HR := hr_lt HR h11
  obtain ⟨r14, b16⟩ := r10
  cases b16
  · refine S_val (.tuple #[.agg #[.int .i64 r14.1, .int .i64 r14.2.1, .int .i64 r14.2.2.1, .int .i64 r14.2.2.2], .bool false]) (by kernel_rfl) (S_val (.agg #[.int .i64 r14.1, .int .i64 r14.2.1, .int .i64 r14.2.2.1, .int .i64 r14.2.2.2]) (by kernel_rfl) (S_val (.bool false) (by kernel_rfl) (S_fresh none #[.int .i64 0, .int .i64 0, .int .i64 0, .int .i64 0] 50 hM13 (by kernel_rfl) (fun g17 w18 hM19 => S_store 0 0 #[.int .i64 r14.1, .int .i64 r14.2.1, .int .i64 r14.2.2.1, .int .i64 r14.2.2.2] hM19 (by kernel_rfl) (fun w20 hM21 => S_val (.bool false) (by kernel_rfl) (S_nil (R_seq (R_seq (R_region (S_val (.bool false) (by kernel_rfl) (S_val (.bool true) (by kernel_rfl) (?_))))))))))))
    have HR := hr_neg HR Bool.false_ne_true
    refine S_nil (R_yes (by kernel_rfl) (R_seq (R_region (S_load 0 0 (.agg #[.int .i64 r14.1, .int .i64 r14.2.1, .int .i64 r14.2.2.1, .int .i64 r14.2.2.2]) hM21 (by kernel_rfl) (S_val (.agg #[.int .i64 0, .int .i64 0, .int .i64 0, .int .i64 0]) (by kernel_rfl) (?_))))))
    refine S_dec ((r14 : Int × Int × Int × Int) = (0, 0, 0, 0)) (eqv_umbra_api_Meet (x := r14) (y := (0, 0, 0, 0)) (by kernel_rfl) (by kernel_rfl) (by kernel_rfl)) (fun c22 => ?_) (fun c22 => ?_)
    · refine S_val (.bool true) (by kernel_rfl) (S_call (s_umbralaw20_works ) (fun r : Bool => .bool r) hM21 (w_umbralaw20_works  w20) (by kernel_rfl) (fun r23 h24 w25 hM26 => ?_))
      have HR := hr_pos HR c22
      have HR := hr_lt HR h24
      cases r23
      · refine S_val (.bool false) (by kernel_rfl) (S_val (.bool false) (by kernel_rfl) (S_nil (?_)))
        have HR := hr_neg HR Bool.false_ne_true
        refine R_ret hM26 rfl (.cons (.tmp _ (.bool false) (by kernel_rfl)) .nil) rfl ?_
        exact ⟨congrArg Ending.returned HR, hM26.below⟩
      · refine S_val (.bool true) (by kernel_rfl) (S_val (.bool true) (by kernel_rfl) (S_nil (?_)))
        have HR := hr_pos HR rfl
        refine R_ret hM26 rfl (.cons (.tmp _ (.bool true) (by kernel_rfl)) .nil) rfl ?_
        exact ⟨congrArg Ending.returned HR, hM26.below⟩
    · refine S_val (.bool false) (by kernel_rfl) (S_skip (by kernel_rfl) (S_val (.bool false) (by kernel_rfl) (S_val (.bool false) (by kernel_rfl) (S_nil (?_)))))
      have HR := hr_neg HR c22
      refine R_ret hM21 rfl (.cons (.tmp _ (.bool false) (by kernel_rfl)) .nil) rfl ?_
      exact ⟨congrArg Ending.returned HR, hM21.below⟩
  · refine S_val (.tuple #[.agg #[.int .i64 r14.1, .int .i64 r14.2.1, .int .i64 r14.2.2.1, .int .i64 r14.2.2.2], .bool true]) (by kernel_rfl) (S_val (.agg #[.int .i64 r14.1, .int .i64 r14.2.1, .int .i64 r14.2.2.1, .int .i64 r14.2.2.2]) (by kernel_rfl) (S_val (.bool true) (by kernel_rfl) (S_fresh none #[.int .i64 0, .int .i64 0, .int .i64 0, .int .i64 0] 50 hM13 (by kernel_rfl) (fun g27 w28 hM29 => S_store 0 0 #[.int .i64 r14.1, .int .i64 r14.2.1, .int .i64 r14.2.2.1, .int .i64 r14.2.2.2] hM29 (by kernel_rfl) (fun w30 hM31 => S_val (.bool true) (by kernel_rfl) (S_nil (R_seq (R_seq (R_region (S_val (.bool true) (by kernel_rfl) (S_val (.bool false) (by kernel_rfl) (?_))))))))))))
    have HR := hr_pos HR rfl
    refine S_nil (R_no (by kernel_rfl) (R_skip (R_seq (R_region (S_val (.pointer (some ⟨g27, 1, none⟩)) (by kernel_rfl) (S_load 0 1 (.int .i64 r14.2.1) hM31 (by kernel_rfl) (S_val (.pointer (some ⟨g27, 2, none⟩)) (by kernel_rfl) (S_load 0 2 (.int .i64 r14.2.2.1) hM31 (by kernel_rfl) (S_int (IntKind.i64.wrap (r14.2.1 - r14.2.2.1)) .i64 (by kernel_rfl) (fun x32 h33 => S_val (.pointer (some ⟨g27, 3, none⟩)) (by kernel_rfl) (S_load 0 3 (.int .i64 r14.2.2.2) hM31 (by kernel_rfl) (?_))))))))))))
    have HR := hr_lt HR h33
    refine S_int (IntKind.i64.wrap (x32 - r14.2.2.2)) .i64 (by kernel_rfl) (fun x34 h35 => S_val (.int .i64 x34) (by kernel_rfl) (S_nil (R_seq (R_seq (R_region (S_val (.pointer (some ⟨g27, 1, none⟩)) (by kernel_rfl) (S_load 0 1 (.int .i64 r14.2.1) hM31 (by kernel_rfl) (?_))))))))
    have HR := hr_lt HR h35
    refine S_dec (r14.2.1 < 1) (by kernel_rfl) (fun c36 => ?_) (fun c36 => ?_)
    · refine S_val (.bool true) (by kernel_rfl) (S_skip (by kernel_rfl) (S_skip (by kernel_rfl) (S_skip (by kernel_rfl) (S_val (.bool true) (by kernel_rfl) (S_val (.bool true) (by kernel_rfl) (S_skip (by kernel_rfl) (S_skip (by kernel_rfl) (S_skip (by kernel_rfl) (S_val (.bool true) (by kernel_rfl) (S_val (.bool true) (by kernel_rfl) (S_skip (by kernel_rfl) (?_))))))))))))
      have HR := hr_pos HR c36
      refine S_skip (by kernel_rfl) (S_skip (by kernel_rfl) (S_val (.bool true) (by kernel_rfl) (S_val (.bool true) (by kernel_rfl) (S_skip (by kernel_rfl) (S_skip (by kernel_rfl) (S_val (.bool true) (by kernel_rfl) (S_nil (R_yes (by kernel_rfl) (R_seq (R_region (S_val (.bool false) (by kernel_rfl) (?_))))))))))))
      refine S_nil (?_)
      refine R_ret hM31 rfl (.cons (.tmp _ (.bool false) (by kernel_rfl)) .nil) rfl ?_
      exact ⟨congrArg Ending.returned HR, hM31.below⟩
    · refine S_val (.bool false) (by kernel_rfl) (S_val (.pointer (some ⟨g27, 0, none⟩)) (by kernel_rfl) (S_load 0 0 (.int .i64 r14.1) hM31 (by kernel_rfl) (?_)))
      have HR := hr_neg HR c36
      refine S_dec (r14.1 < 1) (by kernel_rfl) (fun c37 => ?_) (fun c37 => ?_)
      · refine S_val (.bool true) (by kernel_rfl) (S_val (.bool true) (by kernel_rfl) (S_skip (by kernel_rfl) (S_skip (by kernel_rfl) (S_skip (by kernel_rfl) (S_val (.bool true) (by kernel_rfl) (S_val (.bool true) (by kernel_rfl) (S_skip (by kernel_rfl) (S_skip (by kernel_rfl) (S_skip (by kernel_rfl) (S_val (.bool true) (by kernel_rfl) (S_val (.bool true) (by kernel_rfl) (?_))))))))))))
        have HR := hr_pos HR c37
        refine S_skip (by kernel_rfl) (S_skip (by kernel_rfl) (S_val (.bool true) (by kernel_rfl) (S_nil (R_yes (by kernel_rfl) (R_seq (R_region (S_val (.bool false) (by kernel_rfl) (S_nil (?_)))))))))
        refine R_ret hM31 rfl (.cons (.tmp _ (.bool false) (by kernel_rfl)) .nil) rfl ?_
        exact ⟨congrArg Ending.returned HR, hM31.below⟩
      · refine S_val (.bool false) (by kernel_rfl) (S_val (.bool false) (by kernel_rfl) (S_val (.pointer (some ⟨g27, 2, none⟩)) (by kernel_rfl) (S_load 0 2 (.int .i64 r14.2.2.1) hM31 (by kernel_rfl) (?_))))
        have HR := hr_neg HR c37
        refine S_dec (r14.2.2.1 < 0) (by kernel_rfl) (fun c38 => ?_) (fun c38 => ?_)
        · refine S_val (.bool true) (by kernel_rfl) (S_val (.bool true) (by kernel_rfl) (S_skip (by kernel_rfl) (S_skip (by kernel_rfl) (S_skip (by kernel_rfl) (S_val (.bool true) (by kernel_rfl) (S_val (.bool true) (by kernel_rfl) (S_skip (by kernel_rfl) (S_skip (by kernel_rfl) (S_val (.bool true) (by kernel_rfl) (S_nil (R_yes (by kernel_rfl) (?_))))))))))))
          have HR := hr_pos HR c38
          refine R_seq (R_region (S_val (.bool false) (by kernel_rfl) (S_nil (?_))))
          refine R_ret hM31 rfl (.cons (.tmp _ (.bool false) (by kernel_rfl)) .nil) rfl ?_
          exact ⟨congrArg Ending.returned HR, hM31.below⟩
        · refine S_val (.bool false) (by kernel_rfl) (S_val (.bool false) (by kernel_rfl) (S_val (.pointer (some ⟨g27, 3, none⟩)) (by kernel_rfl) (S_load 0 3 (.int .i64 r14.2.2.2) hM31 (by kernel_rfl) (?_))))
          have HR := hr_neg HR c38
          refine S_dec (r14.2.2.2 < 0) (by kernel_rfl) (fun c39 => ?_) (fun c39 => ?_)
          · refine S_val (.bool true) (by kernel_rfl) (S_val (.bool true) (by kernel_rfl) (S_skip (by kernel_rfl) (S_skip (by kernel_rfl) (S_val (.bool true) (by kernel_rfl) (S_nil (R_yes (by kernel_rfl) (R_seq (R_region (S_val (.bool false) (by kernel_rfl) (S_nil (?_)))))))))))
            have HR := hr_pos HR c39
            refine R_ret hM31 rfl (.cons (.tmp _ (.bool false) (by kernel_rfl)) .nil) rfl ?_
            exact ⟨congrArg Ending.returned HR, hM31.below⟩
          · refine S_val (.bool false) (by kernel_rfl) (S_val (.bool false) (by kernel_rfl) (S_val (.int .i64 x34) (by kernel_rfl) (?_)))
            have HR := hr_neg HR c39
            refine S_dec (x34 < 0) (by kernel_rfl) (fun c40 => ?_) (fun c40 => ?_)
            · refine S_val (.bool true) (by kernel_rfl) (S_nil (R_yes (by kernel_rfl) (R_seq (R_region (S_val (.bool false) (by kernel_rfl) (S_nil (?_)))))))
              have HR := hr_pos HR c40
              refine R_ret hM31 rfl (.cons (.tmp _ (.bool false) (by kernel_rfl)) .nil) rfl ?_
              exact ⟨congrArg Ending.returned HR, hM31.below⟩
            · refine S_val (.bool false) (by kernel_rfl) (S_nil (R_no (by kernel_rfl) (R_skip (R_seq (R_seq (R_region (S_val (.pointer (some ⟨g1, 0, none⟩)) (by kernel_rfl) (S_load 3 0 (.int .i64 o.1) hM31 (by kernel_rfl) (S_val (.pointer (some ⟨g4, 0, none⟩)) (by kernel_rfl) (S_load 2 0 (.int .i64 d1_.1) hM31 (by kernel_rfl) (S_val (.pointer (some ⟨g7, 0, none⟩)) (by kernel_rfl) (?_))))))))))))
              have HR := hr_neg HR c40
              refine S_val (.pointer (some ⟨g7, 0, none⟩)) (by kernel_rfl) (S_load 1 0 (.int .i64 p.1.1) hM31 (by kernel_rfl) (S_val (.pointer (some ⟨g7, 3, none⟩)) (by kernel_rfl) (S_val (.pointer (some ⟨g7, 3, none⟩)) (by kernel_rfl) (S_load 1 3 (.int .i64 p.2.1.1) hM31 (by kernel_rfl) (S_val (.pointer (some ⟨g7, 6, none⟩)) (by kernel_rfl) (S_val (.pointer (some ⟨g7, 6, none⟩)) (by kernel_rfl) (S_load 1 6 (.int .i64 p.2.2.1) hM31 (by kernel_rfl) (S_val (.agg #[.int .i64 o.1, .int .i64 d1_.1, .int .i64 p.1.1, .int .i64 p.2.1.1, .int .i64 p.2.2.1]) (by kernel_rfl) (S_val (.pointer (some ⟨g1, 1, none⟩)) (by kernel_rfl) (S_load 3 1 (.int .i64 o.2.1) hM31 (by kernel_rfl) (S_val (.pointer (some ⟨g4, 1, none⟩)) (by kernel_rfl) (?_))))))))))))
              refine S_load 2 1 (.int .i64 d1_.2.1) hM31 (by kernel_rfl) (S_val (.pointer (some ⟨g7, 0, none⟩)) (by kernel_rfl) (S_val (.pointer (some ⟨g7, 1, none⟩)) (by kernel_rfl) (S_load 1 1 (.int .i64 p.1.2.1) hM31 (by kernel_rfl) (S_val (.pointer (some ⟨g7, 3, none⟩)) (by kernel_rfl) (S_val (.pointer (some ⟨g7, 4, none⟩)) (by kernel_rfl) (S_load 1 4 (.int .i64 p.2.1.2.1) hM31 (by kernel_rfl) (S_val (.pointer (some ⟨g7, 6, none⟩)) (by kernel_rfl) (S_val (.pointer (some ⟨g7, 7, none⟩)) (by kernel_rfl) (S_load 1 7 (.int .i64 p.2.2.2.1) hM31 (by kernel_rfl) (S_val (.agg #[.int .i64 o.2.1, .int .i64 d1_.2.1, .int .i64 p.1.2.1, .int .i64 p.2.1.2.1, .int .i64 p.2.2.2.1]) (by kernel_rfl) (S_val (.pointer (some ⟨g1, 2, none⟩)) (by kernel_rfl) (?_))))))))))))
              refine S_load 3 2 (.int .i64 o.2.2) hM31 (by kernel_rfl) (S_val (.pointer (some ⟨g4, 2, none⟩)) (by kernel_rfl) (S_load 2 2 (.int .i64 d1_.2.2) hM31 (by kernel_rfl) (S_val (.pointer (some ⟨g7, 0, none⟩)) (by kernel_rfl) (S_val (.pointer (some ⟨g7, 2, none⟩)) (by kernel_rfl) (S_load 1 2 (.int .i64 p.1.2.2) hM31 (by kernel_rfl) (S_val (.pointer (some ⟨g7, 3, none⟩)) (by kernel_rfl) (S_val (.pointer (some ⟨g7, 5, none⟩)) (by kernel_rfl) (S_load 1 5 (.int .i64 p.2.1.2.2) hM31 (by kernel_rfl) (S_val (.pointer (some ⟨g7, 6, none⟩)) (by kernel_rfl) (S_val (.pointer (some ⟨g7, 8, none⟩)) (by kernel_rfl) (S_load 1 8 (.int .i64 p.2.2.2.2) hM31 (by kernel_rfl) (?_))))))))))))
              refine S_val (.agg #[.int .i64 o.2.2, .int .i64 d1_.2.2, .int .i64 p.1.2.2, .int .i64 p.2.1.2.2, .int .i64 p.2.2.2.2]) (by kernel_rfl) (S_fresh (some 3) #[.int .i64 o.1, .int .i64 d1_.1, .int .i64 p.1.1, .int .i64 p.2.1.1, .int .i64 p.2.2.1, .int .i64 o.2.1, .int .i64 d1_.2.1, .int .i64 p.1.2.1, .int .i64 p.2.1.2.1, .int .i64 p.2.2.2.1, .int .i64 o.2.2, .int .i64 d1_.2.2, .int .i64 p.1.2.2, .int .i64 p.2.1.2.2, .int .i64 p.2.2.2.2] 55 hM31 (by kernel_rfl) (fun g41 w42 hM43 => S_val (.int .i64 3) (by kernel_rfl) (S_val (.int .i64 0) (by kernel_rfl) (S_nil (R_block (R_loop (R_seq (R_region (S_val (.bool true) (by kernel_rfl) (S_nil (R_seq (?_))))))))))))
              refine R_yes (by kernel_rfl) (R_skip (R_seq (R_block (R_seq (R_region (S_val (.pointer (some ⟨g41, 0, none⟩)) (by kernel_rfl) (S_load 0 0 (.agg #[.int .i64 o.1, .int .i64 d1_.1, .int .i64 p.1.1, .int .i64 p.2.1.1, .int .i64 p.2.2.1]) hM43 (by kernel_rfl) (S_fresh none #[.int .i64 0, .int .i64 0, .int .i64 0, .int .i64 0, .int .i64 0] 55 hM43 (by kernel_rfl) (fun g44 w45 hM46 => S_store 0 0 #[.int .i64 o.1, .int .i64 d1_.1, .int .i64 p.1.1, .int .i64 p.2.1.1, .int .i64 p.2.2.1] hM46 (by kernel_rfl) (fun w47 hM48 => S_nil (R_seq (?_))))))))))))
              refine R_drawG 18 (by kernel_rfl) (fun F49 U50 hL51 => G_val (.pointer (some ⟨g27, 1, none⟩)) (fun _ => by kernel_rfl) (G_load 2 1 (.int .i64 r14.2.1) hM48 (by kernel_rfl) (G_val (.pointer (some ⟨g44, 0, none⟩)) (fun _ => by kernel_rfl) (G_load 0 0 (.int .i64 o.1) hM48 (by kernel_rfl) (G_call (r14.2.1 * o.1) (fun r : Int => .agg #[.int .i64 (wHi r), .int .u64 (wLo r)]) hM48 hL51 (fun w' hM' => wMul r14.2.1 o.1 ((tr (P := fun r : (Int × Int × Int × Int) × Bool => (InM r.1 ∧ True)) h11 (hitT_I o d1_ p)).out.1.2.1) h_o.1 w') (by kernel_rfl) (fun _ => by kernel_rfl) (fun r52 h53 => G_val (.pointer (some ⟨g27, 0, none⟩)) (fun _ => by kernel_rfl) (G_load 2 0 (.int .i64 r14.1) hM48 (by kernel_rfl) (G_val (.pointer (some ⟨g44, 1, none⟩)) (fun _ => by kernel_rfl) (G_load 0 1 (.int .i64 d1_.1) hM48 (by kernel_rfl) (G_call (r14.1 * d1_.1) (fun r : Int => .agg #[.int .i64 (wHi r), .int .u64 (wLo r)]) hM48 hL51 (fun w' hM' => wMul r14.1 d1_.1 ((tr (P := fun r : (Int × Int × Int × Int) × Bool => (InM r.1 ∧ True)) h11 (hitT_I o d1_ p)).out.1.1) h_d1_.1 w') (by kernel_rfl) (fun _ => by kernel_rfl) (fun r54 h55 => G_fresh (some 2) #[.int .i64 (wHi r52), .int .u64 (wLo r52), .int .i64 (wHi r54), .int .u64 (wLo r54)] 59 hL51 (by kernel_rfl) (fun _ => by kernel_rfl) (fun g56 F57 U58 hL59 => ?_))))))))))))
              have HR := hr_lt HR h53
              have HR := hr_lt HR h55
              refine G_call (addW [r52, r54]) (fun r : Int × Bool => .tuple #[.agg #[.int .i64 (wHi r.1), .int .u64 (wLo r.1)], .bool r.2]) hM48 hL59 (fun w' hM' => wAddL [r52, r54] ⟨(tr (P := fun r : Int => InW r) h53 (mul_InW ((tr (P := fun r : (Int × Int × Int × Int) × Bool => (InM r.1 ∧ True)) h11 (hitT_I o d1_ p)).out.1.2.1) h_o.1)).out, (tr (P := fun r : Int => InW r) h55 (mul_InW ((tr (P := fun r : (Int × Int × Int × Int) × Bool => (InM r.1 ∧ True)) h11 (hitT_I o d1_ p)).out.1.1) h_d1_.1)).out, trivial⟩ hM' 0 2 2 rfl (by kernel_rfl) (by kernel_rfl)) (by kernel_rfl) (fun _ => by kernel_rfl) (fun r60 h61 => ?_)
              have HR := hr_lt HR h61
              obtain ⟨r62, b64⟩ := r60
              cases b64
              · refine G_val (.tuple #[.agg #[.int .i64 (wHi r62), .int .u64 (wLo r62)], .bool false]) (fun _ => by kernel_rfl) (G_val (.agg #[.int .i64 (wHi r62), .int .u64 (wLo r62)]) (fun _ => by kernel_rfl) (G_val (.bool false) (fun _ => by kernel_rfl) (G_fresh none #[.int .i64 0, .int .u64 0] 59 hL59 (by kernel_rfl) (fun _ => by kernel_rfl) (fun g65 F66 U67 hL68 => G_store 0 0 #[.int .i64 (wHi r62), .int .u64 (wLo r62)] hL68 (by kernel_rfl) (by kernel_rfl) (fun F69 hL70 => G_val (.bool false) (fun _ => by kernel_rfl) (G_nil hM48 hL70 (fun w71 hM72 => S_nil (R_seq (R_drawG 22 (by kernel_rfl) (fun F73 U74 hL75 => G_val (.int .i64 x34) (fun _ => by kernel_rfl) (G_val (.pointer (some ⟨g44, 2, none⟩)) (fun _ => by kernel_rfl) (?_))))))))))))
                have HR := hr_neg HR Bool.false_ne_true
                refine G_load 2 2 (.int .i64 p.1.1) hM72 (by kernel_rfl) (G_call (x34 * p.1.1) (fun r : Int => .agg #[.int .i64 (wHi r), .int .u64 (wLo r)]) hM72 hL75 (fun w' hM' => wMul x34 p.1.1 (wr_i64 h35) h_p.1.1 w') (by kernel_rfl) (fun _ => by kernel_rfl) (fun r76 h77 => G_val (.pointer (some ⟨g27, 2, none⟩)) (fun _ => by kernel_rfl) (G_load 4 2 (.int .i64 r14.2.2.1) hM72 (by kernel_rfl) (G_val (.pointer (some ⟨g44, 3, none⟩)) (fun _ => by kernel_rfl) (G_load 2 3 (.int .i64 p.2.1.1) hM72 (by kernel_rfl) (G_call (r14.2.2.1 * p.2.1.1) (fun r : Int => .agg #[.int .i64 (wHi r), .int .u64 (wLo r)]) hM72 hL75 (fun w' hM' => wMul r14.2.2.1 p.2.1.1 ((tr (P := fun r : (Int × Int × Int × Int) × Bool => (InM r.1 ∧ True)) h11 (hitT_I o d1_ p)).out.1.2.2.1) h_p.2.1.1 w') (by kernel_rfl) (fun _ => by kernel_rfl) (fun r78 h79 => G_val (.pointer (some ⟨g27, 3, none⟩)) (fun _ => by kernel_rfl) (G_load 4 3 (.int .i64 r14.2.2.2) hM72 (by kernel_rfl) (G_val (.pointer (some ⟨g44, 4, none⟩)) (fun _ => by kernel_rfl) (G_load 2 4 (.int .i64 p.2.2.1) hM72 (by kernel_rfl) (G_call (r14.2.2.2 * p.2.2.1) (fun r : Int => .agg #[.int .i64 (wHi r), .int .u64 (wLo r)]) hM72 hL75 (fun w' hM' => wMul r14.2.2.2 p.2.2.1 ((tr (P := fun r : (Int × Int × Int × Int) × Bool => (InM r.1 ∧ True)) h11 (hitT_I o d1_ p)).out.1.2.2.2) h_p.2.2.1 w') (by kernel_rfl) (fun _ => by kernel_rfl) (fun r80 h81 => ?_))))))))))))
                have HR := hr_lt HR h77
                have HR := hr_lt HR h79
                have HR := hr_lt HR h81
                refine G_fresh (some 3) #[.int .i64 (wHi r76), .int .u64 (wLo r76), .int .i64 (wHi r78), .int .u64 (wLo r78), .int .i64 (wHi r80), .int .u64 (wLo r80)] 59 hL75 (by kernel_rfl) (fun _ => by kernel_rfl) (fun g82 F83 U84 hL85 => G_call (addW [r76, r78, r80]) (fun r : Int × Bool => .tuple #[.agg #[.int .i64 (wHi r.1), .int .u64 (wLo r.1)], .bool r.2]) hM72 hL85 (fun w' hM' => wAddL [r76, r78, r80] ⟨(tr (P := fun r : Int => InW r) h77 (mul_InW (wr_i64 h35) h_p.1.1)).out, (tr (P := fun r : Int => InW r) h79 (mul_InW ((tr (P := fun r : (Int × Int × Int × Int) × Bool => (InM r.1 ∧ True)) h11 (hitT_I o d1_ p)).out.1.2.2.1) h_p.2.1.1)).out, (tr (P := fun r : Int => InW r) h81 (mul_InW ((tr (P := fun r : (Int × Int × Int × Int) × Bool => (InM r.1 ∧ True)) h11 (hitT_I o d1_ p)).out.1.2.2.2) h_p.2.2.1)).out, trivial⟩ hM' 0 3 3 rfl (by kernel_rfl) (by kernel_rfl)) (by kernel_rfl) (fun _ => by kernel_rfl) (fun r86 h87 => ?_))
                have HR := hr_lt HR h87
                obtain ⟨r88, b90⟩ := r86
                cases b90
                · refine G_val (.tuple #[.agg #[.int .i64 (wHi r88), .int .u64 (wLo r88)], .bool false]) (fun _ => by kernel_rfl) (G_val (.agg #[.int .i64 (wHi r88), .int .u64 (wLo r88)]) (fun _ => by kernel_rfl) (G_val (.bool false) (fun _ => by kernel_rfl) (G_fresh none #[.int .i64 0, .int .u64 0] 59 hL85 (by kernel_rfl) (fun _ => by kernel_rfl) (fun g91 F92 U93 hL94 => G_store 0 0 #[.int .i64 (wHi r88), .int .u64 (wLo r88)] hL94 (by kernel_rfl) (by kernel_rfl) (fun F95 hL96 => G_val (.bool false) (fun _ => by kernel_rfl) (G_nil hM72 hL96 (fun w97 hM98 => S_nil (R_seq (R_region (S_val (.bool false) (by kernel_rfl) (S_val (.bool true) (by kernel_rfl) (?_))))))))))))
                  have HR := hr_neg HR Bool.false_ne_true
                  refine S_val (.bool true) (by kernel_rfl) (S_skip (by kernel_rfl) (S_skip (by kernel_rfl) (S_val (.bool true) (by kernel_rfl) (S_val (.bool true) (by kernel_rfl) (S_skip (by kernel_rfl) (S_skip (by kernel_rfl) (S_skip (by kernel_rfl) (S_val (.bool true) (by kernel_rfl) (S_nil (R_yes (by kernel_rfl) (R_seq (?_))))))))))))
                  refine R_region (S_val (.bool false) (by kernel_rfl) (S_nil (?_)))
                  refine R_ret hM98 rfl (.cons (.tmp _ (.bool false) (by kernel_rfl)) .nil) rfl ?_
                  exact ⟨congrArg Ending.returned HR, hM98.below⟩
                · refine G_val (.tuple #[.agg #[.int .i64 (wHi r88), .int .u64 (wLo r88)], .bool true]) (fun _ => by kernel_rfl) (G_val (.agg #[.int .i64 (wHi r88), .int .u64 (wLo r88)]) (fun _ => by kernel_rfl) (G_val (.bool true) (fun _ => by kernel_rfl) (G_fresh none #[.int .i64 0, .int .u64 0] 59 hL85 (by kernel_rfl) (fun _ => by kernel_rfl) (fun g99 F100 U101 hL102 => G_store 0 0 #[.int .i64 (wHi r88), .int .u64 (wLo r88)] hL102 (by kernel_rfl) (by kernel_rfl) (fun F103 hL104 => G_val (.bool true) (fun _ => by kernel_rfl) (G_nil hM72 hL104 (fun w105 hM106 => S_nil (R_seq (R_region (S_val (.bool false) (by kernel_rfl) (S_val (.bool true) (by kernel_rfl) (?_))))))))))))
                  have HR := hr_pos HR rfl
                  refine S_val (.bool true) (by kernel_rfl) (S_skip (by kernel_rfl) (S_skip (by kernel_rfl) (S_val (.bool true) (by kernel_rfl) (S_val (.bool true) (by kernel_rfl) (S_skip (by kernel_rfl) (S_skip (by kernel_rfl) (S_skip (by kernel_rfl) (S_val (.bool true) (by kernel_rfl) (S_nil (R_yes (by kernel_rfl) (R_seq (?_))))))))))))
                  refine R_region (S_val (.bool false) (by kernel_rfl) (S_nil (?_)))
                  refine R_ret hM106 rfl (.cons (.tmp _ (.bool false) (by kernel_rfl)) .nil) rfl ?_
                  exact ⟨congrArg Ending.returned HR, hM106.below⟩
              · refine G_val (.tuple #[.agg #[.int .i64 (wHi r62), .int .u64 (wLo r62)], .bool true]) (fun _ => by kernel_rfl) (G_val (.agg #[.int .i64 (wHi r62), .int .u64 (wLo r62)]) (fun _ => by kernel_rfl) (G_val (.bool true) (fun _ => by kernel_rfl) (G_fresh none #[.int .i64 0, .int .u64 0] 59 hL59 (by kernel_rfl) (fun _ => by kernel_rfl) (fun g107 F108 U109 hL110 => G_store 0 0 #[.int .i64 (wHi r62), .int .u64 (wLo r62)] hL110 (by kernel_rfl) (by kernel_rfl) (fun F111 hL112 => G_val (.bool true) (fun _ => by kernel_rfl) (G_nil hM48 hL112 (fun w113 hM114 => S_nil (R_seq (R_drawG 22 (by kernel_rfl) (fun F115 U116 hL117 => G_val (.int .i64 x34) (fun _ => by kernel_rfl) (G_val (.pointer (some ⟨g44, 2, none⟩)) (fun _ => by kernel_rfl) (?_))))))))))))
                have HR := hr_pos HR rfl
                refine G_load 2 2 (.int .i64 p.1.1) hM114 (by kernel_rfl) (G_call (x34 * p.1.1) (fun r : Int => .agg #[.int .i64 (wHi r), .int .u64 (wLo r)]) hM114 hL117 (fun w' hM' => wMul x34 p.1.1 (wr_i64 h35) h_p.1.1 w') (by kernel_rfl) (fun _ => by kernel_rfl) (fun r118 h119 => G_val (.pointer (some ⟨g27, 2, none⟩)) (fun _ => by kernel_rfl) (G_load 4 2 (.int .i64 r14.2.2.1) hM114 (by kernel_rfl) (G_val (.pointer (some ⟨g44, 3, none⟩)) (fun _ => by kernel_rfl) (G_load 2 3 (.int .i64 p.2.1.1) hM114 (by kernel_rfl) (G_call (r14.2.2.1 * p.2.1.1) (fun r : Int => .agg #[.int .i64 (wHi r), .int .u64 (wLo r)]) hM114 hL117 (fun w' hM' => wMul r14.2.2.1 p.2.1.1 ((tr (P := fun r : (Int × Int × Int × Int) × Bool => (InM r.1 ∧ True)) h11 (hitT_I o d1_ p)).out.1.2.2.1) h_p.2.1.1 w') (by kernel_rfl) (fun _ => by kernel_rfl) (fun r120 h121 => G_val (.pointer (some ⟨g27, 3, none⟩)) (fun _ => by kernel_rfl) (G_load 4 3 (.int .i64 r14.2.2.2) hM114 (by kernel_rfl) (G_val (.pointer (some ⟨g44, 4, none⟩)) (fun _ => by kernel_rfl) (G_load 2 4 (.int .i64 p.2.2.1) hM114 (by kernel_rfl) (G_call (r14.2.2.2 * p.2.2.1) (fun r : Int => .agg #[.int .i64 (wHi r), .int .u64 (wLo r)]) hM114 hL117 (fun w' hM' => wMul r14.2.2.2 p.2.2.1 ((tr (P := fun r : (Int × Int × Int × Int) × Bool => (InM r.1 ∧ True)) h11 (hitT_I o d1_ p)).out.1.2.2.2) h_p.2.2.1 w') (by kernel_rfl) (fun _ => by kernel_rfl) (fun r122 h123 => ?_))))))))))))
                have HR := hr_lt HR h119
                have HR := hr_lt HR h121
                have HR := hr_lt HR h123
                refine G_fresh (some 3) #[.int .i64 (wHi r118), .int .u64 (wLo r118), .int .i64 (wHi r120), .int .u64 (wLo r120), .int .i64 (wHi r122), .int .u64 (wLo r122)] 59 hL117 (by kernel_rfl) (fun _ => by kernel_rfl) (fun g124 F125 U126 hL127 => G_call (addW [r118, r120, r122]) (fun r : Int × Bool => .tuple #[.agg #[.int .i64 (wHi r.1), .int .u64 (wLo r.1)], .bool r.2]) hM114 hL127 (fun w' hM' => wAddL [r118, r120, r122] ⟨(tr (P := fun r : Int => InW r) h119 (mul_InW (wr_i64 h35) h_p.1.1)).out, (tr (P := fun r : Int => InW r) h121 (mul_InW ((tr (P := fun r : (Int × Int × Int × Int) × Bool => (InM r.1 ∧ True)) h11 (hitT_I o d1_ p)).out.1.2.2.1) h_p.2.1.1)).out, (tr (P := fun r : Int => InW r) h123 (mul_InW ((tr (P := fun r : (Int × Int × Int × Int) × Bool => (InM r.1 ∧ True)) h11 (hitT_I o d1_ p)).out.1.2.2.2) h_p.2.2.1)).out, trivial⟩ hM' 0 3 3 rfl (by kernel_rfl) (by kernel_rfl)) (by kernel_rfl) (fun _ => by kernel_rfl) (fun r128 h129 => ?_))
                have HR := hr_lt HR h129
                obtain ⟨r130, b132⟩ := r128
                cases b132
                · refine G_val (.tuple #[.agg #[.int .i64 (wHi r130), .int .u64 (wLo r130)], .bool false]) (fun _ => by kernel_rfl) (G_val (.agg #[.int .i64 (wHi r130), .int .u64 (wLo r130)]) (fun _ => by kernel_rfl) (G_val (.bool false) (fun _ => by kernel_rfl) (G_fresh none #[.int .i64 0, .int .u64 0] 59 hL127 (by kernel_rfl) (fun _ => by kernel_rfl) (fun g133 F134 U135 hL136 => G_store 0 0 #[.int .i64 (wHi r130), .int .u64 (wLo r130)] hL136 (by kernel_rfl) (by kernel_rfl) (fun F137 hL138 => G_val (.bool false) (fun _ => by kernel_rfl) (G_nil hM114 hL138 (fun w139 hM140 => S_nil (R_seq (R_region (S_val (.bool true) (by kernel_rfl) (S_val (.bool false) (by kernel_rfl) (?_))))))))))))
                  have HR := hr_neg HR Bool.false_ne_true
                  refine S_val (.bool false) (by kernel_rfl) (S_val (.bool false) (by kernel_rfl) (S_val (.bool true) (by kernel_rfl) (S_val (.bool true) (by kernel_rfl) (S_val (.bool true) (by kernel_rfl) (S_skip (by kernel_rfl) (S_skip (by kernel_rfl) (S_skip (by kernel_rfl) (S_val (.bool true) (by kernel_rfl) (S_nil (R_yes (by kernel_rfl) (R_seq (?_))))))))))))
                  refine R_region (S_val (.bool false) (by kernel_rfl) (S_nil (?_)))
                  refine R_ret hM140 rfl (.cons (.tmp _ (.bool false) (by kernel_rfl)) .nil) rfl ?_
                  exact ⟨congrArg Ending.returned HR, hM140.below⟩
                · refine G_val (.tuple #[.agg #[.int .i64 (wHi r130), .int .u64 (wLo r130)], .bool true]) (fun _ => by kernel_rfl) (G_val (.agg #[.int .i64 (wHi r130), .int .u64 (wLo r130)]) (fun _ => by kernel_rfl) (G_val (.bool true) (fun _ => by kernel_rfl) (G_fresh none #[.int .i64 0, .int .u64 0] 59 hL127 (by kernel_rfl) (fun _ => by kernel_rfl) (fun g141 F142 U143 hL144 => G_store 0 0 #[.int .i64 (wHi r130), .int .u64 (wLo r130)] hL144 (by kernel_rfl) (by kernel_rfl) (fun F145 hL146 => G_val (.bool true) (fun _ => by kernel_rfl) (G_nil hM114 hL146 (fun w147 hM148 => S_nil (R_seq (R_region (S_val (.bool true) (by kernel_rfl) (S_val (.bool false) (by kernel_rfl) (?_))))))))))))
                  have HR := hr_pos HR rfl
                  refine S_val (.bool false) (by kernel_rfl) (S_val (.bool true) (by kernel_rfl) (S_val (.bool false) (by kernel_rfl) (S_val (.bool false) (by kernel_rfl) (S_val (.bool false) (by kernel_rfl) (S_load 2 0 (.agg #[.int .i64 (wHi r62), .int .u64 (wLo r62)]) hM148 (by kernel_rfl) (S_load 0 0 (.agg #[.int .i64 (wHi r130), .int .u64 (wLo r130)]) hM148 (by kernel_rfl) (?_)))))))
                  refine S_decn ((r62 : Int) = r130) (eqv_Wn (x := r62) (y := r130) (by kernel_rfl) (by kernel_rfl) (by kernel_rfl)) (fun c149 => ?_) (fun c149 => ?_)
                  · refine S_val (.bool true) (by kernel_rfl) (S_nil (R_yes (by kernel_rfl) (R_seq (R_region (S_val (.bool false) (by kernel_rfl) (S_nil (?_)))))))
                    have HR := hr_neg HR c149
                    refine R_ret hM148 rfl (.cons (.tmp _ (.bool false) (by kernel_rfl)) .nil) rfl ?_
                    exact ⟨congrArg Ending.returned HR, hM148.below⟩
                  · refine S_val (.bool false) (by kernel_rfl) (S_nil (R_no (by kernel_rfl) (R_skip (R_inBlock (R_region (S_val (.int .i64 1) (by kernel_rfl) (S_val (.int .i64 1) (by kernel_rfl) (S_nil (R_inLoop (R_seq (R_region (?_))))))))))))
                    have HR := hr_pos HR c149
                    refine S_val (.bool true) (by kernel_rfl) (S_nil (R_seq (R_yes (by kernel_rfl) (R_skip (R_seq (R_block (R_seq (R_region (S_val (.pointer (some ⟨g41, 5, none⟩)) (by kernel_rfl) (S_load 5 5 (.agg #[.int .i64 o.2.1, .int .i64 d1_.2.1, .int .i64 p.1.2.1, .int .i64 p.2.1.2.1, .int .i64 p.2.2.2.1]) hM148 (by kernel_rfl) (S_fresh none #[.int .i64 0, .int .i64 0, .int .i64 0, .int .i64 0, .int .i64 0] 55 hM148 (by kernel_rfl) (fun g150 w151 hM152 => ?_))))))))))))
                    refine S_store 0 0 #[.int .i64 o.2.1, .int .i64 d1_.2.1, .int .i64 p.1.2.1, .int .i64 p.2.1.2.1, .int .i64 p.2.2.2.1] hM152 (by kernel_rfl) (fun w153 hM154 => S_nil (R_seq (R_drawG 18 (by kernel_rfl) (fun F155 U156 hL157 => G_val (.pointer (some ⟨g27, 1, none⟩)) (fun _ => by kernel_rfl) (G_load 7 1 (.int .i64 r14.2.1) hM154 (by kernel_rfl) (G_val (.pointer (some ⟨g150, 0, none⟩)) (fun _ => by kernel_rfl) (G_load 0 0 (.int .i64 o.2.1) hM154 (by kernel_rfl) (G_call (r14.2.1 * o.2.1) (fun r : Int => .agg #[.int .i64 (wHi r), .int .u64 (wLo r)]) hM154 hL157 (fun w' hM' => wMul r14.2.1 o.2.1 ((tr (P := fun r : (Int × Int × Int × Int) × Bool => (InM r.1 ∧ True)) h11 (hitT_I o d1_ p)).out.1.2.1) h_o.2.1 w') (by kernel_rfl) (fun _ => by kernel_rfl) (fun r158 h159 => G_val (.pointer (some ⟨g27, 0, none⟩)) (fun _ => by kernel_rfl) (G_load 7 0 (.int .i64 r14.1) hM154 (by kernel_rfl) (G_val (.pointer (some ⟨g150, 1, none⟩)) (fun _ => by kernel_rfl) (?_))))))))))))
                    have HR := hr_lt HR h159
                    refine G_load 0 1 (.int .i64 d1_.2.1) hM154 (by kernel_rfl) (G_call (r14.1 * d1_.2.1) (fun r : Int => .agg #[.int .i64 (wHi r), .int .u64 (wLo r)]) hM154 hL157 (fun w' hM' => wMul r14.1 d1_.2.1 ((tr (P := fun r : (Int × Int × Int × Int) × Bool => (InM r.1 ∧ True)) h11 (hitT_I o d1_ p)).out.1.1) h_d1_.2.1 w') (by kernel_rfl) (fun _ => by kernel_rfl) (fun r160 h161 => G_fresh (some 2) #[.int .i64 (wHi r158), .int .u64 (wLo r158), .int .i64 (wHi r160), .int .u64 (wLo r160)] 59 hL157 (by kernel_rfl) (fun _ => by kernel_rfl) (fun g162 F163 U164 hL165 => G_call (addW [r158, r160]) (fun r : Int × Bool => .tuple #[.agg #[.int .i64 (wHi r.1), .int .u64 (wLo r.1)], .bool r.2]) hM154 hL165 (fun w' hM' => wAddL [r158, r160] ⟨(tr (P := fun r : Int => InW r) h159 (mul_InW ((tr (P := fun r : (Int × Int × Int × Int) × Bool => (InM r.1 ∧ True)) h11 (hitT_I o d1_ p)).out.1.2.1) h_o.2.1)).out, (tr (P := fun r : Int => InW r) h161 (mul_InW ((tr (P := fun r : (Int × Int × Int × Int) × Bool => (InM r.1 ∧ True)) h11 (hitT_I o d1_ p)).out.1.1) h_d1_.2.1)).out, trivial⟩ hM' 0 2 2 rfl (by kernel_rfl) (by kernel_rfl)) (by kernel_rfl) (fun _ => by kernel_rfl) (fun r166 h167 => ?_))))
                    have HR := hr_lt HR h161
                    have HR := hr_lt HR h167
                    obtain ⟨r168, b170⟩ := r166
                    cases b170
                    · refine G_val (.tuple #[.agg #[.int .i64 (wHi r168), .int .u64 (wLo r168)], .bool false]) (fun _ => by kernel_rfl) (G_val (.agg #[.int .i64 (wHi r168), .int .u64 (wLo r168)]) (fun _ => by kernel_rfl) (G_val (.bool false) (fun _ => by kernel_rfl) (G_fresh none #[.int .i64 0, .int .u64 0] 59 hL165 (by kernel_rfl) (fun _ => by kernel_rfl) (fun g171 F172 U173 hL174 => G_store 0 0 #[.int .i64 (wHi r168), .int .u64 (wLo r168)] hL174 (by kernel_rfl) (by kernel_rfl) (fun F175 hL176 => G_val (.bool false) (fun _ => by kernel_rfl) (G_nil hM154 hL176 (fun w177 hM178 => S_nil (R_seq (R_drawG 22 (by kernel_rfl) (fun F179 U180 hL181 => G_val (.int .i64 x34) (fun _ => by kernel_rfl) (G_val (.pointer (some ⟨g150, 2, none⟩)) (fun _ => by kernel_rfl) (?_))))))))))))
                      have HR := hr_neg HR Bool.false_ne_true
                      refine G_load 2 2 (.int .i64 p.1.2.1) hM178 (by kernel_rfl) (G_call (x34 * p.1.2.1) (fun r : Int => .agg #[.int .i64 (wHi r), .int .u64 (wLo r)]) hM178 hL181 (fun w' hM' => wMul x34 p.1.2.1 (wr_i64 h35) h_p.1.2.1 w') (by kernel_rfl) (fun _ => by kernel_rfl) (fun r182 h183 => G_val (.pointer (some ⟨g27, 2, none⟩)) (fun _ => by kernel_rfl) (G_load 9 2 (.int .i64 r14.2.2.1) hM178 (by kernel_rfl) (G_val (.pointer (some ⟨g150, 3, none⟩)) (fun _ => by kernel_rfl) (G_load 2 3 (.int .i64 p.2.1.2.1) hM178 (by kernel_rfl) (G_call (r14.2.2.1 * p.2.1.2.1) (fun r : Int => .agg #[.int .i64 (wHi r), .int .u64 (wLo r)]) hM178 hL181 (fun w' hM' => wMul r14.2.2.1 p.2.1.2.1 ((tr (P := fun r : (Int × Int × Int × Int) × Bool => (InM r.1 ∧ True)) h11 (hitT_I o d1_ p)).out.1.2.2.1) h_p.2.1.2.1 w') (by kernel_rfl) (fun _ => by kernel_rfl) (fun r184 h185 => G_val (.pointer (some ⟨g27, 3, none⟩)) (fun _ => by kernel_rfl) (G_load 9 3 (.int .i64 r14.2.2.2) hM178 (by kernel_rfl) (G_val (.pointer (some ⟨g150, 4, none⟩)) (fun _ => by kernel_rfl) (G_load 2 4 (.int .i64 p.2.2.2.1) hM178 (by kernel_rfl) (G_call (r14.2.2.2 * p.2.2.2.1) (fun r : Int => .agg #[.int .i64 (wHi r), .int .u64 (wLo r)]) hM178 hL181 (fun w' hM' => wMul r14.2.2.2 p.2.2.2.1 ((tr (P := fun r : (Int × Int × Int × Int) × Bool => (InM r.1 ∧ True)) h11 (hitT_I o d1_ p)).out.1.2.2.2) h_p.2.2.2.1 w') (by kernel_rfl) (fun _ => by kernel_rfl) (fun r186 h187 => ?_))))))))))))
                      have HR := hr_lt HR h183
                      have HR := hr_lt HR h185
                      have HR := hr_lt HR h187
                      refine G_fresh (some 3) #[.int .i64 (wHi r182), .int .u64 (wLo r182), .int .i64 (wHi r184), .int .u64 (wLo r184), .int .i64 (wHi r186), .int .u64 (wLo r186)] 59 hL181 (by kernel_rfl) (fun _ => by kernel_rfl) (fun g188 F189 U190 hL191 => G_call (addW [r182, r184, r186]) (fun r : Int × Bool => .tuple #[.agg #[.int .i64 (wHi r.1), .int .u64 (wLo r.1)], .bool r.2]) hM178 hL191 (fun w' hM' => wAddL [r182, r184, r186] ⟨(tr (P := fun r : Int => InW r) h183 (mul_InW (wr_i64 h35) h_p.1.2.1)).out, (tr (P := fun r : Int => InW r) h185 (mul_InW ((tr (P := fun r : (Int × Int × Int × Int) × Bool => (InM r.1 ∧ True)) h11 (hitT_I o d1_ p)).out.1.2.2.1) h_p.2.1.2.1)).out, (tr (P := fun r : Int => InW r) h187 (mul_InW ((tr (P := fun r : (Int × Int × Int × Int) × Bool => (InM r.1 ∧ True)) h11 (hitT_I o d1_ p)).out.1.2.2.2) h_p.2.2.2.1)).out, trivial⟩ hM' 0 3 3 rfl (by kernel_rfl) (by kernel_rfl)) (by kernel_rfl) (fun _ => by kernel_rfl) (fun r192 h193 => ?_))
                      have HR := hr_lt HR h193
                      obtain ⟨r194, b196⟩ := r192
                      cases b196
                      · refine G_val (.tuple #[.agg #[.int .i64 (wHi r194), .int .u64 (wLo r194)], .bool false]) (fun _ => by kernel_rfl) (G_val (.agg #[.int .i64 (wHi r194), .int .u64 (wLo r194)]) (fun _ => by kernel_rfl) (G_val (.bool false) (fun _ => by kernel_rfl) (G_fresh none #[.int .i64 0, .int .u64 0] 59 hL191 (by kernel_rfl) (fun _ => by kernel_rfl) (fun g197 F198 U199 hL200 => G_store 0 0 #[.int .i64 (wHi r194), .int .u64 (wLo r194)] hL200 (by kernel_rfl) (by kernel_rfl) (fun F201 hL202 => G_val (.bool false) (fun _ => by kernel_rfl) (G_nil hM178 hL202 (fun w203 hM204 => S_nil (R_seq (R_region (S_val (.bool false) (by kernel_rfl) (S_val (.bool true) (by kernel_rfl) (?_))))))))))))
                        have HR := hr_neg HR Bool.false_ne_true
                        refine S_val (.bool true) (by kernel_rfl) (S_skip (by kernel_rfl) (S_skip (by kernel_rfl) (S_val (.bool true) (by kernel_rfl) (S_val (.bool true) (by kernel_rfl) (S_skip (by kernel_rfl) (S_skip (by kernel_rfl) (S_skip (by kernel_rfl) (S_val (.bool true) (by kernel_rfl) (S_nil (R_yes (by kernel_rfl) (R_seq (?_))))))))))))
                        refine R_region (S_val (.bool false) (by kernel_rfl) (S_nil (?_)))
                        refine R_ret hM204 rfl (.cons (.tmp _ (.bool false) (by kernel_rfl)) .nil) rfl ?_
                        exact ⟨congrArg Ending.returned HR, hM204.below⟩
                      · refine G_val (.tuple #[.agg #[.int .i64 (wHi r194), .int .u64 (wLo r194)], .bool true]) (fun _ => by kernel_rfl) (G_val (.agg #[.int .i64 (wHi r194), .int .u64 (wLo r194)]) (fun _ => by kernel_rfl) (G_val (.bool true) (fun _ => by kernel_rfl) (G_fresh none #[.int .i64 0, .int .u64 0] 59 hL191 (by kernel_rfl) (fun _ => by kernel_rfl) (fun g205 F206 U207 hL208 => G_store 0 0 #[.int .i64 (wHi r194), .int .u64 (wLo r194)] hL208 (by kernel_rfl) (by kernel_rfl) (fun F209 hL210 => G_val (.bool true) (fun _ => by kernel_rfl) (G_nil hM178 hL210 (fun w211 hM212 => S_nil (R_seq (R_region (S_val (.bool false) (by kernel_rfl) (S_val (.bool true) (by kernel_rfl) (?_))))))))))))
                        have HR := hr_pos HR rfl
                        refine S_val (.bool true) (by kernel_rfl) (S_skip (by kernel_rfl) (S_skip (by kernel_rfl) (S_val (.bool true) (by kernel_rfl) (S_val (.bool true) (by kernel_rfl) (S_skip (by kernel_rfl) (S_skip (by kernel_rfl) (S_skip (by kernel_rfl) (S_val (.bool true) (by kernel_rfl) (S_nil (R_yes (by kernel_rfl) (R_seq (?_))))))))))))
                        refine R_region (S_val (.bool false) (by kernel_rfl) (S_nil (?_)))
                        refine R_ret hM212 rfl (.cons (.tmp _ (.bool false) (by kernel_rfl)) .nil) rfl ?_
                        exact ⟨congrArg Ending.returned HR, hM212.below⟩
                    · refine G_val (.tuple #[.agg #[.int .i64 (wHi r168), .int .u64 (wLo r168)], .bool true]) (fun _ => by kernel_rfl) (G_val (.agg #[.int .i64 (wHi r168), .int .u64 (wLo r168)]) (fun _ => by kernel_rfl) (G_val (.bool true) (fun _ => by kernel_rfl) (G_fresh none #[.int .i64 0, .int .u64 0] 59 hL165 (by kernel_rfl) (fun _ => by kernel_rfl) (fun g213 F214 U215 hL216 => G_store 0 0 #[.int .i64 (wHi r168), .int .u64 (wLo r168)] hL216 (by kernel_rfl) (by kernel_rfl) (fun F217 hL218 => G_val (.bool true) (fun _ => by kernel_rfl) (G_nil hM154 hL218 (fun w219 hM220 => S_nil (R_seq (R_drawG 22 (by kernel_rfl) (fun F221 U222 hL223 => G_val (.int .i64 x34) (fun _ => by kernel_rfl) (G_val (.pointer (some ⟨g150, 2, none⟩)) (fun _ => by kernel_rfl) (?_))))))))))))
                      have HR := hr_pos HR rfl
                      refine G_load 2 2 (.int .i64 p.1.2.1) hM220 (by kernel_rfl) (G_call (x34 * p.1.2.1) (fun r : Int => .agg #[.int .i64 (wHi r), .int .u64 (wLo r)]) hM220 hL223 (fun w' hM' => wMul x34 p.1.2.1 (wr_i64 h35) h_p.1.2.1 w') (by kernel_rfl) (fun _ => by kernel_rfl) (fun r224 h225 => G_val (.pointer (some ⟨g27, 2, none⟩)) (fun _ => by kernel_rfl) (G_load 9 2 (.int .i64 r14.2.2.1) hM220 (by kernel_rfl) (G_val (.pointer (some ⟨g150, 3, none⟩)) (fun _ => by kernel_rfl) (G_load 2 3 (.int .i64 p.2.1.2.1) hM220 (by kernel_rfl) (G_call (r14.2.2.1 * p.2.1.2.1) (fun r : Int => .agg #[.int .i64 (wHi r), .int .u64 (wLo r)]) hM220 hL223 (fun w' hM' => wMul r14.2.2.1 p.2.1.2.1 ((tr (P := fun r : (Int × Int × Int × Int) × Bool => (InM r.1 ∧ True)) h11 (hitT_I o d1_ p)).out.1.2.2.1) h_p.2.1.2.1 w') (by kernel_rfl) (fun _ => by kernel_rfl) (fun r226 h227 => G_val (.pointer (some ⟨g27, 3, none⟩)) (fun _ => by kernel_rfl) (G_load 9 3 (.int .i64 r14.2.2.2) hM220 (by kernel_rfl) (G_val (.pointer (some ⟨g150, 4, none⟩)) (fun _ => by kernel_rfl) (G_load 2 4 (.int .i64 p.2.2.2.1) hM220 (by kernel_rfl) (G_call (r14.2.2.2 * p.2.2.2.1) (fun r : Int => .agg #[.int .i64 (wHi r), .int .u64 (wLo r)]) hM220 hL223 (fun w' hM' => wMul r14.2.2.2 p.2.2.2.1 ((tr (P := fun r : (Int × Int × Int × Int) × Bool => (InM r.1 ∧ True)) h11 (hitT_I o d1_ p)).out.1.2.2.2) h_p.2.2.2.1 w') (by kernel_rfl) (fun _ => by kernel_rfl) (fun r228 h229 => ?_))))))))))))
                      have HR := hr_lt HR h225
                      have HR := hr_lt HR h227
                      have HR := hr_lt HR h229
                      refine G_fresh (some 3) #[.int .i64 (wHi r224), .int .u64 (wLo r224), .int .i64 (wHi r226), .int .u64 (wLo r226), .int .i64 (wHi r228), .int .u64 (wLo r228)] 59 hL223 (by kernel_rfl) (fun _ => by kernel_rfl) (fun g230 F231 U232 hL233 => G_call (addW [r224, r226, r228]) (fun r : Int × Bool => .tuple #[.agg #[.int .i64 (wHi r.1), .int .u64 (wLo r.1)], .bool r.2]) hM220 hL233 (fun w' hM' => wAddL [r224, r226, r228] ⟨(tr (P := fun r : Int => InW r) h225 (mul_InW (wr_i64 h35) h_p.1.2.1)).out, (tr (P := fun r : Int => InW r) h227 (mul_InW ((tr (P := fun r : (Int × Int × Int × Int) × Bool => (InM r.1 ∧ True)) h11 (hitT_I o d1_ p)).out.1.2.2.1) h_p.2.1.2.1)).out, (tr (P := fun r : Int => InW r) h229 (mul_InW ((tr (P := fun r : (Int × Int × Int × Int) × Bool => (InM r.1 ∧ True)) h11 (hitT_I o d1_ p)).out.1.2.2.2) h_p.2.2.2.1)).out, trivial⟩ hM' 0 3 3 rfl (by kernel_rfl) (by kernel_rfl)) (by kernel_rfl) (fun _ => by kernel_rfl) (fun r234 h235 => ?_))
                      have HR := hr_lt HR h235
                      obtain ⟨r236, b238⟩ := r234
                      cases b238
                      · refine G_val (.tuple #[.agg #[.int .i64 (wHi r236), .int .u64 (wLo r236)], .bool false]) (fun _ => by kernel_rfl) (G_val (.agg #[.int .i64 (wHi r236), .int .u64 (wLo r236)]) (fun _ => by kernel_rfl) (G_val (.bool false) (fun _ => by kernel_rfl) (G_fresh none #[.int .i64 0, .int .u64 0] 59 hL233 (by kernel_rfl) (fun _ => by kernel_rfl) (fun g239 F240 U241 hL242 => G_store 0 0 #[.int .i64 (wHi r236), .int .u64 (wLo r236)] hL242 (by kernel_rfl) (by kernel_rfl) (fun F243 hL244 => G_val (.bool false) (fun _ => by kernel_rfl) (G_nil hM220 hL244 (fun w245 hM246 => S_nil (R_seq (R_region (S_val (.bool true) (by kernel_rfl) (S_val (.bool false) (by kernel_rfl) (?_))))))))))))
                        have HR := hr_neg HR Bool.false_ne_true
                        refine S_val (.bool false) (by kernel_rfl) (S_val (.bool false) (by kernel_rfl) (S_val (.bool true) (by kernel_rfl) (S_val (.bool true) (by kernel_rfl) (S_val (.bool true) (by kernel_rfl) (S_skip (by kernel_rfl) (S_skip (by kernel_rfl) (S_skip (by kernel_rfl) (S_val (.bool true) (by kernel_rfl) (S_nil (R_yes (by kernel_rfl) (R_seq (?_))))))))))))
                        refine R_region (S_val (.bool false) (by kernel_rfl) (S_nil (?_)))
                        refine R_ret hM246 rfl (.cons (.tmp _ (.bool false) (by kernel_rfl)) .nil) rfl ?_
                        exact ⟨congrArg Ending.returned HR, hM246.below⟩
                      · refine G_val (.tuple #[.agg #[.int .i64 (wHi r236), .int .u64 (wLo r236)], .bool true]) (fun _ => by kernel_rfl) (G_val (.agg #[.int .i64 (wHi r236), .int .u64 (wLo r236)]) (fun _ => by kernel_rfl) (G_val (.bool true) (fun _ => by kernel_rfl) (G_fresh none #[.int .i64 0, .int .u64 0] 59 hL233 (by kernel_rfl) (fun _ => by kernel_rfl) (fun g247 F248 U249 hL250 => G_store 0 0 #[.int .i64 (wHi r236), .int .u64 (wLo r236)] hL250 (by kernel_rfl) (by kernel_rfl) (fun F251 hL252 => G_val (.bool true) (fun _ => by kernel_rfl) (G_nil hM220 hL252 (fun w253 hM254 => S_nil (R_seq (R_region (S_val (.bool true) (by kernel_rfl) (S_val (.bool false) (by kernel_rfl) (?_))))))))))))
                        have HR := hr_pos HR rfl
                        refine S_val (.bool false) (by kernel_rfl) (S_val (.bool true) (by kernel_rfl) (S_val (.bool false) (by kernel_rfl) (S_val (.bool false) (by kernel_rfl) (S_val (.bool false) (by kernel_rfl) (S_load 2 0 (.agg #[.int .i64 (wHi r168), .int .u64 (wLo r168)]) hM254 (by kernel_rfl) (S_load 0 0 (.agg #[.int .i64 (wHi r236), .int .u64 (wLo r236)]) hM254 (by kernel_rfl) (?_)))))))
                        refine S_decn ((r168 : Int) = r236) (eqv_Wn (x := r168) (y := r236) (by kernel_rfl) (by kernel_rfl) (by kernel_rfl)) (fun c255 => ?_) (fun c255 => ?_)
                        · refine S_val (.bool true) (by kernel_rfl) (S_nil (R_yes (by kernel_rfl) (R_seq (R_region (S_val (.bool false) (by kernel_rfl) (S_nil (?_)))))))
                          have HR := hr_neg HR c255
                          refine R_ret hM254 rfl (.cons (.tmp _ (.bool false) (by kernel_rfl)) .nil) rfl ?_
                          exact ⟨congrArg Ending.returned HR, hM254.below⟩
                        · refine S_val (.bool false) (by kernel_rfl) (S_nil (R_no (by kernel_rfl) (R_skip (R_inBlock (R_region (S_val (.int .i64 2) (by kernel_rfl) (S_val (.int .i64 2) (by kernel_rfl) (S_nil (R_inLoop (R_seq (R_region (?_))))))))))))
                          have HR := hr_pos HR c255
                          refine S_val (.bool true) (by kernel_rfl) (S_nil (R_seq (R_yes (by kernel_rfl) (R_skip (R_seq (R_block (R_seq (R_region (S_val (.pointer (some ⟨g41, 10, none⟩)) (by kernel_rfl) (S_load 10 10 (.agg #[.int .i64 o.2.2, .int .i64 d1_.2.2, .int .i64 p.1.2.2, .int .i64 p.2.1.2.2, .int .i64 p.2.2.2.2]) hM254 (by kernel_rfl) (S_fresh none #[.int .i64 0, .int .i64 0, .int .i64 0, .int .i64 0, .int .i64 0] 55 hM254 (by kernel_rfl) (fun g256 w257 hM258 => ?_))))))))))))
                          refine S_store 0 0 #[.int .i64 o.2.2, .int .i64 d1_.2.2, .int .i64 p.1.2.2, .int .i64 p.2.1.2.2, .int .i64 p.2.2.2.2] hM258 (by kernel_rfl) (fun w259 hM260 => S_nil (R_seq (R_drawG 18 (by kernel_rfl) (fun F261 U262 hL263 => G_val (.pointer (some ⟨g27, 1, none⟩)) (fun _ => by kernel_rfl) (G_load 12 1 (.int .i64 r14.2.1) hM260 (by kernel_rfl) (G_val (.pointer (some ⟨g256, 0, none⟩)) (fun _ => by kernel_rfl) (G_load 0 0 (.int .i64 o.2.2) hM260 (by kernel_rfl) (G_call (r14.2.1 * o.2.2) (fun r : Int => .agg #[.int .i64 (wHi r), .int .u64 (wLo r)]) hM260 hL263 (fun w' hM' => wMul r14.2.1 o.2.2 ((tr (P := fun r : (Int × Int × Int × Int) × Bool => (InM r.1 ∧ True)) h11 (hitT_I o d1_ p)).out.1.2.1) h_o.2.2 w') (by kernel_rfl) (fun _ => by kernel_rfl) (fun r264 h265 => G_val (.pointer (some ⟨g27, 0, none⟩)) (fun _ => by kernel_rfl) (G_load 12 0 (.int .i64 r14.1) hM260 (by kernel_rfl) (G_val (.pointer (some ⟨g256, 1, none⟩)) (fun _ => by kernel_rfl) (?_))))))))))))
                          have HR := hr_lt HR h265
                          refine G_load 0 1 (.int .i64 d1_.2.2) hM260 (by kernel_rfl) (G_call (r14.1 * d1_.2.2) (fun r : Int => .agg #[.int .i64 (wHi r), .int .u64 (wLo r)]) hM260 hL263 (fun w' hM' => wMul r14.1 d1_.2.2 ((tr (P := fun r : (Int × Int × Int × Int) × Bool => (InM r.1 ∧ True)) h11 (hitT_I o d1_ p)).out.1.1) h_d1_.2.2 w') (by kernel_rfl) (fun _ => by kernel_rfl) (fun r266 h267 => G_fresh (some 2) #[.int .i64 (wHi r264), .int .u64 (wLo r264), .int .i64 (wHi r266), .int .u64 (wLo r266)] 59 hL263 (by kernel_rfl) (fun _ => by kernel_rfl) (fun g268 F269 U270 hL271 => G_call (addW [r264, r266]) (fun r : Int × Bool => .tuple #[.agg #[.int .i64 (wHi r.1), .int .u64 (wLo r.1)], .bool r.2]) hM260 hL271 (fun w' hM' => wAddL [r264, r266] ⟨(tr (P := fun r : Int => InW r) h265 (mul_InW ((tr (P := fun r : (Int × Int × Int × Int) × Bool => (InM r.1 ∧ True)) h11 (hitT_I o d1_ p)).out.1.2.1) h_o.2.2)).out, (tr (P := fun r : Int => InW r) h267 (mul_InW ((tr (P := fun r : (Int × Int × Int × Int) × Bool => (InM r.1 ∧ True)) h11 (hitT_I o d1_ p)).out.1.1) h_d1_.2.2)).out, trivial⟩ hM' 0 2 2 rfl (by kernel_rfl) (by kernel_rfl)) (by kernel_rfl) (fun _ => by kernel_rfl) (fun r272 h273 => ?_))))
                          have HR := hr_lt HR h267
                          have HR := hr_lt HR h273
                          obtain ⟨r274, b276⟩ := r272
                          cases b276
                          · refine G_val (.tuple #[.agg #[.int .i64 (wHi r274), .int .u64 (wLo r274)], .bool false]) (fun _ => by kernel_rfl) (G_val (.agg #[.int .i64 (wHi r274), .int .u64 (wLo r274)]) (fun _ => by kernel_rfl) (G_val (.bool false) (fun _ => by kernel_rfl) (G_fresh none #[.int .i64 0, .int .u64 0] 59 hL271 (by kernel_rfl) (fun _ => by kernel_rfl) (fun g277 F278 U279 hL280 => G_store 0 0 #[.int .i64 (wHi r274), .int .u64 (wLo r274)] hL280 (by kernel_rfl) (by kernel_rfl) (fun F281 hL282 => G_val (.bool false) (fun _ => by kernel_rfl) (G_nil hM260 hL282 (fun w283 hM284 => S_nil (R_seq (R_drawG 22 (by kernel_rfl) (fun F285 U286 hL287 => G_val (.int .i64 x34) (fun _ => by kernel_rfl) (G_val (.pointer (some ⟨g256, 2, none⟩)) (fun _ => by kernel_rfl) (?_))))))))))))
                            have HR := hr_neg HR Bool.false_ne_true
                            refine G_load 2 2 (.int .i64 p.1.2.2) hM284 (by kernel_rfl) (G_call (x34 * p.1.2.2) (fun r : Int => .agg #[.int .i64 (wHi r), .int .u64 (wLo r)]) hM284 hL287 (fun w' hM' => wMul x34 p.1.2.2 (wr_i64 h35) h_p.1.2.2 w') (by kernel_rfl) (fun _ => by kernel_rfl) (fun r288 h289 => G_val (.pointer (some ⟨g27, 2, none⟩)) (fun _ => by kernel_rfl) (G_load 14 2 (.int .i64 r14.2.2.1) hM284 (by kernel_rfl) (G_val (.pointer (some ⟨g256, 3, none⟩)) (fun _ => by kernel_rfl) (G_load 2 3 (.int .i64 p.2.1.2.2) hM284 (by kernel_rfl) (G_call (r14.2.2.1 * p.2.1.2.2) (fun r : Int => .agg #[.int .i64 (wHi r), .int .u64 (wLo r)]) hM284 hL287 (fun w' hM' => wMul r14.2.2.1 p.2.1.2.2 ((tr (P := fun r : (Int × Int × Int × Int) × Bool => (InM r.1 ∧ True)) h11 (hitT_I o d1_ p)).out.1.2.2.1) h_p.2.1.2.2 w') (by kernel_rfl) (fun _ => by kernel_rfl) (fun r290 h291 => G_val (.pointer (some ⟨g27, 3, none⟩)) (fun _ => by kernel_rfl) (G_load 14 3 (.int .i64 r14.2.2.2) hM284 (by kernel_rfl) (G_val (.pointer (some ⟨g256, 4, none⟩)) (fun _ => by kernel_rfl) (G_load 2 4 (.int .i64 p.2.2.2.2) hM284 (by kernel_rfl) (G_call (r14.2.2.2 * p.2.2.2.2) (fun r : Int => .agg #[.int .i64 (wHi r), .int .u64 (wLo r)]) hM284 hL287 (fun w' hM' => wMul r14.2.2.2 p.2.2.2.2 ((tr (P := fun r : (Int × Int × Int × Int) × Bool => (InM r.1 ∧ True)) h11 (hitT_I o d1_ p)).out.1.2.2.2) h_p.2.2.2.2 w') (by kernel_rfl) (fun _ => by kernel_rfl) (fun r292 h293 => ?_))))))))))))
                            have HR := hr_lt HR h289
                            have HR := hr_lt HR h291
                            have HR := hr_lt HR h293
                            refine G_fresh (some 3) #[.int .i64 (wHi r288), .int .u64 (wLo r288), .int .i64 (wHi r290), .int .u64 (wLo r290), .int .i64 (wHi r292), .int .u64 (wLo r292)] 59 hL287 (by kernel_rfl) (fun _ => by kernel_rfl) (fun g294 F295 U296 hL297 => G_call (addW [r288, r290, r292]) (fun r : Int × Bool => .tuple #[.agg #[.int .i64 (wHi r.1), .int .u64 (wLo r.1)], .bool r.2]) hM284 hL297 (fun w' hM' => wAddL [r288, r290, r292] ⟨(tr (P := fun r : Int => InW r) h289 (mul_InW (wr_i64 h35) h_p.1.2.2)).out, (tr (P := fun r : Int => InW r) h291 (mul_InW ((tr (P := fun r : (Int × Int × Int × Int) × Bool => (InM r.1 ∧ True)) h11 (hitT_I o d1_ p)).out.1.2.2.1) h_p.2.1.2.2)).out, (tr (P := fun r : Int => InW r) h293 (mul_InW ((tr (P := fun r : (Int × Int × Int × Int) × Bool => (InM r.1 ∧ True)) h11 (hitT_I o d1_ p)).out.1.2.2.2) h_p.2.2.2.2)).out, trivial⟩ hM' 0 3 3 rfl (by kernel_rfl) (by kernel_rfl)) (by kernel_rfl) (fun _ => by kernel_rfl) (fun r298 h299 => ?_))
                            have HR := hr_lt HR h299
                            obtain ⟨r300, b302⟩ := r298
                            cases b302
                            · refine G_val (.tuple #[.agg #[.int .i64 (wHi r300), .int .u64 (wLo r300)], .bool false]) (fun _ => by kernel_rfl) (G_val (.agg #[.int .i64 (wHi r300), .int .u64 (wLo r300)]) (fun _ => by kernel_rfl) (G_val (.bool false) (fun _ => by kernel_rfl) (G_fresh none #[.int .i64 0, .int .u64 0] 59 hL297 (by kernel_rfl) (fun _ => by kernel_rfl) (fun g303 F304 U305 hL306 => G_store 0 0 #[.int .i64 (wHi r300), .int .u64 (wLo r300)] hL306 (by kernel_rfl) (by kernel_rfl) (fun F307 hL308 => G_val (.bool false) (fun _ => by kernel_rfl) (G_nil hM284 hL308 (fun w309 hM310 => S_nil (R_seq (R_region (S_val (.bool false) (by kernel_rfl) (S_val (.bool true) (by kernel_rfl) (?_))))))))))))
                              have HR := hr_neg HR Bool.false_ne_true
                              refine S_val (.bool true) (by kernel_rfl) (S_skip (by kernel_rfl) (S_skip (by kernel_rfl) (S_val (.bool true) (by kernel_rfl) (S_val (.bool true) (by kernel_rfl) (S_skip (by kernel_rfl) (S_skip (by kernel_rfl) (S_skip (by kernel_rfl) (S_val (.bool true) (by kernel_rfl) (S_nil (R_yes (by kernel_rfl) (R_seq (?_))))))))))))
                              refine R_region (S_val (.bool false) (by kernel_rfl) (S_nil (?_)))
                              refine R_ret hM310 rfl (.cons (.tmp _ (.bool false) (by kernel_rfl)) .nil) rfl ?_
                              exact ⟨congrArg Ending.returned HR, hM310.below⟩
                            · refine G_val (.tuple #[.agg #[.int .i64 (wHi r300), .int .u64 (wLo r300)], .bool true]) (fun _ => by kernel_rfl) (G_val (.agg #[.int .i64 (wHi r300), .int .u64 (wLo r300)]) (fun _ => by kernel_rfl) (G_val (.bool true) (fun _ => by kernel_rfl) (G_fresh none #[.int .i64 0, .int .u64 0] 59 hL297 (by kernel_rfl) (fun _ => by kernel_rfl) (fun g311 F312 U313 hL314 => G_store 0 0 #[.int .i64 (wHi r300), .int .u64 (wLo r300)] hL314 (by kernel_rfl) (by kernel_rfl) (fun F315 hL316 => G_val (.bool true) (fun _ => by kernel_rfl) (G_nil hM284 hL316 (fun w317 hM318 => S_nil (R_seq (R_region (S_val (.bool false) (by kernel_rfl) (S_val (.bool true) (by kernel_rfl) (?_))))))))))))
                              have HR := hr_pos HR rfl
                              refine S_val (.bool true) (by kernel_rfl) (S_skip (by kernel_rfl) (S_skip (by kernel_rfl) (S_val (.bool true) (by kernel_rfl) (S_val (.bool true) (by kernel_rfl) (S_skip (by kernel_rfl) (S_skip (by kernel_rfl) (S_skip (by kernel_rfl) (S_val (.bool true) (by kernel_rfl) (S_nil (R_yes (by kernel_rfl) (R_seq (?_))))))))))))
                              refine R_region (S_val (.bool false) (by kernel_rfl) (S_nil (?_)))
                              refine R_ret hM318 rfl (.cons (.tmp _ (.bool false) (by kernel_rfl)) .nil) rfl ?_
                              exact ⟨congrArg Ending.returned HR, hM318.below⟩
                          · refine G_val (.tuple #[.agg #[.int .i64 (wHi r274), .int .u64 (wLo r274)], .bool true]) (fun _ => by kernel_rfl) (G_val (.agg #[.int .i64 (wHi r274), .int .u64 (wLo r274)]) (fun _ => by kernel_rfl) (G_val (.bool true) (fun _ => by kernel_rfl) (G_fresh none #[.int .i64 0, .int .u64 0] 59 hL271 (by kernel_rfl) (fun _ => by kernel_rfl) (fun g319 F320 U321 hL322 => G_store 0 0 #[.int .i64 (wHi r274), .int .u64 (wLo r274)] hL322 (by kernel_rfl) (by kernel_rfl) (fun F323 hL324 => G_val (.bool true) (fun _ => by kernel_rfl) (G_nil hM260 hL324 (fun w325 hM326 => S_nil (R_seq (R_drawG 22 (by kernel_rfl) (fun F327 U328 hL329 => G_val (.int .i64 x34) (fun _ => by kernel_rfl) (G_val (.pointer (some ⟨g256, 2, none⟩)) (fun _ => by kernel_rfl) (?_))))))))))))
                            have HR := hr_pos HR rfl
                            refine G_load 2 2 (.int .i64 p.1.2.2) hM326 (by kernel_rfl) (G_call (x34 * p.1.2.2) (fun r : Int => .agg #[.int .i64 (wHi r), .int .u64 (wLo r)]) hM326 hL329 (fun w' hM' => wMul x34 p.1.2.2 (wr_i64 h35) h_p.1.2.2 w') (by kernel_rfl) (fun _ => by kernel_rfl) (fun r330 h331 => G_val (.pointer (some ⟨g27, 2, none⟩)) (fun _ => by kernel_rfl) (G_load 14 2 (.int .i64 r14.2.2.1) hM326 (by kernel_rfl) (G_val (.pointer (some ⟨g256, 3, none⟩)) (fun _ => by kernel_rfl) (G_load 2 3 (.int .i64 p.2.1.2.2) hM326 (by kernel_rfl) (G_call (r14.2.2.1 * p.2.1.2.2) (fun r : Int => .agg #[.int .i64 (wHi r), .int .u64 (wLo r)]) hM326 hL329 (fun w' hM' => wMul r14.2.2.1 p.2.1.2.2 ((tr (P := fun r : (Int × Int × Int × Int) × Bool => (InM r.1 ∧ True)) h11 (hitT_I o d1_ p)).out.1.2.2.1) h_p.2.1.2.2 w') (by kernel_rfl) (fun _ => by kernel_rfl) (fun r332 h333 => G_val (.pointer (some ⟨g27, 3, none⟩)) (fun _ => by kernel_rfl) (G_load 14 3 (.int .i64 r14.2.2.2) hM326 (by kernel_rfl) (G_val (.pointer (some ⟨g256, 4, none⟩)) (fun _ => by kernel_rfl) (G_load 2 4 (.int .i64 p.2.2.2.2) hM326 (by kernel_rfl) (G_call (r14.2.2.2 * p.2.2.2.2) (fun r : Int => .agg #[.int .i64 (wHi r), .int .u64 (wLo r)]) hM326 hL329 (fun w' hM' => wMul r14.2.2.2 p.2.2.2.2 ((tr (P := fun r : (Int × Int × Int × Int) × Bool => (InM r.1 ∧ True)) h11 (hitT_I o d1_ p)).out.1.2.2.2) h_p.2.2.2.2 w') (by kernel_rfl) (fun _ => by kernel_rfl) (fun r334 h335 => ?_))))))))))))
                            have HR := hr_lt HR h331
                            have HR := hr_lt HR h333
                            have HR := hr_lt HR h335
                            refine G_fresh (some 3) #[.int .i64 (wHi r330), .int .u64 (wLo r330), .int .i64 (wHi r332), .int .u64 (wLo r332), .int .i64 (wHi r334), .int .u64 (wLo r334)] 59 hL329 (by kernel_rfl) (fun _ => by kernel_rfl) (fun g336 F337 U338 hL339 => G_call (addW [r330, r332, r334]) (fun r : Int × Bool => .tuple #[.agg #[.int .i64 (wHi r.1), .int .u64 (wLo r.1)], .bool r.2]) hM326 hL339 (fun w' hM' => wAddL [r330, r332, r334] ⟨(tr (P := fun r : Int => InW r) h331 (mul_InW (wr_i64 h35) h_p.1.2.2)).out, (tr (P := fun r : Int => InW r) h333 (mul_InW ((tr (P := fun r : (Int × Int × Int × Int) × Bool => (InM r.1 ∧ True)) h11 (hitT_I o d1_ p)).out.1.2.2.1) h_p.2.1.2.2)).out, (tr (P := fun r : Int => InW r) h335 (mul_InW ((tr (P := fun r : (Int × Int × Int × Int) × Bool => (InM r.1 ∧ True)) h11 (hitT_I o d1_ p)).out.1.2.2.2) h_p.2.2.2.2)).out, trivial⟩ hM' 0 3 3 rfl (by kernel_rfl) (by kernel_rfl)) (by kernel_rfl) (fun _ => by kernel_rfl) (fun r340 h341 => ?_))
                            have HR := hr_lt HR h341
                            obtain ⟨r342, b344⟩ := r340
                            cases b344
                            · refine G_val (.tuple #[.agg #[.int .i64 (wHi r342), .int .u64 (wLo r342)], .bool false]) (fun _ => by kernel_rfl) (G_val (.agg #[.int .i64 (wHi r342), .int .u64 (wLo r342)]) (fun _ => by kernel_rfl) (G_val (.bool false) (fun _ => by kernel_rfl) (G_fresh none #[.int .i64 0, .int .u64 0] 59 hL339 (by kernel_rfl) (fun _ => by kernel_rfl) (fun g345 F346 U347 hL348 => G_store 0 0 #[.int .i64 (wHi r342), .int .u64 (wLo r342)] hL348 (by kernel_rfl) (by kernel_rfl) (fun F349 hL350 => G_val (.bool false) (fun _ => by kernel_rfl) (G_nil hM326 hL350 (fun w351 hM352 => S_nil (R_seq (R_region (S_val (.bool true) (by kernel_rfl) (S_val (.bool false) (by kernel_rfl) (?_))))))))))))
                              have HR := hr_neg HR Bool.false_ne_true
                              refine S_val (.bool false) (by kernel_rfl) (S_val (.bool false) (by kernel_rfl) (S_val (.bool true) (by kernel_rfl) (S_val (.bool true) (by kernel_rfl) (S_val (.bool true) (by kernel_rfl) (S_skip (by kernel_rfl) (S_skip (by kernel_rfl) (S_skip (by kernel_rfl) (S_val (.bool true) (by kernel_rfl) (S_nil (R_yes (by kernel_rfl) (R_seq (?_))))))))))))
                              refine R_region (S_val (.bool false) (by kernel_rfl) (S_nil (?_)))
                              refine R_ret hM352 rfl (.cons (.tmp _ (.bool false) (by kernel_rfl)) .nil) rfl ?_
                              exact ⟨congrArg Ending.returned HR, hM352.below⟩
                            · refine G_val (.tuple #[.agg #[.int .i64 (wHi r342), .int .u64 (wLo r342)], .bool true]) (fun _ => by kernel_rfl) (G_val (.agg #[.int .i64 (wHi r342), .int .u64 (wLo r342)]) (fun _ => by kernel_rfl) (G_val (.bool true) (fun _ => by kernel_rfl) (G_fresh none #[.int .i64 0, .int .u64 0] 59 hL339 (by kernel_rfl) (fun _ => by kernel_rfl) (fun g353 F354 U355 hL356 => G_store 0 0 #[.int .i64 (wHi r342), .int .u64 (wLo r342)] hL356 (by kernel_rfl) (by kernel_rfl) (fun F357 hL358 => G_val (.bool true) (fun _ => by kernel_rfl) (G_nil hM326 hL358 (fun w359 hM360 => S_nil (R_seq (R_region (S_val (.bool true) (by kernel_rfl) (S_val (.bool false) (by kernel_rfl) (?_))))))))))))
                              have HR := hr_pos HR rfl
                              refine S_val (.bool false) (by kernel_rfl) (S_val (.bool true) (by kernel_rfl) (S_val (.bool false) (by kernel_rfl) (S_val (.bool false) (by kernel_rfl) (S_val (.bool false) (by kernel_rfl) (S_load 2 0 (.agg #[.int .i64 (wHi r274), .int .u64 (wLo r274)]) hM360 (by kernel_rfl) (S_load 0 0 (.agg #[.int .i64 (wHi r342), .int .u64 (wLo r342)]) hM360 (by kernel_rfl) (?_)))))))
                              refine S_decn ((r274 : Int) = r342) (eqv_Wn (x := r274) (y := r342) (by kernel_rfl) (by kernel_rfl) (by kernel_rfl)) (fun c361 => ?_) (fun c361 => ?_)
                              · refine S_val (.bool true) (by kernel_rfl) (S_nil (R_yes (by kernel_rfl) (R_seq (R_region (S_val (.bool false) (by kernel_rfl) (S_nil (?_)))))))
                                have HR := hr_neg HR c361
                                refine R_ret hM360 rfl (.cons (.tmp _ (.bool false) (by kernel_rfl)) .nil) rfl ?_
                                exact ⟨congrArg Ending.returned HR, hM360.below⟩
                              · refine S_val (.bool false) (by kernel_rfl) (S_nil (R_no (by kernel_rfl) (R_skip (R_inBlock (R_region (S_val (.int .i64 3) (by kernel_rfl) (S_val (.int .i64 3) (by kernel_rfl) (S_nil (R_inLoop (R_seq (R_region (?_))))))))))))
                                have HR := hr_pos HR c361
                                refine S_val (.bool false) (by kernel_rfl) (S_nil (R_seq (R_no (by kernel_rfl) (R_exit rfl (R_seq (R_region (S_call (s_umbralaw20_works ) (fun r : Bool => .bool r) hM360 (w_umbralaw20_works  w359) (by kernel_rfl) (fun r362 h363 w364 hM365 => ?_))))))))
                                have HR := hr_lt HR h363
                                cases r362
                                · refine S_val (.bool false) (by kernel_rfl) (S_nil (?_))
                                  have HR := hr_neg HR Bool.false_ne_true
                                  refine R_ret hM365 rfl (.cons (.tmp _ (.bool false) (by kernel_rfl)) .nil) rfl ?_
                                  exact ⟨congrArg Ending.returned HR, hM365.below⟩
                                · refine S_val (.bool true) (by kernel_rfl) (S_nil (?_))
                                  have HR := hr_pos HR rfl
                                  refine R_ret hM365 rfl (.cons (.tmp _ (.bool true) (by kernel_rfl)) .nil) rfl ?_
                                  exact ⟨congrArg Ending.returned HR, hM365.below⟩

end Go.Proofs.Ytbfgmedjogjkeaa
