/- Walk: umbralaw25.TexelCorner. -/
import Derived.Test.YtognbeejobfpfaaG25
namespace Go.Proofs.Ytognbeejobfpfaa
open Go.RowKit Go.Sort
set_option linter.unusedVariables false
set_option linter.unusedSimpArgs false

def e_umbralaw25_TexelCorner (r : Bool) : Value := .bool r
def s_umbralaw25_TexelCorner (uv : (Int × Int) × (Int × Int) × (Int × Int)) (parts : Int × Int × Int) : Bool :=
  lt (IntKind.i64.wrap parts.1) fun x7 =>
  lt (IntKind.i64.wrap parts.2.1) fun x9 =>
  lt (IntKind.i64.wrap parts.2.2) fun x11 =>
  lt (IntKind.i64.wrap (x7 + x9)) fun x18 =>
  lt (IntKind.i64.wrap (x18 + x11)) fun x20 =>
  if x20 = 0 then
    lt (s_umbralaw25_works ) fun r23 =>
    if r23 = true then
      true
    else
      false
  else
    lt (IntKind.i64.wrap uv.1.1) fun x34 =>
    lt (IntKind.i64.wrap uv.1.2) fun x36 =>
    lt (IntKind.i64.wrap uv.2.1.1) fun x45 =>
    lt (IntKind.i64.wrap uv.2.1.2) fun x47 =>
    lt (IntKind.i64.wrap uv.2.2.1) fun x56 =>
    lt (IntKind.i64.wrap uv.2.2.2) fun x58 =>
    lt (s_texel_Bary (1, x20, x9, x11) ((x34, x36), (x45, x47), (x56, x58))) fun r64 =>
    lt (gmin (gmin x34 x45) x56) fun x68 =>
    if r64.1 < x68 then
      false
    else
      lt (gmax (gmax x34 x45) x56) fun x71 =>
      if r64.1 > x71 then
        false
      else
        lt (gmin (gmin x36 x47) x58) fun x74 =>
        if r64.2 < x74 then
          false
        else
          lt (gmax (gmax x36 x47) x58) fun x77 =>
          if r64.2 > x77 then
            false
          else
            lt (s_texel_Bary (1, x20, 0, 0) ((x34, x36), (x45, x47), (x56, x58))) fun r85 =>
            if r85.1 = x34 then
              if r85.2 = x36 then
                lt (s_texel_Bary (1, x20, x20, 0) ((x34, x36), (x45, x47), (x56, x58))) fun r96 =>
                if r96.1 = x45 then
                  if r96.2 = x47 then
                    lt (s_texel_Bary (1, x20, 0, x20) ((x34, x36), (x45, x47), (x56, x58))) fun r107 =>
                    if r107.1 = x56 then
                      if r107.2 = x58 then
                        lt (s_umbralaw25_works ) fun r113 =>
                        if r113 = true then
                          true
                        else
                          false
                      else
                        false
                    else
                      false
                  else
                    false
                else
                  false
              else
                false
            else
              false
set_option maxRecDepth 100000 in
set_option maxHeartbeats 4000000 in
theorem w_umbralaw25_TexelCorner (uv : (Int × Int) × (Int × Int) × (Int × Int)) (parts : Int × Int × Int) (h_uv : ((InU16 uv.1.1 ∧ InU16 uv.1.2) ∧ (InU16 uv.2.1.1 ∧ InU16 uv.2.1.2) ∧ (InU16 uv.2.2.1 ∧ InU16 uv.2.2.2))) (h_parts : (InU16 parts.1 ∧ InU16 parts.2.1 ∧ InU16 parts.2.2)) (w : World) : Calls Try.prog 7 #[.agg #[.int .u16 uv.1.1, .int .u16 uv.1.2, .int .u16 uv.2.1.1, .int .u16 uv.2.1.2, .int .u16 uv.2.2.1, .int .u16 uv.2.2.2], .agg #[.int .u16 parts.1, .int .u16 parts.2.1, .int .u16 parts.2.2]] w (Ret (e_umbralaw25_TexelCorner (s_umbralaw25_TexelCorner uv parts)) w) := by
  obtain ⟨R, HR⟩ : ∃ R, e_umbralaw25_TexelCorner (s_umbralaw25_TexelCorner uv parts) = R := ⟨_, rfl⟩
  rw [HR]
  unfold s_umbralaw25_TexelCorner at HR
  have hM0 := St.start w
  refine calls_run Try.func7 rfl ?_
  refine R_seq (R_region (S_fresh none #[.int .u16 uv.1.1, .int .u16 uv.1.2, .int .u16 uv.2.1.1, .int .u16 uv.2.1.2, .int .u16 uv.2.2.1, .int .u16 uv.2.2.2] 56 hM0 (by kernel_rfl) (fun g1 w2 hM3 => S_fresh none #[.int .u16 parts.1, .int .u16 parts.2.1, .int .u16 parts.2.2] 57 hM3 (by kernel_rfl) (fun g4 w5 hM6 => S_val (.bool false) (by kernel_rfl) (S_nil (R_seq (R_region (S_val (.pointer (some ⟨g4, 0, none⟩)) (by kernel_rfl) (S_load 0 0 (.int .u16 parts.1) hM6 (by kernel_rfl) (S_int (IntKind.i64.wrap parts.1) .i64 (by kernel_rfl) (fun x7 h8 => S_val (.pointer (some ⟨g4, 1, none⟩)) (by kernel_rfl) (?_))))))))))))
  have HR := hr_lt HR h8
  refine S_load 0 1 (.int .u16 parts.2.1) hM6 (by kernel_rfl) (S_int (IntKind.i64.wrap parts.2.1) .i64 (by kernel_rfl) (fun x9 h10 => S_val (.pointer (some ⟨g4, 2, none⟩)) (by kernel_rfl) (S_load 0 2 (.int .u16 parts.2.2) hM6 (by kernel_rfl) (S_int (IntKind.i64.wrap parts.2.2) .i64 (by kernel_rfl) (fun x11 h12 => S_val (.agg #[.int .i64 x7, .int .i64 x9, .int .i64 x11]) (by kernel_rfl) (S_fresh none #[.int .i64 0, .int .i64 0, .int .i64 0] 36 hM6 (by kernel_rfl) (fun g13 w14 hM15 => S_store 0 0 #[.int .i64 x7, .int .i64 x9, .int .i64 x11] hM15 (by kernel_rfl) (fun w16 hM17 => S_nil (R_seq (R_region (S_val (.pointer (some ⟨g13, 0, none⟩)) (by kernel_rfl) (?_))))))))))))
  have HR := hr_lt HR h10
  have HR := hr_lt HR h12
  refine S_load 0 0 (.int .i64 x7) hM17 (by kernel_rfl) (S_val (.pointer (some ⟨g13, 1, none⟩)) (by kernel_rfl) (S_load 0 1 (.int .i64 x9) hM17 (by kernel_rfl) (S_int (IntKind.i64.wrap (x7 + x9)) .i64 (by kernel_rfl) (fun x18 h19 => S_val (.pointer (some ⟨g13, 2, none⟩)) (by kernel_rfl) (S_load 0 2 (.int .i64 x11) hM17 (by kernel_rfl) (S_int (IntKind.i64.wrap (x18 + x11)) .i64 (by kernel_rfl) (fun x20 h21 => S_val (.int .i64 x20) (by kernel_rfl) (S_nil (R_seq (R_seq (R_region (?_))))))))))))
  have HR := hr_lt HR h19
  have HR := hr_lt HR h21
  refine S_val (.int .i64 x20) (by kernel_rfl) (?_)
  refine S_dec (x20 = 0) (by kernel_rfl) (fun c22 => ?_) (fun c22 => ?_)
  · refine S_nil (R_yes (by kernel_rfl) (R_seq (R_region (S_call (s_umbralaw25_works ) (fun r : Bool => .bool r) hM17 (w_umbralaw25_works  w16) (by kernel_rfl) (fun r23 h24 w25 hM26 => ?_)))))
    have HR := hr_pos HR c22
    have HR := hr_lt HR h24
    cases r23
    · refine S_val (.bool false) (by kernel_rfl) (S_nil (?_))
      have HR := hr_neg HR Bool.false_ne_true
      refine R_ret hM26 rfl (.cons (.tmp _ (.bool false) (by kernel_rfl)) .nil) rfl ?_
      exact ⟨congrArg Ending.returned HR, hM26.below⟩
    · refine S_val (.bool true) (by kernel_rfl) (S_nil (?_))
      have HR := hr_pos HR rfl
      refine R_ret hM26 rfl (.cons (.tmp _ (.bool true) (by kernel_rfl)) .nil) rfl ?_
      exact ⟨congrArg Ending.returned HR, hM26.below⟩
  · refine S_nil (R_no (by kernel_rfl) (R_skip (R_seq (R_region (S_fresh none #[.int .i64 0, .int .i64 0, .int .i64 0, .int .i64 0, .int .i64 0, .int .i64 0] 51 hM17 (by kernel_rfl) (fun g28 w29 hM30 => S_nil (R_seq (R_seq (R_region (S_val (.int .i64 0) (by kernel_rfl) (S_nil (?_))))))))))))
    have HR := hr_neg HR c22
    refine R_block (R_loop (R_seq (R_region (S_val (.bool true) (by kernel_rfl) (S_nil (R_seq (R_yes (by kernel_rfl) (R_skip (R_seq (R_block (R_seq (?_))))))))))))
    refine R_region (S_val (.int .i64 0) (by kernel_rfl) (S_val (.int .i64 0) (by kernel_rfl) (S_nil (R_drawF 13 (by kernel_rfl) (fun F31 U32 hL33 => F_val (.int .i64 0) (fun _ => by kernel_rfl) (F_val (.int .i64 0) (fun _ => by kernel_rfl) (F_val (.pointer (some ⟨g1, 0, none⟩)) (fun _ => by kernel_rfl) (F_val (.pointer (some ⟨g1, 0, none⟩)) (fun _ => by kernel_rfl) (F_load 3 0 (.int .u16 uv.1.1) hM30 (by kernel_rfl) (F_int (IntKind.i64.wrap uv.1.1) .i64 (fun _ => by kernel_rfl) (fun x34 h35 => F_val (.int .i64 0) (fun _ => by kernel_rfl) (?_))))))))))))
    have HR := hr_lt HR h35
    refine F_val (.pointer (some ⟨g1, 0, none⟩)) (fun _ => by kernel_rfl) (F_val (.pointer (some ⟨g1, 1, none⟩)) (fun _ => by kernel_rfl) (F_load 3 1 (.int .u16 uv.1.2) hM30 (by kernel_rfl) (F_int (IntKind.i64.wrap uv.1.2) .i64 (fun _ => by kernel_rfl) (fun x36 h37 => F_val (.agg #[.int .i64 x34, .int .i64 x36]) (fun _ => by kernel_rfl) (F_val (.pointer (some ⟨g28, 0, none⟩)) (fun _ => by kernel_rfl) (F_nil hM30 hL33 (fun w38 hM39 => S_store 0 0 #[.int .i64 x34, .int .i64 x36, .int .i64 0, .int .i64 0, .int .i64 0, .int .i64 0] hM39 (by kernel_rfl) (fun w40 hM41 => S_nil (R_inBlock (R_region (S_val (.int .i64 1) (by kernel_rfl) (?_))))))))))))
    have HR := hr_lt HR h37
    refine S_val (.int .i64 1) (by kernel_rfl) (S_nil (R_inLoop (R_seq (R_region (S_val (.bool true) (by kernel_rfl) (S_nil (R_seq (R_yes (by kernel_rfl) (R_skip (R_seq (R_block (?_))))))))))))
    refine R_seq (R_region (S_val (.int .i64 1) (by kernel_rfl) (S_val (.int .i64 1) (by kernel_rfl) (S_nil (R_drawF 13 (by kernel_rfl) (fun F42 U43 hL44 => F_val (.int .i64 1) (fun _ => by kernel_rfl) (F_val (.int .i64 1) (fun _ => by kernel_rfl) (F_val (.pointer (some ⟨g1, 2, none⟩)) (fun _ => by kernel_rfl) (F_val (.pointer (some ⟨g1, 2, none⟩)) (fun _ => by kernel_rfl) (F_load 3 2 (.int .u16 uv.2.1.1) hM41 (by kernel_rfl) (F_int (IntKind.i64.wrap uv.2.1.1) .i64 (fun _ => by kernel_rfl) (fun x45 h46 => ?_))))))))))))
    have HR := hr_lt HR h46
    refine F_val (.int .i64 1) (fun _ => by kernel_rfl) (F_val (.pointer (some ⟨g1, 2, none⟩)) (fun _ => by kernel_rfl) (F_val (.pointer (some ⟨g1, 3, none⟩)) (fun _ => by kernel_rfl) (F_load 3 3 (.int .u16 uv.2.1.2) hM41 (by kernel_rfl) (F_int (IntKind.i64.wrap uv.2.1.2) .i64 (fun _ => by kernel_rfl) (fun x47 h48 => F_val (.agg #[.int .i64 x45, .int .i64 x47]) (fun _ => by kernel_rfl) (F_val (.pointer (some ⟨g28, 2, none⟩)) (fun _ => by kernel_rfl) (F_nil hM41 hL44 (fun w49 hM50 => S_store 0 2 #[.int .i64 x34, .int .i64 x36, .int .i64 x45, .int .i64 x47, .int .i64 0, .int .i64 0] hM50 (by kernel_rfl) (fun w51 hM52 => S_nil (R_inBlock (R_region (?_))))))))))))
    have HR := hr_lt HR h48
    refine S_val (.int .i64 2) (by kernel_rfl) (S_val (.int .i64 2) (by kernel_rfl) (S_nil (R_inLoop (R_seq (R_region (S_val (.bool true) (by kernel_rfl) (S_nil (R_seq (R_yes (by kernel_rfl) (R_skip (R_seq (?_))))))))))))
    refine R_block (R_seq (R_region (S_val (.int .i64 2) (by kernel_rfl) (S_val (.int .i64 2) (by kernel_rfl) (S_nil (R_drawF 13 (by kernel_rfl) (fun F53 U54 hL55 => F_val (.int .i64 2) (fun _ => by kernel_rfl) (F_val (.int .i64 2) (fun _ => by kernel_rfl) (F_val (.pointer (some ⟨g1, 4, none⟩)) (fun _ => by kernel_rfl) (F_val (.pointer (some ⟨g1, 4, none⟩)) (fun _ => by kernel_rfl) (F_load 3 4 (.int .u16 uv.2.2.1) hM52 (by kernel_rfl) (?_))))))))))))
    refine F_int (IntKind.i64.wrap uv.2.2.1) .i64 (fun _ => by kernel_rfl) (fun x56 h57 => F_val (.int .i64 2) (fun _ => by kernel_rfl) (F_val (.pointer (some ⟨g1, 4, none⟩)) (fun _ => by kernel_rfl) (F_val (.pointer (some ⟨g1, 5, none⟩)) (fun _ => by kernel_rfl) (F_load 3 5 (.int .u16 uv.2.2.2) hM52 (by kernel_rfl) (F_int (IntKind.i64.wrap uv.2.2.2) .i64 (fun _ => by kernel_rfl) (fun x58 h59 => F_val (.agg #[.int .i64 x56, .int .i64 x58]) (fun _ => by kernel_rfl) (F_val (.pointer (some ⟨g28, 4, none⟩)) (fun _ => by kernel_rfl) (F_nil hM52 hL55 (fun w60 hM61 => S_store 0 4 #[.int .i64 x34, .int .i64 x36, .int .i64 x45, .int .i64 x47, .int .i64 x56, .int .i64 x58] hM61 (by kernel_rfl) (fun w62 hM63 => S_nil (R_inBlock (?_))))))))))))
    have HR := hr_lt HR h57
    have HR := hr_lt HR h59
    refine R_region (S_val (.int .i64 3) (by kernel_rfl) (S_val (.int .i64 3) (by kernel_rfl) (S_nil (R_inLoop (R_seq (R_region (S_val (.bool false) (by kernel_rfl) (S_nil (R_seq (R_no (by kernel_rfl) (R_exit rfl (?_))))))))))))
    refine R_seq (R_region (S_val (.int .i64 x20) (by kernel_rfl) (S_val (.pointer (some ⟨g13, 1, none⟩)) (by kernel_rfl) (S_load 1 1 (.int .i64 x9) hM63 (by kernel_rfl) (S_val (.pointer (some ⟨g13, 2, none⟩)) (by kernel_rfl) (S_load 1 2 (.int .i64 x11) hM63 (by kernel_rfl) (S_val (.agg #[.int .i64 1, .int .i64 x20, .int .i64 x9, .int .i64 x11]) (by kernel_rfl) (S_load 0 0 (.agg #[.int .i64 x34, .int .i64 x36, .int .i64 x45, .int .i64 x47, .int .i64 x56, .int .i64 x58]) hM63 (by kernel_rfl) (S_call (s_texel_Bary (1, x20, x9, x11) ((x34, x36), (x45, x47), (x56, x58))) (fun r : Int × Int => .tuple #[.int .i64 r.1, .int .i64 r.2]) hM63 (w_texel_Bary (1, x20, x9, x11) ((x34, x36), (x45, x47), (x56, x58)) (⟨(show InI 1 from by unfold InI; omega), (wr_i64 h21), (wr_i64 h10), (wr_i64 h12)⟩) (⟨⟨(wr_i64 h35), (wr_i64 h37)⟩, ⟨(wr_i64 h46), (wr_i64 h48)⟩, ⟨(wr_i64 h57), (wr_i64 h59)⟩⟩) w62) (by kernel_rfl) (fun r64 h65 w66 hM67 => S_val (.tuple #[.int .i64 r64.1, .int .i64 r64.2]) (by kernel_rfl) (S_val (.int .i64 r64.1) (by kernel_rfl) (?_))))))))))))
    have HR := hr_lt HR h65
    refine S_val (.int .i64 r64.2) (by kernel_rfl) (S_val (.int .i64 r64.1) (by kernel_rfl) (S_val (.int .i64 r64.2) (by kernel_rfl) (S_nil (R_seq (R_seq (R_region (S_val (.int .i64 r64.1) (by kernel_rfl) (S_val (.pointer (some ⟨g28, 0, none⟩)) (by kernel_rfl) (S_val (.pointer (some ⟨g28, 0, none⟩)) (by kernel_rfl) (S_load 0 0 (.int .i64 x34) hM67 (by kernel_rfl) (S_val (.pointer (some ⟨g28, 2, none⟩)) (by kernel_rfl) (?_))))))))))))
    refine S_val (.pointer (some ⟨g28, 2, none⟩)) (by kernel_rfl) (S_load 0 2 (.int .i64 x45) hM67 (by kernel_rfl) (S_val (.pointer (some ⟨g28, 4, none⟩)) (by kernel_rfl) (S_val (.pointer (some ⟨g28, 4, none⟩)) (by kernel_rfl) (S_load 0 4 (.int .i64 x56) hM67 (by kernel_rfl) (S_int (gmin (gmin x34 x45) x56) .i64 (by kernel_rfl) (fun x68 h69 => ?_))))))
    have HR := hr_lt HR h69
    refine S_dec (r64.1 < x68) (by kernel_rfl) (fun c70 => ?_) (fun c70 => ?_)
    · refine S_val (.bool true) (by kernel_rfl) (S_skip (by kernel_rfl) (S_skip (by kernel_rfl) (S_skip (by kernel_rfl) (S_skip (by kernel_rfl) (S_skip (by kernel_rfl) (S_skip (by kernel_rfl) (S_skip (by kernel_rfl) (S_skip (by kernel_rfl) (S_skip (by kernel_rfl) (S_skip (by kernel_rfl) (S_skip (by kernel_rfl) (?_))))))))))))
      have HR := hr_pos HR c70
      refine S_skip (by kernel_rfl) (S_val (.bool true) (by kernel_rfl) (S_val (.bool true) (by kernel_rfl) (S_skip (by kernel_rfl) (S_skip (by kernel_rfl) (S_skip (by kernel_rfl) (S_skip (by kernel_rfl) (S_skip (by kernel_rfl) (S_skip (by kernel_rfl) (S_skip (by kernel_rfl) (S_skip (by kernel_rfl) (S_skip (by kernel_rfl) (?_))))))))))))
      refine S_skip (by kernel_rfl) (S_skip (by kernel_rfl) (S_skip (by kernel_rfl) (S_val (.bool true) (by kernel_rfl) (S_val (.bool true) (by kernel_rfl) (S_skip (by kernel_rfl) (S_skip (by kernel_rfl) (S_skip (by kernel_rfl) (S_skip (by kernel_rfl) (S_skip (by kernel_rfl) (S_skip (by kernel_rfl) (S_skip (by kernel_rfl) (?_))))))))))))
      refine S_skip (by kernel_rfl) (S_skip (by kernel_rfl) (S_skip (by kernel_rfl) (S_skip (by kernel_rfl) (S_skip (by kernel_rfl) (S_val (.bool true) (by kernel_rfl) (S_nil (R_yes (by kernel_rfl) (R_seq (R_region (S_val (.bool false) (by kernel_rfl) (S_nil (?_))))))))))))
      refine R_ret hM67 rfl (.cons (.tmp _ (.bool false) (by kernel_rfl)) .nil) rfl ?_
      exact ⟨congrArg Ending.returned HR, hM67.below⟩
    · refine S_val (.bool false) (by kernel_rfl) (S_val (.int .i64 r64.1) (by kernel_rfl) (S_val (.pointer (some ⟨g28, 0, none⟩)) (by kernel_rfl) (S_val (.pointer (some ⟨g28, 0, none⟩)) (by kernel_rfl) (S_load 0 0 (.int .i64 x34) hM67 (by kernel_rfl) (S_val (.pointer (some ⟨g28, 2, none⟩)) (by kernel_rfl) (S_val (.pointer (some ⟨g28, 2, none⟩)) (by kernel_rfl) (S_load 0 2 (.int .i64 x45) hM67 (by kernel_rfl) (S_val (.pointer (some ⟨g28, 4, none⟩)) (by kernel_rfl) (S_val (.pointer (some ⟨g28, 4, none⟩)) (by kernel_rfl) (S_load 0 4 (.int .i64 x56) hM67 (by kernel_rfl) (S_int (gmax (gmax x34 x45) x56) .i64 (by kernel_rfl) (fun x71 h72 => ?_))))))))))))
      have HR := hr_neg HR c70
      have HR := hr_lt HR h72
      refine S_dec (r64.1 > x71) (by kernel_rfl) (fun c73 => ?_) (fun c73 => ?_)
      · refine S_val (.bool true) (by kernel_rfl) (S_val (.bool true) (by kernel_rfl) (S_skip (by kernel_rfl) (S_skip (by kernel_rfl) (S_skip (by kernel_rfl) (S_skip (by kernel_rfl) (S_skip (by kernel_rfl) (S_skip (by kernel_rfl) (S_skip (by kernel_rfl) (S_skip (by kernel_rfl) (S_skip (by kernel_rfl) (S_skip (by kernel_rfl) (?_))))))))))))
        have HR := hr_pos HR c73
        refine S_skip (by kernel_rfl) (S_skip (by kernel_rfl) (S_val (.bool true) (by kernel_rfl) (S_val (.bool true) (by kernel_rfl) (S_skip (by kernel_rfl) (S_skip (by kernel_rfl) (S_skip (by kernel_rfl) (S_skip (by kernel_rfl) (S_skip (by kernel_rfl) (S_skip (by kernel_rfl) (S_skip (by kernel_rfl) (S_skip (by kernel_rfl) (?_))))))))))))
        refine S_skip (by kernel_rfl) (S_skip (by kernel_rfl) (S_skip (by kernel_rfl) (S_skip (by kernel_rfl) (S_val (.bool true) (by kernel_rfl) (S_nil (R_yes (by kernel_rfl) (R_seq (R_region (S_val (.bool false) (by kernel_rfl) (S_nil (?_)))))))))))
        refine R_ret hM67 rfl (.cons (.tmp _ (.bool false) (by kernel_rfl)) .nil) rfl ?_
        exact ⟨congrArg Ending.returned HR, hM67.below⟩
      · refine S_val (.bool false) (by kernel_rfl) (S_val (.bool false) (by kernel_rfl) (S_val (.int .i64 r64.2) (by kernel_rfl) (S_val (.pointer (some ⟨g28, 0, none⟩)) (by kernel_rfl) (S_val (.pointer (some ⟨g28, 1, none⟩)) (by kernel_rfl) (S_load 0 1 (.int .i64 x36) hM67 (by kernel_rfl) (S_val (.pointer (some ⟨g28, 2, none⟩)) (by kernel_rfl) (S_val (.pointer (some ⟨g28, 3, none⟩)) (by kernel_rfl) (S_load 0 3 (.int .i64 x47) hM67 (by kernel_rfl) (S_val (.pointer (some ⟨g28, 4, none⟩)) (by kernel_rfl) (S_val (.pointer (some ⟨g28, 5, none⟩)) (by kernel_rfl) (S_load 0 5 (.int .i64 x58) hM67 (by kernel_rfl) (?_))))))))))))
        have HR := hr_neg HR c73
        refine S_int (gmin (gmin x36 x47) x58) .i64 (by kernel_rfl) (fun x74 h75 => ?_)
        have HR := hr_lt HR h75
        refine S_dec (r64.2 < x74) (by kernel_rfl) (fun c76 => ?_) (fun c76 => ?_)
        · refine S_val (.bool true) (by kernel_rfl) (S_val (.bool true) (by kernel_rfl) (S_skip (by kernel_rfl) (S_skip (by kernel_rfl) (S_skip (by kernel_rfl) (S_skip (by kernel_rfl) (S_skip (by kernel_rfl) (S_skip (by kernel_rfl) (S_skip (by kernel_rfl) (S_skip (by kernel_rfl) (S_skip (by kernel_rfl) (S_skip (by kernel_rfl) (?_))))))))))))
          have HR := hr_pos HR c76
          refine S_skip (by kernel_rfl) (S_skip (by kernel_rfl) (S_val (.bool true) (by kernel_rfl) (S_nil (R_yes (by kernel_rfl) (R_seq (R_region (S_val (.bool false) (by kernel_rfl) (S_nil (?_)))))))))
          refine R_ret hM67 rfl (.cons (.tmp _ (.bool false) (by kernel_rfl)) .nil) rfl ?_
          exact ⟨congrArg Ending.returned HR, hM67.below⟩
        · refine S_val (.bool false) (by kernel_rfl) (S_val (.bool false) (by kernel_rfl) (S_val (.int .i64 r64.2) (by kernel_rfl) (S_val (.pointer (some ⟨g28, 0, none⟩)) (by kernel_rfl) (S_val (.pointer (some ⟨g28, 1, none⟩)) (by kernel_rfl) (S_load 0 1 (.int .i64 x36) hM67 (by kernel_rfl) (S_val (.pointer (some ⟨g28, 2, none⟩)) (by kernel_rfl) (S_val (.pointer (some ⟨g28, 3, none⟩)) (by kernel_rfl) (S_load 0 3 (.int .i64 x47) hM67 (by kernel_rfl) (S_val (.pointer (some ⟨g28, 4, none⟩)) (by kernel_rfl) (S_val (.pointer (some ⟨g28, 5, none⟩)) (by kernel_rfl) (S_load 0 5 (.int .i64 x58) hM67 (by kernel_rfl) (?_))))))))))))
          have HR := hr_neg HR c76
          refine S_int (gmax (gmax x36 x47) x58) .i64 (by kernel_rfl) (fun x77 h78 => ?_)
          have HR := hr_lt HR h78
          refine S_dec (r64.2 > x77) (by kernel_rfl) (fun c79 => ?_) (fun c79 => ?_)
          · refine S_val (.bool true) (by kernel_rfl) (S_nil (R_yes (by kernel_rfl) (R_seq (R_region (S_val (.bool false) (by kernel_rfl) (S_nil (?_)))))))
            have HR := hr_pos HR c79
            refine R_ret hM67 rfl (.cons (.tmp _ (.bool false) (by kernel_rfl)) .nil) rfl ?_
            exact ⟨congrArg Ending.returned HR, hM67.below⟩
          · refine S_val (.bool false) (by kernel_rfl) (S_nil (R_no (by kernel_rfl) (R_skip (R_seq (R_seq (R_region (S_val (.int .i64 x20) (by kernel_rfl) (S_val (.agg #[.int .i64 1, .int .i64 x20, .int .i64 0, .int .i64 0]) (by kernel_rfl) (S_val (.int .i64 x20) (by kernel_rfl) (S_val (.int .i64 x20) (by kernel_rfl) (S_val (.agg #[.int .i64 1, .int .i64 x20, .int .i64 x20, .int .i64 0]) (by kernel_rfl) (?_))))))))))))
            have HR := hr_neg HR c79
            refine S_val (.int .i64 x20) (by kernel_rfl) (S_val (.int .i64 x20) (by kernel_rfl) (S_val (.agg #[.int .i64 1, .int .i64 x20, .int .i64 0, .int .i64 x20]) (by kernel_rfl) (S_val (.agg #[.int .i64 1, .int .i64 x20, .int .i64 0, .int .i64 0, .int .i64 1, .int .i64 x20, .int .i64 x20, .int .i64 0, .int .i64 1, .int .i64 x20, .int .i64 0, .int .i64 x20]) (by kernel_rfl) (S_val (.int .i64 0) (by kernel_rfl) (S_nil (R_block (R_loop (R_seq (R_region (S_val (.bool true) (by kernel_rfl) (S_nil (?_))))))))))))
            refine R_seq (R_yes (by kernel_rfl) (R_skip (R_seq (R_block (R_seq (R_region (S_val (.int .i64 0) (by kernel_rfl) (S_val (.agg #[.int .i64 1, .int .i64 x20, .int .i64 0, .int .i64 0]) (by kernel_rfl) (S_fresh none #[.int .i64 0, .int .i64 0, .int .i64 0, .int .i64 0] 50 hM67 (by kernel_rfl) (fun g80 w81 hM82 => S_val (.int .i64 0) (by kernel_rfl) (S_store 0 0 #[.int .i64 1, .int .i64 x20, .int .i64 0, .int .i64 0] hM82 (by kernel_rfl) (fun w83 hM84 => ?_))))))))))))
            refine S_nil (R_seq (R_region (S_load 0 0 (.agg #[.int .i64 1, .int .i64 x20, .int .i64 0, .int .i64 0]) hM84 (by kernel_rfl) (S_load 1 0 (.agg #[.int .i64 x34, .int .i64 x36, .int .i64 x45, .int .i64 x47, .int .i64 x56, .int .i64 x58]) hM84 (by kernel_rfl) (S_call (s_texel_Bary (1, x20, 0, 0) ((x34, x36), (x45, x47), (x56, x58))) (fun r : Int × Int => .tuple #[.int .i64 r.1, .int .i64 r.2]) hM84 (w_texel_Bary (1, x20, 0, 0) ((x34, x36), (x45, x47), (x56, x58)) (⟨(show InI 1 from by unfold InI; omega), (wr_i64 h21), (show InI 0 from by unfold InI; omega), (show InI 0 from by unfold InI; omega)⟩) (⟨⟨(wr_i64 h35), (wr_i64 h37)⟩, ⟨(wr_i64 h46), (wr_i64 h48)⟩, ⟨(wr_i64 h57), (wr_i64 h59)⟩⟩) w83) (by kernel_rfl) (fun r85 h86 w87 hM88 => S_val (.tuple #[.int .i64 r85.1, .int .i64 r85.2]) (by kernel_rfl) (S_val (.int .i64 r85.1) (by kernel_rfl) (S_val (.int .i64 r85.2) (by kernel_rfl) (S_val (.int .i64 r85.1) (by kernel_rfl) (S_val (.int .i64 r85.2) (by kernel_rfl) (S_nil (?_))))))))))))
            have HR := hr_lt HR h86
            refine R_seq (R_region (S_val (.int .i64 r85.1) (by kernel_rfl) (S_val (.int .i64 0) (by kernel_rfl) (S_val (.pointer (some ⟨g28, 0, none⟩)) (by kernel_rfl) (S_val (.pointer (some ⟨g28, 0, none⟩)) (by kernel_rfl) (S_load 1 0 (.int .i64 x34) hM88 (by kernel_rfl) (?_)))))))
            refine S_decn (r85.1 = x34) (by kernel_rfl) (fun c89 => ?_) (fun c89 => ?_)
            · refine S_val (.bool true) (by kernel_rfl) (S_skip (by kernel_rfl) (S_skip (by kernel_rfl) (S_skip (by kernel_rfl) (S_skip (by kernel_rfl) (S_skip (by kernel_rfl) (S_skip (by kernel_rfl) (S_val (.bool true) (by kernel_rfl) (S_nil (R_yes (by kernel_rfl) (R_seq (R_region (?_))))))))))))
              have HR := hr_neg HR c89
              refine S_val (.bool false) (by kernel_rfl) (S_nil (?_))
              refine R_ret hM88 rfl (.cons (.tmp _ (.bool false) (by kernel_rfl)) .nil) rfl ?_
              exact ⟨congrArg Ending.returned HR, hM88.below⟩
            · refine S_val (.bool false) (by kernel_rfl) (S_val (.int .i64 r85.2) (by kernel_rfl) (S_val (.int .i64 0) (by kernel_rfl) (S_val (.pointer (some ⟨g28, 0, none⟩)) (by kernel_rfl) (S_val (.pointer (some ⟨g28, 1, none⟩)) (by kernel_rfl) (S_load 1 1 (.int .i64 x36) hM88 (by kernel_rfl) (?_))))))
              have HR := hr_pos HR c89
              refine S_decn (r85.2 = x36) (by kernel_rfl) (fun c90 => ?_) (fun c90 => ?_)
              · refine S_val (.bool true) (by kernel_rfl) (S_nil (R_yes (by kernel_rfl) (R_seq (R_region (S_val (.bool false) (by kernel_rfl) (S_nil (?_)))))))
                have HR := hr_neg HR c90
                refine R_ret hM88 rfl (.cons (.tmp _ (.bool false) (by kernel_rfl)) .nil) rfl ?_
                exact ⟨congrArg Ending.returned HR, hM88.below⟩
              · refine S_val (.bool false) (by kernel_rfl) (S_nil (R_no (by kernel_rfl) (R_skip (R_inBlock (R_region (S_val (.int .i64 1) (by kernel_rfl) (S_val (.int .i64 1) (by kernel_rfl) (S_nil (R_inLoop (R_seq (R_region (?_))))))))))))
                have HR := hr_pos HR c90
                refine S_val (.bool true) (by kernel_rfl) (S_nil (R_seq (R_yes (by kernel_rfl) (R_skip (R_seq (R_block (R_seq (R_region (S_val (.int .i64 1) (by kernel_rfl) (S_val (.agg #[.int .i64 1, .int .i64 x20, .int .i64 x20, .int .i64 0]) (by kernel_rfl) (S_fresh none #[.int .i64 0, .int .i64 0, .int .i64 0, .int .i64 0] 50 hM88 (by kernel_rfl) (fun g91 w92 hM93 => ?_))))))))))))
                refine S_val (.int .i64 1) (by kernel_rfl) (S_store 0 0 #[.int .i64 1, .int .i64 x20, .int .i64 x20, .int .i64 0] hM93 (by kernel_rfl) (fun w94 hM95 => S_nil (R_seq (R_region (S_load 0 0 (.agg #[.int .i64 1, .int .i64 x20, .int .i64 x20, .int .i64 0]) hM95 (by kernel_rfl) (S_load 2 0 (.agg #[.int .i64 x34, .int .i64 x36, .int .i64 x45, .int .i64 x47, .int .i64 x56, .int .i64 x58]) hM95 (by kernel_rfl) (S_call (s_texel_Bary (1, x20, x20, 0) ((x34, x36), (x45, x47), (x56, x58))) (fun r : Int × Int => .tuple #[.int .i64 r.1, .int .i64 r.2]) hM95 (w_texel_Bary (1, x20, x20, 0) ((x34, x36), (x45, x47), (x56, x58)) (⟨(show InI 1 from by unfold InI; omega), (wr_i64 h21), (wr_i64 h21), (show InI 0 from by unfold InI; omega)⟩) (⟨⟨(wr_i64 h35), (wr_i64 h37)⟩, ⟨(wr_i64 h46), (wr_i64 h48)⟩, ⟨(wr_i64 h57), (wr_i64 h59)⟩⟩) w94) (by kernel_rfl) (fun r96 h97 w98 hM99 => S_val (.tuple #[.int .i64 r96.1, .int .i64 r96.2]) (by kernel_rfl) (S_val (.int .i64 r96.1) (by kernel_rfl) (S_val (.int .i64 r96.2) (by kernel_rfl) (S_val (.int .i64 r96.1) (by kernel_rfl) (?_))))))))))))
                have HR := hr_lt HR h97
                refine S_val (.int .i64 r96.2) (by kernel_rfl) (S_nil (R_seq (R_region (S_val (.int .i64 r96.1) (by kernel_rfl) (S_val (.int .i64 1) (by kernel_rfl) (S_val (.pointer (some ⟨g28, 2, none⟩)) (by kernel_rfl) (S_val (.pointer (some ⟨g28, 2, none⟩)) (by kernel_rfl) (S_load 2 2 (.int .i64 x45) hM99 (by kernel_rfl) (?_)))))))))
                refine S_decn (r96.1 = x45) (by kernel_rfl) (fun c100 => ?_) (fun c100 => ?_)
                · refine S_val (.bool true) (by kernel_rfl) (S_skip (by kernel_rfl) (S_skip (by kernel_rfl) (S_skip (by kernel_rfl) (S_skip (by kernel_rfl) (S_skip (by kernel_rfl) (S_skip (by kernel_rfl) (S_val (.bool true) (by kernel_rfl) (S_nil (R_yes (by kernel_rfl) (R_seq (R_region (?_))))))))))))
                  have HR := hr_neg HR c100
                  refine S_val (.bool false) (by kernel_rfl) (S_nil (?_))
                  refine R_ret hM99 rfl (.cons (.tmp _ (.bool false) (by kernel_rfl)) .nil) rfl ?_
                  exact ⟨congrArg Ending.returned HR, hM99.below⟩
                · refine S_val (.bool false) (by kernel_rfl) (S_val (.int .i64 r96.2) (by kernel_rfl) (S_val (.int .i64 1) (by kernel_rfl) (S_val (.pointer (some ⟨g28, 2, none⟩)) (by kernel_rfl) (S_val (.pointer (some ⟨g28, 3, none⟩)) (by kernel_rfl) (S_load 2 3 (.int .i64 x47) hM99 (by kernel_rfl) (?_))))))
                  have HR := hr_pos HR c100
                  refine S_decn (r96.2 = x47) (by kernel_rfl) (fun c101 => ?_) (fun c101 => ?_)
                  · refine S_val (.bool true) (by kernel_rfl) (S_nil (R_yes (by kernel_rfl) (R_seq (R_region (S_val (.bool false) (by kernel_rfl) (S_nil (?_)))))))
                    have HR := hr_neg HR c101
                    refine R_ret hM99 rfl (.cons (.tmp _ (.bool false) (by kernel_rfl)) .nil) rfl ?_
                    exact ⟨congrArg Ending.returned HR, hM99.below⟩
                  · refine S_val (.bool false) (by kernel_rfl) (S_nil (R_no (by kernel_rfl) (R_skip (R_inBlock (R_region (S_val (.int .i64 2) (by kernel_rfl) (S_val (.int .i64 2) (by kernel_rfl) (S_nil (R_inLoop (R_seq (R_region (?_))))))))))))
                    have HR := hr_pos HR c101
                    refine S_val (.bool true) (by kernel_rfl) (S_nil (R_seq (R_yes (by kernel_rfl) (R_skip (R_seq (R_block (R_seq (R_region (S_val (.int .i64 2) (by kernel_rfl) (S_val (.agg #[.int .i64 1, .int .i64 x20, .int .i64 0, .int .i64 x20]) (by kernel_rfl) (S_fresh none #[.int .i64 0, .int .i64 0, .int .i64 0, .int .i64 0] 50 hM99 (by kernel_rfl) (fun g102 w103 hM104 => ?_))))))))))))
                    refine S_val (.int .i64 2) (by kernel_rfl) (S_store 0 0 #[.int .i64 1, .int .i64 x20, .int .i64 0, .int .i64 x20] hM104 (by kernel_rfl) (fun w105 hM106 => S_nil (R_seq (R_region (S_load 0 0 (.agg #[.int .i64 1, .int .i64 x20, .int .i64 0, .int .i64 x20]) hM106 (by kernel_rfl) (S_load 3 0 (.agg #[.int .i64 x34, .int .i64 x36, .int .i64 x45, .int .i64 x47, .int .i64 x56, .int .i64 x58]) hM106 (by kernel_rfl) (S_call (s_texel_Bary (1, x20, 0, x20) ((x34, x36), (x45, x47), (x56, x58))) (fun r : Int × Int => .tuple #[.int .i64 r.1, .int .i64 r.2]) hM106 (w_texel_Bary (1, x20, 0, x20) ((x34, x36), (x45, x47), (x56, x58)) (⟨(show InI 1 from by unfold InI; omega), (wr_i64 h21), (show InI 0 from by unfold InI; omega), (wr_i64 h21)⟩) (⟨⟨(wr_i64 h35), (wr_i64 h37)⟩, ⟨(wr_i64 h46), (wr_i64 h48)⟩, ⟨(wr_i64 h57), (wr_i64 h59)⟩⟩) w105) (by kernel_rfl) (fun r107 h108 w109 hM110 => S_val (.tuple #[.int .i64 r107.1, .int .i64 r107.2]) (by kernel_rfl) (S_val (.int .i64 r107.1) (by kernel_rfl) (S_val (.int .i64 r107.2) (by kernel_rfl) (S_val (.int .i64 r107.1) (by kernel_rfl) (?_))))))))))))
                    have HR := hr_lt HR h108
                    refine S_val (.int .i64 r107.2) (by kernel_rfl) (S_nil (R_seq (R_region (S_val (.int .i64 r107.1) (by kernel_rfl) (S_val (.int .i64 2) (by kernel_rfl) (S_val (.pointer (some ⟨g28, 4, none⟩)) (by kernel_rfl) (S_val (.pointer (some ⟨g28, 4, none⟩)) (by kernel_rfl) (S_load 3 4 (.int .i64 x56) hM110 (by kernel_rfl) (?_)))))))))
                    refine S_decn (r107.1 = x56) (by kernel_rfl) (fun c111 => ?_) (fun c111 => ?_)
                    · refine S_val (.bool true) (by kernel_rfl) (S_skip (by kernel_rfl) (S_skip (by kernel_rfl) (S_skip (by kernel_rfl) (S_skip (by kernel_rfl) (S_skip (by kernel_rfl) (S_skip (by kernel_rfl) (S_val (.bool true) (by kernel_rfl) (S_nil (R_yes (by kernel_rfl) (R_seq (R_region (?_))))))))))))
                      have HR := hr_neg HR c111
                      refine S_val (.bool false) (by kernel_rfl) (S_nil (?_))
                      refine R_ret hM110 rfl (.cons (.tmp _ (.bool false) (by kernel_rfl)) .nil) rfl ?_
                      exact ⟨congrArg Ending.returned HR, hM110.below⟩
                    · refine S_val (.bool false) (by kernel_rfl) (S_val (.int .i64 r107.2) (by kernel_rfl) (S_val (.int .i64 2) (by kernel_rfl) (S_val (.pointer (some ⟨g28, 4, none⟩)) (by kernel_rfl) (S_val (.pointer (some ⟨g28, 5, none⟩)) (by kernel_rfl) (S_load 3 5 (.int .i64 x58) hM110 (by kernel_rfl) (?_))))))
                      have HR := hr_pos HR c111
                      refine S_decn (r107.2 = x58) (by kernel_rfl) (fun c112 => ?_) (fun c112 => ?_)
                      · refine S_val (.bool true) (by kernel_rfl) (S_nil (R_yes (by kernel_rfl) (R_seq (R_region (S_val (.bool false) (by kernel_rfl) (S_nil (?_)))))))
                        have HR := hr_neg HR c112
                        refine R_ret hM110 rfl (.cons (.tmp _ (.bool false) (by kernel_rfl)) .nil) rfl ?_
                        exact ⟨congrArg Ending.returned HR, hM110.below⟩
                      · refine S_val (.bool false) (by kernel_rfl) (S_nil (R_no (by kernel_rfl) (R_skip (R_inBlock (R_region (S_val (.int .i64 3) (by kernel_rfl) (S_val (.int .i64 3) (by kernel_rfl) (S_nil (R_inLoop (R_seq (R_region (?_))))))))))))
                        have HR := hr_pos HR c112
                        refine S_val (.bool false) (by kernel_rfl) (S_nil (R_seq (R_no (by kernel_rfl) (R_exit rfl (R_seq (R_region (S_call (s_umbralaw25_works ) (fun r : Bool => .bool r) hM110 (w_umbralaw25_works  w109) (by kernel_rfl) (fun r113 h114 w115 hM116 => ?_))))))))
                        have HR := hr_lt HR h114
                        cases r113
                        · refine S_val (.bool false) (by kernel_rfl) (S_nil (?_))
                          have HR := hr_neg HR Bool.false_ne_true
                          refine R_ret hM116 rfl (.cons (.tmp _ (.bool false) (by kernel_rfl)) .nil) rfl ?_
                          exact ⟨congrArg Ending.returned HR, hM116.below⟩
                        · refine S_val (.bool true) (by kernel_rfl) (S_nil (?_))
                          have HR := hr_pos HR rfl
                          refine R_ret hM116 rfl (.cons (.tmp _ (.bool true) (by kernel_rfl)) .nil) rfl ?_
                          exact ⟨congrArg Ending.returned HR, hM116.below⟩

end Go.Proofs.Ytognbeejobfpfaa
