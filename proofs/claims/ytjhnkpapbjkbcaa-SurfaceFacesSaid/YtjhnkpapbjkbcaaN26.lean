/- Walks: umbralaw26. Layer 26: the document and the code are one; SurfaceTurns, SurfaceScatters, SurfaceFaces, SurfaceChance hold. Layer 26: the laws as their frames ask for them. -/
import Derived.Test.YtjhnkpapbjkbcaaG26
import Derived.Test.YtjhnkpapbjkbcaaGoF
namespace Go.Proofs.Ytjhnkpapbjkbcaa
open Go.RowKit Go.Sort
set_option linter.unusedVariables false
set_option linter.unusedSimpArgs false

def e_umbralaw26_works (r : Bool) : Value := .bool r
def s_umbralaw26_works  : Bool :=
  lt (s_surface_Mirror (0, 0, 4294967296) (0, 3, (-4))) fun r1 =>
  if r1.1 = 0 then
    if r1.2.1 > 2576980300 then
      if r1.2.1 < 2576980400 then
        if r1.2.2 > 3435973700 then
          if r1.2.2 < 3435973900 then
            true
          else
            false
        else
          false
      else
        false
    else
      false
  else
    false
set_option maxRecDepth 100000 in
set_option maxHeartbeats 4000000 in
theorem w_umbralaw26_works  (w : World) : Calls Try.prog 17 #[] w (Ret (e_umbralaw26_works (s_umbralaw26_works )) w) := by
  obtain ⟨R, HR⟩ : ∃ R, e_umbralaw26_works (s_umbralaw26_works ) = R := ⟨_, rfl⟩
  rw [HR]
  unfold s_umbralaw26_works at HR
  have hM0 := St.start w
  refine calls_run Try.func17 rfl ?_
  refine R_seq (R_region (S_val (.bool false) (by kernel_rfl) (S_nil (R_seq (R_region (S_val (.agg #[.int .i64 0, .int .i64 0, .int .i64 4294967296]) (by kernel_rfl) (S_val (.agg #[.int .i64 0, .int .i64 3, .int .i64 (-4)]) (by kernel_rfl) (S_call (s_surface_Mirror (0, 0, 4294967296) (0, 3, (-4))) (fun r : Int × Int × Int => .agg #[.int .i64 r.1, .int .i64 r.2.1, .int .i64 r.2.2]) hM0 (w_surface_Mirror (0, 0, 4294967296) (0, 3, (-4)) (⟨(show InI 0 from by unfold InI; omega), (show InI 0 from by unfold InI; omega), (show InI 4294967296 from by unfold InI; omega)⟩) (⟨(show InI 0 from by unfold InI; omega), (show InI 3 from by unfold InI; omega), (show InI (-4) from by unfold InI; omega)⟩) w) (by kernel_rfl) (fun r1 h2 w3 hM4 => S_fresh none #[.int .i64 0, .int .i64 0, .int .i64 0] 26 hM4 (by kernel_rfl) (fun g5 w6 hM7 => S_store 0 0 #[.int .i64 r1.1, .int .i64 r1.2.1, .int .i64 r1.2.2] hM7 (by kernel_rfl) (fun w8 hM9 => S_nil (?_))))))))))))
  have HR := hr_lt HR h2
  refine R_seq (R_region (S_val (.pointer (some ⟨g5, 0, none⟩)) (by kernel_rfl) (S_load 0 0 (.int .i64 r1.1) hM9 (by kernel_rfl) (?_))))
  refine S_dec (r1.1 = 0) (by kernel_rfl) (fun c10 => ?_) (fun c10 => ?_)
  · refine S_val (.bool true) (by kernel_rfl) (S_val (.pointer (some ⟨g5, 1, none⟩)) (by kernel_rfl) (S_load 0 1 (.int .i64 r1.2.1) hM9 (by kernel_rfl) (?_)))
    have HR := hr_pos HR c10
    refine S_dec (r1.2.1 > 2576980300) (by kernel_rfl) (fun c11 => ?_) (fun c11 => ?_)
    · refine S_val (.bool true) (by kernel_rfl) (S_val (.bool true) (by kernel_rfl) (S_val (.pointer (some ⟨g5, 1, none⟩)) (by kernel_rfl) (S_load 0 1 (.int .i64 r1.2.1) hM9 (by kernel_rfl) (?_))))
      have HR := hr_pos HR c11
      refine S_dec (r1.2.1 < 2576980400) (by kernel_rfl) (fun c12 => ?_) (fun c12 => ?_)
      · refine S_val (.bool true) (by kernel_rfl) (S_val (.bool true) (by kernel_rfl) (S_val (.pointer (some ⟨g5, 2, none⟩)) (by kernel_rfl) (S_load 0 2 (.int .i64 r1.2.2) hM9 (by kernel_rfl) (?_))))
        have HR := hr_pos HR c12
        refine S_dec (r1.2.2 > 3435973700) (by kernel_rfl) (fun c13 => ?_) (fun c13 => ?_)
        · refine S_val (.bool true) (by kernel_rfl) (S_val (.bool true) (by kernel_rfl) (S_val (.pointer (some ⟨g5, 2, none⟩)) (by kernel_rfl) (S_load 0 2 (.int .i64 r1.2.2) hM9 (by kernel_rfl) (?_))))
          have HR := hr_pos HR c13
          refine S_dec (r1.2.2 < 3435973900) (by kernel_rfl) (fun c14 => ?_) (fun c14 => ?_)
          · refine S_val (.bool true) (by kernel_rfl) (S_val (.bool true) (by kernel_rfl) (S_nil (?_)))
            have HR := hr_pos HR c14
            refine R_ret hM9 rfl (.cons (.tmp _ (.bool true) (by kernel_rfl)) .nil) rfl ?_
            exact ⟨congrArg Ending.returned HR, hM9.below⟩
          · refine S_val (.bool false) (by kernel_rfl) (S_val (.bool false) (by kernel_rfl) (S_nil (?_)))
            have HR := hr_neg HR c14
            refine R_ret hM9 rfl (.cons (.tmp _ (.bool false) (by kernel_rfl)) .nil) rfl ?_
            exact ⟨congrArg Ending.returned HR, hM9.below⟩
        · refine S_val (.bool false) (by kernel_rfl) (S_val (.bool false) (by kernel_rfl) (S_skip (by kernel_rfl) (S_skip (by kernel_rfl) (S_skip (by kernel_rfl) (S_val (.bool false) (by kernel_rfl) (S_val (.bool false) (by kernel_rfl) (S_nil (?_))))))))
          have HR := hr_neg HR c13
          refine R_ret hM9 rfl (.cons (.tmp _ (.bool false) (by kernel_rfl)) .nil) rfl ?_
          exact ⟨congrArg Ending.returned HR, hM9.below⟩
      · refine S_val (.bool false) (by kernel_rfl) (S_val (.bool false) (by kernel_rfl) (S_skip (by kernel_rfl) (S_skip (by kernel_rfl) (S_skip (by kernel_rfl) (S_val (.bool false) (by kernel_rfl) (S_val (.bool false) (by kernel_rfl) (S_skip (by kernel_rfl) (S_skip (by kernel_rfl) (S_skip (by kernel_rfl) (S_val (.bool false) (by kernel_rfl) (S_val (.bool false) (by kernel_rfl) (?_))))))))))))
        have HR := hr_neg HR c12
        refine S_nil (?_)
        refine R_ret hM9 rfl (.cons (.tmp _ (.bool false) (by kernel_rfl)) .nil) rfl ?_
        exact ⟨congrArg Ending.returned HR, hM9.below⟩
    · refine S_val (.bool false) (by kernel_rfl) (S_val (.bool false) (by kernel_rfl) (S_skip (by kernel_rfl) (S_skip (by kernel_rfl) (S_skip (by kernel_rfl) (S_val (.bool false) (by kernel_rfl) (S_val (.bool false) (by kernel_rfl) (S_skip (by kernel_rfl) (S_skip (by kernel_rfl) (S_skip (by kernel_rfl) (S_val (.bool false) (by kernel_rfl) (S_val (.bool false) (by kernel_rfl) (?_))))))))))))
      have HR := hr_neg HR c11
      refine S_skip (by kernel_rfl) (S_skip (by kernel_rfl) (S_skip (by kernel_rfl) (S_val (.bool false) (by kernel_rfl) (S_val (.bool false) (by kernel_rfl) (S_nil (?_))))))
      refine R_ret hM9 rfl (.cons (.tmp _ (.bool false) (by kernel_rfl)) .nil) rfl ?_
      exact ⟨congrArg Ending.returned HR, hM9.below⟩
  · refine S_val (.bool false) (by kernel_rfl) (S_skip (by kernel_rfl) (S_skip (by kernel_rfl) (S_skip (by kernel_rfl) (S_val (.bool false) (by kernel_rfl) (S_val (.bool false) (by kernel_rfl) (S_skip (by kernel_rfl) (S_skip (by kernel_rfl) (S_skip (by kernel_rfl) (S_val (.bool false) (by kernel_rfl) (S_val (.bool false) (by kernel_rfl) (S_skip (by kernel_rfl) (?_))))))))))))
    have HR := hr_neg HR c10
    refine S_skip (by kernel_rfl) (S_skip (by kernel_rfl) (S_val (.bool false) (by kernel_rfl) (S_val (.bool false) (by kernel_rfl) (S_skip (by kernel_rfl) (S_skip (by kernel_rfl) (S_skip (by kernel_rfl) (S_val (.bool false) (by kernel_rfl) (S_val (.bool false) (by kernel_rfl) (S_nil (?_))))))))))
    refine R_ret hM9 rfl (.cons (.tmp _ (.bool false) (by kernel_rfl)) .nil) rfl ?_
    exact ⟨congrArg Ending.returned HR, hM9.below⟩

def e_umbralaw26_SurfaceTurns (r : Bool) : Value := .bool r
def s_umbralaw26_SurfaceTurns (n : Int × Int × Int) (d1_ : Int × Int × Int) (draw : Int) : Bool :=
  lt (s_surface_Roulette n draw) fun r7 =>
  if r7.2 = true then
    lt (s_umbraref26_Roulette n draw) fun r91 =>
    if r91.2 = true then
      lt (s_surface_Facing n d1_) fun r133 =>
      lt (s_umbraref26_Facing n d1_) fun r135 =>
      if (r133 : Int × Int × Int) = r135 then
        lt (s_surface_Mirror n d1_) fun r138 =>
        lt (s_umbraref26_Mirror n d1_) fun r140 =>
        if (r138 : Int × Int × Int) = r140 then
          if (r7.1 : Int × Int × Int) = r91.1 then
            lt (s_umbralaw26_works ) fun r144 =>
            if r144 = true then
              true
            else
              false
          else
            false
        else
          false
      else
        false
    else
      lt (s_surface_Facing n d1_) fun r106 =>
      lt (s_umbraref26_Facing n d1_) fun r108 =>
      if (r106 : Int × Int × Int) = r108 then
        lt (s_surface_Mirror n d1_) fun r111 =>
        lt (s_umbraref26_Mirror n d1_) fun r113 =>
        if (r111 : Int × Int × Int) = r113 then
          if (r7.1 : Int × Int × Int) = r91.1 then
            false
          else
            false
        else
          false
      else
        false
  else
    lt (s_umbraref26_Roulette n draw) fun r19 =>
    if r19.2 = true then
      lt (s_surface_Facing n d1_) fun r66 =>
      lt (s_umbraref26_Facing n d1_) fun r68 =>
      if (r66 : Int × Int × Int) = r68 then
        lt (s_surface_Mirror n d1_) fun r71 =>
        lt (s_umbraref26_Mirror n d1_) fun r73 =>
        if (r71 : Int × Int × Int) = r73 then
          if (r7.1 : Int × Int × Int) = r19.1 then
            false
          else
            false
        else
          false
      else
        false
    else
      lt (s_surface_Facing n d1_) fun r34 =>
      lt (s_umbraref26_Facing n d1_) fun r36 =>
      if (r34 : Int × Int × Int) = r36 then
        lt (s_surface_Mirror n d1_) fun r39 =>
        lt (s_umbraref26_Mirror n d1_) fun r41 =>
        if (r39 : Int × Int × Int) = r41 then
          if (r7.1 : Int × Int × Int) = r19.1 then
            lt (s_umbralaw26_works ) fun r45 =>
            if r45 = true then
              true
            else
              false
          else
            false
        else
          false
      else
        false
set_option maxRecDepth 100000 in
set_option maxHeartbeats 4000000 in
theorem w_umbralaw26_SurfaceTurns (n : Int × Int × Int) (d1_ : Int × Int × Int) (draw : Int) (h_n : InV n) (h_d1_ : InV d1_) (h_draw : InU32 draw) (w : World) : Calls Try.prog 6 #[.agg #[.int .i64 n.1, .int .i64 n.2.1, .int .i64 n.2.2], .agg #[.int .i64 d1_.1, .int .i64 d1_.2.1, .int .i64 d1_.2.2], .int .u32 draw] w (Ret (e_umbralaw26_SurfaceTurns (s_umbralaw26_SurfaceTurns n d1_ draw)) w) := by
  obtain ⟨R, HR⟩ : ∃ R, e_umbralaw26_SurfaceTurns (s_umbralaw26_SurfaceTurns n d1_ draw) = R := ⟨_, rfl⟩
  rw [HR]
  unfold s_umbralaw26_SurfaceTurns at HR
  have hM0 := St.start w
  refine calls_run Try.func6 rfl ?_
  refine R_seq (R_region (S_fresh none #[.int .i64 n.1, .int .i64 n.2.1, .int .i64 n.2.2] 26 hM0 (by kernel_rfl) (fun g1 w2 hM3 => S_fresh none #[.int .i64 d1_.1, .int .i64 d1_.2.1, .int .i64 d1_.2.2] 23 hM3 (by kernel_rfl) (fun g4 w5 hM6 => S_val (.bool false) (by kernel_rfl) (S_nil (R_seq (R_region (S_load 1 0 (.agg #[.int .i64 n.1, .int .i64 n.2.1, .int .i64 n.2.2]) hM6 (by kernel_rfl) (S_val (.int .u32 draw) (by kernel_rfl) (S_call (s_surface_Roulette n draw) (fun r : (Int × Int × Int) × Bool => .tuple #[.agg #[.int .i64 r.1.1, .int .i64 r.1.2.1, .int .i64 r.1.2.2], .bool r.2]) hM6 (w_surface_Roulette n draw h_n h_draw w5) (by kernel_rfl) (fun r7 h8 w9 hM10 => ?_)))))))))))
  have HR := hr_lt HR h8
  obtain ⟨r11, b13⟩ := r7
  cases b13
  · refine S_val (.tuple #[.agg #[.int .i64 r11.1, .int .i64 r11.2.1, .int .i64 r11.2.2], .bool false]) (by kernel_rfl) (S_val (.agg #[.int .i64 r11.1, .int .i64 r11.2.1, .int .i64 r11.2.2]) (by kernel_rfl) (S_val (.bool false) (by kernel_rfl) (S_fresh none #[.int .i64 0, .int .i64 0, .int .i64 0] 26 hM10 (by kernel_rfl) (fun g14 w15 hM16 => S_store 0 0 #[.int .i64 r11.1, .int .i64 r11.2.1, .int .i64 r11.2.2] hM16 (by kernel_rfl) (fun w17 hM18 => S_val (.bool false) (by kernel_rfl) (S_nil (R_seq (R_region (S_load 2 0 (.agg #[.int .i64 n.1, .int .i64 n.2.1, .int .i64 n.2.2]) hM18 (by kernel_rfl) (S_val (.int .u32 draw) (by kernel_rfl) (S_call (s_umbraref26_Roulette n draw) (fun r : (Int × Int × Int) × Bool => .tuple #[.agg #[.int .i64 r.1.1, .int .i64 r.1.2.1, .int .i64 r.1.2.2], .bool r.2]) hM18 (w_umbraref26_Roulette n draw h_n h_draw w17) (by kernel_rfl) (fun r19 h20 w21 hM22 => ?_))))))))))))
    have HR := hr_neg HR Bool.false_ne_true
    have HR := hr_lt HR h20
    obtain ⟨r23, b25⟩ := r19
    cases b25
    · refine S_val (.tuple #[.agg #[.int .i64 r23.1, .int .i64 r23.2.1, .int .i64 r23.2.2], .bool false]) (by kernel_rfl) (S_val (.agg #[.int .i64 r23.1, .int .i64 r23.2.1, .int .i64 r23.2.2]) (by kernel_rfl) (S_val (.bool false) (by kernel_rfl) (S_fresh none #[.int .i64 0, .int .i64 0, .int .i64 0] 26 hM22 (by kernel_rfl) (fun g26 w27 hM28 => S_store 0 0 #[.int .i64 r23.1, .int .i64 r23.2.1, .int .i64 r23.2.2] hM28 (by kernel_rfl) (fun w29 hM30 => S_val (.bool false) (by kernel_rfl) (S_nil (R_seq (R_drawF 30 (by kernel_rfl) (fun F31 U32 hL33 => F_load 3 0 (.agg #[.int .i64 n.1, .int .i64 n.2.1, .int .i64 n.2.2]) hM30 (by kernel_rfl) (F_load 2 0 (.agg #[.int .i64 d1_.1, .int .i64 d1_.2.1, .int .i64 d1_.2.2]) hM30 (by kernel_rfl) (F_call (s_surface_Facing n d1_) (fun r : Int × Int × Int => .agg #[.int .i64 r.1, .int .i64 r.2.1, .int .i64 r.2.2]) hM30 hL33 (fun w' hM' => w_surface_Facing n d1_ h_n h_d1_ w') (by kernel_rfl) (fun _ => by kernel_rfl) (fun r34 h35 => ?_))))))))))))
      have HR := hr_neg HR Bool.false_ne_true
      have HR := hr_lt HR h35
      refine F_load 3 0 (.agg #[.int .i64 n.1, .int .i64 n.2.1, .int .i64 n.2.2]) hM30 (by kernel_rfl) (F_load 2 0 (.agg #[.int .i64 d1_.1, .int .i64 d1_.2.1, .int .i64 d1_.2.2]) hM30 (by kernel_rfl) (F_call (s_umbraref26_Facing n d1_) (fun r : Int × Int × Int => .agg #[.int .i64 r.1, .int .i64 r.2.1, .int .i64 r.2.2]) hM30 hL33 (fun w' hM' => w_umbraref26_Facing n d1_ h_n h_d1_ w') (by kernel_rfl) (fun _ => by kernel_rfl) (fun r36 h37 => ?_)))
      have HR := hr_lt HR h37
      refine F_dec ((r34 : Int × Int × Int) = r36) (fun _ => eqv_umbra_api_Vec (x := r34) (y := r36) (by kernel_rfl) (by kernel_rfl) (by kernel_rfl)) (fun c38 => ?_) (fun c38 => ?_)
      · refine F_val (.bool true) (fun _ => by kernel_rfl) (F_load 3 0 (.agg #[.int .i64 n.1, .int .i64 n.2.1, .int .i64 n.2.2]) hM30 (by kernel_rfl) (F_load 2 0 (.agg #[.int .i64 d1_.1, .int .i64 d1_.2.1, .int .i64 d1_.2.2]) hM30 (by kernel_rfl) (F_call (s_surface_Mirror n d1_) (fun r : Int × Int × Int => .agg #[.int .i64 r.1, .int .i64 r.2.1, .int .i64 r.2.2]) hM30 hL33 (fun w' hM' => w_surface_Mirror n d1_ h_n h_d1_ w') (by kernel_rfl) (fun _ => by kernel_rfl) (fun r39 h40 => F_load 3 0 (.agg #[.int .i64 n.1, .int .i64 n.2.1, .int .i64 n.2.2]) hM30 (by kernel_rfl) (F_load 2 0 (.agg #[.int .i64 d1_.1, .int .i64 d1_.2.1, .int .i64 d1_.2.2]) hM30 (by kernel_rfl) (F_call (s_umbraref26_Mirror n d1_) (fun r : Int × Int × Int => .agg #[.int .i64 r.1, .int .i64 r.2.1, .int .i64 r.2.2]) hM30 hL33 (fun w' hM' => w_umbraref26_Mirror n d1_ h_n h_d1_ w') (by kernel_rfl) (fun _ => by kernel_rfl) (fun r41 h42 => ?_)))))))
        have HR := hr_pos HR c38
        have HR := hr_lt HR h40
        have HR := hr_lt HR h42
        refine F_dec ((r39 : Int × Int × Int) = r41) (fun _ => eqv_umbra_api_Vec (x := r39) (y := r41) (by kernel_rfl) (by kernel_rfl) (by kernel_rfl)) (fun c43 => ?_) (fun c43 => ?_)
        · refine F_val (.bool true) (fun _ => by kernel_rfl) (F_val (.bool true) (fun _ => by kernel_rfl) (F_load 1 0 (.agg #[.int .i64 r11.1, .int .i64 r11.2.1, .int .i64 r11.2.2]) hM30 (by kernel_rfl) (F_load 0 0 (.agg #[.int .i64 r23.1, .int .i64 r23.2.1, .int .i64 r23.2.2]) hM30 (by kernel_rfl) (?_))))
          have HR := hr_pos HR c43
          refine F_dec ((r11 : Int × Int × Int) = r23) (fun _ => eqv_umbra_api_Vec (x := r11) (y := r23) (by kernel_rfl) (by kernel_rfl) (by kernel_rfl)) (fun c44 => ?_) (fun c44 => ?_)
          · refine F_val (.bool true) (fun _ => by kernel_rfl) (F_val (.bool true) (fun _ => by kernel_rfl) (F_val (.bool false) (fun _ => by kernel_rfl) (F_val (.bool false) (fun _ => by kernel_rfl) (F_val (.bool true) (fun _ => by kernel_rfl) (F_val (.bool true) (fun _ => by kernel_rfl) (F_val (.bool true) (fun _ => by kernel_rfl) (F_call (s_umbralaw26_works ) (fun r : Bool => .bool r) hM30 hL33 (fun w' hM' => w_umbralaw26_works  w') (by kernel_rfl) (fun _ => by kernel_rfl) (fun r45 h46 => ?_))))))))
            have HR := hr_pos HR c44
            have HR := hr_lt HR h46
            cases r45
            · refine F_val (.bool false) (fun _ => by kernel_rfl) (F_val (.bool false) (fun _ => by kernel_rfl) (F_nil hM30 hL33 (fun w47 hM48 => S_nil (?_))))
              have HR := hr_neg HR Bool.false_ne_true
              refine R_ret hM48 rfl (.cons (.tmp _ (.bool false) (by kernel_rfl)) .nil) rfl ?_
              exact ⟨congrArg Ending.returned HR, hM48.below⟩
            · refine F_val (.bool true) (fun _ => by kernel_rfl) (F_val (.bool true) (fun _ => by kernel_rfl) (F_nil hM30 hL33 (fun w49 hM50 => S_nil (?_))))
              have HR := hr_pos HR rfl
              refine R_ret hM50 rfl (.cons (.tmp _ (.bool true) (by kernel_rfl)) .nil) rfl ?_
              exact ⟨congrArg Ending.returned HR, hM50.below⟩
          · refine F_val (.bool false) (fun _ => by kernel_rfl) (F_val (.bool false) (fun _ => by kernel_rfl) (F_skip (by kernel_rfl) (F_skip (by kernel_rfl) (F_skip (by kernel_rfl) (F_val (.bool false) (fun _ => by kernel_rfl) (F_val (.bool false) (fun _ => by kernel_rfl) (F_skip (by kernel_rfl) (F_val (.bool false) (fun _ => by kernel_rfl) (F_val (.bool false) (fun _ => by kernel_rfl) (F_nil hM30 hL33 (fun w52 hM53 => S_nil (?_))))))))))))
            have HR := hr_neg HR c44
            refine R_ret hM53 rfl (.cons (.tmp _ (.bool false) (by kernel_rfl)) .nil) rfl ?_
            exact ⟨congrArg Ending.returned HR, hM53.below⟩
        · refine F_val (.bool false) (fun _ => by kernel_rfl) (F_val (.bool false) (fun _ => by kernel_rfl) (F_skip (by kernel_rfl) (F_skip (by kernel_rfl) (F_skip (by kernel_rfl) (F_val (.bool false) (fun _ => by kernel_rfl) (F_val (.bool false) (fun _ => by kernel_rfl) (F_skip (by kernel_rfl) (F_skip (by kernel_rfl) (F_skip (by kernel_rfl) (F_val (.bool false) (fun _ => by kernel_rfl) (F_val (.bool false) (fun _ => by kernel_rfl) (?_))))))))))))
          have HR := hr_neg HR c43
          refine F_skip (by kernel_rfl) (F_val (.bool false) (fun _ => by kernel_rfl) (F_val (.bool false) (fun _ => by kernel_rfl) (F_nil hM30 hL33 (fun w54 hM55 => S_nil (?_)))))
          refine R_ret hM55 rfl (.cons (.tmp _ (.bool false) (by kernel_rfl)) .nil) rfl ?_
          exact ⟨congrArg Ending.returned HR, hM55.below⟩
      · refine F_val (.bool false) (fun _ => by kernel_rfl) (F_skip (by kernel_rfl) (F_skip (by kernel_rfl) (F_skip (by kernel_rfl) (F_skip (by kernel_rfl) (F_skip (by kernel_rfl) (F_skip (by kernel_rfl) (F_skip (by kernel_rfl) (F_val (.bool false) (fun _ => by kernel_rfl) (F_val (.bool false) (fun _ => by kernel_rfl) (F_skip (by kernel_rfl) (F_skip (by kernel_rfl) (?_))))))))))))
        have HR := hr_neg HR c38
        refine F_skip (by kernel_rfl) (F_val (.bool false) (fun _ => by kernel_rfl) (F_val (.bool false) (fun _ => by kernel_rfl) (F_skip (by kernel_rfl) (F_skip (by kernel_rfl) (F_skip (by kernel_rfl) (F_val (.bool false) (fun _ => by kernel_rfl) (F_val (.bool false) (fun _ => by kernel_rfl) (F_skip (by kernel_rfl) (F_val (.bool false) (fun _ => by kernel_rfl) (F_val (.bool false) (fun _ => by kernel_rfl) (F_nil hM30 hL33 (fun w56 hM57 => ?_))))))))))))
        refine S_nil (?_)
        refine R_ret hM57 rfl (.cons (.tmp _ (.bool false) (by kernel_rfl)) .nil) rfl ?_
        exact ⟨congrArg Ending.returned HR, hM57.below⟩
    · refine S_val (.tuple #[.agg #[.int .i64 r23.1, .int .i64 r23.2.1, .int .i64 r23.2.2], .bool true]) (by kernel_rfl) (S_val (.agg #[.int .i64 r23.1, .int .i64 r23.2.1, .int .i64 r23.2.2]) (by kernel_rfl) (S_val (.bool true) (by kernel_rfl) (S_fresh none #[.int .i64 0, .int .i64 0, .int .i64 0] 26 hM22 (by kernel_rfl) (fun g58 w59 hM60 => S_store 0 0 #[.int .i64 r23.1, .int .i64 r23.2.1, .int .i64 r23.2.2] hM60 (by kernel_rfl) (fun w61 hM62 => S_val (.bool true) (by kernel_rfl) (S_nil (R_seq (R_drawF 30 (by kernel_rfl) (fun F63 U64 hL65 => F_load 3 0 (.agg #[.int .i64 n.1, .int .i64 n.2.1, .int .i64 n.2.2]) hM62 (by kernel_rfl) (F_load 2 0 (.agg #[.int .i64 d1_.1, .int .i64 d1_.2.1, .int .i64 d1_.2.2]) hM62 (by kernel_rfl) (F_call (s_surface_Facing n d1_) (fun r : Int × Int × Int => .agg #[.int .i64 r.1, .int .i64 r.2.1, .int .i64 r.2.2]) hM62 hL65 (fun w' hM' => w_surface_Facing n d1_ h_n h_d1_ w') (by kernel_rfl) (fun _ => by kernel_rfl) (fun r66 h67 => ?_))))))))))))
      have HR := hr_pos HR rfl
      have HR := hr_lt HR h67
      refine F_load 3 0 (.agg #[.int .i64 n.1, .int .i64 n.2.1, .int .i64 n.2.2]) hM62 (by kernel_rfl) (F_load 2 0 (.agg #[.int .i64 d1_.1, .int .i64 d1_.2.1, .int .i64 d1_.2.2]) hM62 (by kernel_rfl) (F_call (s_umbraref26_Facing n d1_) (fun r : Int × Int × Int => .agg #[.int .i64 r.1, .int .i64 r.2.1, .int .i64 r.2.2]) hM62 hL65 (fun w' hM' => w_umbraref26_Facing n d1_ h_n h_d1_ w') (by kernel_rfl) (fun _ => by kernel_rfl) (fun r68 h69 => ?_)))
      have HR := hr_lt HR h69
      refine F_dec ((r66 : Int × Int × Int) = r68) (fun _ => eqv_umbra_api_Vec (x := r66) (y := r68) (by kernel_rfl) (by kernel_rfl) (by kernel_rfl)) (fun c70 => ?_) (fun c70 => ?_)
      · refine F_val (.bool true) (fun _ => by kernel_rfl) (F_load 3 0 (.agg #[.int .i64 n.1, .int .i64 n.2.1, .int .i64 n.2.2]) hM62 (by kernel_rfl) (F_load 2 0 (.agg #[.int .i64 d1_.1, .int .i64 d1_.2.1, .int .i64 d1_.2.2]) hM62 (by kernel_rfl) (F_call (s_surface_Mirror n d1_) (fun r : Int × Int × Int => .agg #[.int .i64 r.1, .int .i64 r.2.1, .int .i64 r.2.2]) hM62 hL65 (fun w' hM' => w_surface_Mirror n d1_ h_n h_d1_ w') (by kernel_rfl) (fun _ => by kernel_rfl) (fun r71 h72 => F_load 3 0 (.agg #[.int .i64 n.1, .int .i64 n.2.1, .int .i64 n.2.2]) hM62 (by kernel_rfl) (F_load 2 0 (.agg #[.int .i64 d1_.1, .int .i64 d1_.2.1, .int .i64 d1_.2.2]) hM62 (by kernel_rfl) (F_call (s_umbraref26_Mirror n d1_) (fun r : Int × Int × Int => .agg #[.int .i64 r.1, .int .i64 r.2.1, .int .i64 r.2.2]) hM62 hL65 (fun w' hM' => w_umbraref26_Mirror n d1_ h_n h_d1_ w') (by kernel_rfl) (fun _ => by kernel_rfl) (fun r73 h74 => ?_)))))))
        have HR := hr_pos HR c70
        have HR := hr_lt HR h72
        have HR := hr_lt HR h74
        refine F_dec ((r71 : Int × Int × Int) = r73) (fun _ => eqv_umbra_api_Vec (x := r71) (y := r73) (by kernel_rfl) (by kernel_rfl) (by kernel_rfl)) (fun c75 => ?_) (fun c75 => ?_)
        · refine F_val (.bool true) (fun _ => by kernel_rfl) (F_val (.bool true) (fun _ => by kernel_rfl) (F_load 1 0 (.agg #[.int .i64 r11.1, .int .i64 r11.2.1, .int .i64 r11.2.2]) hM62 (by kernel_rfl) (F_load 0 0 (.agg #[.int .i64 r23.1, .int .i64 r23.2.1, .int .i64 r23.2.2]) hM62 (by kernel_rfl) (?_))))
          have HR := hr_pos HR c75
          refine F_dec ((r11 : Int × Int × Int) = r23) (fun _ => eqv_umbra_api_Vec (x := r11) (y := r23) (by kernel_rfl) (by kernel_rfl) (by kernel_rfl)) (fun c76 => ?_) (fun c76 => ?_)
          · refine F_val (.bool true) (fun _ => by kernel_rfl) (F_val (.bool true) (fun _ => by kernel_rfl) (F_val (.bool false) (fun _ => by kernel_rfl) (F_val (.bool true) (fun _ => by kernel_rfl) (F_val (.bool false) (fun _ => by kernel_rfl) (F_val (.bool false) (fun _ => by kernel_rfl) (F_val (.bool false) (fun _ => by kernel_rfl) (F_skip (by kernel_rfl) (F_val (.bool false) (fun _ => by kernel_rfl) (F_val (.bool false) (fun _ => by kernel_rfl) (F_nil hM62 hL65 (fun w77 hM78 => S_nil (?_))))))))))))
            have HR := hr_pos HR c76
            refine R_ret hM78 rfl (.cons (.tmp _ (.bool false) (by kernel_rfl)) .nil) rfl ?_
            exact ⟨congrArg Ending.returned HR, hM78.below⟩
          · refine F_val (.bool false) (fun _ => by kernel_rfl) (F_val (.bool false) (fun _ => by kernel_rfl) (F_skip (by kernel_rfl) (F_skip (by kernel_rfl) (F_skip (by kernel_rfl) (F_val (.bool false) (fun _ => by kernel_rfl) (F_val (.bool false) (fun _ => by kernel_rfl) (F_skip (by kernel_rfl) (F_val (.bool false) (fun _ => by kernel_rfl) (F_val (.bool false) (fun _ => by kernel_rfl) (F_nil hM62 hL65 (fun w79 hM80 => S_nil (?_))))))))))))
            have HR := hr_neg HR c76
            refine R_ret hM80 rfl (.cons (.tmp _ (.bool false) (by kernel_rfl)) .nil) rfl ?_
            exact ⟨congrArg Ending.returned HR, hM80.below⟩
        · refine F_val (.bool false) (fun _ => by kernel_rfl) (F_val (.bool false) (fun _ => by kernel_rfl) (F_skip (by kernel_rfl) (F_skip (by kernel_rfl) (F_skip (by kernel_rfl) (F_val (.bool false) (fun _ => by kernel_rfl) (F_val (.bool false) (fun _ => by kernel_rfl) (F_skip (by kernel_rfl) (F_skip (by kernel_rfl) (F_skip (by kernel_rfl) (F_val (.bool false) (fun _ => by kernel_rfl) (F_val (.bool false) (fun _ => by kernel_rfl) (?_))))))))))))
          have HR := hr_neg HR c75
          refine F_skip (by kernel_rfl) (F_val (.bool false) (fun _ => by kernel_rfl) (F_val (.bool false) (fun _ => by kernel_rfl) (F_nil hM62 hL65 (fun w81 hM82 => S_nil (?_)))))
          refine R_ret hM82 rfl (.cons (.tmp _ (.bool false) (by kernel_rfl)) .nil) rfl ?_
          exact ⟨congrArg Ending.returned HR, hM82.below⟩
      · refine F_val (.bool false) (fun _ => by kernel_rfl) (F_skip (by kernel_rfl) (F_skip (by kernel_rfl) (F_skip (by kernel_rfl) (F_skip (by kernel_rfl) (F_skip (by kernel_rfl) (F_skip (by kernel_rfl) (F_skip (by kernel_rfl) (F_val (.bool false) (fun _ => by kernel_rfl) (F_val (.bool false) (fun _ => by kernel_rfl) (F_skip (by kernel_rfl) (F_skip (by kernel_rfl) (?_))))))))))))
        have HR := hr_neg HR c70
        refine F_skip (by kernel_rfl) (F_val (.bool false) (fun _ => by kernel_rfl) (F_val (.bool false) (fun _ => by kernel_rfl) (F_skip (by kernel_rfl) (F_skip (by kernel_rfl) (F_skip (by kernel_rfl) (F_val (.bool false) (fun _ => by kernel_rfl) (F_val (.bool false) (fun _ => by kernel_rfl) (F_skip (by kernel_rfl) (F_val (.bool false) (fun _ => by kernel_rfl) (F_val (.bool false) (fun _ => by kernel_rfl) (F_nil hM62 hL65 (fun w83 hM84 => ?_))))))))))))
        refine S_nil (?_)
        refine R_ret hM84 rfl (.cons (.tmp _ (.bool false) (by kernel_rfl)) .nil) rfl ?_
        exact ⟨congrArg Ending.returned HR, hM84.below⟩
  · refine S_val (.tuple #[.agg #[.int .i64 r11.1, .int .i64 r11.2.1, .int .i64 r11.2.2], .bool true]) (by kernel_rfl) (S_val (.agg #[.int .i64 r11.1, .int .i64 r11.2.1, .int .i64 r11.2.2]) (by kernel_rfl) (S_val (.bool true) (by kernel_rfl) (S_fresh none #[.int .i64 0, .int .i64 0, .int .i64 0] 26 hM10 (by kernel_rfl) (fun g86 w87 hM88 => S_store 0 0 #[.int .i64 r11.1, .int .i64 r11.2.1, .int .i64 r11.2.2] hM88 (by kernel_rfl) (fun w89 hM90 => S_val (.bool true) (by kernel_rfl) (S_nil (R_seq (R_region (S_load 2 0 (.agg #[.int .i64 n.1, .int .i64 n.2.1, .int .i64 n.2.2]) hM90 (by kernel_rfl) (S_val (.int .u32 draw) (by kernel_rfl) (S_call (s_umbraref26_Roulette n draw) (fun r : (Int × Int × Int) × Bool => .tuple #[.agg #[.int .i64 r.1.1, .int .i64 r.1.2.1, .int .i64 r.1.2.2], .bool r.2]) hM90 (w_umbraref26_Roulette n draw h_n h_draw w89) (by kernel_rfl) (fun r91 h92 w93 hM94 => ?_))))))))))))
    have HR := hr_pos HR rfl
    have HR := hr_lt HR h92
    obtain ⟨r95, b97⟩ := r91
    cases b97
    · refine S_val (.tuple #[.agg #[.int .i64 r95.1, .int .i64 r95.2.1, .int .i64 r95.2.2], .bool false]) (by kernel_rfl) (S_val (.agg #[.int .i64 r95.1, .int .i64 r95.2.1, .int .i64 r95.2.2]) (by kernel_rfl) (S_val (.bool false) (by kernel_rfl) (S_fresh none #[.int .i64 0, .int .i64 0, .int .i64 0] 26 hM94 (by kernel_rfl) (fun g98 w99 hM100 => S_store 0 0 #[.int .i64 r95.1, .int .i64 r95.2.1, .int .i64 r95.2.2] hM100 (by kernel_rfl) (fun w101 hM102 => S_val (.bool false) (by kernel_rfl) (S_nil (R_seq (R_drawF 30 (by kernel_rfl) (fun F103 U104 hL105 => F_load 3 0 (.agg #[.int .i64 n.1, .int .i64 n.2.1, .int .i64 n.2.2]) hM102 (by kernel_rfl) (F_load 2 0 (.agg #[.int .i64 d1_.1, .int .i64 d1_.2.1, .int .i64 d1_.2.2]) hM102 (by kernel_rfl) (F_call (s_surface_Facing n d1_) (fun r : Int × Int × Int => .agg #[.int .i64 r.1, .int .i64 r.2.1, .int .i64 r.2.2]) hM102 hL105 (fun w' hM' => w_surface_Facing n d1_ h_n h_d1_ w') (by kernel_rfl) (fun _ => by kernel_rfl) (fun r106 h107 => ?_))))))))))))
      have HR := hr_neg HR Bool.false_ne_true
      have HR := hr_lt HR h107
      refine F_load 3 0 (.agg #[.int .i64 n.1, .int .i64 n.2.1, .int .i64 n.2.2]) hM102 (by kernel_rfl) (F_load 2 0 (.agg #[.int .i64 d1_.1, .int .i64 d1_.2.1, .int .i64 d1_.2.2]) hM102 (by kernel_rfl) (F_call (s_umbraref26_Facing n d1_) (fun r : Int × Int × Int => .agg #[.int .i64 r.1, .int .i64 r.2.1, .int .i64 r.2.2]) hM102 hL105 (fun w' hM' => w_umbraref26_Facing n d1_ h_n h_d1_ w') (by kernel_rfl) (fun _ => by kernel_rfl) (fun r108 h109 => ?_)))
      have HR := hr_lt HR h109
      refine F_dec ((r106 : Int × Int × Int) = r108) (fun _ => eqv_umbra_api_Vec (x := r106) (y := r108) (by kernel_rfl) (by kernel_rfl) (by kernel_rfl)) (fun c110 => ?_) (fun c110 => ?_)
      · refine F_val (.bool true) (fun _ => by kernel_rfl) (F_load 3 0 (.agg #[.int .i64 n.1, .int .i64 n.2.1, .int .i64 n.2.2]) hM102 (by kernel_rfl) (F_load 2 0 (.agg #[.int .i64 d1_.1, .int .i64 d1_.2.1, .int .i64 d1_.2.2]) hM102 (by kernel_rfl) (F_call (s_surface_Mirror n d1_) (fun r : Int × Int × Int => .agg #[.int .i64 r.1, .int .i64 r.2.1, .int .i64 r.2.2]) hM102 hL105 (fun w' hM' => w_surface_Mirror n d1_ h_n h_d1_ w') (by kernel_rfl) (fun _ => by kernel_rfl) (fun r111 h112 => F_load 3 0 (.agg #[.int .i64 n.1, .int .i64 n.2.1, .int .i64 n.2.2]) hM102 (by kernel_rfl) (F_load 2 0 (.agg #[.int .i64 d1_.1, .int .i64 d1_.2.1, .int .i64 d1_.2.2]) hM102 (by kernel_rfl) (F_call (s_umbraref26_Mirror n d1_) (fun r : Int × Int × Int => .agg #[.int .i64 r.1, .int .i64 r.2.1, .int .i64 r.2.2]) hM102 hL105 (fun w' hM' => w_umbraref26_Mirror n d1_ h_n h_d1_ w') (by kernel_rfl) (fun _ => by kernel_rfl) (fun r113 h114 => ?_)))))))
        have HR := hr_pos HR c110
        have HR := hr_lt HR h112
        have HR := hr_lt HR h114
        refine F_dec ((r111 : Int × Int × Int) = r113) (fun _ => eqv_umbra_api_Vec (x := r111) (y := r113) (by kernel_rfl) (by kernel_rfl) (by kernel_rfl)) (fun c115 => ?_) (fun c115 => ?_)
        · refine F_val (.bool true) (fun _ => by kernel_rfl) (F_val (.bool true) (fun _ => by kernel_rfl) (F_load 1 0 (.agg #[.int .i64 r11.1, .int .i64 r11.2.1, .int .i64 r11.2.2]) hM102 (by kernel_rfl) (F_load 0 0 (.agg #[.int .i64 r95.1, .int .i64 r95.2.1, .int .i64 r95.2.2]) hM102 (by kernel_rfl) (?_))))
          have HR := hr_pos HR c115
          refine F_dec ((r11 : Int × Int × Int) = r95) (fun _ => eqv_umbra_api_Vec (x := r11) (y := r95) (by kernel_rfl) (by kernel_rfl) (by kernel_rfl)) (fun c116 => ?_) (fun c116 => ?_)
          · refine F_val (.bool true) (fun _ => by kernel_rfl) (F_val (.bool true) (fun _ => by kernel_rfl) (F_val (.bool true) (fun _ => by kernel_rfl) (F_val (.bool false) (fun _ => by kernel_rfl) (F_val (.bool false) (fun _ => by kernel_rfl) (F_val (.bool false) (fun _ => by kernel_rfl) (F_val (.bool false) (fun _ => by kernel_rfl) (F_skip (by kernel_rfl) (F_val (.bool false) (fun _ => by kernel_rfl) (F_val (.bool false) (fun _ => by kernel_rfl) (F_nil hM102 hL105 (fun w117 hM118 => S_nil (?_))))))))))))
            have HR := hr_pos HR c116
            refine R_ret hM118 rfl (.cons (.tmp _ (.bool false) (by kernel_rfl)) .nil) rfl ?_
            exact ⟨congrArg Ending.returned HR, hM118.below⟩
          · refine F_val (.bool false) (fun _ => by kernel_rfl) (F_val (.bool false) (fun _ => by kernel_rfl) (F_skip (by kernel_rfl) (F_skip (by kernel_rfl) (F_skip (by kernel_rfl) (F_val (.bool false) (fun _ => by kernel_rfl) (F_val (.bool false) (fun _ => by kernel_rfl) (F_skip (by kernel_rfl) (F_val (.bool false) (fun _ => by kernel_rfl) (F_val (.bool false) (fun _ => by kernel_rfl) (F_nil hM102 hL105 (fun w119 hM120 => S_nil (?_))))))))))))
            have HR := hr_neg HR c116
            refine R_ret hM120 rfl (.cons (.tmp _ (.bool false) (by kernel_rfl)) .nil) rfl ?_
            exact ⟨congrArg Ending.returned HR, hM120.below⟩
        · refine F_val (.bool false) (fun _ => by kernel_rfl) (F_val (.bool false) (fun _ => by kernel_rfl) (F_skip (by kernel_rfl) (F_skip (by kernel_rfl) (F_skip (by kernel_rfl) (F_val (.bool false) (fun _ => by kernel_rfl) (F_val (.bool false) (fun _ => by kernel_rfl) (F_skip (by kernel_rfl) (F_skip (by kernel_rfl) (F_skip (by kernel_rfl) (F_val (.bool false) (fun _ => by kernel_rfl) (F_val (.bool false) (fun _ => by kernel_rfl) (?_))))))))))))
          have HR := hr_neg HR c115
          refine F_skip (by kernel_rfl) (F_val (.bool false) (fun _ => by kernel_rfl) (F_val (.bool false) (fun _ => by kernel_rfl) (F_nil hM102 hL105 (fun w121 hM122 => S_nil (?_)))))
          refine R_ret hM122 rfl (.cons (.tmp _ (.bool false) (by kernel_rfl)) .nil) rfl ?_
          exact ⟨congrArg Ending.returned HR, hM122.below⟩
      · refine F_val (.bool false) (fun _ => by kernel_rfl) (F_skip (by kernel_rfl) (F_skip (by kernel_rfl) (F_skip (by kernel_rfl) (F_skip (by kernel_rfl) (F_skip (by kernel_rfl) (F_skip (by kernel_rfl) (F_skip (by kernel_rfl) (F_val (.bool false) (fun _ => by kernel_rfl) (F_val (.bool false) (fun _ => by kernel_rfl) (F_skip (by kernel_rfl) (F_skip (by kernel_rfl) (?_))))))))))))
        have HR := hr_neg HR c110
        refine F_skip (by kernel_rfl) (F_val (.bool false) (fun _ => by kernel_rfl) (F_val (.bool false) (fun _ => by kernel_rfl) (F_skip (by kernel_rfl) (F_skip (by kernel_rfl) (F_skip (by kernel_rfl) (F_val (.bool false) (fun _ => by kernel_rfl) (F_val (.bool false) (fun _ => by kernel_rfl) (F_skip (by kernel_rfl) (F_val (.bool false) (fun _ => by kernel_rfl) (F_val (.bool false) (fun _ => by kernel_rfl) (F_nil hM102 hL105 (fun w123 hM124 => ?_))))))))))))
        refine S_nil (?_)
        refine R_ret hM124 rfl (.cons (.tmp _ (.bool false) (by kernel_rfl)) .nil) rfl ?_
        exact ⟨congrArg Ending.returned HR, hM124.below⟩
    · refine S_val (.tuple #[.agg #[.int .i64 r95.1, .int .i64 r95.2.1, .int .i64 r95.2.2], .bool true]) (by kernel_rfl) (S_val (.agg #[.int .i64 r95.1, .int .i64 r95.2.1, .int .i64 r95.2.2]) (by kernel_rfl) (S_val (.bool true) (by kernel_rfl) (S_fresh none #[.int .i64 0, .int .i64 0, .int .i64 0] 26 hM94 (by kernel_rfl) (fun g125 w126 hM127 => S_store 0 0 #[.int .i64 r95.1, .int .i64 r95.2.1, .int .i64 r95.2.2] hM127 (by kernel_rfl) (fun w128 hM129 => S_val (.bool true) (by kernel_rfl) (S_nil (R_seq (R_drawF 30 (by kernel_rfl) (fun F130 U131 hL132 => F_load 3 0 (.agg #[.int .i64 n.1, .int .i64 n.2.1, .int .i64 n.2.2]) hM129 (by kernel_rfl) (F_load 2 0 (.agg #[.int .i64 d1_.1, .int .i64 d1_.2.1, .int .i64 d1_.2.2]) hM129 (by kernel_rfl) (F_call (s_surface_Facing n d1_) (fun r : Int × Int × Int => .agg #[.int .i64 r.1, .int .i64 r.2.1, .int .i64 r.2.2]) hM129 hL132 (fun w' hM' => w_surface_Facing n d1_ h_n h_d1_ w') (by kernel_rfl) (fun _ => by kernel_rfl) (fun r133 h134 => ?_))))))))))))
      have HR := hr_pos HR rfl
      have HR := hr_lt HR h134
      refine F_load 3 0 (.agg #[.int .i64 n.1, .int .i64 n.2.1, .int .i64 n.2.2]) hM129 (by kernel_rfl) (F_load 2 0 (.agg #[.int .i64 d1_.1, .int .i64 d1_.2.1, .int .i64 d1_.2.2]) hM129 (by kernel_rfl) (F_call (s_umbraref26_Facing n d1_) (fun r : Int × Int × Int => .agg #[.int .i64 r.1, .int .i64 r.2.1, .int .i64 r.2.2]) hM129 hL132 (fun w' hM' => w_umbraref26_Facing n d1_ h_n h_d1_ w') (by kernel_rfl) (fun _ => by kernel_rfl) (fun r135 h136 => ?_)))
      have HR := hr_lt HR h136
      refine F_dec ((r133 : Int × Int × Int) = r135) (fun _ => eqv_umbra_api_Vec (x := r133) (y := r135) (by kernel_rfl) (by kernel_rfl) (by kernel_rfl)) (fun c137 => ?_) (fun c137 => ?_)
      · refine F_val (.bool true) (fun _ => by kernel_rfl) (F_load 3 0 (.agg #[.int .i64 n.1, .int .i64 n.2.1, .int .i64 n.2.2]) hM129 (by kernel_rfl) (F_load 2 0 (.agg #[.int .i64 d1_.1, .int .i64 d1_.2.1, .int .i64 d1_.2.2]) hM129 (by kernel_rfl) (F_call (s_surface_Mirror n d1_) (fun r : Int × Int × Int => .agg #[.int .i64 r.1, .int .i64 r.2.1, .int .i64 r.2.2]) hM129 hL132 (fun w' hM' => w_surface_Mirror n d1_ h_n h_d1_ w') (by kernel_rfl) (fun _ => by kernel_rfl) (fun r138 h139 => F_load 3 0 (.agg #[.int .i64 n.1, .int .i64 n.2.1, .int .i64 n.2.2]) hM129 (by kernel_rfl) (F_load 2 0 (.agg #[.int .i64 d1_.1, .int .i64 d1_.2.1, .int .i64 d1_.2.2]) hM129 (by kernel_rfl) (F_call (s_umbraref26_Mirror n d1_) (fun r : Int × Int × Int => .agg #[.int .i64 r.1, .int .i64 r.2.1, .int .i64 r.2.2]) hM129 hL132 (fun w' hM' => w_umbraref26_Mirror n d1_ h_n h_d1_ w') (by kernel_rfl) (fun _ => by kernel_rfl) (fun r140 h141 => ?_)))))))
        have HR := hr_pos HR c137
        have HR := hr_lt HR h139
        have HR := hr_lt HR h141
        refine F_dec ((r138 : Int × Int × Int) = r140) (fun _ => eqv_umbra_api_Vec (x := r138) (y := r140) (by kernel_rfl) (by kernel_rfl) (by kernel_rfl)) (fun c142 => ?_) (fun c142 => ?_)
        · refine F_val (.bool true) (fun _ => by kernel_rfl) (F_val (.bool true) (fun _ => by kernel_rfl) (F_load 1 0 (.agg #[.int .i64 r11.1, .int .i64 r11.2.1, .int .i64 r11.2.2]) hM129 (by kernel_rfl) (F_load 0 0 (.agg #[.int .i64 r95.1, .int .i64 r95.2.1, .int .i64 r95.2.2]) hM129 (by kernel_rfl) (?_))))
          have HR := hr_pos HR c142
          refine F_dec ((r11 : Int × Int × Int) = r95) (fun _ => eqv_umbra_api_Vec (x := r11) (y := r95) (by kernel_rfl) (by kernel_rfl) (by kernel_rfl)) (fun c143 => ?_) (fun c143 => ?_)
          · refine F_val (.bool true) (fun _ => by kernel_rfl) (F_val (.bool true) (fun _ => by kernel_rfl) (F_val (.bool true) (fun _ => by kernel_rfl) (F_val (.bool true) (fun _ => by kernel_rfl) (F_val (.bool true) (fun _ => by kernel_rfl) (F_val (.bool true) (fun _ => by kernel_rfl) (F_val (.bool true) (fun _ => by kernel_rfl) (F_call (s_umbralaw26_works ) (fun r : Bool => .bool r) hM129 hL132 (fun w' hM' => w_umbralaw26_works  w') (by kernel_rfl) (fun _ => by kernel_rfl) (fun r144 h145 => ?_))))))))
            have HR := hr_pos HR c143
            have HR := hr_lt HR h145
            cases r144
            · refine F_val (.bool false) (fun _ => by kernel_rfl) (F_val (.bool false) (fun _ => by kernel_rfl) (F_nil hM129 hL132 (fun w146 hM147 => S_nil (?_))))
              have HR := hr_neg HR Bool.false_ne_true
              refine R_ret hM147 rfl (.cons (.tmp _ (.bool false) (by kernel_rfl)) .nil) rfl ?_
              exact ⟨congrArg Ending.returned HR, hM147.below⟩
            · refine F_val (.bool true) (fun _ => by kernel_rfl) (F_val (.bool true) (fun _ => by kernel_rfl) (F_nil hM129 hL132 (fun w148 hM149 => S_nil (?_))))
              have HR := hr_pos HR rfl
              refine R_ret hM149 rfl (.cons (.tmp _ (.bool true) (by kernel_rfl)) .nil) rfl ?_
              exact ⟨congrArg Ending.returned HR, hM149.below⟩
          · refine F_val (.bool false) (fun _ => by kernel_rfl) (F_val (.bool false) (fun _ => by kernel_rfl) (F_skip (by kernel_rfl) (F_skip (by kernel_rfl) (F_skip (by kernel_rfl) (F_val (.bool false) (fun _ => by kernel_rfl) (F_val (.bool false) (fun _ => by kernel_rfl) (F_skip (by kernel_rfl) (F_val (.bool false) (fun _ => by kernel_rfl) (F_val (.bool false) (fun _ => by kernel_rfl) (F_nil hM129 hL132 (fun w151 hM152 => S_nil (?_))))))))))))
            have HR := hr_neg HR c143
            refine R_ret hM152 rfl (.cons (.tmp _ (.bool false) (by kernel_rfl)) .nil) rfl ?_
            exact ⟨congrArg Ending.returned HR, hM152.below⟩
        · refine F_val (.bool false) (fun _ => by kernel_rfl) (F_val (.bool false) (fun _ => by kernel_rfl) (F_skip (by kernel_rfl) (F_skip (by kernel_rfl) (F_skip (by kernel_rfl) (F_val (.bool false) (fun _ => by kernel_rfl) (F_val (.bool false) (fun _ => by kernel_rfl) (F_skip (by kernel_rfl) (F_skip (by kernel_rfl) (F_skip (by kernel_rfl) (F_val (.bool false) (fun _ => by kernel_rfl) (F_val (.bool false) (fun _ => by kernel_rfl) (?_))))))))))))
          have HR := hr_neg HR c142
          refine F_skip (by kernel_rfl) (F_val (.bool false) (fun _ => by kernel_rfl) (F_val (.bool false) (fun _ => by kernel_rfl) (F_nil hM129 hL132 (fun w153 hM154 => S_nil (?_)))))
          refine R_ret hM154 rfl (.cons (.tmp _ (.bool false) (by kernel_rfl)) .nil) rfl ?_
          exact ⟨congrArg Ending.returned HR, hM154.below⟩
      · refine F_val (.bool false) (fun _ => by kernel_rfl) (F_skip (by kernel_rfl) (F_skip (by kernel_rfl) (F_skip (by kernel_rfl) (F_skip (by kernel_rfl) (F_skip (by kernel_rfl) (F_skip (by kernel_rfl) (F_skip (by kernel_rfl) (F_val (.bool false) (fun _ => by kernel_rfl) (F_val (.bool false) (fun _ => by kernel_rfl) (F_skip (by kernel_rfl) (F_skip (by kernel_rfl) (?_))))))))))))
        have HR := hr_neg HR c137
        refine F_skip (by kernel_rfl) (F_val (.bool false) (fun _ => by kernel_rfl) (F_val (.bool false) (fun _ => by kernel_rfl) (F_skip (by kernel_rfl) (F_skip (by kernel_rfl) (F_skip (by kernel_rfl) (F_val (.bool false) (fun _ => by kernel_rfl) (F_val (.bool false) (fun _ => by kernel_rfl) (F_skip (by kernel_rfl) (F_val (.bool false) (fun _ => by kernel_rfl) (F_val (.bool false) (fun _ => by kernel_rfl) (F_nil hM129 hL132 (fun w155 hM156 => ?_))))))))))))
        refine S_nil (?_)
        refine R_ret hM156 rfl (.cons (.tmp _ (.bool false) (by kernel_rfl)) .nil) rfl ?_
        exact ⟨congrArg Ending.returned HR, hM156.below⟩

def e_umbralaw26_SurfaceScatters (r : Bool) : Value := .bool r
def s_umbralaw26_SurfaceScatters (h0_ : (Int × (Int × Int × Int) × Int) × (Int × Int × Int) × (Int × Int × Int) × (Int × Int × Int) × (Int × Int)) : Bool :=
  lt (s_surface_Scatter h0_.1 h0_.2.1 h0_.2.2.1 h0_.2.2.2.1 h0_.2.2.2.2) fun r7 =>
  if r7.2.2 = true then
    lt (s_umbraref26_Scatter h0_.1 h0_.2.1 h0_.2.2.1 h0_.2.2.2.1 h0_.2.2.2.2) fun r40 =>
    if r40.2.2 = true then
      if ((r7.1, r7.2.1, true) : (Int × Int × Int) × (Int × Int × Int) × Bool) = (r40.1, r40.2.1, true) then
        lt (s_umbralaw26_works ) fun r57 =>
        if r57 = true then
          true
        else
          false
      else
        false
    else
      if ((r7.1, r7.2.1, true) : (Int × Int × Int) × (Int × Int × Int) × Bool) = (r40.1, r40.2.1, false) then
        lt (s_umbralaw26_works ) fun r47 =>
        if r47 = true then
          true
        else
          false
      else
        false
  else
    lt (s_umbraref26_Scatter h0_.1 h0_.2.1 h0_.2.2.1 h0_.2.2.2.1 h0_.2.2.2.2) fun r13 =>
    if r13.2.2 = true then
      if ((r7.1, r7.2.1, false) : (Int × Int × Int) × (Int × Int × Int) × Bool) = (r13.1, r13.2.1, true) then
        lt (s_umbralaw26_works ) fun r30 =>
        if r30 = true then
          true
        else
          false
      else
        false
    else
      if ((r7.1, r7.2.1, false) : (Int × Int × Int) × (Int × Int × Int) × Bool) = (r13.1, r13.2.1, false) then
        lt (s_umbralaw26_works ) fun r20 =>
        if r20 = true then
          true
        else
          false
      else
        false
set_option maxRecDepth 100000 in
set_option maxHeartbeats 4000000 in
theorem w_umbralaw26_SurfaceScatters (h0_ : (Int × (Int × Int × Int) × Int) × (Int × Int × Int) × (Int × Int × Int) × (Int × Int × Int) × (Int × Int)) (h_h0_ : ((InI h0_.1.1 ∧ InV h0_.1.2.1 ∧ InI h0_.1.2.2) ∧ InV h0_.2.1 ∧ InV h0_.2.2.1 ∧ InV h0_.2.2.2.1 ∧ (InU32 h0_.2.2.2.2.1 ∧ InU32 h0_.2.2.2.2.2))) (w : World) : Calls Try.prog 7 #[.agg #[.int .i64 h0_.1.1, .int .i64 h0_.1.2.1.1, .int .i64 h0_.1.2.1.2.1, .int .i64 h0_.1.2.1.2.2, .int .i64 h0_.1.2.2, .int .i64 h0_.2.1.1, .int .i64 h0_.2.1.2.1, .int .i64 h0_.2.1.2.2, .int .i64 h0_.2.2.1.1, .int .i64 h0_.2.2.1.2.1, .int .i64 h0_.2.2.1.2.2, .int .i64 h0_.2.2.2.1.1, .int .i64 h0_.2.2.2.1.2.1, .int .i64 h0_.2.2.2.1.2.2, .int .u32 h0_.2.2.2.2.1, .int .u32 h0_.2.2.2.2.2]] w (Ret (e_umbralaw26_SurfaceScatters (s_umbralaw26_SurfaceScatters h0_)) w) := by
  obtain ⟨R, HR⟩ : ∃ R, e_umbralaw26_SurfaceScatters (s_umbralaw26_SurfaceScatters h0_) = R := ⟨_, rfl⟩
  rw [HR]
  unfold s_umbralaw26_SurfaceScatters at HR
  have hM0 := St.start w
  refine calls_run Try.func7 rfl ?_
  refine R_seq (R_region (S_fresh none #[.int .i64 h0_.1.1, .int .i64 h0_.1.2.1.1, .int .i64 h0_.1.2.1.2.1, .int .i64 h0_.1.2.1.2.2, .int .i64 h0_.1.2.2, .int .i64 h0_.2.1.1, .int .i64 h0_.2.1.2.1, .int .i64 h0_.2.1.2.2, .int .i64 h0_.2.2.1.1, .int .i64 h0_.2.2.1.2.1, .int .i64 h0_.2.2.1.2.2, .int .i64 h0_.2.2.2.1.1, .int .i64 h0_.2.2.2.1.2.1, .int .i64 h0_.2.2.2.1.2.2, .int .u32 h0_.2.2.2.2.1, .int .u32 h0_.2.2.2.2.2] 51 hM0 (by kernel_rfl) (fun g1 w2 hM3 => S_val (.bool false) (by kernel_rfl) (S_nil (R_seq (R_drawF 27 (by kernel_rfl) (fun F4 U5 hL6 => F_val (.pointer (some ⟨g1, 0, none⟩)) (fun _ => by kernel_rfl) (F_load 0 0 (.agg #[.int .i64 h0_.1.1, .int .i64 h0_.1.2.1.1, .int .i64 h0_.1.2.1.2.1, .int .i64 h0_.1.2.1.2.2, .int .i64 h0_.1.2.2]) hM3 (by kernel_rfl) (F_val (.pointer (some ⟨g1, 5, none⟩)) (fun _ => by kernel_rfl) (F_load 0 5 (.agg #[.int .i64 h0_.2.1.1, .int .i64 h0_.2.1.2.1, .int .i64 h0_.2.1.2.2]) hM3 (by kernel_rfl) (F_val (.pointer (some ⟨g1, 8, none⟩)) (fun _ => by kernel_rfl) (?_))))))))))))
  refine F_load 0 8 (.agg #[.int .i64 h0_.2.2.1.1, .int .i64 h0_.2.2.1.2.1, .int .i64 h0_.2.2.1.2.2]) hM3 (by kernel_rfl) (F_val (.pointer (some ⟨g1, 11, none⟩)) (fun _ => by kernel_rfl) (F_load 0 11 (.agg #[.int .i64 h0_.2.2.2.1.1, .int .i64 h0_.2.2.2.1.2.1, .int .i64 h0_.2.2.2.1.2.2]) hM3 (by kernel_rfl) (F_val (.pointer (some ⟨g1, 14, none⟩)) (fun _ => by kernel_rfl) (F_load 0 14 (.agg #[.int .u32 h0_.2.2.2.2.1, .int .u32 h0_.2.2.2.2.2]) hM3 (by kernel_rfl) (F_call (s_surface_Scatter h0_.1 h0_.2.1 h0_.2.2.1 h0_.2.2.2.1 h0_.2.2.2.2) (fun r : (Int × Int × Int) × (Int × Int × Int) × Bool => .agg #[.int .i64 r.1.1, .int .i64 r.1.2.1, .int .i64 r.1.2.2, .int .i64 r.2.1.1, .int .i64 r.2.1.2.1, .int .i64 r.2.1.2.2, .bool r.2.2]) hM3 hL6 (fun w' hM' => w_surface_Scatter h0_.1 h0_.2.1 h0_.2.2.1 h0_.2.2.2.1 h0_.2.2.2.2 h_h0_.1 h_h0_.2.1 h_h0_.2.2.1 h_h0_.2.2.2.1 h_h0_.2.2.2.2 w') (by kernel_rfl) (fun _ => by kernel_rfl) (fun r7 h8 => ?_))))))
  have HR := hr_lt HR h8
  obtain ⟨r9, r10, b12⟩ := r7
  cases b12
  · refine F_val (.pointer (some ⟨g1, 0, none⟩)) (fun _ => by kernel_rfl) (F_load 0 0 (.agg #[.int .i64 h0_.1.1, .int .i64 h0_.1.2.1.1, .int .i64 h0_.1.2.1.2.1, .int .i64 h0_.1.2.1.2.2, .int .i64 h0_.1.2.2]) hM3 (by kernel_rfl) (F_val (.pointer (some ⟨g1, 5, none⟩)) (fun _ => by kernel_rfl) (F_load 0 5 (.agg #[.int .i64 h0_.2.1.1, .int .i64 h0_.2.1.2.1, .int .i64 h0_.2.1.2.2]) hM3 (by kernel_rfl) (F_val (.pointer (some ⟨g1, 8, none⟩)) (fun _ => by kernel_rfl) (F_load 0 8 (.agg #[.int .i64 h0_.2.2.1.1, .int .i64 h0_.2.2.1.2.1, .int .i64 h0_.2.2.1.2.2]) hM3 (by kernel_rfl) (F_val (.pointer (some ⟨g1, 11, none⟩)) (fun _ => by kernel_rfl) (F_load 0 11 (.agg #[.int .i64 h0_.2.2.2.1.1, .int .i64 h0_.2.2.2.1.2.1, .int .i64 h0_.2.2.2.1.2.2]) hM3 (by kernel_rfl) (F_val (.pointer (some ⟨g1, 14, none⟩)) (fun _ => by kernel_rfl) (F_load 0 14 (.agg #[.int .u32 h0_.2.2.2.2.1, .int .u32 h0_.2.2.2.2.2]) hM3 (by kernel_rfl) (F_call (s_umbraref26_Scatter h0_.1 h0_.2.1 h0_.2.2.1 h0_.2.2.2.1 h0_.2.2.2.2) (fun r : (Int × Int × Int) × (Int × Int × Int) × Bool => .agg #[.int .i64 r.1.1, .int .i64 r.1.2.1, .int .i64 r.1.2.2, .int .i64 r.2.1.1, .int .i64 r.2.1.2.1, .int .i64 r.2.1.2.2, .bool r.2.2]) hM3 hL6 (fun w' hM' => w_umbraref26_Scatter h0_.1 h0_.2.1 h0_.2.2.1 h0_.2.2.2.1 h0_.2.2.2.2 h_h0_.1 h_h0_.2.1 h_h0_.2.2.1 h_h0_.2.2.2.1 h_h0_.2.2.2.2 w') (by kernel_rfl) (fun _ => by kernel_rfl) (fun r13 h14 => ?_)))))))))))
    have HR := hr_neg HR Bool.false_ne_true
    have HR := hr_lt HR h14
    obtain ⟨r15, r16, b18⟩ := r13
    cases b18
    · have HR := hr_neg HR Bool.false_ne_true
      refine F_dec (((r9, r10, false) : (Int × Int × Int) × (Int × Int × Int) × Bool) = (r15, r16, false)) (fun _ => eqv_umbra_api_Turn (x := (r9, r10, false)) (y := (r15, r16, false)) (by kernel_rfl) (by kernel_rfl) (by kernel_rfl)) (fun c19 => ?_) (fun c19 => ?_)
      · refine F_val (.bool true) (fun _ => by kernel_rfl) (F_call (s_umbralaw26_works ) (fun r : Bool => .bool r) hM3 hL6 (fun w' hM' => w_umbralaw26_works  w') (by kernel_rfl) (fun _ => by kernel_rfl) (fun r20 h21 => ?_))
        have HR := hr_pos HR c19
        have HR := hr_lt HR h21
        cases r20
        · refine F_val (.bool false) (fun _ => by kernel_rfl) (F_val (.bool false) (fun _ => by kernel_rfl) (F_nil hM3 hL6 (fun w22 hM23 => S_nil (?_))))
          have HR := hr_neg HR Bool.false_ne_true
          refine R_ret hM23 rfl (.cons (.tmp _ (.bool false) (by kernel_rfl)) .nil) rfl ?_
          exact ⟨congrArg Ending.returned HR, hM23.below⟩
        · refine F_val (.bool true) (fun _ => by kernel_rfl) (F_val (.bool true) (fun _ => by kernel_rfl) (F_nil hM3 hL6 (fun w24 hM25 => S_nil (?_))))
          have HR := hr_pos HR rfl
          refine R_ret hM25 rfl (.cons (.tmp _ (.bool true) (by kernel_rfl)) .nil) rfl ?_
          exact ⟨congrArg Ending.returned HR, hM25.below⟩
      · refine F_val (.bool false) (fun _ => by kernel_rfl) (F_skip (by kernel_rfl) (F_val (.bool false) (fun _ => by kernel_rfl) (F_val (.bool false) (fun _ => by kernel_rfl) (F_nil hM3 hL6 (fun w27 hM28 => S_nil (?_))))))
        have HR := hr_neg HR c19
        refine R_ret hM28 rfl (.cons (.tmp _ (.bool false) (by kernel_rfl)) .nil) rfl ?_
        exact ⟨congrArg Ending.returned HR, hM28.below⟩
    · have HR := hr_pos HR rfl
      refine F_dec (((r9, r10, false) : (Int × Int × Int) × (Int × Int × Int) × Bool) = (r15, r16, true)) (fun _ => eqv_umbra_api_Turn (x := (r9, r10, false)) (y := (r15, r16, true)) (by kernel_rfl) (by kernel_rfl) (by kernel_rfl)) (fun c29 => ?_) (fun c29 => ?_)
      · refine F_val (.bool true) (fun _ => by kernel_rfl) (F_call (s_umbralaw26_works ) (fun r : Bool => .bool r) hM3 hL6 (fun w' hM' => w_umbralaw26_works  w') (by kernel_rfl) (fun _ => by kernel_rfl) (fun r30 h31 => ?_))
        have HR := hr_pos HR c29
        have HR := hr_lt HR h31
        cases r30
        · refine F_val (.bool false) (fun _ => by kernel_rfl) (F_val (.bool false) (fun _ => by kernel_rfl) (F_nil hM3 hL6 (fun w32 hM33 => S_nil (?_))))
          have HR := hr_neg HR Bool.false_ne_true
          refine R_ret hM33 rfl (.cons (.tmp _ (.bool false) (by kernel_rfl)) .nil) rfl ?_
          exact ⟨congrArg Ending.returned HR, hM33.below⟩
        · refine F_val (.bool true) (fun _ => by kernel_rfl) (F_val (.bool true) (fun _ => by kernel_rfl) (F_nil hM3 hL6 (fun w34 hM35 => S_nil (?_))))
          have HR := hr_pos HR rfl
          refine R_ret hM35 rfl (.cons (.tmp _ (.bool true) (by kernel_rfl)) .nil) rfl ?_
          exact ⟨congrArg Ending.returned HR, hM35.below⟩
      · refine F_val (.bool false) (fun _ => by kernel_rfl) (F_skip (by kernel_rfl) (F_val (.bool false) (fun _ => by kernel_rfl) (F_val (.bool false) (fun _ => by kernel_rfl) (F_nil hM3 hL6 (fun w37 hM38 => S_nil (?_))))))
        have HR := hr_neg HR c29
        refine R_ret hM38 rfl (.cons (.tmp _ (.bool false) (by kernel_rfl)) .nil) rfl ?_
        exact ⟨congrArg Ending.returned HR, hM38.below⟩
  · refine F_val (.pointer (some ⟨g1, 0, none⟩)) (fun _ => by kernel_rfl) (F_load 0 0 (.agg #[.int .i64 h0_.1.1, .int .i64 h0_.1.2.1.1, .int .i64 h0_.1.2.1.2.1, .int .i64 h0_.1.2.1.2.2, .int .i64 h0_.1.2.2]) hM3 (by kernel_rfl) (F_val (.pointer (some ⟨g1, 5, none⟩)) (fun _ => by kernel_rfl) (F_load 0 5 (.agg #[.int .i64 h0_.2.1.1, .int .i64 h0_.2.1.2.1, .int .i64 h0_.2.1.2.2]) hM3 (by kernel_rfl) (F_val (.pointer (some ⟨g1, 8, none⟩)) (fun _ => by kernel_rfl) (F_load 0 8 (.agg #[.int .i64 h0_.2.2.1.1, .int .i64 h0_.2.2.1.2.1, .int .i64 h0_.2.2.1.2.2]) hM3 (by kernel_rfl) (F_val (.pointer (some ⟨g1, 11, none⟩)) (fun _ => by kernel_rfl) (F_load 0 11 (.agg #[.int .i64 h0_.2.2.2.1.1, .int .i64 h0_.2.2.2.1.2.1, .int .i64 h0_.2.2.2.1.2.2]) hM3 (by kernel_rfl) (F_val (.pointer (some ⟨g1, 14, none⟩)) (fun _ => by kernel_rfl) (F_load 0 14 (.agg #[.int .u32 h0_.2.2.2.2.1, .int .u32 h0_.2.2.2.2.2]) hM3 (by kernel_rfl) (F_call (s_umbraref26_Scatter h0_.1 h0_.2.1 h0_.2.2.1 h0_.2.2.2.1 h0_.2.2.2.2) (fun r : (Int × Int × Int) × (Int × Int × Int) × Bool => .agg #[.int .i64 r.1.1, .int .i64 r.1.2.1, .int .i64 r.1.2.2, .int .i64 r.2.1.1, .int .i64 r.2.1.2.1, .int .i64 r.2.1.2.2, .bool r.2.2]) hM3 hL6 (fun w' hM' => w_umbraref26_Scatter h0_.1 h0_.2.1 h0_.2.2.1 h0_.2.2.2.1 h0_.2.2.2.2 h_h0_.1 h_h0_.2.1 h_h0_.2.2.1 h_h0_.2.2.2.1 h_h0_.2.2.2.2 w') (by kernel_rfl) (fun _ => by kernel_rfl) (fun r40 h41 => ?_)))))))))))
    have HR := hr_pos HR rfl
    have HR := hr_lt HR h41
    obtain ⟨r42, r43, b45⟩ := r40
    cases b45
    · have HR := hr_neg HR Bool.false_ne_true
      refine F_dec (((r9, r10, true) : (Int × Int × Int) × (Int × Int × Int) × Bool) = (r42, r43, false)) (fun _ => eqv_umbra_api_Turn (x := (r9, r10, true)) (y := (r42, r43, false)) (by kernel_rfl) (by kernel_rfl) (by kernel_rfl)) (fun c46 => ?_) (fun c46 => ?_)
      · refine F_val (.bool true) (fun _ => by kernel_rfl) (F_call (s_umbralaw26_works ) (fun r : Bool => .bool r) hM3 hL6 (fun w' hM' => w_umbralaw26_works  w') (by kernel_rfl) (fun _ => by kernel_rfl) (fun r47 h48 => ?_))
        have HR := hr_pos HR c46
        have HR := hr_lt HR h48
        cases r47
        · refine F_val (.bool false) (fun _ => by kernel_rfl) (F_val (.bool false) (fun _ => by kernel_rfl) (F_nil hM3 hL6 (fun w49 hM50 => S_nil (?_))))
          have HR := hr_neg HR Bool.false_ne_true
          refine R_ret hM50 rfl (.cons (.tmp _ (.bool false) (by kernel_rfl)) .nil) rfl ?_
          exact ⟨congrArg Ending.returned HR, hM50.below⟩
        · refine F_val (.bool true) (fun _ => by kernel_rfl) (F_val (.bool true) (fun _ => by kernel_rfl) (F_nil hM3 hL6 (fun w51 hM52 => S_nil (?_))))
          have HR := hr_pos HR rfl
          refine R_ret hM52 rfl (.cons (.tmp _ (.bool true) (by kernel_rfl)) .nil) rfl ?_
          exact ⟨congrArg Ending.returned HR, hM52.below⟩
      · refine F_val (.bool false) (fun _ => by kernel_rfl) (F_skip (by kernel_rfl) (F_val (.bool false) (fun _ => by kernel_rfl) (F_val (.bool false) (fun _ => by kernel_rfl) (F_nil hM3 hL6 (fun w54 hM55 => S_nil (?_))))))
        have HR := hr_neg HR c46
        refine R_ret hM55 rfl (.cons (.tmp _ (.bool false) (by kernel_rfl)) .nil) rfl ?_
        exact ⟨congrArg Ending.returned HR, hM55.below⟩
    · have HR := hr_pos HR rfl
      refine F_dec (((r9, r10, true) : (Int × Int × Int) × (Int × Int × Int) × Bool) = (r42, r43, true)) (fun _ => eqv_umbra_api_Turn (x := (r9, r10, true)) (y := (r42, r43, true)) (by kernel_rfl) (by kernel_rfl) (by kernel_rfl)) (fun c56 => ?_) (fun c56 => ?_)
      · refine F_val (.bool true) (fun _ => by kernel_rfl) (F_call (s_umbralaw26_works ) (fun r : Bool => .bool r) hM3 hL6 (fun w' hM' => w_umbralaw26_works  w') (by kernel_rfl) (fun _ => by kernel_rfl) (fun r57 h58 => ?_))
        have HR := hr_pos HR c56
        have HR := hr_lt HR h58
        cases r57
        · refine F_val (.bool false) (fun _ => by kernel_rfl) (F_val (.bool false) (fun _ => by kernel_rfl) (F_nil hM3 hL6 (fun w59 hM60 => S_nil (?_))))
          have HR := hr_neg HR Bool.false_ne_true
          refine R_ret hM60 rfl (.cons (.tmp _ (.bool false) (by kernel_rfl)) .nil) rfl ?_
          exact ⟨congrArg Ending.returned HR, hM60.below⟩
        · refine F_val (.bool true) (fun _ => by kernel_rfl) (F_val (.bool true) (fun _ => by kernel_rfl) (F_nil hM3 hL6 (fun w61 hM62 => S_nil (?_))))
          have HR := hr_pos HR rfl
          refine R_ret hM62 rfl (.cons (.tmp _ (.bool true) (by kernel_rfl)) .nil) rfl ?_
          exact ⟨congrArg Ending.returned HR, hM62.below⟩
      · refine F_val (.bool false) (fun _ => by kernel_rfl) (F_skip (by kernel_rfl) (F_val (.bool false) (fun _ => by kernel_rfl) (F_val (.bool false) (fun _ => by kernel_rfl) (F_nil hM3 hL6 (fun w64 hM65 => S_nil (?_))))))
        have HR := hr_neg HR c56
        refine R_ret hM65 rfl (.cons (.tmp _ (.bool false) (by kernel_rfl)) .nil) rfl ?_
        exact ⟨congrArg Ending.returned HR, hM65.below⟩

def e_umbralaw26_SurfaceFaces (r : Bool) : Value := .bool r
def s_umbralaw26_SurfaceFaces (n : Int × Int × Int) (d1_ : Int × Int × Int) : Bool :=
  lt (vtow n) fun r7 =>
  lt (s_surface_Facing r7 d1_) fun r16 =>
  lt (vtow d1_) fun r28 =>
  lt (vdot r16 r28) fun r30 =>
  if r30 ≤ 0 then
    if (r16 : Int × Int × Int) = r7 then
      lt (s_umbralaw26_works ) fun r34 =>
      if r34 = true then
        true
      else
        false
    else
      lt (vscale r7 (-4294967296)) fun r41 =>
      if (r16 : Int × Int × Int) = r41 then
        lt (s_umbralaw26_works ) fun r44 =>
        if r44 = true then
          true
        else
          false
      else
        false
  else
    false
set_option maxRecDepth 100000 in
set_option maxHeartbeats 4000000 in
theorem w_umbralaw26_SurfaceFaces (n : Int × Int × Int) (d1_ : Int × Int × Int) (h_n : InV n) (h_d1_ : InV d1_) (w : World) : Calls Try.prog 3 #[.agg #[.int .i64 n.1, .int .i64 n.2.1, .int .i64 n.2.2], .agg #[.int .i64 d1_.1, .int .i64 d1_.2.1, .int .i64 d1_.2.2]] w (Ret (e_umbralaw26_SurfaceFaces (s_umbralaw26_SurfaceFaces n d1_)) w) := by
  obtain ⟨R, HR⟩ : ∃ R, e_umbralaw26_SurfaceFaces (s_umbralaw26_SurfaceFaces n d1_) = R := ⟨_, rfl⟩
  rw [HR]
  unfold s_umbralaw26_SurfaceFaces at HR
  have hM0 := St.start w
  refine calls_run Try.func3 rfl ?_
  refine R_seq (R_region (S_fresh none #[.int .i64 n.1, .int .i64 n.2.1, .int .i64 n.2.2] 23 hM0 (by kernel_rfl) (fun g1 w2 hM3 => S_fresh none #[.int .i64 d1_.1, .int .i64 d1_.2.1, .int .i64 d1_.2.2] 23 hM3 (by kernel_rfl) (fun g4 w5 hM6 => S_val (.bool false) (by kernel_rfl) (S_nil (R_seq (R_region (S_load 1 0 (.agg #[.int .i64 n.1, .int .i64 n.2.1, .int .i64 n.2.2]) hM6 (by kernel_rfl) (S_call (vtow n) (fun r : Int × Int × Int => .agg #[.int .i64 r.1, .int .i64 r.2.1, .int .i64 r.2.2]) hM6 (c_vec_Toward n h_n w5) (by kernel_rfl) (fun r7 h8 w9 hM10 => S_fresh none #[.int .i64 0, .int .i64 0, .int .i64 0] 26 hM10 (by kernel_rfl) (fun g11 w12 hM13 => S_store 0 0 #[.int .i64 r7.1, .int .i64 r7.2.1, .int .i64 r7.2.2] hM13 (by kernel_rfl) (fun w14 hM15 => ?_))))))))))))
  have HR := hr_lt HR h8
  refine S_nil (R_seq (R_region (S_load 0 0 (.agg #[.int .i64 r7.1, .int .i64 r7.2.1, .int .i64 r7.2.2]) hM15 (by kernel_rfl) (S_load 1 0 (.agg #[.int .i64 d1_.1, .int .i64 d1_.2.1, .int .i64 d1_.2.2]) hM15 (by kernel_rfl) (S_call (s_surface_Facing r7 d1_) (fun r : Int × Int × Int => .agg #[.int .i64 r.1, .int .i64 r.2.1, .int .i64 r.2.2]) hM15 (w_surface_Facing r7 d1_ ((tr (P := fun r : Int × Int × Int => InV r) h8 (vtow_I n)).out) h_d1_ w14) (by kernel_rfl) (fun r16 h17 w18 hM19 => S_fresh none #[.int .i64 0, .int .i64 0, .int .i64 0] 26 hM19 (by kernel_rfl) (fun g20 w21 hM22 => S_store 0 0 #[.int .i64 r16.1, .int .i64 r16.2.1, .int .i64 r16.2.2] hM22 (by kernel_rfl) (fun w23 hM24 => S_nil (R_seq (R_drawF 20 (by kernel_rfl) (fun F25 U26 hL27 => F_load 0 0 (.agg #[.int .i64 r16.1, .int .i64 r16.2.1, .int .i64 r16.2.2]) hM24 (by kernel_rfl) (?_))))))))))))
  have HR := hr_lt HR h17
  refine F_load 2 0 (.agg #[.int .i64 d1_.1, .int .i64 d1_.2.1, .int .i64 d1_.2.2]) hM24 (by kernel_rfl) (F_call (vtow d1_) (fun r : Int × Int × Int => .agg #[.int .i64 r.1, .int .i64 r.2.1, .int .i64 r.2.2]) hM24 hL27 (fun w' hM' => c_vec_Toward d1_ h_d1_ w') (by kernel_rfl) (fun _ => by kernel_rfl) (fun r28 h29 => F_call (vdot r16 r28) (fun r : Int => .int .i64 r) hM24 hL27 (fun w' hM' => c_vec_Dot r16 r28 ((tr (P := fun r : Int × Int × Int => InV r) h17 (i_surface_Facing r7 d1_ ((tr (P := fun r : Int × Int × Int => InV r) h8 (vtow_I n)).out) h_d1_)).out) ((tr (P := fun r : Int × Int × Int => InV r) h29 (vtow_I d1_)).out) w') (by kernel_rfl) (fun _ => by kernel_rfl) (fun r30 h31 => ?_)))
  have HR := hr_lt HR h29
  have HR := hr_lt HR h31
  refine F_dec (r30 ≤ 0) (fun _ => by kernel_rfl) (fun c32 => ?_) (fun c32 => ?_)
  · refine F_val (.bool true) (fun _ => by kernel_rfl) (F_load 0 0 (.agg #[.int .i64 r16.1, .int .i64 r16.2.1, .int .i64 r16.2.2]) hM24 (by kernel_rfl) (F_load 1 0 (.agg #[.int .i64 r7.1, .int .i64 r7.2.1, .int .i64 r7.2.2]) hM24 (by kernel_rfl) (?_)))
    have HR := hr_pos HR c32
    refine F_dec ((r16 : Int × Int × Int) = r7) (fun _ => eqv_umbra_api_Vec (x := r16) (y := r7) (by kernel_rfl) (by kernel_rfl) (by kernel_rfl)) (fun c33 => ?_) (fun c33 => ?_)
    · refine F_val (.bool true) (fun _ => by kernel_rfl) (F_skip (by kernel_rfl) (F_skip (by kernel_rfl) (F_skip (by kernel_rfl) (F_skip (by kernel_rfl) (F_val (.bool true) (fun _ => by kernel_rfl) (F_val (.bool true) (fun _ => by kernel_rfl) (F_val (.bool true) (fun _ => by kernel_rfl) (F_call (s_umbralaw26_works ) (fun r : Bool => .bool r) hM24 hL27 (fun w' hM' => w_umbralaw26_works  w') (by kernel_rfl) (fun _ => by kernel_rfl) (fun r34 h35 => ?_)))))))))
      have HR := hr_pos HR c33
      have HR := hr_lt HR h35
      cases r34
      · refine F_val (.bool false) (fun _ => by kernel_rfl) (F_val (.bool false) (fun _ => by kernel_rfl) (F_nil hM24 hL27 (fun w36 hM37 => S_nil (?_))))
        have HR := hr_neg HR Bool.false_ne_true
        refine R_ret hM37 rfl (.cons (.tmp _ (.bool false) (by kernel_rfl)) .nil) rfl ?_
        exact ⟨congrArg Ending.returned HR, hM37.below⟩
      · refine F_val (.bool true) (fun _ => by kernel_rfl) (F_val (.bool true) (fun _ => by kernel_rfl) (F_nil hM24 hL27 (fun w38 hM39 => S_nil (?_))))
        have HR := hr_pos HR rfl
        refine R_ret hM39 rfl (.cons (.tmp _ (.bool true) (by kernel_rfl)) .nil) rfl ?_
        exact ⟨congrArg Ending.returned HR, hM39.below⟩
    · refine F_val (.bool false) (fun _ => by kernel_rfl) (F_load 0 0 (.agg #[.int .i64 r16.1, .int .i64 r16.2.1, .int .i64 r16.2.2]) hM24 (by kernel_rfl) (F_load 1 0 (.agg #[.int .i64 r7.1, .int .i64 r7.2.1, .int .i64 r7.2.2]) hM24 (by kernel_rfl) (F_call (vscale r7 (-4294967296)) (fun r : Int × Int × Int => .agg #[.int .i64 r.1, .int .i64 r.2.1, .int .i64 r.2.2]) hM24 hL27 (fun w' hM' => c_vec_Scale r7 (-4294967296) ((tr (P := fun r : Int × Int × Int => InV r) h8 (vtow_I n)).out) (show InI (-4294967296) from by unfold InI; omega) w') (by kernel_rfl) (fun _ => by kernel_rfl) (fun r41 h42 => ?_))))
      have HR := hr_neg HR c33
      have HR := hr_lt HR h42
      refine F_dec ((r16 : Int × Int × Int) = r41) (fun _ => eqv_umbra_api_Vec (x := r16) (y := r41) (by kernel_rfl) (by kernel_rfl) (by kernel_rfl)) (fun c43 => ?_) (fun c43 => ?_)
      · refine F_val (.bool true) (fun _ => by kernel_rfl) (F_val (.bool true) (fun _ => by kernel_rfl) (F_val (.bool true) (fun _ => by kernel_rfl) (F_call (s_umbralaw26_works ) (fun r : Bool => .bool r) hM24 hL27 (fun w' hM' => w_umbralaw26_works  w') (by kernel_rfl) (fun _ => by kernel_rfl) (fun r44 h45 => ?_))))
        have HR := hr_pos HR c43
        have HR := hr_lt HR h45
        cases r44
        · refine F_val (.bool false) (fun _ => by kernel_rfl) (F_val (.bool false) (fun _ => by kernel_rfl) (F_nil hM24 hL27 (fun w46 hM47 => S_nil (?_))))
          have HR := hr_neg HR Bool.false_ne_true
          refine R_ret hM47 rfl (.cons (.tmp _ (.bool false) (by kernel_rfl)) .nil) rfl ?_
          exact ⟨congrArg Ending.returned HR, hM47.below⟩
        · refine F_val (.bool true) (fun _ => by kernel_rfl) (F_val (.bool true) (fun _ => by kernel_rfl) (F_nil hM24 hL27 (fun w48 hM49 => S_nil (?_))))
          have HR := hr_pos HR rfl
          refine R_ret hM49 rfl (.cons (.tmp _ (.bool true) (by kernel_rfl)) .nil) rfl ?_
          exact ⟨congrArg Ending.returned HR, hM49.below⟩
      · refine F_val (.bool false) (fun _ => by kernel_rfl) (F_val (.bool false) (fun _ => by kernel_rfl) (F_val (.bool false) (fun _ => by kernel_rfl) (F_skip (by kernel_rfl) (F_val (.bool false) (fun _ => by kernel_rfl) (F_val (.bool false) (fun _ => by kernel_rfl) (F_nil hM24 hL27 (fun w51 hM52 => S_nil (?_))))))))
        have HR := hr_neg HR c43
        refine R_ret hM52 rfl (.cons (.tmp _ (.bool false) (by kernel_rfl)) .nil) rfl ?_
        exact ⟨congrArg Ending.returned HR, hM52.below⟩
  · refine F_val (.bool false) (fun _ => by kernel_rfl) (F_skip (by kernel_rfl) (F_skip (by kernel_rfl) (F_skip (by kernel_rfl) (F_skip (by kernel_rfl) (F_skip (by kernel_rfl) (F_skip (by kernel_rfl) (F_skip (by kernel_rfl) (F_skip (by kernel_rfl) (F_skip (by kernel_rfl) (F_val (.bool false) (fun _ => by kernel_rfl) (F_val (.bool false) (fun _ => by kernel_rfl) (?_))))))))))))
    have HR := hr_neg HR c32
    refine F_skip (by kernel_rfl) (F_val (.bool false) (fun _ => by kernel_rfl) (F_val (.bool false) (fun _ => by kernel_rfl) (F_nil hM24 hL27 (fun w53 hM54 => S_nil (?_)))))
    refine R_ret hM54 rfl (.cons (.tmp _ (.bool false) (by kernel_rfl)) .nil) rfl ?_
    exact ⟨congrArg Ending.returned HR, hM54.below⟩

def e_umbralaw26_SurfaceSide (r : Bool) : Value := .bool r
def s_umbralaw26_SurfaceSide (h0_ : (Int × (Int × Int × Int) × Int) × (Int × Int × Int) × (Int × Int × Int) × (Int × Int × Int) × (Int × Int)) (n : Int × Int × Int) : Bool :=
  lt (vtow n) fun r7 =>
  lt (s_surface_Scatter h0_.1 h0_.2.1 r7 h0_.2.2.2.1 h0_.2.2.2.2) fun r13 =>
  if r13.2.2 = true then
    if ((r13.1, r13.2.1, true) : (Int × Int × Int) × (Int × Int × Int) × Bool) = ((0, 0, 0), (0, 0, 0), true) then
      lt (s_umbralaw26_works ) fun r85 =>
      if r85 = true then
        true
      else
        false
    else
      false
  else
    lt (mayB r13.1) fun r26 =>
    if r26 = true then
      if h0_.1.1 = 0 then
        lt (vtow r13.1) fun r40 =>
        lt (vdot r7 r40) fun r42 =>
        if r42 ≥ (-16) then
          lt (vmost r13.2.1) fun r50 =>
          lt (vmost h0_.2.1) fun r52 =>
          lt (mulF [r52, 8589934656]) fun r58 =>
          lt (sumF [r58, 2]) fun r64 =>
          if r50 ≤ r64 then
            lt (s_umbralaw26_works ) fun r67 =>
            if r67 = true then
              true
            else
              false
          else
            false
        else
          false
      else
        if (r13.2.1 : Int × Int × Int) = h0_.2.1 then
          lt (s_umbralaw26_works ) fun r32 =>
          if r32 = true then
            true
          else
            false
        else
          false
    else
      false
set_option maxRecDepth 100000 in
set_option maxHeartbeats 4000000 in
theorem w_umbralaw26_SurfaceSide (h0_ : (Int × (Int × Int × Int) × Int) × (Int × Int × Int) × (Int × Int × Int) × (Int × Int × Int) × (Int × Int)) (n : Int × Int × Int) (h_h0_ : ((InI h0_.1.1 ∧ InV h0_.1.2.1 ∧ InI h0_.1.2.2) ∧ InV h0_.2.1 ∧ InV h0_.2.2.1 ∧ InV h0_.2.2.2.1 ∧ (InU32 h0_.2.2.2.2.1 ∧ InU32 h0_.2.2.2.2.2))) (h_n : InV n) (w : World) : Calls Try.prog 8 #[.agg #[.int .i64 h0_.1.1, .int .i64 h0_.1.2.1.1, .int .i64 h0_.1.2.1.2.1, .int .i64 h0_.1.2.1.2.2, .int .i64 h0_.1.2.2, .int .i64 h0_.2.1.1, .int .i64 h0_.2.1.2.1, .int .i64 h0_.2.1.2.2, .int .i64 h0_.2.2.1.1, .int .i64 h0_.2.2.1.2.1, .int .i64 h0_.2.2.1.2.2, .int .i64 h0_.2.2.2.1.1, .int .i64 h0_.2.2.2.1.2.1, .int .i64 h0_.2.2.2.1.2.2, .int .u32 h0_.2.2.2.2.1, .int .u32 h0_.2.2.2.2.2], .agg #[.int .i64 n.1, .int .i64 n.2.1, .int .i64 n.2.2]] w (Ret (e_umbralaw26_SurfaceSide (s_umbralaw26_SurfaceSide h0_ n)) w) := by
  obtain ⟨R, HR⟩ : ∃ R, e_umbralaw26_SurfaceSide (s_umbralaw26_SurfaceSide h0_ n) = R := ⟨_, rfl⟩
  rw [HR]
  unfold s_umbralaw26_SurfaceSide at HR
  have hM0 := St.start w
  refine calls_run Try.func8 rfl ?_
  refine R_seq (R_region (S_fresh none #[.int .i64 h0_.1.1, .int .i64 h0_.1.2.1.1, .int .i64 h0_.1.2.1.2.1, .int .i64 h0_.1.2.1.2.2, .int .i64 h0_.1.2.2, .int .i64 h0_.2.1.1, .int .i64 h0_.2.1.2.1, .int .i64 h0_.2.1.2.2, .int .i64 h0_.2.2.1.1, .int .i64 h0_.2.2.1.2.1, .int .i64 h0_.2.2.1.2.2, .int .i64 h0_.2.2.2.1.1, .int .i64 h0_.2.2.2.1.2.1, .int .i64 h0_.2.2.2.1.2.2, .int .u32 h0_.2.2.2.2.1, .int .u32 h0_.2.2.2.2.2] 51 hM0 (by kernel_rfl) (fun g1 w2 hM3 => S_fresh none #[.int .i64 n.1, .int .i64 n.2.1, .int .i64 n.2.2] 23 hM3 (by kernel_rfl) (fun g4 w5 hM6 => S_val (.bool false) (by kernel_rfl) (S_nil (R_seq (R_region (S_load 0 0 (.agg #[.int .i64 n.1, .int .i64 n.2.1, .int .i64 n.2.2]) hM6 (by kernel_rfl) (S_call (vtow n) (fun r : Int × Int × Int => .agg #[.int .i64 r.1, .int .i64 r.2.1, .int .i64 r.2.2]) hM6 (c_vec_Toward n h_n w5) (by kernel_rfl) (fun r7 h8 w9 hM10 => S_val (.pointer (some ⟨g1, 8, none⟩)) (by kernel_rfl) (S_store 1 8 #[.int .i64 h0_.1.1, .int .i64 h0_.1.2.1.1, .int .i64 h0_.1.2.1.2.1, .int .i64 h0_.1.2.1.2.2, .int .i64 h0_.1.2.2, .int .i64 h0_.2.1.1, .int .i64 h0_.2.1.2.1, .int .i64 h0_.2.1.2.2, .int .i64 r7.1, .int .i64 r7.2.1, .int .i64 r7.2.2, .int .i64 h0_.2.2.2.1.1, .int .i64 h0_.2.2.2.1.2.1, .int .i64 h0_.2.2.2.1.2.2, .int .u32 h0_.2.2.2.2.1, .int .u32 h0_.2.2.2.2.2] hM10 (by kernel_rfl) (fun w11 hM12 => ?_))))))))))))
  have HR := hr_lt HR h8
  refine S_nil (R_seq (R_region (S_val (.pointer (some ⟨g1, 0, none⟩)) (by kernel_rfl) (S_load 1 0 (.agg #[.int .i64 h0_.1.1, .int .i64 h0_.1.2.1.1, .int .i64 h0_.1.2.1.2.1, .int .i64 h0_.1.2.1.2.2, .int .i64 h0_.1.2.2]) hM12 (by kernel_rfl) (S_val (.pointer (some ⟨g1, 5, none⟩)) (by kernel_rfl) (S_load 1 5 (.agg #[.int .i64 h0_.2.1.1, .int .i64 h0_.2.1.2.1, .int .i64 h0_.2.1.2.2]) hM12 (by kernel_rfl) (S_val (.pointer (some ⟨g1, 8, none⟩)) (by kernel_rfl) (S_load 1 8 (.agg #[.int .i64 r7.1, .int .i64 r7.2.1, .int .i64 r7.2.2]) hM12 (by kernel_rfl) (S_val (.pointer (some ⟨g1, 11, none⟩)) (by kernel_rfl) (S_load 1 11 (.agg #[.int .i64 h0_.2.2.2.1.1, .int .i64 h0_.2.2.2.1.2.1, .int .i64 h0_.2.2.2.1.2.2]) hM12 (by kernel_rfl) (S_val (.pointer (some ⟨g1, 14, none⟩)) (by kernel_rfl) (?_))))))))))))
  refine S_load 1 14 (.agg #[.int .u32 h0_.2.2.2.2.1, .int .u32 h0_.2.2.2.2.2]) hM12 (by kernel_rfl) (S_call (s_surface_Scatter h0_.1 h0_.2.1 r7 h0_.2.2.2.1 h0_.2.2.2.2) (fun r : (Int × Int × Int) × (Int × Int × Int) × Bool => .agg #[.int .i64 r.1.1, .int .i64 r.1.2.1, .int .i64 r.1.2.2, .int .i64 r.2.1.1, .int .i64 r.2.1.2.1, .int .i64 r.2.1.2.2, .bool r.2.2]) hM12 (w_surface_Scatter h0_.1 h0_.2.1 r7 h0_.2.2.2.1 h0_.2.2.2.2 h_h0_.1 h_h0_.2.1 ((tr (P := fun r : Int × Int × Int => InV r) h8 (vtow_I n)).out) h_h0_.2.2.2.1 h_h0_.2.2.2.2 w11) (by kernel_rfl) (fun r13 h14 w15 hM16 => ?_))
  have HR := hr_lt HR h14
  obtain ⟨r17, r18, b20⟩ := r13
  cases b20
  · refine S_fresh none #[.int .i64 0, .int .i64 0, .int .i64 0, .int .i64 0, .int .i64 0, .int .i64 0, .bool false] 53 hM16 (by kernel_rfl) (fun g21 w22 hM23 => S_store 0 0 #[.int .i64 r17.1, .int .i64 r17.2.1, .int .i64 r17.2.2, .int .i64 r18.1, .int .i64 r18.2.1, .int .i64 r18.2.2, .bool false] hM23 (by kernel_rfl) (fun w24 hM25 => S_nil (R_seq (R_seq (R_region (S_val (.pointer (some ⟨g21, 6, none⟩)) (by kernel_rfl) (S_load 0 6 (.bool false) hM25 (by kernel_rfl) (S_nil (R_no (by kernel_rfl) (R_skip (R_seq (?_))))))))))))
    have HR := hr_neg HR Bool.false_ne_true
    refine R_seq (R_region (S_val (.pointer (some ⟨g21, 0, none⟩)) (by kernel_rfl) (S_load 0 0 (.agg #[.int .i64 r17.1, .int .i64 r17.2.1, .int .i64 r17.2.2]) hM25 (by kernel_rfl) (S_call (mayB r17) (fun r : Bool => .bool r) hM25 (c_octa_May r17 ((tr (P := fun r : (Int × Int × Int) × (Int × Int × Int) × Bool => (InV r.1 ∧ InV r.2.1 ∧ True)) h14 (i_surface_Scatter h0_.1 h0_.2.1 r7 h0_.2.2.2.1 h0_.2.2.2.2 h_h0_.1 h_h0_.2.1 ((tr (P := fun r : Int × Int × Int => InV r) h8 (vtow_I n)).out) h_h0_.2.2.2.1 h_h0_.2.2.2.2)).out.1) w24) (by kernel_rfl) (fun r26 h27 w28 hM29 => ?_)))))
    have HR := hr_lt HR h27
    cases r26
    · refine S_val (.bool true) (by kernel_rfl) (S_nil (R_yes (by kernel_rfl) (R_seq (R_region (S_val (.bool false) (by kernel_rfl) (S_nil (?_)))))))
      have HR := hr_neg HR Bool.false_ne_true
      refine R_ret hM29 rfl (.cons (.tmp _ (.bool false) (by kernel_rfl)) .nil) rfl ?_
      exact ⟨congrArg Ending.returned HR, hM29.below⟩
    · refine S_val (.bool false) (by kernel_rfl) (S_nil (R_no (by kernel_rfl) (R_skip (R_seq (R_seq (R_region (S_val (.pointer (some ⟨g1, 0, none⟩)) (by kernel_rfl) (S_val (.pointer (some ⟨g1, 0, none⟩)) (by kernel_rfl) (S_load 2 0 (.int .i64 h0_.1.1) hM29 (by kernel_rfl) (?_))))))))))
      have HR := hr_pos HR rfl
      refine S_decn (h0_.1.1 = 0) (by kernel_rfl) (fun c30 => ?_) (fun c30 => ?_)
      · refine S_nil (R_yes (by kernel_rfl) (R_seq (R_region (S_val (.pointer (some ⟨g21, 3, none⟩)) (by kernel_rfl) (S_load 0 3 (.agg #[.int .i64 r18.1, .int .i64 r18.2.1, .int .i64 r18.2.2]) hM29 (by kernel_rfl) (S_val (.pointer (some ⟨g1, 5, none⟩)) (by kernel_rfl) (S_load 2 5 (.agg #[.int .i64 h0_.2.1.1, .int .i64 h0_.2.1.2.1, .int .i64 h0_.2.1.2.2]) hM29 (by kernel_rfl) (?_))))))))
        have HR := hr_neg HR c30
        refine S_dec ((r18 : Int × Int × Int) = h0_.2.1) (eqv_umbra_api_Vec (x := r18) (y := h0_.2.1) (by kernel_rfl) (by kernel_rfl) (by kernel_rfl)) (fun c31 => ?_) (fun c31 => ?_)
        · refine S_val (.bool true) (by kernel_rfl) (S_call (s_umbralaw26_works ) (fun r : Bool => .bool r) hM29 (w_umbralaw26_works  w28) (by kernel_rfl) (fun r32 h33 w34 hM35 => ?_))
          have HR := hr_pos HR c31
          have HR := hr_lt HR h33
          cases r32
          · refine S_val (.bool false) (by kernel_rfl) (S_val (.bool false) (by kernel_rfl) (S_nil (?_)))
            have HR := hr_neg HR Bool.false_ne_true
            refine R_ret hM35 rfl (.cons (.tmp _ (.bool false) (by kernel_rfl)) .nil) rfl ?_
            exact ⟨congrArg Ending.returned HR, hM35.below⟩
          · refine S_val (.bool true) (by kernel_rfl) (S_val (.bool true) (by kernel_rfl) (S_nil (?_)))
            have HR := hr_pos HR rfl
            refine R_ret hM35 rfl (.cons (.tmp _ (.bool true) (by kernel_rfl)) .nil) rfl ?_
            exact ⟨congrArg Ending.returned HR, hM35.below⟩
        · refine S_val (.bool false) (by kernel_rfl) (S_skip (by kernel_rfl) (S_val (.bool false) (by kernel_rfl) (S_val (.bool false) (by kernel_rfl) (S_nil (?_)))))
          have HR := hr_neg HR c31
          refine R_ret hM29 rfl (.cons (.tmp _ (.bool false) (by kernel_rfl)) .nil) rfl ?_
          exact ⟨congrArg Ending.returned HR, hM29.below⟩
      · refine S_nil (R_no (by kernel_rfl) (R_skip (R_seq (R_drawF 7 (by kernel_rfl) (fun F37 U38 hL39 => F_val (.pointer (some ⟨g1, 8, none⟩)) (fun _ => by kernel_rfl) (F_load 2 8 (.agg #[.int .i64 r7.1, .int .i64 r7.2.1, .int .i64 r7.2.2]) hM29 (by kernel_rfl) (F_val (.pointer (some ⟨g21, 0, none⟩)) (fun _ => by kernel_rfl) (F_load 0 0 (.agg #[.int .i64 r17.1, .int .i64 r17.2.1, .int .i64 r17.2.2]) hM29 (by kernel_rfl) (F_call (vtow r17) (fun r : Int × Int × Int => .agg #[.int .i64 r.1, .int .i64 r.2.1, .int .i64 r.2.2]) hM29 hL39 (fun w' hM' => c_vec_Toward r17 ((tr (P := fun r : (Int × Int × Int) × (Int × Int × Int) × Bool => (InV r.1 ∧ InV r.2.1 ∧ True)) h14 (i_surface_Scatter h0_.1 h0_.2.1 r7 h0_.2.2.2.1 h0_.2.2.2.2 h_h0_.1 h_h0_.2.1 ((tr (P := fun r : Int × Int × Int => InV r) h8 (vtow_I n)).out) h_h0_.2.2.2.1 h_h0_.2.2.2.2)).out.1) w') (by kernel_rfl) (fun _ => by kernel_rfl) (fun r40 h41 => F_call (vdot r7 r40) (fun r : Int => .int .i64 r) hM29 hL39 (fun w' hM' => c_vec_Dot r7 r40 ((tr (P := fun r : Int × Int × Int => InV r) h8 (vtow_I n)).out) ((tr (P := fun r : Int × Int × Int => InV r) h41 (vtow_I r17)).out) w') (by kernel_rfl) (fun _ => by kernel_rfl) (fun r42 h43 => F_val (.int .i64 r42) (fun _ => by kernel_rfl) (?_))))))))))))
        have HR := hr_pos HR c30
        have HR := hr_lt HR h41
        have HR := hr_lt HR h43
        refine F_nil hM29 hL39 (fun w44 hM45 => S_nil (R_seq (R_drawF 19 (by kernel_rfl) (fun F46 U47 hL48 => F_val (.int .i64 r42) (fun _ => by kernel_rfl) (?_)))))
        refine F_dec (r42 ≥ (-16)) (fun _ => by kernel_rfl) (fun c49 => ?_) (fun c49 => ?_)
        · refine F_val (.bool true) (fun _ => by kernel_rfl) (F_val (.pointer (some ⟨g21, 3, none⟩)) (fun _ => by kernel_rfl) (F_load 0 3 (.agg #[.int .i64 r18.1, .int .i64 r18.2.1, .int .i64 r18.2.2]) hM45 (by kernel_rfl) (F_call (vmost r18) (fun r : Int => .int .i64 r) hM45 hL48 (fun w' hM' => c_vec_Most r18 ((tr (P := fun r : (Int × Int × Int) × (Int × Int × Int) × Bool => (InV r.1 ∧ InV r.2.1 ∧ True)) h14 (i_surface_Scatter h0_.1 h0_.2.1 r7 h0_.2.2.2.1 h0_.2.2.2.2 h_h0_.1 h_h0_.2.1 ((tr (P := fun r : Int × Int × Int => InV r) h8 (vtow_I n)).out) h_h0_.2.2.2.1 h_h0_.2.2.2.2)).out.2.1) w') (by kernel_rfl) (fun _ => by kernel_rfl) (fun r50 h51 => F_val (.pointer (some ⟨g1, 5, none⟩)) (fun _ => by kernel_rfl) (F_load 2 5 (.agg #[.int .i64 h0_.2.1.1, .int .i64 h0_.2.1.2.1, .int .i64 h0_.2.1.2.2]) hM45 (by kernel_rfl) (F_call (vmost h0_.2.1) (fun r : Int => .int .i64 r) hM45 hL48 (fun w' hM' => c_vec_Most h0_.2.1 h_h0_.2.1 w') (by kernel_rfl) (fun _ => by kernel_rfl) (fun r52 h53 => F_fresh (some 2) #[.int .i64 r52, .int .i64 8589934656] 24 hL48 (by kernel_rfl) (fun _ => by kernel_rfl) (fun g54 F55 U56 hL57 => F_call (mulF [r52, 8589934656]) (fun r : Int => .int .i64 r) hM45 hL57 (fun w' hM' => c_fixMul [r52, 8589934656] ⟨(tr (P := fun r : Int => InI r) h53 (vmost_I h_h0_.2.1)).out, (show InI 8589934656 from by unfold InI; omega), trivial⟩ (by kernel_rfl) hM' 0 2 2 rfl (by kernel_rfl) (by kernel_rfl)) (by kernel_rfl) (fun _ => by kernel_rfl) (fun r58 h59 => F_fresh (some 2) #[.int .i64 r58, .int .i64 2] 24 hL57 (by kernel_rfl) (fun _ => by kernel_rfl) (fun g60 F61 U62 hL63 => F_call (sumF [r58, 2]) (fun r : Int => .int .i64 r) hM45 hL63 (fun w' hM' => c_fixAdd [r58, 2] ⟨(tr (P := fun r : Int => InI r) h59 (mulF_I (AllI.mem (l := [r52, 8589934656]) ⟨(tr (P := fun r : Int => InI r) h53 (vmost_I h_h0_.2.1)).out, (show InI 8589934656 from by unfold InI; omega), trivial⟩))).out, (show InI 2 from by unfold InI; omega), trivial⟩ (by kernel_rfl) hM' 0 2 2 rfl (by kernel_rfl) (by kernel_rfl)) (by kernel_rfl) (fun _ => by kernel_rfl) (fun r64 h65 => ?_)))))))))))
          have HR := hr_pos HR c49
          have HR := hr_lt HR h51
          have HR := hr_lt HR h53
          have HR := hr_lt HR h59
          have HR := hr_lt HR h65
          refine F_dec (r50 ≤ r64) (fun _ => by kernel_rfl) (fun c66 => ?_) (fun c66 => ?_)
          · refine F_val (.bool true) (fun _ => by kernel_rfl) (F_val (.bool true) (fun _ => by kernel_rfl) (F_call (s_umbralaw26_works ) (fun r : Bool => .bool r) hM45 hL63 (fun w' hM' => w_umbralaw26_works  w') (by kernel_rfl) (fun _ => by kernel_rfl) (fun r67 h68 => ?_)))
            have HR := hr_pos HR c66
            have HR := hr_lt HR h68
            cases r67
            · refine F_val (.bool false) (fun _ => by kernel_rfl) (F_val (.bool false) (fun _ => by kernel_rfl) (F_nil hM45 hL63 (fun w69 hM70 => S_nil (?_))))
              have HR := hr_neg HR Bool.false_ne_true
              refine R_ret hM70 rfl (.cons (.tmp _ (.bool false) (by kernel_rfl)) .nil) rfl ?_
              exact ⟨congrArg Ending.returned HR, hM70.below⟩
            · refine F_val (.bool true) (fun _ => by kernel_rfl) (F_val (.bool true) (fun _ => by kernel_rfl) (F_nil hM45 hL63 (fun w71 hM72 => S_nil (?_))))
              have HR := hr_pos HR rfl
              refine R_ret hM72 rfl (.cons (.tmp _ (.bool true) (by kernel_rfl)) .nil) rfl ?_
              exact ⟨congrArg Ending.returned HR, hM72.below⟩
          · refine F_val (.bool false) (fun _ => by kernel_rfl) (F_val (.bool false) (fun _ => by kernel_rfl) (F_skip (by kernel_rfl) (F_val (.bool false) (fun _ => by kernel_rfl) (F_val (.bool false) (fun _ => by kernel_rfl) (F_nil hM45 hL63 (fun w74 hM75 => S_nil (?_)))))))
            have HR := hr_neg HR c66
            refine R_ret hM75 rfl (.cons (.tmp _ (.bool false) (by kernel_rfl)) .nil) rfl ?_
            exact ⟨congrArg Ending.returned HR, hM75.below⟩
        · refine F_val (.bool false) (fun _ => by kernel_rfl) (F_skip (by kernel_rfl) (F_skip (by kernel_rfl) (F_skip (by kernel_rfl) (F_skip (by kernel_rfl) (F_skip (by kernel_rfl) (F_skip (by kernel_rfl) (F_skip (by kernel_rfl) (F_skip (by kernel_rfl) (F_skip (by kernel_rfl) (F_skip (by kernel_rfl) (F_skip (by kernel_rfl) (?_))))))))))))
          have HR := hr_neg HR c49
          refine F_val (.bool false) (fun _ => by kernel_rfl) (F_val (.bool false) (fun _ => by kernel_rfl) (F_skip (by kernel_rfl) (F_val (.bool false) (fun _ => by kernel_rfl) (F_val (.bool false) (fun _ => by kernel_rfl) (F_nil hM45 hL48 (fun w76 hM77 => S_nil (?_)))))))
          refine R_ret hM77 rfl (.cons (.tmp _ (.bool false) (by kernel_rfl)) .nil) rfl ?_
          exact ⟨congrArg Ending.returned HR, hM77.below⟩
  · refine S_fresh none #[.int .i64 0, .int .i64 0, .int .i64 0, .int .i64 0, .int .i64 0, .int .i64 0, .bool false] 53 hM16 (by kernel_rfl) (fun g79 w80 hM81 => S_store 0 0 #[.int .i64 r17.1, .int .i64 r17.2.1, .int .i64 r17.2.2, .int .i64 r18.1, .int .i64 r18.2.1, .int .i64 r18.2.2, .bool true] hM81 (by kernel_rfl) (fun w82 hM83 => S_nil (R_seq (R_seq (R_region (S_val (.pointer (some ⟨g79, 6, none⟩)) (by kernel_rfl) (S_load 0 6 (.bool true) hM83 (by kernel_rfl) (S_nil (R_yes (by kernel_rfl) (R_seq (R_region (?_))))))))))))
    have HR := hr_pos HR rfl
    refine S_load 0 0 (.agg #[.int .i64 r17.1, .int .i64 r17.2.1, .int .i64 r17.2.2, .int .i64 r18.1, .int .i64 r18.2.1, .int .i64 r18.2.2, .bool true]) hM83 (by kernel_rfl) (S_val (.agg #[.int .i64 0, .int .i64 0, .int .i64 0, .int .i64 0, .int .i64 0, .int .i64 0, .bool true]) (by kernel_rfl) (?_))
    refine S_dec (((r17, r18, true) : (Int × Int × Int) × (Int × Int × Int) × Bool) = ((0, 0, 0), (0, 0, 0), true)) (eqv_umbra_api_Turn (x := (r17, r18, true)) (y := ((0, 0, 0), (0, 0, 0), true)) (by kernel_rfl) (by kernel_rfl) (by kernel_rfl)) (fun c84 => ?_) (fun c84 => ?_)
    · refine S_val (.bool true) (by kernel_rfl) (S_call (s_umbralaw26_works ) (fun r : Bool => .bool r) hM83 (w_umbralaw26_works  w82) (by kernel_rfl) (fun r85 h86 w87 hM88 => ?_))
      have HR := hr_pos HR c84
      have HR := hr_lt HR h86
      cases r85
      · refine S_val (.bool false) (by kernel_rfl) (S_val (.bool false) (by kernel_rfl) (S_nil (?_)))
        have HR := hr_neg HR Bool.false_ne_true
        refine R_ret hM88 rfl (.cons (.tmp _ (.bool false) (by kernel_rfl)) .nil) rfl ?_
        exact ⟨congrArg Ending.returned HR, hM88.below⟩
      · refine S_val (.bool true) (by kernel_rfl) (S_val (.bool true) (by kernel_rfl) (S_nil (?_)))
        have HR := hr_pos HR rfl
        refine R_ret hM88 rfl (.cons (.tmp _ (.bool true) (by kernel_rfl)) .nil) rfl ?_
        exact ⟨congrArg Ending.returned HR, hM88.below⟩
    · refine S_val (.bool false) (by kernel_rfl) (S_skip (by kernel_rfl) (S_val (.bool false) (by kernel_rfl) (S_val (.bool false) (by kernel_rfl) (S_nil (?_)))))
      have HR := hr_neg HR c84
      refine R_ret hM83 rfl (.cons (.tmp _ (.bool false) (by kernel_rfl)) .nil) rfl ?_
      exact ⟨congrArg Ending.returned HR, hM83.below⟩

def e_umbralaw26_SurfaceTwice (r : Bool) : Value := .bool r
def s_umbralaw26_SurfaceTwice (n : Int × Int × Int) (d1_ : Int × Int × Int) : Bool :=
  lt (mayB n) fun r7 =>
  if r7 = true then
    lt (mayB d1_) fun r16 =>
    if r16 = true then
      lt (vtow n) fun r25 =>
      lt (s_surface_Mirror r25 d1_) fun r34 =>
      lt (vdot r25 r34) fun r43 =>
      lt (sumF [r43, r43]) fun r54 =>
      lt (vscale r25 r54) fun r56 =>
      lt (vsub r34 r56) fun r58 =>
      lt (vtow d1_) fun r71 =>
      lt (vsub r58 r71) fun r73 =>
      lt (vmost r73) fun r75 =>
      if r75 ≤ 256 then
        lt (vlen r34) fun r78 =>
        lt (satSub r78 4294967296) fun r80 =>
        lt (fabs r80) fun r82 =>
        if r82 ≤ 256 then
          lt (s_umbralaw26_works ) fun r85 =>
          if r85 = true then
            true
          else
            false
        else
          false
      else
        false
    else
      lt (s_umbralaw26_works ) fun r20 =>
      if r20 = true then
        true
      else
        false
  else
    lt (s_umbralaw26_works ) fun r11 =>
    if r11 = true then
      true
    else
      false
set_option maxRecDepth 100000 in
set_option maxHeartbeats 4000000 in
theorem w_umbralaw26_SurfaceTwice (n : Int × Int × Int) (d1_ : Int × Int × Int) (h_n : InV n) (h_d1_ : InV d1_) (w : World) : Calls Try.prog 4 #[.agg #[.int .i64 n.1, .int .i64 n.2.1, .int .i64 n.2.2], .agg #[.int .i64 d1_.1, .int .i64 d1_.2.1, .int .i64 d1_.2.2]] w (Ret (e_umbralaw26_SurfaceTwice (s_umbralaw26_SurfaceTwice n d1_)) w) := by
  obtain ⟨R, HR⟩ : ∃ R, e_umbralaw26_SurfaceTwice (s_umbralaw26_SurfaceTwice n d1_) = R := ⟨_, rfl⟩
  rw [HR]
  unfold s_umbralaw26_SurfaceTwice at HR
  have hM0 := St.start w
  refine calls_run Try.func4 rfl ?_
  refine R_seq (R_region (S_fresh none #[.int .i64 n.1, .int .i64 n.2.1, .int .i64 n.2.2] 23 hM0 (by kernel_rfl) (fun g1 w2 hM3 => S_fresh none #[.int .i64 d1_.1, .int .i64 d1_.2.1, .int .i64 d1_.2.2] 23 hM3 (by kernel_rfl) (fun g4 w5 hM6 => S_val (.bool false) (by kernel_rfl) (S_nil (R_seq (R_seq (R_region (S_load 1 0 (.agg #[.int .i64 n.1, .int .i64 n.2.1, .int .i64 n.2.2]) hM6 (by kernel_rfl) (S_call (mayB n) (fun r : Bool => .bool r) hM6 (c_octa_May n h_n w5) (by kernel_rfl) (fun r7 h8 w9 hM10 => ?_)))))))))))
  have HR := hr_lt HR h8
  cases r7
  · refine S_val (.bool true) (by kernel_rfl) (S_val (.bool true) (by kernel_rfl) (S_skip (by kernel_rfl) (S_skip (by kernel_rfl) (S_skip (by kernel_rfl) (S_val (.bool true) (by kernel_rfl) (S_nil (R_yes (by kernel_rfl) (R_seq (R_region (S_call (s_umbralaw26_works ) (fun r : Bool => .bool r) hM10 (w_umbralaw26_works  w9) (by kernel_rfl) (fun r11 h12 w13 hM14 => ?_)))))))))))
    have HR := hr_neg HR Bool.false_ne_true
    have HR := hr_lt HR h12
    cases r11
    · refine S_val (.bool false) (by kernel_rfl) (S_nil (?_))
      have HR := hr_neg HR Bool.false_ne_true
      refine R_ret hM14 rfl (.cons (.tmp _ (.bool false) (by kernel_rfl)) .nil) rfl ?_
      exact ⟨congrArg Ending.returned HR, hM14.below⟩
    · refine S_val (.bool true) (by kernel_rfl) (S_nil (?_))
      have HR := hr_pos HR rfl
      refine R_ret hM14 rfl (.cons (.tmp _ (.bool true) (by kernel_rfl)) .nil) rfl ?_
      exact ⟨congrArg Ending.returned HR, hM14.below⟩
  · refine S_val (.bool false) (by kernel_rfl) (S_val (.bool false) (by kernel_rfl) (S_load 0 0 (.agg #[.int .i64 d1_.1, .int .i64 d1_.2.1, .int .i64 d1_.2.2]) hM10 (by kernel_rfl) (S_call (mayB d1_) (fun r : Bool => .bool r) hM10 (c_octa_May d1_ h_d1_ w9) (by kernel_rfl) (fun r16 h17 w18 hM19 => ?_))))
    have HR := hr_pos HR rfl
    have HR := hr_lt HR h17
    cases r16
    · refine S_val (.bool true) (by kernel_rfl) (S_val (.bool true) (by kernel_rfl) (S_nil (R_yes (by kernel_rfl) (R_seq (R_region (S_call (s_umbralaw26_works ) (fun r : Bool => .bool r) hM19 (w_umbralaw26_works  w18) (by kernel_rfl) (fun r20 h21 w22 hM23 => ?_)))))))
      have HR := hr_neg HR Bool.false_ne_true
      have HR := hr_lt HR h21
      cases r20
      · refine S_val (.bool false) (by kernel_rfl) (S_nil (?_))
        have HR := hr_neg HR Bool.false_ne_true
        refine R_ret hM23 rfl (.cons (.tmp _ (.bool false) (by kernel_rfl)) .nil) rfl ?_
        exact ⟨congrArg Ending.returned HR, hM23.below⟩
      · refine S_val (.bool true) (by kernel_rfl) (S_nil (?_))
        have HR := hr_pos HR rfl
        refine R_ret hM23 rfl (.cons (.tmp _ (.bool true) (by kernel_rfl)) .nil) rfl ?_
        exact ⟨congrArg Ending.returned HR, hM23.below⟩
    · refine S_val (.bool false) (by kernel_rfl) (S_val (.bool false) (by kernel_rfl) (S_nil (R_no (by kernel_rfl) (R_skip (R_seq (R_region (S_load 1 0 (.agg #[.int .i64 n.1, .int .i64 n.2.1, .int .i64 n.2.2]) hM19 (by kernel_rfl) (S_call (vtow n) (fun r : Int × Int × Int => .agg #[.int .i64 r.1, .int .i64 r.2.1, .int .i64 r.2.2]) hM19 (c_vec_Toward n h_n w18) (by kernel_rfl) (fun r25 h26 w27 hM28 => S_fresh none #[.int .i64 0, .int .i64 0, .int .i64 0] 26 hM28 (by kernel_rfl) (fun g29 w30 hM31 => S_store 0 0 #[.int .i64 r25.1, .int .i64 r25.2.1, .int .i64 r25.2.2] hM31 (by kernel_rfl) (fun w32 hM33 => S_nil (?_))))))))))))
      have HR := hr_pos HR rfl
      have HR := hr_lt HR h26
      refine R_seq (R_region (S_load 0 0 (.agg #[.int .i64 r25.1, .int .i64 r25.2.1, .int .i64 r25.2.2]) hM33 (by kernel_rfl) (S_load 1 0 (.agg #[.int .i64 d1_.1, .int .i64 d1_.2.1, .int .i64 d1_.2.2]) hM33 (by kernel_rfl) (S_call (s_surface_Mirror r25 d1_) (fun r : Int × Int × Int => .agg #[.int .i64 r.1, .int .i64 r.2.1, .int .i64 r.2.2]) hM33 (w_surface_Mirror r25 d1_ ((tr (P := fun r : Int × Int × Int => InV r) h26 (vtow_I n)).out) h_d1_ w32) (by kernel_rfl) (fun r34 h35 w36 hM37 => S_fresh none #[.int .i64 0, .int .i64 0, .int .i64 0] 26 hM37 (by kernel_rfl) (fun g38 w39 hM40 => S_store 0 0 #[.int .i64 r34.1, .int .i64 r34.2.1, .int .i64 r34.2.2] hM40 (by kernel_rfl) (fun w41 hM42 => S_nil (R_seq (R_region (S_load 1 0 (.agg #[.int .i64 r25.1, .int .i64 r25.2.1, .int .i64 r25.2.2]) hM42 (by kernel_rfl) (S_load 0 0 (.agg #[.int .i64 r34.1, .int .i64 r34.2.1, .int .i64 r34.2.2]) hM42 (by kernel_rfl) (?_))))))))))))
      have HR := hr_lt HR h35
      refine S_call (vdot r25 r34) (fun r : Int => .int .i64 r) hM42 (c_vec_Dot r25 r34 ((tr (P := fun r : Int × Int × Int => InV r) h26 (vtow_I n)).out) ((tr (P := fun r : Int × Int × Int => InV r) h35 (i_surface_Mirror r25 d1_ ((tr (P := fun r : Int × Int × Int => InV r) h26 (vtow_I n)).out) h_d1_)).out) w41) (by kernel_rfl) (fun r43 h44 w45 hM46 => S_val (.int .i64 r43) (by kernel_rfl) (S_nil (R_seq (R_drawF 9 (by kernel_rfl) (fun F47 U48 hL49 => F_load 0 0 (.agg #[.int .i64 r34.1, .int .i64 r34.2.1, .int .i64 r34.2.2]) hM46 (by kernel_rfl) (F_load 1 0 (.agg #[.int .i64 r25.1, .int .i64 r25.2.1, .int .i64 r25.2.2]) hM46 (by kernel_rfl) (F_val (.int .i64 r43) (fun _ => by kernel_rfl) (F_val (.int .i64 r43) (fun _ => by kernel_rfl) (F_fresh (some 2) #[.int .i64 r43, .int .i64 r43] 24 hL49 (by kernel_rfl) (fun _ => by kernel_rfl) (fun g50 F51 U52 hL53 => F_call (sumF [r43, r43]) (fun r : Int => .int .i64 r) hM46 hL53 (fun w' hM' => c_fixAdd [r43, r43] ⟨(tr (P := fun r : Int => InI r) h44 (vdot_I r25 r34)).out, (tr (P := fun r : Int => InI r) h44 (vdot_I r25 r34)).out, trivial⟩ (by kernel_rfl) hM' 0 2 2 rfl (by kernel_rfl) (by kernel_rfl)) (by kernel_rfl) (fun _ => by kernel_rfl) (fun r54 h55 => F_call (vscale r25 r54) (fun r : Int × Int × Int => .agg #[.int .i64 r.1, .int .i64 r.2.1, .int .i64 r.2.2]) hM46 hL53 (fun w' hM' => c_vec_Scale r25 r54 ((tr (P := fun r : Int × Int × Int => InV r) h26 (vtow_I n)).out) ((tr (P := fun r : Int => InI r) h55 (sumF_I [r43, r43])).out) w') (by kernel_rfl) (fun _ => by kernel_rfl) (fun r56 h57 => ?_))))))))))))
      have HR := hr_lt HR h44
      have HR := hr_lt HR h55
      have HR := hr_lt HR h57
      refine F_call (vsub r34 r56) (fun r : Int × Int × Int => .agg #[.int .i64 r.1, .int .i64 r.2.1, .int .i64 r.2.2]) hM46 hL53 (fun w' hM' => c_vec_Sub r34 r56 ((tr (P := fun r : Int × Int × Int => InV r) h35 (i_surface_Mirror r25 d1_ ((tr (P := fun r : Int × Int × Int => InV r) h26 (vtow_I n)).out) h_d1_)).out) ((tr (P := fun r : Int × Int × Int => InV r) h57 (vscale_I r25 r54)).out) w') (by kernel_rfl) (fun _ => by kernel_rfl) (fun r58 h59 => F_fresh none #[.int .i64 0, .int .i64 0, .int .i64 0] 26 hL53 (by kernel_rfl) (fun _ => by kernel_rfl) (fun g60 F61 U62 hL63 => F_nil hM46 hL63 (fun w64 hM65 => S_store 0 0 #[.int .i64 r58.1, .int .i64 r58.2.1, .int .i64 r58.2.2] hM65 (by kernel_rfl) (fun w66 hM67 => S_nil (R_seq (R_drawF 17 (by kernel_rfl) (fun F68 U69 hL70 => F_load 0 0 (.agg #[.int .i64 r58.1, .int .i64 r58.2.1, .int .i64 r58.2.2]) hM67 (by kernel_rfl) (F_load 4 0 (.agg #[.int .i64 d1_.1, .int .i64 d1_.2.1, .int .i64 d1_.2.2]) hM67 (by kernel_rfl) (F_call (vtow d1_) (fun r : Int × Int × Int => .agg #[.int .i64 r.1, .int .i64 r.2.1, .int .i64 r.2.2]) hM67 hL70 (fun w' hM' => c_vec_Toward d1_ h_d1_ w') (by kernel_rfl) (fun _ => by kernel_rfl) (fun r71 h72 => F_call (vsub r58 r71) (fun r : Int × Int × Int => .agg #[.int .i64 r.1, .int .i64 r.2.1, .int .i64 r.2.2]) hM67 hL70 (fun w' hM' => c_vec_Sub r58 r71 ((tr (P := fun r : Int × Int × Int => InV r) h59 (vsub_I r34 r56)).out) ((tr (P := fun r : Int × Int × Int => InV r) h72 (vtow_I d1_)).out) w') (by kernel_rfl) (fun _ => by kernel_rfl) (fun r73 h74 => F_call (vmost r73) (fun r : Int => .int .i64 r) hM67 hL70 (fun w' hM' => c_vec_Most r73 ((tr (P := fun r : Int × Int × Int => InV r) h74 (vsub_I r58 r71)).out) w') (by kernel_rfl) (fun _ => by kernel_rfl) (fun r75 h76 => ?_))))))))))))
      have HR := hr_lt HR h59
      have HR := hr_lt HR h72
      have HR := hr_lt HR h74
      have HR := hr_lt HR h76
      refine F_dec (r75 ≤ 256) (fun _ => by kernel_rfl) (fun c77 => ?_) (fun c77 => ?_)
      · refine F_val (.bool true) (fun _ => by kernel_rfl) (F_load 2 0 (.agg #[.int .i64 r34.1, .int .i64 r34.2.1, .int .i64 r34.2.2]) hM67 (by kernel_rfl) (F_call (vlen r34) (fun r : Int => .int .i64 r) hM67 hL70 (fun w' hM' => c_vec_Length r34 ((tr (P := fun r : Int × Int × Int => InV r) h35 (i_surface_Mirror r25 d1_ ((tr (P := fun r : Int × Int × Int => InV r) h26 (vtow_I n)).out) h_d1_)).out) w') (by kernel_rfl) (fun _ => by kernel_rfl) (fun r78 h79 => F_call (satSub r78 4294967296) (fun r : Int => .int .i64 r) hM67 hL70 (fun w' hM' => c_fix_Sub r78 4294967296 ((tr (P := fun r : Int => InI r) h79 (vlen_InI ((tr (P := fun r : Int × Int × Int => InV r) h35 (i_surface_Mirror r25 d1_ ((tr (P := fun r : Int × Int × Int => InV r) h26 (vtow_I n)).out) h_d1_)).out))).out) (show InI 4294967296 from by unfold InI; omega) w') (by kernel_rfl) (fun _ => by kernel_rfl) (fun r80 h81 => F_call (fabs r80) (fun r : Int => .int .i64 r) hM67 hL70 (fun w' hM' => c_fix_Abs r80 ((tr (P := fun r : Int => InI r) h81 (satSub_I r78 4294967296)).out) w') (by kernel_rfl) (fun _ => by kernel_rfl) (fun r82 h83 => ?_)))))
        have HR := hr_pos HR c77
        have HR := hr_lt HR h79
        have HR := hr_lt HR h81
        have HR := hr_lt HR h83
        refine F_dec (r82 ≤ 256) (fun _ => by kernel_rfl) (fun c84 => ?_) (fun c84 => ?_)
        · refine F_val (.bool true) (fun _ => by kernel_rfl) (F_val (.bool true) (fun _ => by kernel_rfl) (F_call (s_umbralaw26_works ) (fun r : Bool => .bool r) hM67 hL70 (fun w' hM' => w_umbralaw26_works  w') (by kernel_rfl) (fun _ => by kernel_rfl) (fun r85 h86 => ?_)))
          have HR := hr_pos HR c84
          have HR := hr_lt HR h86
          cases r85
          · refine F_val (.bool false) (fun _ => by kernel_rfl) (F_val (.bool false) (fun _ => by kernel_rfl) (F_nil hM67 hL70 (fun w87 hM88 => S_nil (?_))))
            have HR := hr_neg HR Bool.false_ne_true
            refine R_ret hM88 rfl (.cons (.tmp _ (.bool false) (by kernel_rfl)) .nil) rfl ?_
            exact ⟨congrArg Ending.returned HR, hM88.below⟩
          · refine F_val (.bool true) (fun _ => by kernel_rfl) (F_val (.bool true) (fun _ => by kernel_rfl) (F_nil hM67 hL70 (fun w89 hM90 => S_nil (?_))))
            have HR := hr_pos HR rfl
            refine R_ret hM90 rfl (.cons (.tmp _ (.bool true) (by kernel_rfl)) .nil) rfl ?_
            exact ⟨congrArg Ending.returned HR, hM90.below⟩
        · refine F_val (.bool false) (fun _ => by kernel_rfl) (F_val (.bool false) (fun _ => by kernel_rfl) (F_skip (by kernel_rfl) (F_val (.bool false) (fun _ => by kernel_rfl) (F_val (.bool false) (fun _ => by kernel_rfl) (F_nil hM67 hL70 (fun w92 hM93 => S_nil (?_)))))))
          have HR := hr_neg HR c84
          refine R_ret hM93 rfl (.cons (.tmp _ (.bool false) (by kernel_rfl)) .nil) rfl ?_
          exact ⟨congrArg Ending.returned HR, hM93.below⟩
      · refine F_val (.bool false) (fun _ => by kernel_rfl) (F_skip (by kernel_rfl) (F_skip (by kernel_rfl) (F_skip (by kernel_rfl) (F_skip (by kernel_rfl) (F_skip (by kernel_rfl) (F_val (.bool false) (fun _ => by kernel_rfl) (F_val (.bool false) (fun _ => by kernel_rfl) (F_skip (by kernel_rfl) (F_val (.bool false) (fun _ => by kernel_rfl) (F_val (.bool false) (fun _ => by kernel_rfl) (F_nil hM67 hL70 (fun w94 hM95 => ?_))))))))))))
        have HR := hr_neg HR c77
        refine S_nil (?_)
        refine R_ret hM95 rfl (.cons (.tmp _ (.bool false) (by kernel_rfl)) .nil) rfl ?_
        exact ⟨congrArg Ending.returned HR, hM95.below⟩

def e_umbralaw26_SurfaceChance (r : Bool) : Value := .bool r
def s_umbralaw26_SurfaceChance (gain : Int × Int × Int) (draw : Int) : Bool :=
  lt (s_surface_Roulette gain draw) fun r4 =>
  if r4.2 = true then
    lt (vmost gain) fun r33 =>
    if r33 ≥ 4294967296 then
      if (r4.1 : Int × Int × Int) = gain then
        lt (s_umbralaw26_works ) fun r39 =>
        if r39 = true then
          true
        else
          false
      else
        false
    else
      lt (fabs r4.1.1) fun r55 =>
      lt (fabs gain.1) fun r57 =>
      if r55 < r57 then
        false
      else
        lt (fabs r4.1.1) fun r62 =>
        lt (fabs gain.1) fun r64 =>
        lt (mulF [r64, 68719476736]) fun r70 =>
        lt (sumF [r70, 1]) fun r76 =>
        if r62 > r76 then
          false
        else
          lt (fabs r4.1.2.1) fun r91 =>
          lt (fabs gain.2.1) fun r93 =>
          if r91 < r93 then
            false
          else
            lt (fabs r4.1.2.1) fun r98 =>
            lt (fabs gain.2.1) fun r100 =>
            lt (mulF [r100, 68719476736]) fun r106 =>
            lt (sumF [r106, 1]) fun r112 =>
            if r98 > r112 then
              false
            else
              lt (fabs r4.1.2.2) fun r127 =>
              lt (fabs gain.2.2) fun r129 =>
              if r127 < r129 then
                false
              else
                lt (fabs r4.1.2.2) fun r134 =>
                lt (fabs gain.2.2) fun r136 =>
                lt (mulF [r136, 68719476736]) fun r142 =>
                lt (sumF [r142, 1]) fun r148 =>
                if r134 > r148 then
                  false
                else
                  lt (s_umbralaw26_works ) fun r155 =>
                  if r155 = true then
                    true
                  else
                    false
  else
    lt (vmost gain) fun r16 =>
    if r16 ≥ 4294967296 then
      false
    else
      if (r4.1 : Int × Int × Int) = (0, 0, 0) then
        if draw ≥ 268435456 then
          lt (s_umbralaw26_works ) fun r23 =>
          if r23 = true then
            true
          else
            false
        else
          false
      else
        false
set_option maxRecDepth 100000 in
set_option maxHeartbeats 4000000 in
theorem w_umbralaw26_SurfaceChance (gain : Int × Int × Int) (draw : Int) (h_gain : InV gain) (h_draw : InU32 draw) (w : World) : Calls Try.prog 5 #[.agg #[.int .i64 gain.1, .int .i64 gain.2.1, .int .i64 gain.2.2], .int .u32 draw] w (Ret (e_umbralaw26_SurfaceChance (s_umbralaw26_SurfaceChance gain draw)) w) := by
  obtain ⟨R, HR⟩ : ∃ R, e_umbralaw26_SurfaceChance (s_umbralaw26_SurfaceChance gain draw) = R := ⟨_, rfl⟩
  rw [HR]
  unfold s_umbralaw26_SurfaceChance at HR
  have hM0 := St.start w
  refine calls_run Try.func5 rfl ?_
  refine R_seq (R_region (S_fresh none #[.int .i64 gain.1, .int .i64 gain.2.1, .int .i64 gain.2.2] 26 hM0 (by kernel_rfl) (fun g1 w2 hM3 => S_val (.bool false) (by kernel_rfl) (S_nil (R_seq (R_region (S_load 0 0 (.agg #[.int .i64 gain.1, .int .i64 gain.2.1, .int .i64 gain.2.2]) hM3 (by kernel_rfl) (S_val (.int .u32 draw) (by kernel_rfl) (S_call (s_surface_Roulette gain draw) (fun r : (Int × Int × Int) × Bool => .tuple #[.agg #[.int .i64 r.1.1, .int .i64 r.1.2.1, .int .i64 r.1.2.2], .bool r.2]) hM3 (w_surface_Roulette gain draw h_gain h_draw w2) (by kernel_rfl) (fun r4 h5 w6 hM7 => ?_))))))))))
  have HR := hr_lt HR h5
  obtain ⟨r8, b10⟩ := r4
  cases b10
  · refine S_val (.tuple #[.agg #[.int .i64 r8.1, .int .i64 r8.2.1, .int .i64 r8.2.2], .bool false]) (by kernel_rfl) (S_val (.agg #[.int .i64 r8.1, .int .i64 r8.2.1, .int .i64 r8.2.2]) (by kernel_rfl) (S_val (.bool false) (by kernel_rfl) (S_fresh none #[.int .i64 0, .int .i64 0, .int .i64 0] 26 hM7 (by kernel_rfl) (fun g11 w12 hM13 => S_store 0 0 #[.int .i64 r8.1, .int .i64 r8.2.1, .int .i64 r8.2.2] hM13 (by kernel_rfl) (fun w14 hM15 => S_val (.bool false) (by kernel_rfl) (S_nil (R_seq (R_region (S_load 1 0 (.agg #[.int .i64 gain.1, .int .i64 gain.2.1, .int .i64 gain.2.2]) hM15 (by kernel_rfl) (S_call (vmost gain) (fun r : Int => .int .i64 r) hM15 (c_vec_Most gain h_gain w14) (by kernel_rfl) (fun r16 h17 w18 hM19 => S_val (.int .i64 r16) (by kernel_rfl) (?_))))))))))))
    have HR := hr_neg HR Bool.false_ne_true
    have HR := hr_lt HR h17
    refine S_nil (R_seq (R_seq (R_region (S_val (.int .i64 r16) (by kernel_rfl) (?_)))))
    refine S_dec (r16 ≥ 4294967296) (by kernel_rfl) (fun c20 => ?_) (fun c20 => ?_)
    · refine S_nil (R_yes (by kernel_rfl) (R_seq (R_region (S_val (.bool false) (by kernel_rfl) (S_val (.bool false) (by kernel_rfl) (S_skip (by kernel_rfl) (S_skip (by kernel_rfl) (S_skip (by kernel_rfl) (S_val (.bool false) (by kernel_rfl) (S_val (.bool false) (by kernel_rfl) (S_skip (by kernel_rfl) (?_))))))))))))
      have HR := hr_pos HR c20
      refine S_val (.bool false) (by kernel_rfl) (S_val (.bool false) (by kernel_rfl) (S_nil (?_)))
      refine R_ret hM19 rfl (.cons (.tmp _ (.bool false) (by kernel_rfl)) .nil) rfl ?_
      exact ⟨congrArg Ending.returned HR, hM19.below⟩
    · refine S_nil (R_no (by kernel_rfl) (R_skip (R_seq (R_seq (R_region (S_val (.bool false) (by kernel_rfl) (S_val (.bool true) (by kernel_rfl) (S_nil (R_yes (by kernel_rfl) (R_seq (R_region (?_))))))))))))
      have HR := hr_neg HR c20
      refine S_load 0 0 (.agg #[.int .i64 r8.1, .int .i64 r8.2.1, .int .i64 r8.2.2]) hM19 (by kernel_rfl) (S_val (.agg #[.int .i64 0, .int .i64 0, .int .i64 0]) (by kernel_rfl) (?_))
      refine S_dec ((r8 : Int × Int × Int) = (0, 0, 0)) (eqv_umbra_api_Vec (x := r8) (y := (0, 0, 0)) (by kernel_rfl) (by kernel_rfl) (by kernel_rfl)) (fun c21 => ?_) (fun c21 => ?_)
      · refine S_val (.bool true) (by kernel_rfl) (S_val (.int .u32 draw) (by kernel_rfl) (?_))
        have HR := hr_pos HR c21
        refine S_dec (draw ≥ 268435456) (by kernel_rfl) (fun c22 => ?_) (fun c22 => ?_)
        · refine S_val (.bool true) (by kernel_rfl) (S_val (.bool true) (by kernel_rfl) (S_call (s_umbralaw26_works ) (fun r : Bool => .bool r) hM19 (w_umbralaw26_works  w18) (by kernel_rfl) (fun r23 h24 w25 hM26 => ?_)))
          have HR := hr_pos HR c22
          have HR := hr_lt HR h24
          cases r23
          · refine S_val (.bool false) (by kernel_rfl) (S_val (.bool false) (by kernel_rfl) (S_nil (?_)))
            have HR := hr_neg HR Bool.false_ne_true
            refine R_ret hM26 rfl (.cons (.tmp _ (.bool false) (by kernel_rfl)) .nil) rfl ?_
            exact ⟨congrArg Ending.returned HR, hM26.below⟩
          · refine S_val (.bool true) (by kernel_rfl) (S_val (.bool true) (by kernel_rfl) (S_nil (?_)))
            have HR := hr_pos HR rfl
            refine R_ret hM26 rfl (.cons (.tmp _ (.bool true) (by kernel_rfl)) .nil) rfl ?_
            exact ⟨congrArg Ending.returned HR, hM26.below⟩
        · refine S_val (.bool false) (by kernel_rfl) (S_val (.bool false) (by kernel_rfl) (S_skip (by kernel_rfl) (S_val (.bool false) (by kernel_rfl) (S_val (.bool false) (by kernel_rfl) (S_nil (?_))))))
          have HR := hr_neg HR c22
          refine R_ret hM19 rfl (.cons (.tmp _ (.bool false) (by kernel_rfl)) .nil) rfl ?_
          exact ⟨congrArg Ending.returned HR, hM19.below⟩
      · refine S_val (.bool false) (by kernel_rfl) (S_skip (by kernel_rfl) (S_skip (by kernel_rfl) (S_val (.bool false) (by kernel_rfl) (S_val (.bool false) (by kernel_rfl) (S_skip (by kernel_rfl) (S_val (.bool false) (by kernel_rfl) (S_val (.bool false) (by kernel_rfl) (S_nil (?_)))))))))
        have HR := hr_neg HR c21
        refine R_ret hM19 rfl (.cons (.tmp _ (.bool false) (by kernel_rfl)) .nil) rfl ?_
        exact ⟨congrArg Ending.returned HR, hM19.below⟩
  · refine S_val (.tuple #[.agg #[.int .i64 r8.1, .int .i64 r8.2.1, .int .i64 r8.2.2], .bool true]) (by kernel_rfl) (S_val (.agg #[.int .i64 r8.1, .int .i64 r8.2.1, .int .i64 r8.2.2]) (by kernel_rfl) (S_val (.bool true) (by kernel_rfl) (S_fresh none #[.int .i64 0, .int .i64 0, .int .i64 0] 26 hM7 (by kernel_rfl) (fun g28 w29 hM30 => S_store 0 0 #[.int .i64 r8.1, .int .i64 r8.2.1, .int .i64 r8.2.2] hM30 (by kernel_rfl) (fun w31 hM32 => S_val (.bool true) (by kernel_rfl) (S_nil (R_seq (R_region (S_load 1 0 (.agg #[.int .i64 gain.1, .int .i64 gain.2.1, .int .i64 gain.2.2]) hM32 (by kernel_rfl) (S_call (vmost gain) (fun r : Int => .int .i64 r) hM32 (c_vec_Most gain h_gain w31) (by kernel_rfl) (fun r33 h34 w35 hM36 => S_val (.int .i64 r33) (by kernel_rfl) (?_))))))))))))
    have HR := hr_pos HR rfl
    have HR := hr_lt HR h34
    refine S_nil (R_seq (R_seq (R_region (S_val (.int .i64 r33) (by kernel_rfl) (?_)))))
    refine S_dec (r33 ≥ 4294967296) (by kernel_rfl) (fun c37 => ?_) (fun c37 => ?_)
    · refine S_nil (R_yes (by kernel_rfl) (R_seq (R_region (S_val (.bool true) (by kernel_rfl) (S_val (.bool true) (by kernel_rfl) (S_load 0 0 (.agg #[.int .i64 r8.1, .int .i64 r8.2.1, .int .i64 r8.2.2]) hM36 (by kernel_rfl) (S_load 1 0 (.agg #[.int .i64 gain.1, .int .i64 gain.2.1, .int .i64 gain.2.2]) hM36 (by kernel_rfl) (?_))))))))
      have HR := hr_pos HR c37
      refine S_dec ((r8 : Int × Int × Int) = gain) (eqv_umbra_api_Vec (x := r8) (y := gain) (by kernel_rfl) (by kernel_rfl) (by kernel_rfl)) (fun c38 => ?_) (fun c38 => ?_)
      · refine S_val (.bool true) (by kernel_rfl) (S_val (.bool true) (by kernel_rfl) (S_call (s_umbralaw26_works ) (fun r : Bool => .bool r) hM36 (w_umbralaw26_works  w35) (by kernel_rfl) (fun r39 h40 w41 hM42 => ?_)))
        have HR := hr_pos HR c38
        have HR := hr_lt HR h40
        cases r39
        · refine S_val (.bool false) (by kernel_rfl) (S_val (.bool false) (by kernel_rfl) (S_nil (?_)))
          have HR := hr_neg HR Bool.false_ne_true
          refine R_ret hM42 rfl (.cons (.tmp _ (.bool false) (by kernel_rfl)) .nil) rfl ?_
          exact ⟨congrArg Ending.returned HR, hM42.below⟩
        · refine S_val (.bool true) (by kernel_rfl) (S_val (.bool true) (by kernel_rfl) (S_nil (?_)))
          have HR := hr_pos HR rfl
          refine R_ret hM42 rfl (.cons (.tmp _ (.bool true) (by kernel_rfl)) .nil) rfl ?_
          exact ⟨congrArg Ending.returned HR, hM42.below⟩
      · refine S_val (.bool false) (by kernel_rfl) (S_val (.bool false) (by kernel_rfl) (S_skip (by kernel_rfl) (S_val (.bool false) (by kernel_rfl) (S_val (.bool false) (by kernel_rfl) (S_nil (?_))))))
        have HR := hr_neg HR c38
        refine R_ret hM36 rfl (.cons (.tmp _ (.bool false) (by kernel_rfl)) .nil) rfl ?_
        exact ⟨congrArg Ending.returned HR, hM36.below⟩
    · refine S_nil (R_no (by kernel_rfl) (R_skip (R_seq (R_seq (R_region (S_val (.bool true) (by kernel_rfl) (S_val (.bool false) (by kernel_rfl) (S_nil (R_no (by kernel_rfl) (R_skip (R_seq (?_))))))))))))
      have HR := hr_neg HR c37
      refine R_seq (R_region (S_val (.pointer (some ⟨g1, 0, none⟩)) (by kernel_rfl) (S_load 1 0 (.int .i64 gain.1) hM36 (by kernel_rfl) (S_val (.pointer (some ⟨g28, 0, none⟩)) (by kernel_rfl) (S_load 0 0 (.int .i64 r8.1) hM36 (by kernel_rfl) (S_val (.agg #[.int .i64 gain.1, .int .i64 r8.1]) (by kernel_rfl) (S_val (.pointer (some ⟨g1, 1, none⟩)) (by kernel_rfl) (S_load 1 1 (.int .i64 gain.2.1) hM36 (by kernel_rfl) (S_val (.pointer (some ⟨g28, 1, none⟩)) (by kernel_rfl) (S_load 0 1 (.int .i64 r8.2.1) hM36 (by kernel_rfl) (S_val (.agg #[.int .i64 gain.2.1, .int .i64 r8.2.1]) (by kernel_rfl) (?_))))))))))))
      refine S_val (.pointer (some ⟨g1, 2, none⟩)) (by kernel_rfl) (S_load 1 2 (.int .i64 gain.2.2) hM36 (by kernel_rfl) (S_val (.pointer (some ⟨g28, 2, none⟩)) (by kernel_rfl) (S_load 0 2 (.int .i64 r8.2.2) hM36 (by kernel_rfl) (S_val (.agg #[.int .i64 gain.2.2, .int .i64 r8.2.2]) (by kernel_rfl) (S_fresh (some 3) #[.int .i64 gain.1, .int .i64 r8.1, .int .i64 gain.2.1, .int .i64 r8.2.1, .int .i64 gain.2.2, .int .i64 r8.2.2] 42 hM36 (by kernel_rfl) (fun g44 w45 hM46 => S_val (.int .i64 3) (by kernel_rfl) (S_val (.int .i64 0) (by kernel_rfl) (S_nil (R_block (R_loop (R_seq (?_))))))))))))
      refine R_region (S_val (.bool true) (by kernel_rfl) (S_nil (R_seq (R_yes (by kernel_rfl) (R_skip (R_seq (R_block (R_seq (R_region (S_val (.pointer (some ⟨g44, 0, none⟩)) (by kernel_rfl) (S_load 0 0 (.agg #[.int .i64 gain.1, .int .i64 r8.1]) hM46 (by kernel_rfl) (?_))))))))))))
      refine S_fresh none #[.int .i64 0, .int .i64 0] 42 hM46 (by kernel_rfl) (fun g47 w48 hM49 => S_store 0 0 #[.int .i64 gain.1, .int .i64 r8.1] hM49 (by kernel_rfl) (fun w50 hM51 => S_nil (R_seq (R_drawF 20 (by kernel_rfl) (fun F52 U53 hL54 => F_val (.pointer (some ⟨g47, 1, none⟩)) (fun _ => by kernel_rfl) (F_load 0 1 (.int .i64 r8.1) hM51 (by kernel_rfl) (F_call (fabs r8.1) (fun r : Int => .int .i64 r) hM51 hL54 (fun w' hM' => c_fix_Abs r8.1 ((tr (P := fun r : (Int × Int × Int) × Bool => (InV r.1 ∧ True)) h5 (i_surface_Roulette gain draw h_gain h_draw)).out.1.1) w') (by kernel_rfl) (fun _ => by kernel_rfl) (fun r55 h56 => F_val (.pointer (some ⟨g47, 0, none⟩)) (fun _ => by kernel_rfl) (F_load 0 0 (.int .i64 gain.1) hM51 (by kernel_rfl) (F_call (fabs gain.1) (fun r : Int => .int .i64 r) hM51 hL54 (fun w' hM' => c_fix_Abs gain.1 h_gain.1 w') (by kernel_rfl) (fun _ => by kernel_rfl) (fun r57 h58 => ?_)))))))))))
      have HR := hr_lt HR h56
      have HR := hr_lt HR h58
      refine F_dec (r55 < r57) (fun _ => by kernel_rfl) (fun c59 => ?_) (fun c59 => ?_)
      · refine F_val (.bool true) (fun _ => by kernel_rfl) (F_skip (by kernel_rfl) (F_skip (by kernel_rfl) (F_skip (by kernel_rfl) (F_skip (by kernel_rfl) (F_skip (by kernel_rfl) (F_skip (by kernel_rfl) (F_skip (by kernel_rfl) (F_skip (by kernel_rfl) (F_skip (by kernel_rfl) (F_skip (by kernel_rfl) (F_skip (by kernel_rfl) (?_))))))))))))
        have HR := hr_pos HR c59
        refine F_val (.bool true) (fun _ => by kernel_rfl) (F_nil hM51 hL54 (fun w60 hM61 => S_nil (R_yes (by kernel_rfl) (R_seq (R_region (S_val (.bool false) (by kernel_rfl) (S_nil (?_))))))))
        refine R_ret hM61 rfl (.cons (.tmp _ (.bool false) (by kernel_rfl)) .nil) rfl ?_
        exact ⟨congrArg Ending.returned HR, hM61.below⟩
      · refine F_val (.bool false) (fun _ => by kernel_rfl) (F_val (.pointer (some ⟨g47, 1, none⟩)) (fun _ => by kernel_rfl) (F_load 0 1 (.int .i64 r8.1) hM51 (by kernel_rfl) (F_call (fabs r8.1) (fun r : Int => .int .i64 r) hM51 hL54 (fun w' hM' => c_fix_Abs r8.1 ((tr (P := fun r : (Int × Int × Int) × Bool => (InV r.1 ∧ True)) h5 (i_surface_Roulette gain draw h_gain h_draw)).out.1.1) w') (by kernel_rfl) (fun _ => by kernel_rfl) (fun r62 h63 => F_val (.pointer (some ⟨g47, 0, none⟩)) (fun _ => by kernel_rfl) (F_load 0 0 (.int .i64 gain.1) hM51 (by kernel_rfl) (F_call (fabs gain.1) (fun r : Int => .int .i64 r) hM51 hL54 (fun w' hM' => c_fix_Abs gain.1 h_gain.1 w') (by kernel_rfl) (fun _ => by kernel_rfl) (fun r64 h65 => F_fresh (some 2) #[.int .i64 r64, .int .i64 68719476736] 24 hL54 (by kernel_rfl) (fun _ => by kernel_rfl) (fun g66 F67 U68 hL69 => F_call (mulF [r64, 68719476736]) (fun r : Int => .int .i64 r) hM51 hL69 (fun w' hM' => c_fixMul [r64, 68719476736] ⟨(tr (P := fun r : Int => InI r) h65 (fabs_I h_gain.1)).out, (show InI 68719476736 from by unfold InI; omega), trivial⟩ (by kernel_rfl) hM' 0 2 2 rfl (by kernel_rfl) (by kernel_rfl)) (by kernel_rfl) (fun _ => by kernel_rfl) (fun r70 h71 => F_fresh (some 2) #[.int .i64 r70, .int .i64 1] 24 hL69 (by kernel_rfl) (fun _ => by kernel_rfl) (fun g72 F73 U74 hL75 => F_call (sumF [r70, 1]) (fun r : Int => .int .i64 r) hM51 hL75 (fun w' hM' => c_fixAdd [r70, 1] ⟨(tr (P := fun r : Int => InI r) h71 (mulF_I (AllI.mem (l := [r64, 68719476736]) ⟨(tr (P := fun r : Int => InI r) h65 (fabs_I h_gain.1)).out, (show InI 68719476736 from by unfold InI; omega), trivial⟩))).out, (show InI 1 from by unfold InI; omega), trivial⟩ (by kernel_rfl) hM' 0 2 2 rfl (by kernel_rfl) (by kernel_rfl)) (by kernel_rfl) (fun _ => by kernel_rfl) (fun r76 h77 => ?_)))))))))))
        have HR := hr_neg HR c59
        have HR := hr_lt HR h63
        have HR := hr_lt HR h65
        have HR := hr_lt HR h71
        have HR := hr_lt HR h77
        refine F_dec (r62 > r76) (fun _ => by kernel_rfl) (fun c78 => ?_) (fun c78 => ?_)
        · refine F_val (.bool true) (fun _ => by kernel_rfl) (F_nil hM51 hL75 (fun w79 hM80 => S_nil (R_yes (by kernel_rfl) (R_seq (R_region (S_val (.bool false) (by kernel_rfl) (S_nil (?_))))))))
          have HR := hr_pos HR c78
          refine R_ret hM80 rfl (.cons (.tmp _ (.bool false) (by kernel_rfl)) .nil) rfl ?_
          exact ⟨congrArg Ending.returned HR, hM80.below⟩
        · refine F_val (.bool false) (fun _ => by kernel_rfl) (F_nil hM51 hL75 (fun w81 hM82 => S_nil (R_no (by kernel_rfl) (R_skip (R_inBlock (R_region (S_val (.int .i64 1) (by kernel_rfl) (S_val (.int .i64 1) (by kernel_rfl) (S_nil (R_inLoop (R_seq (?_))))))))))))
          have HR := hr_neg HR c78
          refine R_region (S_val (.bool true) (by kernel_rfl) (S_nil (R_seq (R_yes (by kernel_rfl) (R_skip (R_seq (R_block (R_seq (R_region (S_val (.pointer (some ⟨g44, 2, none⟩)) (by kernel_rfl) (S_load 3 2 (.agg #[.int .i64 gain.2.1, .int .i64 r8.2.1]) hM82 (by kernel_rfl) (?_))))))))))))
          refine S_fresh none #[.int .i64 0, .int .i64 0] 42 hM82 (by kernel_rfl) (fun g83 w84 hM85 => S_store 0 0 #[.int .i64 gain.2.1, .int .i64 r8.2.1] hM85 (by kernel_rfl) (fun w86 hM87 => S_nil (R_seq (R_drawF 20 (by kernel_rfl) (fun F88 U89 hL90 => F_val (.pointer (some ⟨g83, 1, none⟩)) (fun _ => by kernel_rfl) (F_load 0 1 (.int .i64 r8.2.1) hM87 (by kernel_rfl) (F_call (fabs r8.2.1) (fun r : Int => .int .i64 r) hM87 hL90 (fun w' hM' => c_fix_Abs r8.2.1 ((tr (P := fun r : (Int × Int × Int) × Bool => (InV r.1 ∧ True)) h5 (i_surface_Roulette gain draw h_gain h_draw)).out.1.2.1) w') (by kernel_rfl) (fun _ => by kernel_rfl) (fun r91 h92 => F_val (.pointer (some ⟨g83, 0, none⟩)) (fun _ => by kernel_rfl) (F_load 0 0 (.int .i64 gain.2.1) hM87 (by kernel_rfl) (F_call (fabs gain.2.1) (fun r : Int => .int .i64 r) hM87 hL90 (fun w' hM' => c_fix_Abs gain.2.1 h_gain.2.1 w') (by kernel_rfl) (fun _ => by kernel_rfl) (fun r93 h94 => ?_)))))))))))
          have HR := hr_lt HR h92
          have HR := hr_lt HR h94
          refine F_dec (r91 < r93) (fun _ => by kernel_rfl) (fun c95 => ?_) (fun c95 => ?_)
          · refine F_val (.bool true) (fun _ => by kernel_rfl) (F_skip (by kernel_rfl) (F_skip (by kernel_rfl) (F_skip (by kernel_rfl) (F_skip (by kernel_rfl) (F_skip (by kernel_rfl) (F_skip (by kernel_rfl) (F_skip (by kernel_rfl) (F_skip (by kernel_rfl) (F_skip (by kernel_rfl) (F_skip (by kernel_rfl) (F_skip (by kernel_rfl) (?_))))))))))))
            have HR := hr_pos HR c95
            refine F_val (.bool true) (fun _ => by kernel_rfl) (F_nil hM87 hL90 (fun w96 hM97 => S_nil (R_yes (by kernel_rfl) (R_seq (R_region (S_val (.bool false) (by kernel_rfl) (S_nil (?_))))))))
            refine R_ret hM97 rfl (.cons (.tmp _ (.bool false) (by kernel_rfl)) .nil) rfl ?_
            exact ⟨congrArg Ending.returned HR, hM97.below⟩
          · refine F_val (.bool false) (fun _ => by kernel_rfl) (F_val (.pointer (some ⟨g83, 1, none⟩)) (fun _ => by kernel_rfl) (F_load 0 1 (.int .i64 r8.2.1) hM87 (by kernel_rfl) (F_call (fabs r8.2.1) (fun r : Int => .int .i64 r) hM87 hL90 (fun w' hM' => c_fix_Abs r8.2.1 ((tr (P := fun r : (Int × Int × Int) × Bool => (InV r.1 ∧ True)) h5 (i_surface_Roulette gain draw h_gain h_draw)).out.1.2.1) w') (by kernel_rfl) (fun _ => by kernel_rfl) (fun r98 h99 => F_val (.pointer (some ⟨g83, 0, none⟩)) (fun _ => by kernel_rfl) (F_load 0 0 (.int .i64 gain.2.1) hM87 (by kernel_rfl) (F_call (fabs gain.2.1) (fun r : Int => .int .i64 r) hM87 hL90 (fun w' hM' => c_fix_Abs gain.2.1 h_gain.2.1 w') (by kernel_rfl) (fun _ => by kernel_rfl) (fun r100 h101 => F_fresh (some 2) #[.int .i64 r100, .int .i64 68719476736] 24 hL90 (by kernel_rfl) (fun _ => by kernel_rfl) (fun g102 F103 U104 hL105 => F_call (mulF [r100, 68719476736]) (fun r : Int => .int .i64 r) hM87 hL105 (fun w' hM' => c_fixMul [r100, 68719476736] ⟨(tr (P := fun r : Int => InI r) h101 (fabs_I h_gain.2.1)).out, (show InI 68719476736 from by unfold InI; omega), trivial⟩ (by kernel_rfl) hM' 0 2 2 rfl (by kernel_rfl) (by kernel_rfl)) (by kernel_rfl) (fun _ => by kernel_rfl) (fun r106 h107 => F_fresh (some 2) #[.int .i64 r106, .int .i64 1] 24 hL105 (by kernel_rfl) (fun _ => by kernel_rfl) (fun g108 F109 U110 hL111 => F_call (sumF [r106, 1]) (fun r : Int => .int .i64 r) hM87 hL111 (fun w' hM' => c_fixAdd [r106, 1] ⟨(tr (P := fun r : Int => InI r) h107 (mulF_I (AllI.mem (l := [r100, 68719476736]) ⟨(tr (P := fun r : Int => InI r) h101 (fabs_I h_gain.2.1)).out, (show InI 68719476736 from by unfold InI; omega), trivial⟩))).out, (show InI 1 from by unfold InI; omega), trivial⟩ (by kernel_rfl) hM' 0 2 2 rfl (by kernel_rfl) (by kernel_rfl)) (by kernel_rfl) (fun _ => by kernel_rfl) (fun r112 h113 => ?_)))))))))))
            have HR := hr_neg HR c95
            have HR := hr_lt HR h99
            have HR := hr_lt HR h101
            have HR := hr_lt HR h107
            have HR := hr_lt HR h113
            refine F_dec (r98 > r112) (fun _ => by kernel_rfl) (fun c114 => ?_) (fun c114 => ?_)
            · refine F_val (.bool true) (fun _ => by kernel_rfl) (F_nil hM87 hL111 (fun w115 hM116 => S_nil (R_yes (by kernel_rfl) (R_seq (R_region (S_val (.bool false) (by kernel_rfl) (S_nil (?_))))))))
              have HR := hr_pos HR c114
              refine R_ret hM116 rfl (.cons (.tmp _ (.bool false) (by kernel_rfl)) .nil) rfl ?_
              exact ⟨congrArg Ending.returned HR, hM116.below⟩
            · refine F_val (.bool false) (fun _ => by kernel_rfl) (F_nil hM87 hL111 (fun w117 hM118 => S_nil (R_no (by kernel_rfl) (R_skip (R_inBlock (R_region (S_val (.int .i64 2) (by kernel_rfl) (S_val (.int .i64 2) (by kernel_rfl) (S_nil (R_inLoop (R_seq (?_))))))))))))
              have HR := hr_neg HR c114
              refine R_region (S_val (.bool true) (by kernel_rfl) (S_nil (R_seq (R_yes (by kernel_rfl) (R_skip (R_seq (R_block (R_seq (R_region (S_val (.pointer (some ⟨g44, 4, none⟩)) (by kernel_rfl) (S_load 6 4 (.agg #[.int .i64 gain.2.2, .int .i64 r8.2.2]) hM118 (by kernel_rfl) (?_))))))))))))
              refine S_fresh none #[.int .i64 0, .int .i64 0] 42 hM118 (by kernel_rfl) (fun g119 w120 hM121 => S_store 0 0 #[.int .i64 gain.2.2, .int .i64 r8.2.2] hM121 (by kernel_rfl) (fun w122 hM123 => S_nil (R_seq (R_drawF 20 (by kernel_rfl) (fun F124 U125 hL126 => F_val (.pointer (some ⟨g119, 1, none⟩)) (fun _ => by kernel_rfl) (F_load 0 1 (.int .i64 r8.2.2) hM123 (by kernel_rfl) (F_call (fabs r8.2.2) (fun r : Int => .int .i64 r) hM123 hL126 (fun w' hM' => c_fix_Abs r8.2.2 ((tr (P := fun r : (Int × Int × Int) × Bool => (InV r.1 ∧ True)) h5 (i_surface_Roulette gain draw h_gain h_draw)).out.1.2.2) w') (by kernel_rfl) (fun _ => by kernel_rfl) (fun r127 h128 => F_val (.pointer (some ⟨g119, 0, none⟩)) (fun _ => by kernel_rfl) (F_load 0 0 (.int .i64 gain.2.2) hM123 (by kernel_rfl) (F_call (fabs gain.2.2) (fun r : Int => .int .i64 r) hM123 hL126 (fun w' hM' => c_fix_Abs gain.2.2 h_gain.2.2 w') (by kernel_rfl) (fun _ => by kernel_rfl) (fun r129 h130 => ?_)))))))))))
              have HR := hr_lt HR h128
              have HR := hr_lt HR h130
              refine F_dec (r127 < r129) (fun _ => by kernel_rfl) (fun c131 => ?_) (fun c131 => ?_)
              · refine F_val (.bool true) (fun _ => by kernel_rfl) (F_skip (by kernel_rfl) (F_skip (by kernel_rfl) (F_skip (by kernel_rfl) (F_skip (by kernel_rfl) (F_skip (by kernel_rfl) (F_skip (by kernel_rfl) (F_skip (by kernel_rfl) (F_skip (by kernel_rfl) (F_skip (by kernel_rfl) (F_skip (by kernel_rfl) (F_skip (by kernel_rfl) (?_))))))))))))
                have HR := hr_pos HR c131
                refine F_val (.bool true) (fun _ => by kernel_rfl) (F_nil hM123 hL126 (fun w132 hM133 => S_nil (R_yes (by kernel_rfl) (R_seq (R_region (S_val (.bool false) (by kernel_rfl) (S_nil (?_))))))))
                refine R_ret hM133 rfl (.cons (.tmp _ (.bool false) (by kernel_rfl)) .nil) rfl ?_
                exact ⟨congrArg Ending.returned HR, hM133.below⟩
              · refine F_val (.bool false) (fun _ => by kernel_rfl) (F_val (.pointer (some ⟨g119, 1, none⟩)) (fun _ => by kernel_rfl) (F_load 0 1 (.int .i64 r8.2.2) hM123 (by kernel_rfl) (F_call (fabs r8.2.2) (fun r : Int => .int .i64 r) hM123 hL126 (fun w' hM' => c_fix_Abs r8.2.2 ((tr (P := fun r : (Int × Int × Int) × Bool => (InV r.1 ∧ True)) h5 (i_surface_Roulette gain draw h_gain h_draw)).out.1.2.2) w') (by kernel_rfl) (fun _ => by kernel_rfl) (fun r134 h135 => F_val (.pointer (some ⟨g119, 0, none⟩)) (fun _ => by kernel_rfl) (F_load 0 0 (.int .i64 gain.2.2) hM123 (by kernel_rfl) (F_call (fabs gain.2.2) (fun r : Int => .int .i64 r) hM123 hL126 (fun w' hM' => c_fix_Abs gain.2.2 h_gain.2.2 w') (by kernel_rfl) (fun _ => by kernel_rfl) (fun r136 h137 => F_fresh (some 2) #[.int .i64 r136, .int .i64 68719476736] 24 hL126 (by kernel_rfl) (fun _ => by kernel_rfl) (fun g138 F139 U140 hL141 => F_call (mulF [r136, 68719476736]) (fun r : Int => .int .i64 r) hM123 hL141 (fun w' hM' => c_fixMul [r136, 68719476736] ⟨(tr (P := fun r : Int => InI r) h137 (fabs_I h_gain.2.2)).out, (show InI 68719476736 from by unfold InI; omega), trivial⟩ (by kernel_rfl) hM' 0 2 2 rfl (by kernel_rfl) (by kernel_rfl)) (by kernel_rfl) (fun _ => by kernel_rfl) (fun r142 h143 => F_fresh (some 2) #[.int .i64 r142, .int .i64 1] 24 hL141 (by kernel_rfl) (fun _ => by kernel_rfl) (fun g144 F145 U146 hL147 => F_call (sumF [r142, 1]) (fun r : Int => .int .i64 r) hM123 hL147 (fun w' hM' => c_fixAdd [r142, 1] ⟨(tr (P := fun r : Int => InI r) h143 (mulF_I (AllI.mem (l := [r136, 68719476736]) ⟨(tr (P := fun r : Int => InI r) h137 (fabs_I h_gain.2.2)).out, (show InI 68719476736 from by unfold InI; omega), trivial⟩))).out, (show InI 1 from by unfold InI; omega), trivial⟩ (by kernel_rfl) hM' 0 2 2 rfl (by kernel_rfl) (by kernel_rfl)) (by kernel_rfl) (fun _ => by kernel_rfl) (fun r148 h149 => ?_)))))))))))
                have HR := hr_neg HR c131
                have HR := hr_lt HR h135
                have HR := hr_lt HR h137
                have HR := hr_lt HR h143
                have HR := hr_lt HR h149
                refine F_dec (r134 > r148) (fun _ => by kernel_rfl) (fun c150 => ?_) (fun c150 => ?_)
                · refine F_val (.bool true) (fun _ => by kernel_rfl) (F_nil hM123 hL147 (fun w151 hM152 => S_nil (R_yes (by kernel_rfl) (R_seq (R_region (S_val (.bool false) (by kernel_rfl) (S_nil (?_))))))))
                  have HR := hr_pos HR c150
                  refine R_ret hM152 rfl (.cons (.tmp _ (.bool false) (by kernel_rfl)) .nil) rfl ?_
                  exact ⟨congrArg Ending.returned HR, hM152.below⟩
                · refine F_val (.bool false) (fun _ => by kernel_rfl) (F_nil hM123 hL147 (fun w153 hM154 => S_nil (R_no (by kernel_rfl) (R_skip (R_inBlock (R_region (S_val (.int .i64 3) (by kernel_rfl) (S_val (.int .i64 3) (by kernel_rfl) (S_nil (R_inLoop (R_seq (?_))))))))))))
                  have HR := hr_neg HR c150
                  refine R_region (S_val (.bool false) (by kernel_rfl) (S_nil (R_seq (R_no (by kernel_rfl) (R_exit rfl (R_seq (R_region (S_call (s_umbralaw26_works ) (fun r : Bool => .bool r) hM154 (w_umbralaw26_works  w153) (by kernel_rfl) (fun r155 h156 w157 hM158 => ?_)))))))))
                  have HR := hr_lt HR h156
                  cases r155
                  · refine S_val (.bool false) (by kernel_rfl) (S_nil (?_))
                    have HR := hr_neg HR Bool.false_ne_true
                    refine R_ret hM158 rfl (.cons (.tmp _ (.bool false) (by kernel_rfl)) .nil) rfl ?_
                    exact ⟨congrArg Ending.returned HR, hM158.below⟩
                  · refine S_val (.bool true) (by kernel_rfl) (S_nil (?_))
                    have HR := hr_pos HR rfl
                    refine R_ret hM158 rfl (.cons (.tmp _ (.bool true) (by kernel_rfl)) .nil) rfl ?_
                    exact ⟨congrArg Ending.returned HR, hM158.below⟩

end Go.Proofs.Ytjhnkpapbjkbcaa

namespace Go.Proofs.Ytjhnkpapbjkbcaa
open Go.RowKit Go.Sort
set_option linter.unusedVariables false
set_option linter.unusedSimpArgs false

theorem works26 : s_umbralaw26_works = true := by kernel_rfl
theorem sumF2 {a b : Int} (ha : InI a) : sumF [a, b] = satAdd a b := by show satAdd (satAdd 0 a) b = _; rw [satAdd_zero ha]
theorem ite_tt {α : Type} {b : Bool} {x y : α} (h : b = true) : (if b = true then x else y) = x := if_pos h
theorem unit_eq (x : Int) : s_stream_Unit x = s_umbraref10_Unit x := rfl
theorem unit_v {x : Int} (h : InU32 x) : s_stream_Unit x = x := by
  unfold s_stream_Unit
  simp only [lt]
  exact wr_id (by unfold InU32 at h; unfold InI; omega)
theorem below_eq {x : Int} (h : InU32 x) : s_stream_Below x 65536 = s_umbraref10_Below x 65536 := by
  unfold InU32 at h
  unfold s_stream_Below s_umbraref10_Below
  simp only [lt]
  rw [if_neg (by omega), if_neg (by omega), gmax_eq, gmin_eq]
  rw [show min (max (65536 : Int) 0) 2147483648 = 65536 by omega]
  simp only [IntKind.wrap_u64]
  rw [show x % 18446744073709551616 * (65536 % 18446744073709551616) % 18446744073709551616 = x * 65536 by omega]
  rw [Int.tdiv_eq_ediv_of_nonneg (by omega), Int.fdiv_eq_ediv_of_nonneg _ (by decide), wr_id (by unfold InI; omega), show x * 65536 / 4294967296 % 18446744073709551616 = x * 65536 / 4294967296 by omega, wr_id (by unfold InI; omega)]
  rfl
theorem mirror_eq (n d : T3) : s_surface_Mirror n d = s_umbraref26_Mirror n d := by
  unfold s_surface_Mirror s_umbraref26_Mirror
  simp only [lt]
  rw [sumF2 (vdot_I _ _)]
theorem facing_eq (n d : T3) : s_surface_Facing n d = s_umbraref26_Facing n d := by
  unfold s_surface_Facing s_umbraref26_Facing
  simp only [lt]
  split
  · rw [if_neg (by omega)]
  · rw [if_pos (by omega)]
theorem roulette_eq (g : T3) (x : Int) : s_surface_Roulette g x = s_umbraref26_Roulette g x := by
  unfold s_surface_Roulette s_umbraref26_Roulette s_surface_Roulette_1
  simp only [lt]
  have e := unit_eq x
  generalize s_stream_Unit x = u at *
  subst e
  rfl
theorem along_eq (v g : T3) : s_surface_along v g = s_umbraref26_along v g := rfl
theorem eta3 (r : T3 × T3 × Bool) : (if r.2.2 = true then (r.1, r.2.1, true) else (r.1, r.2.1, false)) = r := by
  obtain ⟨a, b, c⟩ := r
  cases c <;> simp
theorem scatter_eq (m : Int × T3 × Int) (color n d : T3) (draw : Int × Int) (h : InU32 draw.2) (hm : InV (s_umbraref26_Mirror n d)) : s_surface_Scatter m color n d draw = s_umbraref26_Scatter m color n d draw := by
  unfold s_surface_Scatter s_umbraref26_Scatter
  simp only [lt, eta3]
  simp only [below_eq h, mirror_eq, along_eq, sumT2 hm]
  split
  · unfold s_surface_diffuse
    simp only [lt]
    have hc := vdot_I n (vtow (pdir draw.1))
    generalize vdot n (vtow (pdir draw.1)) = c at *
    by_cases h0 : c < 0
    · have hf : ¬ fneg c = 0 := by
        unfold fneg satSub clampI InI at *
        split <;> (try split) <;> omega
      rw [if_pos h0, if_neg hf, if_neg (by omega), if_pos h0, sumF2 (fneg_I c)]
      rfl
    · rw [if_neg h0]
      by_cases h1 : c = 0
      · rw [if_pos h1, if_pos h1]
      · rw [if_neg h1, if_neg h1, if_neg h0, sumF2 hc]
  · split
    · rfl
    · split
      · split
        · rfl
        · split <;> rfl
      · rfl
theorem SurfaceTurns_true (n d : T3) (x : Int) : s_umbralaw26_SurfaceTurns n d x = true := by
  unfold s_umbralaw26_SurfaceTurns
  simp only [lt, works26, roulette_eq, facing_eq, mirror_eq, if_true]
  split <;> rfl
theorem SurfaceScatters_true (h : (Int × T3 × Int) × T3 × T3 × T3 × (Int × Int)) (hd : InU32 h.2.2.2.2.2) : s_umbralaw26_SurfaceScatters h = true := by
  have hm : InV (s_umbraref26_Mirror h.2.2.1 h.2.2.2.1) := vsub_I _ _
  unfold s_umbralaw26_SurfaceScatters
  simp only [lt, works26, scatter_eq _ _ _ _ _ hd hm, if_true]
  split <;> rfl
theorem clampI_v {x : Int} (h : -9223372036854775808 ≤ x ∧ x ≤ 9223372036854775807) : clampI x = x := clampI_in h
theorem fmul_small {a b : Int} (ha : -8589934592 ≤ a ∧ a ≤ 8589934592) (hb : -8589934592 ≤ b ∧ b ≤ 8589934592) : fmul a b = a * b / 4294967296 := by
  have h : -(8589934592 * 8589934592) ≤ a * b ∧ a * b ≤ 8589934592 * 8589934592 := by
    have h1 := Int.mul_nonneg (show 0 ≤ 8589934592 - a by omega) (show 0 ≤ 8589934592 - b by omega)
    have h2 := Int.mul_nonneg (show 0 ≤ 8589934592 + a by omega) (show 0 ≤ 8589934592 + b by omega)
    have h3 := Int.mul_nonneg (show 0 ≤ 8589934592 - a by omega) (show 0 ≤ 8589934592 + b by omega)
    have h4 := Int.mul_nonneg (show 0 ≤ 8589934592 + a by omega) (show 0 ≤ 8589934592 - b by omega)
    simp only [Int.sub_mul, Int.add_mul, Int.mul_sub, Int.mul_add] at h1 h2 h3 h4
    omega
  unfold fmul
  exact clampI_v (by omega)
/-- A part of a direction's length. -/
def InB (a : Int) : Prop := -4294967296 ≤ a ∧ a ≤ 4294967296
theorem vdot_small {a b : T3} (h1 : InB a.1) (h2 : InB a.2.1) (h3 : InB a.2.2) (k1 : InB b.1) (k2 : InB b.2.1) (k3 : InB b.2.2) : vdot a b = a.1 * b.1 / 4294967296 + a.2.1 * b.2.1 / 4294967296 + a.2.2 * b.2.2 / 4294967296 := by
  unfold InB at *
  have bd : ∀ x y : Int, -4294967296 ≤ x ∧ x ≤ 4294967296 → -4294967296 ≤ y ∧ y ≤ 4294967296 → -4294967296 ≤ x * y / 4294967296 ∧ x * y / 4294967296 ≤ 4294967296 := by
    intro x y hx hy
    have g1 := Int.mul_nonneg (show 0 ≤ 4294967296 - x by omega) (show 0 ≤ 4294967296 - y by omega)
    have g2 := Int.mul_nonneg (show 0 ≤ 4294967296 + x by omega) (show 0 ≤ 4294967296 + y by omega)
    have g3 := Int.mul_nonneg (show 0 ≤ 4294967296 - x by omega) (show 0 ≤ 4294967296 + y by omega)
    have g4 := Int.mul_nonneg (show 0 ≤ 4294967296 + x by omega) (show 0 ≤ 4294967296 - y by omega)
    simp only [Int.sub_mul, Int.add_mul, Int.mul_sub, Int.mul_add] at g1 g2 g3 g4
    omega
  have b1 := bd _ _ h1 k1
  have b2 := bd _ _ h2 k2
  have b3 := bd _ _ h3 k3
  unfold vdot vmul
  simp only
  rw [fmul_small (by omega) (by omega), fmul_small (by omega) (by omega), fmul_small (by omega) (by omega)]
  unfold satAdd
  rw [clampI_v (x := a.1 * b.1 / 4294967296 + a.2.1 * b.2.1 / 4294967296) (by omega), clampI_v (by omega)]
theorem fmul_neg {a : Int} (h : InB a) : fmul a (-4294967296) = -a := by
  unfold fmul InB at *
  rw [show a * -4294967296 / 4294967296 = -a by omega]
  exact clampI_v (by omega)
theorem vscale_neg {v : T3} (h1 : InB v.1) (h2 : InB v.2.1) (h3 : InB v.2.2) : vscale v (-4294967296) = (-v.1, -v.2.1, -v.2.2) := by
  unfold vscale vmul
  simp only [fmul_neg h1, fmul_neg h2, fmul_neg h3]
theorem InB_neg {a : Int} (h : InB a) : InB (-a) := by unfold InB at *; omega
theorem vtow_B (p : T3) : InB (vtow p).1 ∧ InB (vtow p).2.1 ∧ InB (vtow p).2.2 := vtow_bd p
theorem SurfaceFaces_true (n d : T3) : s_umbralaw26_SurfaceFaces n d = true := by
  unfold s_umbralaw26_SurfaceFaces
  simp only [lt, works26, if_true]
  obtain ⟨v1, v2, v3⟩ := vtow_B n
  obtain ⟨w1, w2, w3⟩ := vtow_B d
  have hf : s_surface_Facing (vtow n) d = if vdot (vtow n) (vtow d) ≤ 0 then vtow n else vscale (vtow n) (-4294967296) := rfl
  generalize s_surface_Facing (vtow n) d = f at *
  generalize vtow n = v at *
  generalize vtow d = w at *
  by_cases h : vdot v w ≤ 0
  · rw [if_pos h] at hf
    subst hf
    rw [if_pos h, if_pos rfl]
  · rw [if_neg h] at hf
    subst hf
    rw [if_pos ?_]
    · by_cases e : vscale v (-4294967296) = v
      · rw [if_pos e]
      · rw [if_neg e, if_pos rfl]
    · rw [vscale_neg v1 v2 v3, vdot_small (InB_neg v1) (InB_neg v2) (InB_neg v3) w1 w2 w3]
      rw [vdot_small v1 v2 v3 w1 w2 w3] at h
      simp only [Int.neg_mul]
      omega
theorem roulette_v (g : T3) {x : Int} (hx : InU32 x) : s_surface_Roulette g x = if x ≥ fclamp (vmost g) 268435456 4294967296 then ((0, 0, 0), false) else ((fdiv g.1 (fclamp (vmost g) 268435456 4294967296), fdiv g.2.1 (fclamp (vmost g) 268435456 4294967296), fdiv g.2.2 (fclamp (vmost g) 268435456 4294967296)), true) := by
  unfold s_surface_Roulette s_surface_Roulette_1
  simp only [lt]
  have e := unit_v hx
  generalize s_stream_Unit x = u at *
  subst e
  rfl
theorem fdiv_one {a : Int} (h : InI a) : fdiv a 4294967296 = a := by
  unfold fdiv fq
  rw [if_neg (by omega), if_pos (by omega), Int.mul_ediv_cancel _ (by omega)]
  exact clampI_in h
theorem chance_c {a m q : Int} (ha : -m ≤ a ∧ a ≤ m) (hm : m < 4294967296) (hq : q = fclamp m 268435456 4294967296) : ¬ fabs (fdiv a q) < fabs a ∧ ¬ fabs (fdiv a q) > sumF [mulF [fabs a, 68719476736], 1] := by
  have q1 : 268435456 ≤ q ∧ q < 4294967296 ∧ m ≤ q := by rw [hq]; unfold fclamp; omega
  clear hq
  have hq0 : 0 < q := by omega
  have e : fdiv a q = clampI (a * 4294967296 / q) := by
    unfold fdiv fq
    rw [if_neg (by omega), if_pos hq0]
  have lo : -(16 * m) ≤ a * 4294967296 / q := by
    rw [Int.le_ediv_iff_mul_le hq0]
    have := Int.mul_le_mul_of_nonneg_left (show 268435456 ≤ q by omega) (show 0 ≤ 16 * m by omega)
    rw [Int.neg_mul]
    omega
  have b1 := Int.ediv_mul_le (a * 4294967296) (show q ≠ 0 by omega)
  have b2 := Int.lt_ediv_add_one_mul_self (a * 4294967296) hq0
  have hi : a * 4294967296 / q ≤ 16 * m := by
    have : a * 4294967296 / q < 16 * m + 1 := by
      rw [Int.ediv_lt_iff_lt_mul hq0, Int.add_mul]
      have := Int.mul_le_mul_of_nonneg_left (show 268435456 ≤ q by omega) (show 0 ≤ 16 * m by omega)
      omega
    omega
  have c0 : clampI (a * 4294967296 / q) = a * 4294967296 / q := clampI_v (by omega)
  rw [e, c0]
  have key : (0 ≤ a → a ≤ a * 4294967296 / q ∧ a * 4294967296 / q ≤ 16 * a) ∧ (a < 0 → a * 4294967296 / q ≤ a ∧ 16 * a ≤ a * 4294967296 / q) := by
    refine ⟨fun h => ⟨?_, ?_⟩, fun h => ⟨?_, ?_⟩⟩
    · rw [Int.le_ediv_iff_mul_le hq0]
      exact Int.mul_le_mul_of_nonneg_left (by omega) h
    · have : a * 4294967296 / q < 16 * a + 1 := by
        rw [Int.ediv_lt_iff_lt_mul hq0, Int.add_mul]
        have := Int.mul_le_mul_of_nonneg_left (show 268435456 ≤ q by omega) (show 0 ≤ 16 * a by omega)
        omega
      omega
    · have : a * 4294967296 / q < a + 1 := by
        rw [Int.ediv_lt_iff_lt_mul hq0, Int.add_mul]
        have := Int.mul_le_mul_of_nonneg_left (show q ≤ 4294967296 by omega) (show 0 ≤ -a by omega)
        rw [Int.neg_mul, Int.neg_mul] at this
        omega
      omega
    · rw [Int.le_ediv_iff_mul_le hq0]
      have := Int.mul_le_mul_of_nonneg_left (show 268435456 ≤ q by omega) (show 0 ≤ 16 * -a by omega)
      rw [show 16 * -a = -(16 * a) by omega, Int.neg_mul, Int.neg_mul] at this
      omega
  generalize a * 4294967296 / q = Q at *
  have hfa := fabs_val (a := a) (by unfold InI; omega)
  have hfQ := fabs_val (a := Q) (by unfold InI; omega)
  rw [if_neg (show ¬ a = -9223372036854775808 by omega)] at hfa
  rw [if_neg (show ¬ Q = -9223372036854775808 by omega)] at hfQ
  have hA : 0 ≤ fabs a ∧ fabs a ≤ 4294967296 := by rw [hfa]; split <;> omega
  have hmul : mulF [fabs a, 68719476736] = 16 * fabs a := by
    show fmul (fabs a) 68719476736 = _
    unfold fmul
    rw [show fabs a * 68719476736 / 4294967296 = 16 * fabs a by omega]
    exact clampI_v (by omega)
  have hsum : sumF [mulF [fabs a, 68719476736], 1] = 16 * fabs a + 1 := by
    rw [hmul, sumF2 (by unfold InI; omega)]
    unfold satAdd
    exact clampI_v (by omega)
  rw [hsum, hfQ, hfa]
  split <;> split <;> omega
theorem SurfaceChance_true (g : T3) (x : Int) (hg : InV g) (hx : InU32 x) : s_umbralaw26_SurfaceChance g x = true := by
  unfold s_umbralaw26_SurfaceChance
  simp only [lt, works26, if_true]
  have hr := roulette_v g hx
  generalize s_surface_Roulette g x = r at *
  obtain ⟨hm0, hm1, hv1, hv2, hv3⟩ := vmost_bd hg
  obtain ⟨q, hq⟩ : ∃ q, q = fclamp (vmost g) 268435456 4294967296 := ⟨_, rfl⟩
  rw [← hq] at hr
  have hq' := hq
  unfold fclamp at hq'
  have fm : fabs g.1 ≤ vmost g ∧ fabs g.2.1 ≤ vmost g ∧ fabs g.2.2 ≤ vmost g := by unfold vmost; omega
  have f1 := fabs_val hg.1
  have f2 := fabs_val hg.2.1
  have f3 := fabs_val hg.2.2
  generalize vmost g = m at *
  unfold InU32 at hx
  by_cases h : x ≥ q
  · rw [if_pos h] at hr
    subst hr
    simp only
    rw [if_neg (by simp), if_neg (by omega), if_pos trivial, if_pos (by omega)]
  · rw [if_neg h] at hr
    subst hr
    simp only
    rw [if_pos trivial]
    by_cases h1 : m ≥ 4294967296
    · rw [if_pos h1]
      have e : q = 4294967296 := by omega
      rw [e, fdiv_one hg.1, fdiv_one hg.2.1, fdiv_one hg.2.2, if_pos rfl]
    · rw [if_neg h1]
      have a1 : -m ≤ g.1 ∧ g.1 ≤ m := by rw [f1] at fm; obtain ⟨fm1, -, -⟩ := fm; split at fm1 <;> (try split at fm1) <;> omega
      have a2 : -m ≤ g.2.1 ∧ g.2.1 ≤ m := by rw [f2] at fm; obtain ⟨-, fm1, -⟩ := fm; split at fm1 <;> (try split at fm1) <;> omega
      have a3 : -m ≤ g.2.2 ∧ g.2.2 ≤ m := by rw [f3] at fm; obtain ⟨-, -, fm1⟩ := fm; split at fm1 <;> (try split at fm1) <;> omega
      obtain ⟨c1, c2⟩ := chance_c a1 (by omega) hq
      obtain ⟨c3, c4⟩ := chance_c a2 (by omega) hq
      obtain ⟨c5, c6⟩ := chance_c a3 (by omega) hq
      rw [if_neg c1, if_neg c2, if_neg c3, if_neg c4, if_neg c5, if_neg c6]
end Go.Proofs.Ytjhnkpapbjkbcaa

namespace Go.Proofs.Ytjhnkpapbjkbcaa
open Go.RowKit Go.Sort
set_option linter.unusedVariables false
set_option linter.unusedSimpArgs false

theorem lawSurfaceTurns (ns0 : List Int) (h0 : Al2 Fits [.i64, .i64, .i64] ns0) (ns1 : List Int) (h1 : Al2 Fits [.i64, .i64, .i64] ns1) (a2 : Int) (h2 : Fits .u32 a2) (w : World) : Calls Try.prog 6 #[.agg (vals [.i64, .i64, .i64] ns0).toArray, .agg (vals [.i64, .i64, .i64] ns1).toArray, .int .u32 a2] w (Ret (.bool true) w) := by
  obtain ⟨b0_0, l0_0, rfl, f0_0, h0⟩ := al2_cons h0
  obtain ⟨b0_1, l0_1, rfl, f0_1, h0⟩ := al2_cons h0
  obtain ⟨b0_2, l0_2, rfl, f0_2, h0⟩ := al2_cons h0
  obtain rfl := al2_nil h0
  obtain ⟨b1_0, l1_0, rfl, f1_0, h1⟩ := al2_cons h1
  obtain ⟨b1_1, l1_1, rfl, f1_1, h1⟩ := al2_cons h1
  obtain ⟨b1_2, l1_2, rfl, f1_2, h1⟩ := al2_cons h1
  obtain rfl := al2_nil h1
  have hw := w_umbralaw26_SurfaceTurns (b0_0, b0_1, b0_2) (b1_0, b1_1, b1_2) a2 ⟨fit_i64 f0_0, fit_i64 f0_1, fit_i64 f0_2⟩ ⟨fit_i64 f1_0, fit_i64 f1_1, fit_i64 f1_2⟩ (fit_u32 h2) w
  rw [SurfaceTurns_true (b0_0, b0_1, b0_2) (b1_0, b1_1, b1_2) a2] at hw
  exact hw

theorem SurfaceScatters_law (h0_ : (Int × (Int × Int × Int) × Int) × (Int × Int × Int) × (Int × Int × Int) × (Int × Int × Int) × (Int × Int)) (h_h0_ : ((InI h0_.1.1 ∧ InV h0_.1.2.1 ∧ InI h0_.1.2.2) ∧ InV h0_.2.1 ∧ InV h0_.2.2.1 ∧ InV h0_.2.2.2.1 ∧ (InU32 h0_.2.2.2.2.1 ∧ InU32 h0_.2.2.2.2.2))) : s_umbralaw26_SurfaceScatters h0_ = true := SurfaceScatters_true h0_ h_h0_.2.2.2.2.2

theorem lawSurfaceScatters (ns0 : List Int) (h0 : Al2 Fits [.i64, .i64, .i64, .i64, .i64, .i64, .i64, .i64, .i64, .i64, .i64, .i64, .i64, .i64, .u32, .u32] ns0) (w : World) : Calls Try.prog 7 #[.agg (vals [.i64, .i64, .i64, .i64, .i64, .i64, .i64, .i64, .i64, .i64, .i64, .i64, .i64, .i64, .u32, .u32] ns0).toArray] w (Ret (.bool true) w) := by
  obtain ⟨b0_0, l0_0, rfl, f0_0, h0⟩ := al2_cons h0
  obtain ⟨b0_1, l0_1, rfl, f0_1, h0⟩ := al2_cons h0
  obtain ⟨b0_2, l0_2, rfl, f0_2, h0⟩ := al2_cons h0
  obtain ⟨b0_3, l0_3, rfl, f0_3, h0⟩ := al2_cons h0
  obtain ⟨b0_4, l0_4, rfl, f0_4, h0⟩ := al2_cons h0
  obtain ⟨b0_5, l0_5, rfl, f0_5, h0⟩ := al2_cons h0
  obtain ⟨b0_6, l0_6, rfl, f0_6, h0⟩ := al2_cons h0
  obtain ⟨b0_7, l0_7, rfl, f0_7, h0⟩ := al2_cons h0
  obtain ⟨b0_8, l0_8, rfl, f0_8, h0⟩ := al2_cons h0
  obtain ⟨b0_9, l0_9, rfl, f0_9, h0⟩ := al2_cons h0
  obtain ⟨b0_10, l0_10, rfl, f0_10, h0⟩ := al2_cons h0
  obtain ⟨b0_11, l0_11, rfl, f0_11, h0⟩ := al2_cons h0
  obtain ⟨b0_12, l0_12, rfl, f0_12, h0⟩ := al2_cons h0
  obtain ⟨b0_13, l0_13, rfl, f0_13, h0⟩ := al2_cons h0
  obtain ⟨b0_14, l0_14, rfl, f0_14, h0⟩ := al2_cons h0
  obtain ⟨b0_15, l0_15, rfl, f0_15, h0⟩ := al2_cons h0
  obtain rfl := al2_nil h0
  have hw := w_umbralaw26_SurfaceScatters ((b0_0, (b0_1, b0_2, b0_3), b0_4), (b0_5, b0_6, b0_7), (b0_8, b0_9, b0_10), (b0_11, b0_12, b0_13), (b0_14, b0_15)) ⟨⟨fit_i64 f0_0, ⟨fit_i64 f0_1, fit_i64 f0_2, fit_i64 f0_3⟩, fit_i64 f0_4⟩, ⟨fit_i64 f0_5, fit_i64 f0_6, fit_i64 f0_7⟩, ⟨fit_i64 f0_8, fit_i64 f0_9, fit_i64 f0_10⟩, ⟨fit_i64 f0_11, fit_i64 f0_12, fit_i64 f0_13⟩, ⟨fit_u32 f0_14, fit_u32 f0_15⟩⟩ w
  rw [SurfaceScatters_law ((b0_0, (b0_1, b0_2, b0_3), b0_4), (b0_5, b0_6, b0_7), (b0_8, b0_9, b0_10), (b0_11, b0_12, b0_13), (b0_14, b0_15)) ⟨⟨fit_i64 f0_0, ⟨fit_i64 f0_1, fit_i64 f0_2, fit_i64 f0_3⟩, fit_i64 f0_4⟩, ⟨fit_i64 f0_5, fit_i64 f0_6, fit_i64 f0_7⟩, ⟨fit_i64 f0_8, fit_i64 f0_9, fit_i64 f0_10⟩, ⟨fit_i64 f0_11, fit_i64 f0_12, fit_i64 f0_13⟩, ⟨fit_u32 f0_14, fit_u32 f0_15⟩⟩] at hw
  exact hw

theorem lawSurfaceFaces (ns0 : List Int) (h0 : Al2 Fits [.i64, .i64, .i64] ns0) (ns1 : List Int) (h1 : Al2 Fits [.i64, .i64, .i64] ns1) (w : World) : Calls Try.prog 3 #[.agg (vals [.i64, .i64, .i64] ns0).toArray, .agg (vals [.i64, .i64, .i64] ns1).toArray] w (Ret (.bool true) w) := by
  obtain ⟨b0_0, l0_0, rfl, f0_0, h0⟩ := al2_cons h0
  obtain ⟨b0_1, l0_1, rfl, f0_1, h0⟩ := al2_cons h0
  obtain ⟨b0_2, l0_2, rfl, f0_2, h0⟩ := al2_cons h0
  obtain rfl := al2_nil h0
  obtain ⟨b1_0, l1_0, rfl, f1_0, h1⟩ := al2_cons h1
  obtain ⟨b1_1, l1_1, rfl, f1_1, h1⟩ := al2_cons h1
  obtain ⟨b1_2, l1_2, rfl, f1_2, h1⟩ := al2_cons h1
  obtain rfl := al2_nil h1
  have hw := w_umbralaw26_SurfaceFaces (b0_0, b0_1, b0_2) (b1_0, b1_1, b1_2) ⟨fit_i64 f0_0, fit_i64 f0_1, fit_i64 f0_2⟩ ⟨fit_i64 f1_0, fit_i64 f1_1, fit_i64 f1_2⟩ w
  rw [SurfaceFaces_true (b0_0, b0_1, b0_2) (b1_0, b1_1, b1_2)] at hw
  exact hw

theorem lawSurfaceChance (ns0 : List Int) (h0 : Al2 Fits [.i64, .i64, .i64] ns0) (a1 : Int) (h1 : Fits .u32 a1) (w : World) : Calls Try.prog 5 #[.agg (vals [.i64, .i64, .i64] ns0).toArray, .int .u32 a1] w (Ret (.bool true) w) := by
  obtain ⟨b0_0, l0_0, rfl, f0_0, h0⟩ := al2_cons h0
  obtain ⟨b0_1, l0_1, rfl, f0_1, h0⟩ := al2_cons h0
  obtain ⟨b0_2, l0_2, rfl, f0_2, h0⟩ := al2_cons h0
  obtain rfl := al2_nil h0
  have hw := w_umbralaw26_SurfaceChance (b0_0, b0_1, b0_2) a1 ⟨fit_i64 f0_0, fit_i64 f0_1, fit_i64 f0_2⟩ (fit_u32 h1) w
  rw [SurfaceChance_true (b0_0, b0_1, b0_2) a1 ⟨fit_i64 f0_0, fit_i64 f0_1, fit_i64 f0_2⟩ (fit_u32 h1)] at hw
  exact hw

end Go.Proofs.Ytjhnkpapbjkbcaa
