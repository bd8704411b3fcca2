/- Walks: umbralaw20. -/
import Derived.Test.YtbfgmedjogjkeaaG3c
import Derived.Test.YtbfgmedjogjkeaaTriR
namespace Go.Proofs.Ytbfgmedjogjkeaa
open Go.RowKit Go.Sort
set_option linter.unusedVariables false
set_option linter.unusedSimpArgs false

def e_umbralaw20_works (r : Bool) : Value := .bool r
def s_umbralaw20_works  : Bool :=
  lt (hitT (1, 1, (-5)) (0, 0, 2) ((0, 0, 0), (4, 0, 0), (0, 4, 0))) fun r11 =>
  if r11.2 = true then
    lt (IntKind.i64.wrap (2 * r11.1.1)) fun x28 =>
    lt (IntKind.i64.wrap (5 * r11.1.2.1)) fun x30 =>
    if x28 = x30 then
      lt (placeV (1, 1, (-5)) (0, 0, 2) r11.1) fun r33 =>
      if (r33 : Int × Int × Int) = (1, 1, 0) then
        true
      else
        false
    else
      false
  else
    false
set_option maxRecDepth 100000 in
set_option maxHeartbeats 4000000 in
theorem w_umbralaw20_works  (w : World) : Calls Try.prog 36 #[] w (Ret (e_umbralaw20_works (s_umbralaw20_works )) w) := by
  obtain ⟨R, HR⟩ : ∃ R, e_umbralaw20_works (s_umbralaw20_works ) = R := ⟨_, rfl⟩
  rw [HR]
  unfold s_umbralaw20_works at HR
  have hM0 := St.start w
  refine calls_run Try.func36 rfl ?_
  refine R_seq (R_region (S_val (.bool false) (by kernel_rfl) (S_nil (R_seq (R_region (S_val (.agg #[.int .i64 1, .int .i64 1, .int .i64 (-5)]) (by kernel_rfl) (S_val (.agg #[.int .i64 0, .int .i64 0, .int .i64 2]) (by kernel_rfl) (S_fresh none #[.int .i64 0, .int .i64 0, .int .i64 0] 23 hM0 (by kernel_rfl) (fun g1 w2 hM3 => S_fresh none #[.int .i64 0, .int .i64 0, .int .i64 0] 23 hM3 (by kernel_rfl) (fun g4 w5 hM6 => S_store 1 0 #[.int .i64 1, .int .i64 1, .int .i64 (-5)] hM6 (by kernel_rfl) (fun w7 hM8 => S_store 0 0 #[.int .i64 0, .int .i64 0, .int .i64 2] hM8 (by kernel_rfl) (fun w9 hM10 => ?_))))))))))))
  refine S_nil (R_seq (R_region (S_load 1 0 (.agg #[.int .i64 1, .int .i64 1, .int .i64 (-5)]) hM10 (by kernel_rfl) (S_load 0 0 (.agg #[.int .i64 0, .int .i64 0, .int .i64 2]) hM10 (by kernel_rfl) (S_val (.agg #[.int .i64 0, .int .i64 0, .int .i64 0]) (by kernel_rfl) (S_val (.agg #[.int .i64 4, .int .i64 0, .int .i64 0]) (by kernel_rfl) (S_val (.agg #[.int .i64 0, .int .i64 4, .int .i64 0]) (by kernel_rfl) (S_val (.agg #[.int .i64 0, .int .i64 0, .int .i64 0, .int .i64 4, .int .i64 0, .int .i64 0, .int .i64 0, .int .i64 4, .int .i64 0]) (by kernel_rfl) (S_call (hitT (1, 1, (-5)) (0, 0, 2) ((0, 0, 0), (4, 0, 0), (0, 4, 0))) (fun r : (Int × Int × Int × Int) × Bool => .tuple #[.agg #[.int .i64 r.1.1, .int .i64 r.1.2.1, .int .i64 r.1.2.2.1, .int .i64 r.1.2.2.2], .bool r.2]) hM10 (tHit (1, 1, (-5)) (0, 0, 2) ((0, 0, 0), (4, 0, 0), (0, 4, 0)) w9) (by kernel_rfl) (fun r11 h12 w13 hM14 => ?_))))))))))
  have HR := hr_lt HR h12
  obtain ⟨r15, b17⟩ := r11
  cases b17
  · refine S_val (.tuple #[.agg #[.int .i64 r15.1, .int .i64 r15.2.1, .int .i64 r15.2.2.1, .int .i64 r15.2.2.2], .bool false]) (by kernel_rfl) (S_val (.agg #[.int .i64 r15.1, .int .i64 r15.2.1, .int .i64 r15.2.2.1, .int .i64 r15.2.2.2]) (by kernel_rfl) (S_val (.bool false) (by kernel_rfl) (S_fresh none #[.int .i64 0, .int .i64 0, .int .i64 0, .int .i64 0] 50 hM14 (by kernel_rfl) (fun g18 w19 hM20 => S_store 0 0 #[.int .i64 r15.1, .int .i64 r15.2.1, .int .i64 r15.2.2.1, .int .i64 r15.2.2.2] hM20 (by kernel_rfl) (fun w21 hM22 => S_val (.bool false) (by kernel_rfl) (S_nil (R_seq (R_region (S_val (.bool false) (by kernel_rfl) (S_val (.bool false) (by kernel_rfl) (S_skip (by kernel_rfl) (?_))))))))))))
    have HR := hr_neg HR Bool.false_ne_true
    refine S_skip (by kernel_rfl) (S_skip (by kernel_rfl) (S_skip (by kernel_rfl) (S_skip (by kernel_rfl) (S_skip (by kernel_rfl) (S_skip (by kernel_rfl) (S_val (.bool false) (by kernel_rfl) (S_val (.bool false) (by kernel_rfl) (S_skip (by kernel_rfl) (S_skip (by kernel_rfl) (S_skip (by kernel_rfl) (S_skip (by kernel_rfl) (?_))))))))))))
    refine S_skip (by kernel_rfl) (S_skip (by kernel_rfl) (S_val (.bool false) (by kernel_rfl) (S_val (.bool false) (by kernel_rfl) (S_nil (?_)))))
    refine R_ret hM22 rfl (.cons (.tmp _ (.bool false) (by kernel_rfl)) .nil) rfl ?_
    exact ⟨congrArg Ending.returned HR, hM22.below⟩
  · refine S_val (.tuple #[.agg #[.int .i64 r15.1, .int .i64 r15.2.1, .int .i64 r15.2.2.1, .int .i64 r15.2.2.2], .bool true]) (by kernel_rfl) (S_val (.agg #[.int .i64 r15.1, .int .i64 r15.2.1, .int .i64 r15.2.2.1, .int .i64 r15.2.2.2]) (by kernel_rfl) (S_val (.bool true) (by kernel_rfl) (S_fresh none #[.int .i64 0, .int .i64 0, .int .i64 0, .int .i64 0] 50 hM14 (by kernel_rfl) (fun g23 w24 hM25 => S_store 0 0 #[.int .i64 r15.1, .int .i64 r15.2.1, .int .i64 r15.2.2.1, .int .i64 r15.2.2.2] hM25 (by kernel_rfl) (fun w26 hM27 => S_val (.bool true) (by kernel_rfl) (S_nil (R_seq (R_region (S_val (.bool true) (by kernel_rfl) (S_val (.bool true) (by kernel_rfl) (S_val (.pointer (some ⟨g23, 0, none⟩)) (by kernel_rfl) (?_))))))))))))
    have HR := hr_pos HR rfl
    refine S_load 0 0 (.int .i64 r15.1) hM27 (by kernel_rfl) (S_int (IntKind.i64.wrap (2 * r15.1)) .i64 (by kernel_rfl) (fun x28 h29 => S_val (.pointer (some ⟨g23, 1, none⟩)) (by kernel_rfl) (S_load 0 1 (.int .i64 r15.2.1) hM27 (by kernel_rfl) (S_int (IntKind.i64.wrap (5 * r15.2.1)) .i64 (by kernel_rfl) (fun x30 h31 => ?_)))))
    have HR := hr_lt HR h29
    have HR := hr_lt HR h31
    refine S_dec (x28 = x30) (by kernel_rfl) (fun c32 => ?_) (fun c32 => ?_)
    · refine S_val (.bool true) (by kernel_rfl) (S_val (.bool true) (by kernel_rfl) (S_load 2 0 (.agg #[.int .i64 1, .int .i64 1, .int .i64 (-5)]) hM27 (by kernel_rfl) (S_load 1 0 (.agg #[.int .i64 0, .int .i64 0, .int .i64 2]) hM27 (by kernel_rfl) (S_load 0 0 (.agg #[.int .i64 r15.1, .int .i64 r15.2.1, .int .i64 r15.2.2.1, .int .i64 r15.2.2.2]) hM27 (by kernel_rfl) (S_call (placeV (1, 1, (-5)) (0, 0, 2) r15) (fun r : Int × Int × Int => .agg #[.int .i64 r.1, .int .i64 r.2.1, .int .i64 r.2.2]) hM27 (tPlace (1, 1, (-5)) (0, 0, 2) r15 (⟨(show InI 1 from by unfold InI; omega), (show InI 1 from by unfold InI; omega), (show InI (-5) from by unfold InI; omega)⟩) (⟨(show InI 0 from by unfold InI; omega), (show InI 0 from by unfold InI; omega), (show InI 2 from by unfold InI; omega)⟩) ((tr (P := fun r : (Int × Int × Int × Int) × Bool => (InM r.1 ∧ True)) h12 (hitT_I (1, 1, (-5)) (0, 0, 2) ((0, 0, 0), (4, 0, 0), (0, 4, 0)))).out.1) w26) (by kernel_rfl) (fun r33 h34 w35 hM36 => S_val (.agg #[.int .i64 1, .int .i64 1, .int .i64 0]) (by kernel_rfl) (?_)))))))
      have HR := hr_pos HR c32
      have HR := hr_lt HR h34
      refine S_dec ((r33 : Int × Int × Int) = (1, 1, 0)) (eqv_umbra_api_Point (x := r33) (y := (1, 1, 0)) (by kernel_rfl) (by kernel_rfl) (by kernel_rfl)) (fun c37 => ?_) (fun c37 => ?_)
      · refine S_val (.bool true) (by kernel_rfl) (S_val (.bool true) (by kernel_rfl) (S_nil (?_)))
        have HR := hr_pos HR c37
        refine R_ret hM36 rfl (.cons (.tmp _ (.bool true) (by kernel_rfl)) .nil) rfl ?_
        exact ⟨congrArg Ending.returned HR, hM36.below⟩
      · refine S_val (.bool false) (by kernel_rfl) (S_val (.bool false) (by kernel_rfl) (S_nil (?_)))
        have HR := hr_neg HR c37
        refine R_ret hM36 rfl (.cons (.tmp _ (.bool false) (by kernel_rfl)) .nil) rfl ?_
        exact ⟨congrArg Ending.returned HR, hM36.below⟩
    · refine S_val (.bool false) (by kernel_rfl) (S_val (.bool false) (by kernel_rfl) (S_skip (by kernel_rfl) (S_skip (by kernel_rfl) (S_skip (by kernel_rfl) (S_skip (by kernel_rfl) (S_skip (by kernel_rfl) (S_skip (by kernel_rfl) (S_val (.bool false) (by kernel_rfl) (S_val (.bool false) (by kernel_rfl) (S_nil (?_)))))))))))
      have HR := hr_neg HR c32
      refine R_ret hM27 rfl (.cons (.tmp _ (.bool false) (by kernel_rfl)) .nil) rfl ?_
      exact ⟨congrArg Ending.returned HR, hM27.below⟩

def e_umbralaw20_TriHits (r : Bool) : Value := .bool r
def s_umbralaw20_TriHits (o : Int × Int × Int) (d1_ : Int × Int × Int) (p : (Int × Int × Int) × (Int × Int × Int) × (Int × Int × Int)) : Bool :=
  lt (hitT o d1_ p) fun r10 =>
  if r10.2 = true then
    lt (hitT o d1_ p) fun r80 =>
    if r80.2 = true then
      if (r10.1 : Int × Int × Int × Int) = r80.1 then
        lt (s_tri_May o d1_) fun r109 =>
        if r109 = true then
          lt (s_umbraref20_May o d1_) fun r121 =>
          if r121 = true then
            lt (s_umbralaw20_works ) fun r125 =>
            if r125 = true then
              true
            else
              false
          else
            false
        else
          lt (s_umbraref20_May o d1_) fun r111 =>
          if r111 = true then
            false
          else
            lt (s_umbralaw20_works ) fun r113 =>
            if r113 = true then
              true
            else
              false
      else
        false
    else
      if (r10.1 : Int × Int × Int × Int) = r80.1 then
        false
      else
        false
  else
    lt (hitT o d1_ p) fun r22 =>
    if r22.2 = true then
      if (r10.1 : Int × Int × Int × Int) = r22.1 then
        false
      else
        false
    else
      if (r10.1 : Int × Int × Int × Int) = r22.1 then
        lt (s_tri_May o d1_) fun r38 =>
        if r38 = true then
          lt (s_umbraref20_May o d1_) fun r50 =>
          if r50 = true then
            lt (s_umbralaw20_works ) fun r54 =>
            if r54 = true then
              true
            else
              false
          else
            false
        else
          lt (s_umbraref20_May o d1_) fun r40 =>
          if r40 = true then
            false
          else
            lt (s_umbralaw20_works ) fun r42 =>
            if r42 = true then
              true
            else
              false
      else
        false
set_option maxRecDepth 100000 in
set_option maxHeartbeats 4000000 in
theorem w_umbralaw20_TriHits (o : Int × Int × Int) (d1_ : Int × Int × Int) (p : (Int × Int × Int) × (Int × Int × Int) × (Int × Int × Int)) (h_o : InV o) (h_d1_ : InV d1_) (h_p : (InV p.1 ∧ InV p.2.1 ∧ InV p.2.2)) (w : World) : Calls Try.prog 9 #[.agg #[.int .i64 o.1, .int .i64 o.2.1, .int .i64 o.2.2], .agg #[.int .i64 d1_.1, .int .i64 d1_.2.1, .int .i64 d1_.2.2], .agg #[.int .i64 p.1.1, .int .i64 p.1.2.1, .int .i64 p.1.2.2, .int .i64 p.2.1.1, .int .i64 p.2.1.2.1, .int .i64 p.2.1.2.2, .int .i64 p.2.2.1, .int .i64 p.2.2.2.1, .int .i64 p.2.2.2.2]] w (Ret (e_umbralaw20_TriHits (s_umbralaw20_TriHits o d1_ p)) w) := by
  obtain ⟨R, HR⟩ : ∃ R, e_umbralaw20_TriHits (s_umbralaw20_TriHits o d1_ p) = R := ⟨_, rfl⟩
  rw [HR]
  unfold s_umbralaw20_TriHits at HR
  have hM0 := St.start w
  refine calls_run Try.func9 rfl ?_
  refine R_seq (R_region (S_fresh none #[.int .i64 o.1, .int .i64 o.2.1, .int .i64 o.2.2] 23 hM0 (by kernel_rfl) (fun g1 w2 hM3 => S_fresh none #[.int .i64 d1_.1, .int .i64 d1_.2.1, .int .i64 d1_.2.2] 23 hM3 (by kernel_rfl) (fun g4 w5 hM6 => S_fresh none #[.int .i64 p.1.1, .int .i64 p.1.2.1, .int .i64 p.1.2.2, .int .i64 p.2.1.1, .int .i64 p.2.1.2.1, .int .i64 p.2.1.2.2, .int .i64 p.2.2.1, .int .i64 p.2.2.2.1, .int .i64 p.2.2.2.2] 48 hM6 (by kernel_rfl) (fun g7 w8 hM9 => S_val (.bool false) (by kernel_rfl) (S_nil (R_seq (R_region (S_load 2 0 (.agg #[.int .i64 o.1, .int .i64 o.2.1, .int .i64 o.2.2]) hM9 (by kernel_rfl) (S_load 1 0 (.agg #[.int .i64 d1_.1, .int .i64 d1_.2.1, .int .i64 d1_.2.2]) hM9 (by kernel_rfl) (S_load 0 0 (.agg #[.int .i64 p.1.1, .int .i64 p.1.2.1, .int .i64 p.1.2.2, .int .i64 p.2.1.1, .int .i64 p.2.1.2.1, .int .i64 p.2.1.2.2, .int .i64 p.2.2.1, .int .i64 p.2.2.2.1, .int .i64 p.2.2.2.2]) hM9 (by kernel_rfl) (?_))))))))))))
  refine S_call (hitT o d1_ p) (fun r : (Int × Int × Int × Int) × Bool => .tuple #[.agg #[.int .i64 r.1.1, .int .i64 r.1.2.1, .int .i64 r.1.2.2.1, .int .i64 r.1.2.2.2], .bool r.2]) hM9 (tHit o d1_ p w8) (by kernel_rfl) (fun r10 h11 w12 hM13 => ?_)
  have HR := hr_lt HR h11
  obtain ⟨r14, b16⟩ := r10
  cases b16
  · refine S_val (.tuple #[.agg #[.int .i64 r14.1, .int .i64 r14.2.1, .int .i64 r14.2.2.1, .int .i64 r14.2.2.2], .bool false]) (by kernel_rfl) (S_val (.agg #[.int .i64 r14.1, .int .i64 r14.2.1, .int .i64 r14.2.2.1, .int .i64 r14.2.2.2]) (by kernel_rfl) (S_val (.bool false) (by kernel_rfl) (S_fresh none #[.int .i64 0, .int .i64 0, .int .i64 0, .int .i64 0] 50 hM13 (by kernel_rfl) (fun g17 w18 hM19 => S_store 0 0 #[.int .i64 r14.1, .int .i64 r14.2.1, .int .i64 r14.2.2.1, .int .i64 r14.2.2.2] hM19 (by kernel_rfl) (fun w20 hM21 => S_val (.bool false) (by kernel_rfl) (S_nil (R_seq (R_region (S_load 3 0 (.agg #[.int .i64 o.1, .int .i64 o.2.1, .int .i64 o.2.2]) hM21 (by kernel_rfl) (S_load 2 0 (.agg #[.int .i64 d1_.1, .int .i64 d1_.2.1, .int .i64 d1_.2.2]) hM21 (by kernel_rfl) (S_load 1 0 (.agg #[.int .i64 p.1.1, .int .i64 p.1.2.1, .int .i64 p.1.2.2, .int .i64 p.2.1.1, .int .i64 p.2.1.2.1, .int .i64 p.2.1.2.2, .int .i64 p.2.2.1, .int .i64 p.2.2.2.1, .int .i64 p.2.2.2.2]) hM21 (by kernel_rfl) (?_))))))))))))
    have HR := hr_neg HR Bool.false_ne_true
    refine S_call (hitT o d1_ p) (fun r : (Int × Int × Int × Int) × Bool => .tuple #[.agg #[.int .i64 r.1.1, .int .i64 r.1.2.1, .int .i64 r.1.2.2.1, .int .i64 r.1.2.2.2], .bool r.2]) hM21 (r20Hit o d1_ p w20) (by kernel_rfl) (fun r22 h23 w24 hM25 => ?_)
    have HR := hr_lt HR h23
    obtain ⟨r26, b28⟩ := r22
    cases b28
    · refine S_val (.tuple #[.agg #[.int .i64 r26.1, .int .i64 r26.2.1, .int .i64 r26.2.2.1, .int .i64 r26.2.2.2], .bool false]) (by kernel_rfl) (S_val (.agg #[.int .i64 r26.1, .int .i64 r26.2.1, .int .i64 r26.2.2.1, .int .i64 r26.2.2.2]) (by kernel_rfl) (S_val (.bool false) (by kernel_rfl) (S_fresh none #[.int .i64 0, .int .i64 0, .int .i64 0, .int .i64 0] 50 hM25 (by kernel_rfl) (fun g29 w30 hM31 => S_store 0 0 #[.int .i64 r26.1, .int .i64 r26.2.1, .int .i64 r26.2.2.1, .int .i64 r26.2.2.2] hM31 (by kernel_rfl) (fun w32 hM33 => S_val (.bool false) (by kernel_rfl) (S_nil (R_seq (R_drawF 21 (by kernel_rfl) (fun F34 U35 hL36 => F_load 1 0 (.agg #[.int .i64 r14.1, .int .i64 r14.2.1, .int .i64 r14.2.2.1, .int .i64 r14.2.2.2]) hM33 (by kernel_rfl) (F_load 0 0 (.agg #[.int .i64 r26.1, .int .i64 r26.2.1, .int .i64 r26.2.2.1, .int .i64 r26.2.2.2]) hM33 (by kernel_rfl) (?_)))))))))))
      have HR := hr_neg HR Bool.false_ne_true
      refine F_dec ((r14 : Int × Int × Int × Int) = r26) (fun _ => eqv_umbra_api_Meet (x := r14) (y := r26) (by kernel_rfl) (by kernel_rfl) (by kernel_rfl)) (fun c37 => ?_) (fun c37 => ?_)
      · refine F_val (.bool true) (fun _ => by kernel_rfl) (F_val (.bool false) (fun _ => by kernel_rfl) (F_val (.bool false) (fun _ => by kernel_rfl) (F_val (.bool true) (fun _ => by kernel_rfl) (F_val (.bool true) (fun _ => by kernel_rfl) (F_val (.bool true) (fun _ => by kernel_rfl) (F_load 4 0 (.agg #[.int .i64 o.1, .int .i64 o.2.1, .int .i64 o.2.2]) hM33 (by kernel_rfl) (F_load 3 0 (.agg #[.int .i64 d1_.1, .int .i64 d1_.2.1, .int .i64 d1_.2.2]) hM33 (by kernel_rfl) (F_call (s_tri_May o d1_) (fun r : Bool => .bool r) hM33 hL36 (fun w' hM' => w_tri_May o d1_ w') (by kernel_rfl) (fun _ => by kernel_rfl) (fun r38 h39 => ?_)))))))))
        have HR := hr_pos HR c37
        have HR := hr_lt HR h39
        cases r38
        · refine F_load 4 0 (.agg #[.int .i64 o.1, .int .i64 o.2.1, .int .i64 o.2.2]) hM33 (by kernel_rfl) (F_load 3 0 (.agg #[.int .i64 d1_.1, .int .i64 d1_.2.1, .int .i64 d1_.2.2]) hM33 (by kernel_rfl) (F_call (s_umbraref20_May o d1_) (fun r : Bool => .bool r) hM33 hL36 (fun w' hM' => w_umbraref20_May o d1_ w') (by kernel_rfl) (fun _ => by kernel_rfl) (fun r40 h41 => ?_)))
          have HR := hr_neg HR Bool.false_ne_true
          have HR := hr_lt HR h41
          cases r40
          · refine F_val (.bool true) (fun _ => by kernel_rfl) (F_val (.bool true) (fun _ => by kernel_rfl) (F_val (.bool true) (fun _ => by kernel_rfl) (F_call (s_umbralaw20_works ) (fun r : Bool => .bool r) hM33 hL36 (fun w' hM' => w_umbralaw20_works  w') (by kernel_rfl) (fun _ => by kernel_rfl) (fun r42 h43 => ?_))))
            have HR := hr_neg HR Bool.false_ne_true
            have HR := hr_lt HR h43
            cases r42
            · refine F_val (.bool false) (fun _ => by kernel_rfl) (F_val (.bool false) (fun _ => by kernel_rfl) (F_nil hM33 hL36 (fun w44 hM45 => S_nil (?_))))
              have HR := hr_neg HR Bool.false_ne_true
              refine R_ret hM45 rfl (.cons (.tmp _ (.bool false) (by kernel_rfl)) .nil) rfl ?_
              exact ⟨congrArg Ending.returned HR, hM45.below⟩
            · refine F_val (.bool true) (fun _ => by kernel_rfl) (F_val (.bool true) (fun _ => by kernel_rfl) (F_nil hM33 hL36 (fun w46 hM47 => S_nil (?_))))
              have HR := hr_pos HR rfl
              refine R_ret hM47 rfl (.cons (.tmp _ (.bool true) (by kernel_rfl)) .nil) rfl ?_
              exact ⟨congrArg Ending.returned HR, hM47.below⟩
          · refine F_val (.bool false) (fun _ => by kernel_rfl) (F_val (.bool false) (fun _ => by kernel_rfl) (F_val (.bool false) (fun _ => by kernel_rfl) (F_skip (by kernel_rfl) (F_val (.bool false) (fun _ => by kernel_rfl) (F_val (.bool false) (fun _ => by kernel_rfl) (F_nil hM33 hL36 (fun w48 hM49 => S_nil (?_))))))))
            have HR := hr_pos HR rfl
            refine R_ret hM49 rfl (.cons (.tmp _ (.bool false) (by kernel_rfl)) .nil) rfl ?_
            exact ⟨congrArg Ending.returned HR, hM49.below⟩
        · refine F_load 4 0 (.agg #[.int .i64 o.1, .int .i64 o.2.1, .int .i64 o.2.2]) hM33 (by kernel_rfl) (F_load 3 0 (.agg #[.int .i64 d1_.1, .int .i64 d1_.2.1, .int .i64 d1_.2.2]) hM33 (by kernel_rfl) (F_call (s_umbraref20_May o d1_) (fun r : Bool => .bool r) hM33 hL36 (fun w' hM' => w_umbraref20_May o d1_ w') (by kernel_rfl) (fun _ => by kernel_rfl) (fun r50 h51 => ?_)))
          have HR := hr_pos HR rfl
          have HR := hr_lt HR h51
          cases r50
          · refine F_val (.bool false) (fun _ => by kernel_rfl) (F_val (.bool false) (fun _ => by kernel_rfl) (F_val (.bool false) (fun _ => by kernel_rfl) (F_skip (by kernel_rfl) (F_val (.bool false) (fun _ => by kernel_rfl) (F_val (.bool false) (fun _ => by kernel_rfl) (F_nil hM33 hL36 (fun w52 hM53 => S_nil (?_))))))))
            have HR := hr_neg HR Bool.false_ne_true
            refine R_ret hM53 rfl (.cons (.tmp _ (.bool false) (by kernel_rfl)) .nil) rfl ?_
            exact ⟨congrArg Ending.returned HR, hM53.below⟩
          · refine F_val (.bool true) (fun _ => by kernel_rfl) (F_val (.bool true) (fun _ => by kernel_rfl) (F_val (.bool true) (fun _ => by kernel_rfl) (F_call (s_umbralaw20_works ) (fun r : Bool => .bool r) hM33 hL36 (fun w' hM' => w_umbralaw20_works  w') (by kernel_rfl) (fun _ => by kernel_rfl) (fun r54 h55 => ?_))))
            have HR := hr_pos HR rfl
            have HR := hr_lt HR h55
            cases r54
            · refine F_val (.bool false) (fun _ => by kernel_rfl) (F_val (.bool false) (fun _ => by kernel_rfl) (F_nil hM33 hL36 (fun w56 hM57 => S_nil (?_))))
              have HR := hr_neg HR Bool.false_ne_true
              refine R_ret hM57 rfl (.cons (.tmp _ (.bool false) (by kernel_rfl)) .nil) rfl ?_
              exact ⟨congrArg Ending.returned HR, hM57.below⟩
            · refine F_val (.bool true) (fun _ => by kernel_rfl) (F_val (.bool true) (fun _ => by kernel_rfl) (F_nil hM33 hL36 (fun w58 hM59 => S_nil (?_))))
              have HR := hr_pos HR rfl
              refine R_ret hM59 rfl (.cons (.tmp _ (.bool true) (by kernel_rfl)) .nil) rfl ?_
              exact ⟨congrArg Ending.returned HR, hM59.below⟩
      · refine F_val (.bool false) (fun _ => by kernel_rfl) (F_skip (by kernel_rfl) (F_skip (by kernel_rfl) (F_skip (by kernel_rfl) (F_val (.bool false) (fun _ => by kernel_rfl) (F_val (.bool false) (fun _ => by kernel_rfl) (F_skip (by kernel_rfl) (F_skip (by kernel_rfl) (F_skip (by kernel_rfl) (F_skip (by kernel_rfl) (F_skip (by kernel_rfl) (F_skip (by kernel_rfl) (?_))))))))))))
        have HR := hr_neg HR c37
        refine F_skip (by kernel_rfl) (F_val (.bool false) (fun _ => by kernel_rfl) (F_val (.bool false) (fun _ => by kernel_rfl) (F_skip (by kernel_rfl) (F_val (.bool false) (fun _ => by kernel_rfl) (F_val (.bool false) (fun _ => by kernel_rfl) (F_nil hM33 hL36 (fun w60 hM61 => S_nil (?_))))))))
        refine R_ret hM61 rfl (.cons (.tmp _ (.bool false) (by kernel_rfl)) .nil) rfl ?_
        exact ⟨congrArg Ending.returned HR, hM61.below⟩
    · refine S_val (.tuple #[.agg #[.int .i64 r26.1, .int .i64 r26.2.1, .int .i64 r26.2.2.1, .int .i64 r26.2.2.2], .bool true]) (by kernel_rfl) (S_val (.agg #[.int .i64 r26.1, .int .i64 r26.2.1, .int .i64 r26.2.2.1, .int .i64 r26.2.2.2]) (by kernel_rfl) (S_val (.bool true) (by kernel_rfl) (S_fresh none #[.int .i64 0, .int .i64 0, .int .i64 0, .int .i64 0] 50 hM25 (by kernel_rfl) (fun g62 w63 hM64 => S_store 0 0 #[.int .i64 r26.1, .int .i64 r26.2.1, .int .i64 r26.2.2.1, .int .i64 r26.2.2.2] hM64 (by kernel_rfl) (fun w65 hM66 => S_val (.bool true) (by kernel_rfl) (S_nil (R_seq (R_drawF 21 (by kernel_rfl) (fun F67 U68 hL69 => F_load 1 0 (.agg #[.int .i64 r14.1, .int .i64 r14.2.1, .int .i64 r14.2.2.1, .int .i64 r14.2.2.2]) hM66 (by kernel_rfl) (F_load 0 0 (.agg #[.int .i64 r26.1, .int .i64 r26.2.1, .int .i64 r26.2.2.1, .int .i64 r26.2.2.2]) hM66 (by kernel_rfl) (?_)))))))))))
      have HR := hr_pos HR rfl
      refine F_dec ((r14 : Int × Int × Int × Int) = r26) (fun _ => eqv_umbra_api_Meet (x := r14) (y := r26) (by kernel_rfl) (by kernel_rfl) (by kernel_rfl)) (fun c70 => ?_) (fun c70 => ?_)
      · refine F_val (.bool true) (fun _ => by kernel_rfl) (F_val (.bool false) (fun _ => by kernel_rfl) (F_val (.bool true) (fun _ => by kernel_rfl) (F_val (.bool false) (fun _ => by kernel_rfl) (F_val (.bool false) (fun _ => by kernel_rfl) (F_val (.bool false) (fun _ => by kernel_rfl) (F_skip (by kernel_rfl) (F_skip (by kernel_rfl) (F_skip (by kernel_rfl) (F_skip (by kernel_rfl) (F_skip (by kernel_rfl) (F_skip (by kernel_rfl) (?_))))))))))))
        have HR := hr_pos HR c70
        refine F_skip (by kernel_rfl) (F_val (.bool false) (fun _ => by kernel_rfl) (F_val (.bool false) (fun _ => by kernel_rfl) (F_skip (by kernel_rfl) (F_val (.bool false) (fun _ => by kernel_rfl) (F_val (.bool false) (fun _ => by kernel_rfl) (F_nil hM66 hL69 (fun w71 hM72 => S_nil (?_))))))))
        refine R_ret hM72 rfl (.cons (.tmp _ (.bool false) (by kernel_rfl)) .nil) rfl ?_
        exact ⟨congrArg Ending.returned HR, hM72.below⟩
      · refine F_val (.bool false) (fun _ => by kernel_rfl) (F_skip (by kernel_rfl) (F_skip (by kernel_rfl) (F_skip (by kernel_rfl) (F_val (.bool false) (fun _ => by kernel_rfl) (F_val (.bool false) (fun _ => by kernel_rfl) (F_skip (by kernel_rfl) (F_skip (by kernel_rfl) (F_skip (by kernel_rfl) (F_skip (by kernel_rfl) (F_skip (by kernel_rfl) (F_skip (by kernel_rfl) (?_))))))))))))
        have HR := hr_neg HR c70
        refine F_skip (by kernel_rfl) (F_val (.bool false) (fun _ => by kernel_rfl) (F_val (.bool false) (fun _ => by kernel_rfl) (F_skip (by kernel_rfl) (F_val (.bool false) (fun _ => by kernel_rfl) (F_val (.bool false) (fun _ => by kernel_rfl) (F_nil hM66 hL69 (fun w73 hM74 => S_nil (?_))))))))
        refine R_ret hM74 rfl (.cons (.tmp _ (.bool false) (by kernel_rfl)) .nil) rfl ?_
        exact ⟨congrArg Ending.returned HR, hM74.below⟩
  · refine S_val (.tuple #[.agg #[.int .i64 r14.1, .int .i64 r14.2.1, .int .i64 r14.2.2.1, .int .i64 r14.2.2.2], .bool true]) (by kernel_rfl) (S_val (.agg #[.int .i64 r14.1, .int .i64 r14.2.1, .int .i64 r14.2.2.1, .int .i64 r14.2.2.2]) (by kernel_rfl) (S_val (.bool true) (by kernel_rfl) (S_fresh none #[.int .i64 0, .int .i64 0, .int .i64 0, .int .i64 0] 50 hM13 (by kernel_rfl) (fun g75 w76 hM77 => S_store 0 0 #[.int .i64 r14.1, .int .i64 r14.2.1, .int .i64 r14.2.2.1, .int .i64 r14.2.2.2] hM77 (by kernel_rfl) (fun w78 hM79 => S_val (.bool true) (by kernel_rfl) (S_nil (R_seq (R_region (S_load 3 0 (.agg #[.int .i64 o.1, .int .i64 o.2.1, .int .i64 o.2.2]) hM79 (by kernel_rfl) (S_load 2 0 (.agg #[.int .i64 d1_.1, .int .i64 d1_.2.1, .int .i64 d1_.2.2]) hM79 (by kernel_rfl) (S_load 1 0 (.agg #[.int .i64 p.1.1, .int .i64 p.1.2.1, .int .i64 p.1.2.2, .int .i64 p.2.1.1, .int .i64 p.2.1.2.1, .int .i64 p.2.1.2.2, .int .i64 p.2.2.1, .int .i64 p.2.2.2.1, .int .i64 p.2.2.2.2]) hM79 (by kernel_rfl) (?_))))))))))))
    have HR := hr_pos HR rfl
    refine S_call (hitT o d1_ p) (fun r : (Int × Int × Int × Int) × Bool => .tuple #[.agg #[.int .i64 r.1.1, .int .i64 r.1.2.1, .int .i64 r.1.2.2.1, .int .i64 r.1.2.2.2], .bool r.2]) hM79 (r20Hit o d1_ p w78) (by kernel_rfl) (fun r80 h81 w82 hM83 => ?_)
    have HR := hr_lt HR h81
    obtain ⟨r84, b86⟩ := r80
    cases b86
    · refine S_val (.tuple #[.agg #[.int .i64 r84.1, .int .i64 r84.2.1, .int .i64 r84.2.2.1, .int .i64 r84.2.2.2], .bool false]) (by kernel_rfl) (S_val (.agg #[.int .i64 r84.1, .int .i64 r84.2.1, .int .i64 r84.2.2.1, .int .i64 r84.2.2.2]) (by kernel_rfl) (S_val (.bool false) (by kernel_rfl) (S_fresh none #[.int .i64 0, .int .i64 0, .int .i64 0, .int .i64 0] 50 hM83 (by kernel_rfl) (fun g87 w88 hM89 => S_store 0 0 #[.int .i64 r84.1, .int .i64 r84.2.1, .int .i64 r84.2.2.1, .int .i64 r84.2.2.2] hM89 (by kernel_rfl) (fun w90 hM91 => S_val (.bool false) (by kernel_rfl) (S_nil (R_seq (R_drawF 21 (by kernel_rfl) (fun F92 U93 hL94 => F_load 1 0 (.agg #[.int .i64 r14.1, .int .i64 r14.2.1, .int .i64 r14.2.2.1, .int .i64 r14.2.2.2]) hM91 (by kernel_rfl) (F_load 0 0 (.agg #[.int .i64 r84.1, .int .i64 r84.2.1, .int .i64 r84.2.2.1, .int .i64 r84.2.2.2]) hM91 (by kernel_rfl) (?_)))))))))))
      have HR := hr_neg HR Bool.false_ne_true
      refine F_dec ((r14 : Int × Int × Int × Int) = r84) (fun _ => eqv_umbra_api_Meet (x := r14) (y := r84) (by kernel_rfl) (by kernel_rfl) (by kernel_rfl)) (fun c95 => ?_) (fun c95 => ?_)
      · refine F_val (.bool true) (fun _ => by kernel_rfl) (F_val (.bool true) (fun _ => by kernel_rfl) (F_val (.bool false) (fun _ => by kernel_rfl) (F_val (.bool false) (fun _ => by kernel_rfl) (F_val (.bool false) (fun _ => by kernel_rfl) (F_val (.bool false) (fun _ => by kernel_rfl) (F_skip (by kernel_rfl) (F_skip (by kernel_rfl) (F_skip (by kernel_rfl) (F_skip (by kernel_rfl) (F_skip (by kernel_rfl) (F_skip (by kernel_rfl) (?_))))))))))))
        have HR := hr_pos HR c95
        refine F_skip (by kernel_rfl) (F_val (.bool false) (fun _ => by kernel_rfl) (F_val (.bool false) (fun _ => by kernel_rfl) (F_skip (by kernel_rfl) (F_val (.bool false) (fun _ => by kernel_rfl) (F_val (.bool false) (fun _ => by kernel_rfl) (F_nil hM91 hL94 (fun w96 hM97 => S_nil (?_))))))))
        refine R_ret hM97 rfl (.cons (.tmp _ (.bool false) (by kernel_rfl)) .nil) rfl ?_
        exact ⟨congrArg Ending.returned HR, hM97.below⟩
      · refine F_val (.bool false) (fun _ => by kernel_rfl) (F_skip (by kernel_rfl) (F_skip (by kernel_rfl) (F_skip (by kernel_rfl) (F_val (.bool false) (fun _ => by kernel_rfl) (F_val (.bool false) (fun _ => by kernel_rfl) (F_skip (by kernel_rfl) (F_skip (by kernel_rfl) (F_skip (by kernel_rfl) (F_skip (by kernel_rfl) (F_skip (by kernel_rfl) (F_skip (by kernel_rfl) (?_))))))))))))
        have HR := hr_neg HR c95
        refine F_skip (by kernel_rfl) (F_val (.bool false) (fun _ => by kernel_rfl) (F_val (.bool false) (fun _ => by kernel_rfl) (F_skip (by kernel_rfl) (F_val (.bool false) (fun _ => by kernel_rfl) (F_val (.bool false) (fun _ => by kernel_rfl) (F_nil hM91 hL94 (fun w98 hM99 => S_nil (?_))))))))
        refine R_ret hM99 rfl (.cons (.tmp _ (.bool false) (by kernel_rfl)) .nil) rfl ?_
        exact ⟨congrArg Ending.returned HR, hM99.below⟩
    · refine S_val (.tuple #[.agg #[.int .i64 r84.1, .int .i64 r84.2.1, .int .i64 r84.2.2.1, .int .i64 r84.2.2.2], .bool true]) (by kernel_rfl) (S_val (.agg #[.int .i64 r84.1, .int .i64 r84.2.1, .int .i64 r84.2.2.1, .int .i64 r84.2.2.2]) (by kernel_rfl) (S_val (.bool true) (by kernel_rfl) (S_fresh none #[.int .i64 0, .int .i64 0, .int .i64 0, .int .i64 0] 50 hM83 (by kernel_rfl) (fun g100 w101 hM102 => S_store 0 0 #[.int .i64 r84.1, .int .i64 r84.2.1, .int .i64 r84.2.2.1, .int .i64 r84.2.2.2] hM102 (by kernel_rfl) (fun w103 hM104 => S_val (.bool true) (by kernel_rfl) (S_nil (R_seq (R_drawF 21 (by kernel_rfl) (fun F105 U106 hL107 => F_load 1 0 (.agg #[.int .i64 r14.1, .int .i64 r14.2.1, .int .i64 r14.2.2.1, .int .i64 r14.2.2.2]) hM104 (by kernel_rfl) (F_load 0 0 (.agg #[.int .i64 r84.1, .int .i64 r84.2.1, .int .i64 r84.2.2.1, .int .i64 r84.2.2.2]) hM104 (by kernel_rfl) (?_)))))))))))
      have HR := hr_pos HR rfl
      refine F_dec ((r14 : Int × Int × Int × Int) = r84) (fun _ => eqv_umbra_api_Meet (x := r14) (y := r84) (by kernel_rfl) (by kernel_rfl) (by kernel_rfl)) (fun c108 => ?_) (fun c108 => ?_)
      · refine F_val (.bool true) (fun _ => by kernel_rfl) (F_val (.bool true) (fun _ => by kernel_rfl) (F_val (.bool true) (fun _ => by kernel_rfl) (F_val (.bool true) (fun _ => by kernel_rfl) (F_val (.bool true) (fun _ => by kernel_rfl) (F_val (.bool true) (fun _ => by kernel_rfl) (F_load 4 0 (.agg #[.int .i64 o.1, .int .i64 o.2.1, .int .i64 o.2.2]) hM104 (by kernel_rfl) (F_load 3 0 (.agg #[.int .i64 d1_.1, .int .i64 d1_.2.1, .int .i64 d1_.2.2]) hM104 (by kernel_rfl) (F_call (s_tri_May o d1_) (fun r : Bool => .bool r) hM104 hL107 (fun w' hM' => w_tri_May o d1_ w') (by kernel_rfl) (fun _ => by kernel_rfl) (fun r109 h110 => ?_)))))))))
        have HR := hr_pos HR c108
        have HR := hr_lt HR h110
        cases r109
        · refine F_load 4 0 (.agg #[.int .i64 o.1, .int .i64 o.2.1, .int .i64 o.2.2]) hM104 (by kernel_rfl) (F_load 3 0 (.agg #[.int .i64 d1_.1, .int .i64 d1_.2.1, .int .i64 d1_.2.2]) hM104 (by kernel_rfl) (F_call (s_umbraref20_May o d1_) (fun r : Bool => .bool r) hM104 hL107 (fun w' hM' => w_umbraref20_May o d1_ w') (by kernel_rfl) (fun _ => by kernel_rfl) (fun r111 h112 => ?_)))
          have HR := hr_neg HR Bool.false_ne_true
          have HR := hr_lt HR h112
          cases r111
          · refine F_val (.bool true) (fun _ => by kernel_rfl) (F_val (.bool true) (fun _ => by kernel_rfl) (F_val (.bool true) (fun _ => by kernel_rfl) (F_call (s_umbralaw20_works ) (fun r : Bool => .bool r) hM104 hL107 (fun w' hM' => w_umbralaw20_works  w') (by kernel_rfl) (fun _ => by kernel_rfl) (fun r113 h114 => ?_))))
            have HR := hr_neg HR Bool.false_ne_true
            have HR := hr_lt HR h114
            cases r113
            · refine F_val (.bool false) (fun _ => by kernel_rfl) (F_val (.bool false) (fun _ => by kernel_rfl) (F_nil hM104 hL107 (fun w115 hM116 => S_nil (?_))))
              have HR := hr_neg HR Bool.false_ne_true
              refine R_ret hM116 rfl (.cons (.tmp _ (.bool false) (by kernel_rfl)) .nil) rfl ?_
              exact ⟨congrArg Ending.returned HR, hM116.below⟩
            · refine F_val (.bool true) (fun _ => by kernel_rfl) (F_val (.bool true) (fun _ => by kernel_rfl) (F_nil hM104 hL107 (fun w117 hM118 => S_nil (?_))))
              have HR := hr_pos HR rfl
              refine R_ret hM118 rfl (.cons (.tmp _ (.bool true) (by kernel_rfl)) .nil) rfl ?_
              exact ⟨congrArg Ending.returned HR, hM118.below⟩
          · refine F_val (.bool false) (fun _ => by kernel_rfl) (F_val (.bool false) (fun _ => by kernel_rfl) (F_val (.bool false) (fun _ => by kernel_rfl) (F_skip (by kernel_rfl) (F_val (.bool false) (fun _ => by kernel_rfl) (F_val (.bool false) (fun _ => by kernel_rfl) (F_nil hM104 hL107 (fun w119 hM120 => S_nil (?_))))))))
            have HR := hr_pos HR rfl
            refine R_ret hM120 rfl (.cons (.tmp _ (.bool false) (by kernel_rfl)) .nil) rfl ?_
            exact ⟨congrArg Ending.returned HR, hM120.below⟩
        · refine F_load 4 0 (.agg #[.int .i64 o.1, .int .i64 o.2.1, .int .i64 o.2.2]) hM104 (by kernel_rfl) (F_load 3 0 (.agg #[.int .i64 d1_.1, .int .i64 d1_.2.1, .int .i64 d1_.2.2]) hM104 (by kernel_rfl) (F_call (s_umbraref20_May o d1_) (fun r : Bool => .bool r) hM104 hL107 (fun w' hM' => w_umbraref20_May o d1_ w') (by kernel_rfl) (fun _ => by kernel_rfl) (fun r121 h122 => ?_)))
          have HR := hr_pos HR rfl
          have HR := hr_lt HR h122
          cases r121
          · refine F_val (.bool false) (fun _ => by kernel_rfl) (F_val (.bool false) (fun _ => by kernel_rfl) (F_val (.bool false) (fun _ => by kernel_rfl) (F_skip (by kernel_rfl) (F_val (.bool false) (fun _ => by kernel_rfl) (F_val (.bool false) (fun _ => by kernel_rfl) (F_nil hM104 hL107 (fun w123 hM124 => S_nil (?_))))))))
            have HR := hr_neg HR Bool.false_ne_true
            refine R_ret hM124 rfl (.cons (.tmp _ (.bool false) (by kernel_rfl)) .nil) rfl ?_
            exact ⟨congrArg Ending.returned HR, hM124.below⟩
          · refine F_val (.bool true) (fun _ => by kernel_rfl) (F_val (.bool true) (fun _ => by kernel_rfl) (F_val (.bool true) (fun _ => by kernel_rfl) (F_call (s_umbralaw20_works ) (fun r : Bool => .bool r) hM104 hL107 (fun w' hM' => w_umbralaw20_works  w') (by kernel_rfl) (fun _ => by kernel_rfl) (fun r125 h126 => ?_))))
            have HR := hr_pos HR rfl
            have HR := hr_lt HR h126
            cases r125
            · refine F_val (.bool false) (fun _ => by kernel_rfl) (F_val (.bool false) (fun _ => by kernel_rfl) (F_nil hM104 hL107 (fun w127 hM128 => S_nil (?_))))
              have HR := hr_neg HR Bool.false_ne_true
              refine R_ret hM128 rfl (.cons (.tmp _ (.bool false) (by kernel_rfl)) .nil) rfl ?_
              exact ⟨congrArg Ending.returned HR, hM128.below⟩
            · refine F_val (.bool true) (fun _ => by kernel_rfl) (F_val (.bool true) (fun _ => by kernel_rfl) (F_nil hM104 hL107 (fun w129 hM130 => S_nil (?_))))
              have HR := hr_pos HR rfl
              refine R_ret hM130 rfl (.cons (.tmp _ (.bool true) (by kernel_rfl)) .nil) rfl ?_
              exact ⟨congrArg Ending.returned HR, hM130.below⟩
      · refine F_val (.bool false) (fun _ => by kernel_rfl) (F_skip (by kernel_rfl) (F_skip (by kernel_rfl) (F_skip (by kernel_rfl) (F_val (.bool false) (fun _ => by kernel_rfl) (F_val (.bool false) (fun _ => by kernel_rfl) (F_skip (by kernel_rfl) (F_skip (by kernel_rfl) (F_skip (by kernel_rfl) (F_skip (by kernel_rfl) (F_skip (by kernel_rfl) (F_skip (by kernel_rfl) (?_))))))))))))
        have HR := hr_neg HR c108
        refine F_skip (by kernel_rfl) (F_val (.bool false) (fun _ => by kernel_rfl) (F_val (.bool false) (fun _ => by kernel_rfl) (F_skip (by kernel_rfl) (F_val (.bool false) (fun _ => by kernel_rfl) (F_val (.bool false) (fun _ => by kernel_rfl) (F_nil hM104 hL107 (fun w131 hM132 => S_nil (?_))))))))
        refine R_ret hM132 rfl (.cons (.tmp _ (.bool false) (by kernel_rfl)) .nil) rfl ?_
        exact ⟨congrArg Ending.returned HR, hM132.below⟩

def e_umbralaw20_TriMeets (r : Bool) : Value := .bool r
def s_umbralaw20_TriMeets (a : Int × Int × Int × Int) (b : Int × Int × Int × Int) (two : (Int × Int × Int) × (Int × Int × Int)) : Bool :=
  lt (mless a b) fun r13 =>
  if r13 = true then
    lt (mless a b) fun r32 =>
    if r32 = true then
      lt (placeV two.1 two.2 a) fun r36 =>
      lt (placeV two.1 two.2 a) fun r38 =>
      if (r36 : Int × Int × Int) = r38 then
        lt (s_umbralaw20_works ) fun r41 =>
        if r41 = true then
          true
        else
          false
      else
        false
    else
      false
  else
    lt (mless a b) fun r15 =>
    if r15 = true then
      false
    else
      lt (placeV two.1 two.2 a) fun r17 =>
      lt (placeV two.1 two.2 a) fun r19 =>
      if (r17 : Int × Int × Int) = r19 then
        lt (s_umbralaw20_works ) fun r22 =>
        if r22 = true then
          true
        else
          false
      else
        false
set_option maxRecDepth 100000 in
set_option maxHeartbeats 4000000 in
theorem w_umbralaw20_TriMeets (a : Int × Int × Int × Int) (b : Int × Int × Int × Int) (two : (Int × Int × Int) × (Int × Int × Int)) (h_a : InM a) (h_b : InM b) (h_two : (InV two.1 ∧ InV two.2)) (w : World) : Calls Try.prog 12 #[.agg #[.int .i64 a.1, .int .i64 a.2.1, .int .i64 a.2.2.1, .int .i64 a.2.2.2], .agg #[.int .i64 b.1, .int .i64 b.2.1, .int .i64 b.2.2.1, .int .i64 b.2.2.2], .agg #[.int .i64 two.1.1, .int .i64 two.1.2.1, .int .i64 two.1.2.2, .int .i64 two.2.1, .int .i64 two.2.2.1, .int .i64 two.2.2.2]] w (Ret (e_umbralaw20_TriMeets (s_umbralaw20_TriMeets a b two)) w) := by
  obtain ⟨R, HR⟩ : ∃ R, e_umbralaw20_TriMeets (s_umbralaw20_TriMeets a b two) = R := ⟨_, rfl⟩
  rw [HR]
  unfold s_umbralaw20_TriMeets at HR
  have hM0 := St.start w
  refine calls_run Try.func12 rfl ?_
  refine R_seq (R_region (S_fresh none #[.int .i64 a.1, .int .i64 a.2.1, .int .i64 a.2.2.1, .int .i64 a.2.2.2] 50 hM0 (by kernel_rfl) (fun g1 w2 hM3 => S_fresh none #[.int .i64 b.1, .int .i64 b.2.1, .int .i64 b.2.2.1, .int .i64 b.2.2.2] 50 hM3 (by kernel_rfl) (fun g4 w5 hM6 => S_fresh none #[.int .i64 two.1.1, .int .i64 two.1.2.1, .int .i64 two.1.2.2, .int .i64 two.2.1, .int .i64 two.2.2.1, .int .i64 two.2.2.2] 68 hM6 (by kernel_rfl) (fun g7 w8 hM9 => S_val (.bool false) (by kernel_rfl) (S_nil (R_seq (R_drawF 26 (by kernel_rfl) (fun F10 U11 hL12 => F_load 2 0 (.agg #[.int .i64 a.1, .int .i64 a.2.1, .int .i64 a.2.2.1, .int .i64 a.2.2.2]) hM9 (by kernel_rfl) (F_load 1 0 (.agg #[.int .i64 b.1, .int .i64 b.2.1, .int .i64 b.2.2.1, .int .i64 b.2.2.2]) hM9 (by kernel_rfl) (F_call (mless a b) (fun r : Bool => .bool r) hM9 hL12 (fun w' hM' => tLess a b h_a h_b w') (by kernel_rfl) (fun _ => by kernel_rfl) (fun r13 h14 => ?_))))))))))))
  have HR := hr_lt HR h14
  cases r13
  · refine F_load 2 0 (.agg #[.int .i64 a.1, .int .i64 a.2.1, .int .i64 a.2.2.1, .int .i64 a.2.2.2]) hM9 (by kernel_rfl) (F_load 1 0 (.agg #[.int .i64 b.1, .int .i64 b.2.1, .int .i64 b.2.2.1, .int .i64 b.2.2.2]) hM9 (by kernel_rfl) (F_call (mless a b) (fun r : Bool => .bool r) hM9 hL12 (fun w' hM' => r20Less a b h_a h_b w') (by kernel_rfl) (fun _ => by kernel_rfl) (fun r15 h16 => ?_)))
    have HR := hr_neg HR Bool.false_ne_true
    have HR := hr_lt HR h16
    cases r15
    · refine F_val (.bool true) (fun _ => by kernel_rfl) (F_val (.bool true) (fun _ => by kernel_rfl) (F_val (.pointer (some ⟨g7, 0, none⟩)) (fun _ => by kernel_rfl) (F_load 0 0 (.agg #[.int .i64 two.1.1, .int .i64 two.1.2.1, .int .i64 two.1.2.2]) hM9 (by kernel_rfl) (F_val (.pointer (some ⟨g7, 3, none⟩)) (fun _ => by kernel_rfl) (F_load 0 3 (.agg #[.int .i64 two.2.1, .int .i64 two.2.2.1, .int .i64 two.2.2.2]) hM9 (by kernel_rfl) (F_load 2 0 (.agg #[.int .i64 a.1, .int .i64 a.2.1, .int .i64 a.2.2.1, .int .i64 a.2.2.2]) hM9 (by kernel_rfl) (F_call (placeV two.1 two.2 a) (fun r : Int × Int × Int => .agg #[.int .i64 r.1, .int .i64 r.2.1, .int .i64 r.2.2]) hM9 hL12 (fun w' hM' => tPlace two.1 two.2 a h_two.1 h_two.2 h_a w') (by kernel_rfl) (fun _ => by kernel_rfl) (fun r17 h18 => F_val (.pointer (some ⟨g7, 0, none⟩)) (fun _ => by kernel_rfl) (F_load 0 0 (.agg #[.int .i64 two.1.1, .int .i64 two.1.2.1, .int .i64 two.1.2.2]) hM9 (by kernel_rfl) (F_val (.pointer (some ⟨g7, 3, none⟩)) (fun _ => by kernel_rfl) (F_load 0 3 (.agg #[.int .i64 two.2.1, .int .i64 two.2.2.1, .int .i64 two.2.2.2]) hM9 (by kernel_rfl) (?_))))))))))))
      have HR := hr_neg HR Bool.false_ne_true
      have HR := hr_lt HR h18
      refine F_load 2 0 (.agg #[.int .i64 a.1, .int .i64 a.2.1, .int .i64 a.2.2.1, .int .i64 a.2.2.2]) hM9 (by kernel_rfl) (F_call (placeV two.1 two.2 a) (fun r : Int × Int × Int => .agg #[.int .i64 r.1, .int .i64 r.2.1, .int .i64 r.2.2]) hM9 hL12 (fun w' hM' => r20Place two.1 two.2 a h_two.1 h_two.2 h_a w') (by kernel_rfl) (fun _ => by kernel_rfl) (fun r19 h20 => ?_))
      have HR := hr_lt HR h20
      refine F_dec ((r17 : Int × Int × Int) = r19) (fun _ => eqv_umbra_api_Point (x := r17) (y := r19) (by kernel_rfl) (by kernel_rfl) (by kernel_rfl)) (fun c21 => ?_) (fun c21 => ?_)
      · refine F_val (.bool true) (fun _ => by kernel_rfl) (F_val (.bool true) (fun _ => by kernel_rfl) (F_call (s_umbralaw20_works ) (fun r : Bool => .bool r) hM9 hL12 (fun w' hM' => w_umbralaw20_works  w') (by kernel_rfl) (fun _ => by kernel_rfl) (fun r22 h23 => ?_)))
        have HR := hr_pos HR c21
        have HR := hr_lt HR h23
        cases r22
        · refine F_val (.bool false) (fun _ => by kernel_rfl) (F_val (.bool false) (fun _ => by kernel_rfl) (F_nil hM9 hL12 (fun w24 hM25 => S_nil (?_))))
          have HR := hr_neg HR Bool.false_ne_true
          refine R_ret hM25 rfl (.cons (.tmp _ (.bool false) (by kernel_rfl)) .nil) rfl ?_
          exact ⟨congrArg Ending.returned HR, hM25.below⟩
        · refine F_val (.bool true) (fun _ => by kernel_rfl) (F_val (.bool true) (fun _ => by kernel_rfl) (F_nil hM9 hL12 (fun w26 hM27 => S_nil (?_))))
          have HR := hr_pos HR rfl
          refine R_ret hM27 rfl (.cons (.tmp _ (.bool true) (by kernel_rfl)) .nil) rfl ?_
          exact ⟨congrArg Ending.returned HR, hM27.below⟩
      · refine F_val (.bool false) (fun _ => by kernel_rfl) (F_val (.bool false) (fun _ => by kernel_rfl) (F_skip (by kernel_rfl) (F_val (.bool false) (fun _ => by kernel_rfl) (F_val (.bool false) (fun _ => by kernel_rfl) (F_nil hM9 hL12 (fun w28 hM29 => S_nil (?_)))))))
        have HR := hr_neg HR c21
        refine R_ret hM29 rfl (.cons (.tmp _ (.bool false) (by kernel_rfl)) .nil) rfl ?_
        exact ⟨congrArg Ending.returned HR, hM29.below⟩
    · refine F_val (.bool false) (fun _ => by kernel_rfl) (F_val (.bool false) (fun _ => by kernel_rfl) (F_skip (by kernel_rfl) (F_skip (by kernel_rfl) (F_skip (by kernel_rfl) (F_skip (by kernel_rfl) (F_skip (by kernel_rfl) (F_skip (by kernel_rfl) (F_skip (by kernel_rfl) (F_skip (by kernel_rfl) (F_skip (by kernel_rfl) (F_skip (by kernel_rfl) (?_))))))))))))
      have HR := hr_pos HR rfl
      refine F_skip (by kernel_rfl) (F_skip (by kernel_rfl) (F_skip (by kernel_rfl) (F_val (.bool false) (fun _ => by kernel_rfl) (F_val (.bool false) (fun _ => by kernel_rfl) (F_skip (by kernel_rfl) (F_val (.bool false) (fun _ => by kernel_rfl) (F_val (.bool false) (fun _ => by kernel_rfl) (F_nil hM9 hL12 (fun w30 hM31 => S_nil (?_))))))))))
      refine R_ret hM31 rfl (.cons (.tmp _ (.bool false) (by kernel_rfl)) .nil) rfl ?_
      exact ⟨congrArg Ending.returned HR, hM31.below⟩
  · refine F_load 2 0 (.agg #[.int .i64 a.1, .int .i64 a.2.1, .int .i64 a.2.2.1, .int .i64 a.2.2.2]) hM9 (by kernel_rfl) (F_load 1 0 (.agg #[.int .i64 b.1, .int .i64 b.2.1, .int .i64 b.2.2.1, .int .i64 b.2.2.2]) hM9 (by kernel_rfl) (F_call (mless a b) (fun r : Bool => .bool r) hM9 hL12 (fun w' hM' => r20Less a b h_a h_b w') (by kernel_rfl) (fun _ => by kernel_rfl) (fun r32 h33 => ?_)))
    have HR := hr_pos HR rfl
    have HR := hr_lt HR h33
    cases r32
    · refine F_val (.bool false) (fun _ => by kernel_rfl) (F_val (.bool false) (fun _ => by kernel_rfl) (F_skip (by kernel_rfl) (F_skip (by kernel_rfl) (F_skip (by kernel_rfl) (F_skip (by kernel_rfl) (F_skip (by kernel_rfl) (F_skip (by kernel_rfl) (F_skip (by kernel_rfl) (F_skip (by kernel_rfl) (F_skip (by kernel_rfl) (F_skip (by kernel_rfl) (?_))))))))))))
      have HR := hr_neg HR Bool.false_ne_true
      refine F_skip (by kernel_rfl) (F_skip (by kernel_rfl) (F_skip (by kernel_rfl) (F_val (.bool false) (fun _ => by kernel_rfl) (F_val (.bool false) (fun _ => by kernel_rfl) (F_skip (by kernel_rfl) (F_val (.bool false) (fun _ => by kernel_rfl) (F_val (.bool false) (fun _ => by kernel_rfl) (F_nil hM9 hL12 (fun w34 hM35 => S_nil (?_))))))))))
      refine R_ret hM35 rfl (.cons (.tmp _ (.bool false) (by kernel_rfl)) .nil) rfl ?_
      exact ⟨congrArg Ending.returned HR, hM35.below⟩
    · refine F_val (.bool true) (fun _ => by kernel_rfl) (F_val (.bool true) (fun _ => by kernel_rfl) (F_val (.pointer (some ⟨g7, 0, none⟩)) (fun _ => by kernel_rfl) (F_load 0 0 (.agg #[.int .i64 two.1.1, .int .i64 two.1.2.1, .int .i64 two.1.2.2]) hM9 (by kernel_rfl) (F_val (.pointer (some ⟨g7, 3, none⟩)) (fun _ => by kernel_rfl) (F_load 0 3 (.agg #[.int .i64 two.2.1, .int .i64 two.2.2.1, .int .i64 two.2.2.2]) hM9 (by kernel_rfl) (F_load 2 0 (.agg #[.int .i64 a.1, .int .i64 a.2.1, .int .i64 a.2.2.1, .int .i64 a.2.2.2]) hM9 (by kernel_rfl) (F_call (placeV two.1 two.2 a) (fun r : Int × Int × Int => .agg #[.int .i64 r.1, .int .i64 r.2.1, .int .i64 r.2.2]) hM9 hL12 (fun w' hM' => tPlace two.1 two.2 a h_two.1 h_two.2 h_a w') (by kernel_rfl) (fun _ => by kernel_rfl) (fun r36 h37 => F_val (.pointer (some ⟨g7, 0, none⟩)) (fun _ => by kernel_rfl) (F_load 0 0 (.agg #[.int .i64 two.1.1, .int .i64 two.1.2.1, .int .i64 two.1.2.2]) hM9 (by kernel_rfl) (F_val (.pointer (some ⟨g7, 3, none⟩)) (fun _ => by kernel_rfl) (F_load 0 3 (.agg #[.int .i64 two.2.1, .int .i64 two.2.2.1, .int .i64 two.2.2.2]) hM9 (by kernel_rfl) (?_))))))))))))
      have HR := hr_pos HR rfl
      have HR := hr_lt HR h37
      refine F_load 2 0 (.agg #[.int .i64 a.1, .int .i64 a.2.1, .int .i64 a.2.2.1, .int .i64 a.2.2.2]) hM9 (by kernel_rfl) (F_call (placeV two.1 two.2 a) (fun r : Int × Int × Int => .agg #[.int .i64 r.1, .int .i64 r.2.1, .int .i64 r.2.2]) hM9 hL12 (fun w' hM' => r20Place two.1 two.2 a h_two.1 h_two.2 h_a w') (by kernel_rfl) (fun _ => by kernel_rfl) (fun r38 h39 => ?_))
      have HR := hr_lt HR h39
      refine F_dec ((r36 : Int × Int × Int) = r38) (fun _ => eqv_umbra_api_Point (x := r36) (y := r38) (by kernel_rfl) (by kernel_rfl) (by kernel_rfl)) (fun c40 => ?_) (fun c40 => ?_)
      · refine F_val (.bool true) (fun _ => by kernel_rfl) (F_val (.bool true) (fun _ => by kernel_rfl) (F_call (s_umbralaw20_works ) (fun r : Bool => .bool r) hM9 hL12 (fun w' hM' => w_umbralaw20_works  w') (by kernel_rfl) (fun _ => by kernel_rfl) (fun r41 h42 => ?_)))
        have HR := hr_pos HR c40
        have HR := hr_lt HR h42
        cases r41
        · refine F_val (.bool false) (fun _ => by kernel_rfl) (F_val (.bool false) (fun _ => by kernel_rfl) (F_nil hM9 hL12 (fun w43 hM44 => S_nil (?_))))
          have HR := hr_neg HR Bool.false_ne_true
          refine R_ret hM44 rfl (.cons (.tmp _ (.bool false) (by kernel_rfl)) .nil) rfl ?_
          exact ⟨congrArg Ending.returned HR, hM44.below⟩
        · refine F_val (.bool true) (fun _ => by kernel_rfl) (F_val (.bool true) (fun _ => by kernel_rfl) (F_nil hM9 hL12 (fun w45 hM46 => S_nil (?_))))
          have HR := hr_pos HR rfl
          refine R_ret hM46 rfl (.cons (.tmp _ (.bool true) (by kernel_rfl)) .nil) rfl ?_
          exact ⟨congrArg Ending.returned HR, hM46.below⟩
      · refine F_val (.bool false) (fun _ => by kernel_rfl) (F_val (.bool false) (fun _ => by kernel_rfl) (F_skip (by kernel_rfl) (F_val (.bool false) (fun _ => by kernel_rfl) (F_val (.bool false) (fun _ => by kernel_rfl) (F_nil hM9 hL12 (fun w47 hM48 => S_nil (?_)))))))
        have HR := hr_neg HR c40
        refine R_ret hM48 rfl (.cons (.tmp _ (.bool false) (by kernel_rfl)) .nil) rfl ?_
        exact ⟨congrArg Ending.returned HR, hM48.below⟩

def e_umbralaw20_TriOrder (r : Bool) : Value := .bool r
def s_umbralaw20_TriOrder (a : Int × Int × Int × Int) (b : Int × Int × Int × Int) (c : Int × Int × Int × Int) : Bool :=
  lt (mless a b) fun r10 =>
  if r10 = true then
    lt (mless b a) fun r42 =>
    if r42 = true then
      false
    else
      lt (mless a a) fun r46 =>
      if r46 = true then
        false
      else
        lt (mless a b) fun r50 =>
        if r50 = true then
          lt (mless b c) fun r58 =>
          if r58 = true then
            lt (mless a c) fun r66 =>
            if r66 = true then
              lt (s_umbralaw20_works ) fun r70 =>
              if r70 = true then
                true
              else
                false
            else
              false
          else
            lt (s_umbralaw20_works ) fun r62 =>
            if r62 = true then
              true
            else
              false
        else
          lt (s_umbralaw20_works ) fun r54 =>
          if r54 = true then
            true
          else
            false
  else
    lt (mless a a) fun r14 =>
    if r14 = true then
      false
    else
      lt (mless a b) fun r18 =>
      if r18 = true then
        lt (mless b c) fun r26 =>
        if r26 = true then
          lt (mless a c) fun r34 =>
          if r34 = true then
            lt (s_umbralaw20_works ) fun r38 =>
            if r38 = true then
              true
            else
              false
          else
            false
        else
          lt (s_umbralaw20_works ) fun r30 =>
          if r30 = true then
            true
          else
            false
      else
        lt (s_umbralaw20_works ) fun r22 =>
        if r22 = true then
          true
        else
          false
set_option maxRecDepth 100000 in
set_option maxHeartbeats 4000000 in
theorem w_umbralaw20_TriOrder (a : Int × Int × Int × Int) (b : Int × Int × Int × Int) (c : Int × Int × Int × Int) (h_a : InM a) (h_b : InM b) (h_c : InM c) (w : World) : Calls Try.prog 14 #[.agg #[.int .i64 a.1, .int .i64 a.2.1, .int .i64 a.2.2.1, .int .i64 a.2.2.2], .agg #[.int .i64 b.1, .int .i64 b.2.1, .int .i64 b.2.2.1, .int .i64 b.2.2.2], .agg #[.int .i64 c.1, .int .i64 c.2.1, .int .i64 c.2.2.1, .int .i64 c.2.2.2]] w (Ret (e_umbralaw20_TriOrder (s_umbralaw20_TriOrder a b c)) w) := by
  obtain ⟨R, HR⟩ : ∃ R, e_umbralaw20_TriOrder (s_umbralaw20_TriOrder a b c) = R := ⟨_, rfl⟩
  rw [HR]
  unfold s_umbralaw20_TriOrder at HR
  have hM0 := St.start w
  refine calls_run Try.func14 rfl ?_
  refine R_seq (R_region (S_fresh none #[.int .i64 a.1, .int .i64 a.2.1, .int .i64 a.2.2.1, .int .i64 a.2.2.2] 50 hM0 (by kernel_rfl) (fun g1 w2 hM3 => S_fresh none #[.int .i64 b.1, .int .i64 b.2.1, .int .i64 b.2.2.1, .int .i64 b.2.2.2] 50 hM3 (by kernel_rfl) (fun g4 w5 hM6 => S_fresh none #[.int .i64 c.1, .int .i64 c.2.1, .int .i64 c.2.2.1, .int .i64 c.2.2.2] 50 hM6 (by kernel_rfl) (fun g7 w8 hM9 => S_val (.bool false) (by kernel_rfl) (S_nil (R_seq (R_seq (R_region (S_load 2 0 (.agg #[.int .i64 a.1, .int .i64 a.2.1, .int .i64 a.2.2.1, .int .i64 a.2.2.2]) hM9 (by kernel_rfl) (S_load 1 0 (.agg #[.int .i64 b.1, .int .i64 b.2.1, .int .i64 b.2.2.1, .int .i64 b.2.2.2]) hM9 (by kernel_rfl) (?_))))))))))))
  refine S_call (mless a b) (fun r : Bool => .bool r) hM9 (tLess a b h_a h_b w8) (by kernel_rfl) (fun r10 h11 w12 hM13 => ?_)
  have HR := hr_lt HR h11
  cases r10
  · refine S_val (.bool false) (by kernel_rfl) (S_skip (by kernel_rfl) (S_skip (by kernel_rfl) (S_skip (by kernel_rfl) (S_val (.bool false) (by kernel_rfl) (S_val (.bool false) (by kernel_rfl) (S_load 2 0 (.agg #[.int .i64 a.1, .int .i64 a.2.1, .int .i64 a.2.2.1, .int .i64 a.2.2.2]) hM13 (by kernel_rfl) (S_load 2 0 (.agg #[.int .i64 a.1, .int .i64 a.2.1, .int .i64 a.2.2.1, .int .i64 a.2.2.2]) hM13 (by kernel_rfl) (S_call (mless a a) (fun r : Bool => .bool r) hM13 (tLess a a h_a h_a w12) (by kernel_rfl) (fun r14 h15 w16 hM17 => ?_)))))))))
    have HR := hr_neg HR Bool.false_ne_true
    have HR := hr_lt HR h15
    cases r14
    · refine S_val (.bool false) (by kernel_rfl) (S_nil (R_no (by kernel_rfl) (R_skip (R_seq (R_region (S_load 2 0 (.agg #[.int .i64 a.1, .int .i64 a.2.1, .int .i64 a.2.2.1, .int .i64 a.2.2.2]) hM17 (by kernel_rfl) (S_load 1 0 (.agg #[.int .i64 b.1, .int .i64 b.2.1, .int .i64 b.2.2.1, .int .i64 b.2.2.2]) hM17 (by kernel_rfl) (S_call (mless a b) (fun r : Bool => .bool r) hM17 (tLess a b h_a h_b w16) (by kernel_rfl) (fun r18 h19 w20 hM21 => ?_)))))))))
      have HR := hr_neg HR Bool.false_ne_true
      have HR := hr_lt HR h19
      cases r18
      · refine S_val (.bool true) (by kernel_rfl) (S_val (.bool true) (by kernel_rfl) (S_skip (by kernel_rfl) (S_skip (by kernel_rfl) (S_skip (by kernel_rfl) (S_skip (by kernel_rfl) (S_val (.bool true) (by kernel_rfl) (S_val (.bool true) (by kernel_rfl) (S_skip (by kernel_rfl) (S_skip (by kernel_rfl) (S_skip (by kernel_rfl) (S_val (.bool true) (by kernel_rfl) (?_))))))))))))
        have HR := hr_neg HR Bool.false_ne_true
        refine S_val (.bool true) (by kernel_rfl) (S_call (s_umbralaw20_works ) (fun r : Bool => .bool r) hM21 (w_umbralaw20_works  w20) (by kernel_rfl) (fun r22 h23 w24 hM25 => ?_))
        have HR := hr_lt HR h23
        cases r22
        · refine S_val (.bool false) (by kernel_rfl) (S_val (.bool false) (by kernel_rfl) (S_nil (?_)))
          have HR := hr_neg HR Bool.false_ne_true
          refine R_ret hM25 rfl (.cons (.tmp _ (.bool false) (by kernel_rfl)) .nil) rfl ?_
          exact ⟨congrArg Ending.returned HR, hM25.below⟩
        · refine S_val (.bool true) (by kernel_rfl) (S_val (.bool true) (by kernel_rfl) (S_nil (?_)))
          have HR := hr_pos HR rfl
          refine R_ret hM25 rfl (.cons (.tmp _ (.bool true) (by kernel_rfl)) .nil) rfl ?_
          exact ⟨congrArg Ending.returned HR, hM25.below⟩
      · refine S_val (.bool false) (by kernel_rfl) (S_val (.bool false) (by kernel_rfl) (S_load 1 0 (.agg #[.int .i64 b.1, .int .i64 b.2.1, .int .i64 b.2.2.1, .int .i64 b.2.2.2]) hM21 (by kernel_rfl) (S_load 0 0 (.agg #[.int .i64 c.1, .int .i64 c.2.1, .int .i64 c.2.2.1, .int .i64 c.2.2.2]) hM21 (by kernel_rfl) (S_call (mless b c) (fun r : Bool => .bool r) hM21 (tLess b c h_b h_c w20) (by kernel_rfl) (fun r26 h27 w28 hM29 => ?_)))))
        have HR := hr_pos HR rfl
        have HR := hr_lt HR h27
        cases r26
        · refine S_val (.bool true) (by kernel_rfl) (S_val (.bool true) (by kernel_rfl) (S_val (.bool true) (by kernel_rfl) (S_skip (by kernel_rfl) (S_skip (by kernel_rfl) (S_skip (by kernel_rfl) (S_val (.bool true) (by kernel_rfl) (S_val (.bool true) (by kernel_rfl) (S_call (s_umbralaw20_works ) (fun r : Bool => .bool r) hM29 (w_umbralaw20_works  w28) (by kernel_rfl) (fun r30 h31 w32 hM33 => ?_)))))))))
          have HR := hr_neg HR Bool.false_ne_true
          have HR := hr_lt HR h31
          cases r30
          · refine S_val (.bool false) (by kernel_rfl) (S_val (.bool false) (by kernel_rfl) (S_nil (?_)))
            have HR := hr_neg HR Bool.false_ne_true
            refine R_ret hM33 rfl (.cons (.tmp _ (.bool false) (by kernel_rfl)) .nil) rfl ?_
            exact ⟨congrArg Ending.returned HR, hM33.below⟩
          · refine S_val (.bool true) (by kernel_rfl) (S_val (.bool true) (by kernel_rfl) (S_nil (?_)))
            have HR := hr_pos HR rfl
            refine R_ret hM33 rfl (.cons (.tmp _ (.bool true) (by kernel_rfl)) .nil) rfl ?_
            exact ⟨congrArg Ending.returned HR, hM33.below⟩
        · refine S_val (.bool false) (by kernel_rfl) (S_val (.bool false) (by kernel_rfl) (S_val (.bool false) (by kernel_rfl) (S_load 2 0 (.agg #[.int .i64 a.1, .int .i64 a.2.1, .int .i64 a.2.2.1, .int .i64 a.2.2.2]) hM29 (by kernel_rfl) (S_load 0 0 (.agg #[.int .i64 c.1, .int .i64 c.2.1, .int .i64 c.2.2.1, .int .i64 c.2.2.2]) hM29 (by kernel_rfl) (S_call (mless a c) (fun r : Bool => .bool r) hM29 (tLess a c h_a h_c w28) (by kernel_rfl) (fun r34 h35 w36 hM37 => ?_))))))
          have HR := hr_pos HR rfl
          have HR := hr_lt HR h35
          cases r34
          · refine S_val (.bool false) (by kernel_rfl) (S_val (.bool false) (by kernel_rfl) (S_skip (by kernel_rfl) (S_val (.bool false) (by kernel_rfl) (S_val (.bool false) (by kernel_rfl) (S_nil (?_))))))
            have HR := hr_neg HR Bool.false_ne_true
            refine R_ret hM37 rfl (.cons (.tmp _ (.bool false) (by kernel_rfl)) .nil) rfl ?_
            exact ⟨congrArg Ending.returned HR, hM37.below⟩
          · refine S_val (.bool true) (by kernel_rfl) (S_val (.bool true) (by kernel_rfl) (S_call (s_umbralaw20_works ) (fun r : Bool => .bool r) hM37 (w_umbralaw20_works  w36) (by kernel_rfl) (fun r38 h39 w40 hM41 => ?_)))
            have HR := hr_pos HR rfl
            have HR := hr_lt HR h39
            cases r38
            · refine S_val (.bool false) (by kernel_rfl) (S_val (.bool false) (by kernel_rfl) (S_nil (?_)))
              have HR := hr_neg HR Bool.false_ne_true
              refine R_ret hM41 rfl (.cons (.tmp _ (.bool false) (by kernel_rfl)) .nil) rfl ?_
              exact ⟨congrArg Ending.returned HR, hM41.below⟩
            · refine S_val (.bool true) (by kernel_rfl) (S_val (.bool true) (by kernel_rfl) (S_nil (?_)))
              have HR := hr_pos HR rfl
              refine R_ret hM41 rfl (.cons (.tmp _ (.bool true) (by kernel_rfl)) .nil) rfl ?_
              exact ⟨congrArg Ending.returned HR, hM41.below⟩
    · refine S_val (.bool true) (by kernel_rfl) (S_nil (R_yes (by kernel_rfl) (R_seq (R_region (S_val (.bool false) (by kernel_rfl) (S_nil (?_)))))))
      have HR := hr_pos HR rfl
      refine R_ret hM17 rfl (.cons (.tmp _ (.bool false) (by kernel_rfl)) .nil) rfl ?_
      exact ⟨congrArg Ending.returned HR, hM17.below⟩
  · refine S_val (.bool true) (by kernel_rfl) (S_load 1 0 (.agg #[.int .i64 b.1, .int .i64 b.2.1, .int .i64 b.2.2.1, .int .i64 b.2.2.2]) hM13 (by kernel_rfl) (S_load 2 0 (.agg #[.int .i64 a.1, .int .i64 a.2.1, .int .i64 a.2.2.1, .int .i64 a.2.2.2]) hM13 (by kernel_rfl) (S_call (mless b a) (fun r : Bool => .bool r) hM13 (tLess b a h_b h_a w12) (by kernel_rfl) (fun r42 h43 w44 hM45 => ?_))))
    have HR := hr_pos HR rfl
    have HR := hr_lt HR h43
    cases r42
    · refine S_val (.bool false) (by kernel_rfl) (S_val (.bool false) (by kernel_rfl) (S_load 2 0 (.agg #[.int .i64 a.1, .int .i64 a.2.1, .int .i64 a.2.2.1, .int .i64 a.2.2.2]) hM45 (by kernel_rfl) (S_load 2 0 (.agg #[.int .i64 a.1, .int .i64 a.2.1, .int .i64 a.2.2.1, .int .i64 a.2.2.2]) hM45 (by kernel_rfl) (S_call (mless a a) (fun r : Bool => .bool r) hM45 (tLess a a h_a h_a w44) (by kernel_rfl) (fun r46 h47 w48 hM49 => ?_)))))
      have HR := hr_neg HR Bool.false_ne_true
      have HR := hr_lt HR h47
      cases r46
      · refine S_val (.bool false) (by kernel_rfl) (S_nil (R_no (by kernel_rfl) (R_skip (R_seq (R_region (S_load 2 0 (.agg #[.int .i64 a.1, .int .i64 a.2.1, .int .i64 a.2.2.1, .int .i64 a.2.2.2]) hM49 (by kernel_rfl) (S_load 1 0 (.agg #[.int .i64 b.1, .int .i64 b.2.1, .int .i64 b.2.2.1, .int .i64 b.2.2.2]) hM49 (by kernel_rfl) (S_call (mless a b) (fun r : Bool => .bool r) hM49 (tLess a b h_a h_b w48) (by kernel_rfl) (fun r50 h51 w52 hM53 => ?_)))))))))
        have HR := hr_neg HR Bool.false_ne_true
        have HR := hr_lt HR h51
        cases r50
        · refine S_val (.bool true) (by kernel_rfl) (S_val (.bool true) (by kernel_rfl) (S_skip (by kernel_rfl) (S_skip (by kernel_rfl) (S_skip (by kernel_rfl) (S_skip (by kernel_rfl) (S_val (.bool true) (by kernel_rfl) (S_val (.bool true) (by kernel_rfl) (S_skip (by kernel_rfl) (S_skip (by kernel_rfl) (S_skip (by kernel_rfl) (S_val (.bool true) (by kernel_rfl) (?_))))))))))))
          have HR := hr_neg HR Bool.false_ne_true
          refine S_val (.bool true) (by kernel_rfl) (S_call (s_umbralaw20_works ) (fun r : Bool => .bool r) hM53 (w_umbralaw20_works  w52) (by kernel_rfl) (fun r54 h55 w56 hM57 => ?_))
          have HR := hr_lt HR h55
          cases r54
          · refine S_val (.bool false) (by kernel_rfl) (S_val (.bool false) (by kernel_rfl) (S_nil (?_)))
            have HR := hr_neg HR Bool.false_ne_true
            refine R_ret hM57 rfl (.cons (.tmp _ (.bool false) (by kernel_rfl)) .nil) rfl ?_
            exact ⟨congrArg Ending.returned HR, hM57.below⟩
          · refine S_val (.bool true) (by kernel_rfl) (S_val (.bool true) (by kernel_rfl) (S_nil (?_)))
            have HR := hr_pos HR rfl
            refine R_ret hM57 rfl (.cons (.tmp _ (.bool true) (by kernel_rfl)) .nil) rfl ?_
            exact ⟨congrArg Ending.returned HR, hM57.below⟩
        · refine S_val (.bool false) (by kernel_rfl) (S_val (.bool false) (by kernel_rfl) (S_load 1 0 (.agg #[.int .i64 b.1, .int .i64 b.2.1, .int .i64 b.2.2.1, .int .i64 b.2.2.2]) hM53 (by kernel_rfl) (S_load 0 0 (.agg #[.int .i64 c.1, .int .i64 c.2.1, .int .i64 c.2.2.1, .int .i64 c.2.2.2]) hM53 (by kernel_rfl) (S_call (mless b c) (fun r : Bool => .bool r) hM53 (tLess b c h_b h_c w52) (by kernel_rfl) (fun r58 h59 w60 hM61 => ?_)))))
          have HR := hr_pos HR rfl
          have HR := hr_lt HR h59
          cases r58
          · refine S_val (.bool true) (by kernel_rfl) (S_val (.bool true) (by kernel_rfl) (S_val (.bool true) (by kernel_rfl) (S_skip (by kernel_rfl) (S_skip (by kernel_rfl) (S_skip (by kernel_rfl) (S_val (.bool true) (by kernel_rfl) (S_val (.bool true) (by kernel_rfl) (S_call (s_umbralaw20_works ) (fun r : Bool => .bool r) hM61 (w_umbralaw20_works  w60) (by kernel_rfl) (fun r62 h63 w64 hM65 => ?_)))))))))
            have HR := hr_neg HR Bool.false_ne_true
            have HR := hr_lt HR h63
            cases r62
            · refine S_val (.bool false) (by kernel_rfl) (S_val (.bool false) (by kernel_rfl) (S_nil (?_)))
              have HR := hr_neg HR Bool.false_ne_true
              refine R_ret hM65 rfl (.cons (.tmp _ (.bool false) (by kernel_rfl)) .nil) rfl ?_
              exact ⟨congrArg Ending.returned HR, hM65.below⟩
            · refine S_val (.bool true) (by kernel_rfl) (S_val (.bool true) (by kernel_rfl) (S_nil (?_)))
              have HR := hr_pos HR rfl
              refine R_ret hM65 rfl (.cons (.tmp _ (.bool true) (by kernel_rfl)) .nil) rfl ?_
              exact ⟨congrArg Ending.returned HR, hM65.below⟩
          · refine S_val (.bool false) (by kernel_rfl) (S_val (.bool false) (by kernel_rfl) (S_val (.bool false) (by kernel_rfl) (S_load 2 0 (.agg #[.int .i64 a.1, .int .i64 a.2.1, .int .i64 a.2.2.1, .int .i64 a.2.2.2]) hM61 (by kernel_rfl) (S_load 0 0 (.agg #[.int .i64 c.1, .int .i64 c.2.1, .int .i64 c.2.2.1, .int .i64 c.2.2.2]) hM61 (by kernel_rfl) (S_call (mless a c) (fun r : Bool => .bool r) hM61 (tLess a c h_a h_c w60) (by kernel_rfl) (fun r66 h67 w68 hM69 => ?_))))))
            have HR := hr_pos HR rfl
            have HR := hr_lt HR h67
            cases r66
            · refine S_val (.bool false) (by kernel_rfl) (S_val (.bool false) (by kernel_rfl) (S_skip (by kernel_rfl) (S_val (.bool false) (by kernel_rfl) (S_val (.bool false) (by kernel_rfl) (S_nil (?_))))))
              have HR := hr_neg HR Bool.false_ne_true
              refine R_ret hM69 rfl (.cons (.tmp _ (.bool false) (by kernel_rfl)) .nil) rfl ?_
              exact ⟨congrArg Ending.returned HR, hM69.below⟩
            · refine S_val (.bool true) (by kernel_rfl) (S_val (.bool true) (by kernel_rfl) (S_call (s_umbralaw20_works ) (fun r : Bool => .bool r) hM69 (w_umbralaw20_works  w68) (by kernel_rfl) (fun r70 h71 w72 hM73 => ?_)))
              have HR := hr_pos HR rfl
              have HR := hr_lt HR h71
              cases r70
              · refine S_val (.bool false) (by kernel_rfl) (S_val (.bool false) (by kernel_rfl) (S_nil (?_)))
                have HR := hr_neg HR Bool.false_ne_true
                refine R_ret hM73 rfl (.cons (.tmp _ (.bool false) (by kernel_rfl)) .nil) rfl ?_
                exact ⟨congrArg Ending.returned HR, hM73.below⟩
              · refine S_val (.bool true) (by kernel_rfl) (S_val (.bool true) (by kernel_rfl) (S_nil (?_)))
                have HR := hr_pos HR rfl
                refine R_ret hM73 rfl (.cons (.tmp _ (.bool true) (by kernel_rfl)) .nil) rfl ?_
                exact ⟨congrArg Ending.returned HR, hM73.below⟩
      · refine S_val (.bool true) (by kernel_rfl) (S_nil (R_yes (by kernel_rfl) (R_seq (R_region (S_val (.bool false) (by kernel_rfl) (S_nil (?_)))))))
        have HR := hr_pos HR rfl
        refine R_ret hM49 rfl (.cons (.tmp _ (.bool false) (by kernel_rfl)) .nil) rfl ?_
        exact ⟨congrArg Ending.returned HR, hM49.below⟩
    · refine S_val (.bool true) (by kernel_rfl) (S_val (.bool true) (by kernel_rfl) (S_skip (by kernel_rfl) (S_skip (by kernel_rfl) (S_skip (by kernel_rfl) (S_val (.bool true) (by kernel_rfl) (S_nil (R_yes (by kernel_rfl) (R_seq (R_region (S_val (.bool false) (by kernel_rfl) (S_nil (?_))))))))))))
      have HR := hr_pos HR rfl
      refine R_ret hM45 rfl (.cons (.tmp _ (.bool false) (by kernel_rfl)) .nil) rfl ?_
      exact ⟨congrArg Ending.returned HR, hM45.below⟩

def e_umbralaw20_TriTurned (r : Bool) : Value := .bool r
def s_umbralaw20_TriTurned (o : Int × Int × Int) (d1_ : Int × Int × Int) (p : (Int × Int × Int) × (Int × Int × Int) × (Int × Int × Int)) : Bool :=
  lt (hitT o d1_ p) fun r10 =>
  if r10.2 = true then
    lt (hitT o d1_ (p.2.1, p.2.2, p.1)) fun r132 =>
    if r132.2 = true then
      lt (mless r10.1 r132.1) fun r149 =>
      if r149 = true then
        false
      else
        lt (mless r132.1 r10.1) fun r153 =>
        if r153 = true then
          false
        else
          lt (hitT o d1_ (p.2.2, p.1, p.2.1)) fun r162 =>
          if r162.2 = true then
            lt (mless r10.1 r162.1) fun r179 =>
            if r179 = true then
              false
            else
              lt (mless r162.1 r10.1) fun r183 =>
              if r183 = true then
                false
              else
                lt (hitT o d1_ (p.1, p.2.2, p.2.1)) fun r192 =>
                if r192.2 = true then
                  lt (mless r10.1 r192.1) fun r209 =>
                  if r209 = true then
                    false
                  else
                    lt (mless r192.1 r10.1) fun r213 =>
                    if r213 = true then
                      false
                    else
                      lt (s_umbralaw20_works ) fun r217 =>
                      if r217 = true then
                        true
                      else
                        false
                else
                  false
          else
            false
    else
      false
  else
    lt (hitT o d1_ (p.2.1, p.2.2, p.1)) fun r30 =>
    if r30.2 = true then
      false
    else
      lt (mless r10.1 r30.1) fun r42 =>
      if r42 = true then
        false
      else
        lt (mless r30.1 r10.1) fun r46 =>
        if r46 = true then
          false
        else
          lt (hitT o d1_ (p.2.2, p.1, p.2.1)) fun r55 =>
          if r55.2 = true then
            false
          else
            lt (mless r10.1 r55.1) fun r67 =>
            if r67 = true then
              false
            else
              lt (mless r55.1 r10.1) fun r71 =>
              if r71 = true then
                false
              else
                lt (hitT o d1_ (p.1, p.2.2, p.2.1)) fun r80 =>
                if r80.2 = true then
                  false
                else
                  lt (mless r10.1 r80.1) fun r92 =>
                  if r92 = true then
                    false
                  else
                    lt (mless r80.1 r10.1) fun r96 =>
                    if r96 = true then
                      false
                    else
                      lt (s_umbralaw20_works ) fun r100 =>
                      if r100 = true then
                        true
                      else
                        false
set_option maxRecDepth 100000 in
set_option maxHeartbeats 4000000 in
theorem w_umbralaw20_TriTurned (o : Int × Int × Int) (d1_ : Int × Int × Int) (p : (Int × Int × Int) × (Int × Int × Int) × (Int × Int × Int)) (h_o : InV o) (h_d1_ : InV d1_) (h_p : (InV p.1 ∧ InV p.2.1 ∧ InV p.2.2)) (w : World) : Calls Try.prog 13 #[.agg #[.int .i64 o.1, .int .i64 o.2.1, .int .i64 o.2.2], .agg #[.int .i64 d1_.1, .int .i64 d1_.2.1, .int .i64 d1_.2.2], .agg #[.int .i64 p.1.1, .int .i64 p.1.2.1, .int .i64 p.1.2.2, .int .i64 p.2.1.1, .int .i64 p.2.1.2.1, .int .i64 p.2.1.2.2, .int .i64 p.2.2.1, .int .i64 p.2.2.2.1, .int .i64 p.2.2.2.2]] w (Ret (e_umbralaw20_TriTurned (s_umbralaw20_TriTurned o d1_ p)) w) := by
  obtain ⟨R, HR⟩ : ∃ R, e_umbralaw20_TriTurned (s_umbralaw20_TriTurned o d1_ p) = R := ⟨_, rfl⟩
  rw [HR]
  unfold s_umbralaw20_TriTurned at HR
  have hM0 := St.start w
  refine calls_run Try.func13 rfl ?_
  refine R_seq (R_region (S_fresh none #[.int .i64 o.1, .int .i64 o.2.1, .int .i64 o.2.2] 23 hM0 (by kernel_rfl) (fun g1 w2 hM3 => S_fresh none #[.int .i64 d1_.1, .int .i64 d1_.2.1, .int .i64 d1_.2.2] 23 hM3 (by kernel_rfl) (fun g4 w5 hM6 => S_fresh none #[.int .i64 p.1.1, .int .i64 p.1.2.1, .int .i64 p.1.2.2, .int .i64 p.2.1.1, .int .i64 p.2.1.2.1, .int .i64 p.2.1.2.2, .int .i64 p.2.2.1, .int .i64 p.2.2.2.1, .int .i64 p.2.2.2.2] 48 hM6 (by kernel_rfl) (fun g7 w8 hM9 => S_val (.bool false) (by kernel_rfl) (S_nil (R_seq (R_region (S_load 2 0 (.agg #[.int .i64 o.1, .int .i64 o.2.1, .int .i64 o.2.2]) hM9 (by kernel_rfl) (S_load 1 0 (.agg #[.int .i64 d1_.1, .int .i64 d1_.2.1, .int .i64 d1_.2.2]) hM9 (by kernel_rfl) (S_load 0 0 (.agg #[.int .i64 p.1.1, .int .i64 p.1.2.1, .int .i64 p.1.2.2, .int .i64 p.2.1.1, .int .i64 p.2.1.2.1, .int .i64 p.2.1.2.2, .int .i64 p.2.2.1, .int .i64 p.2.2.2.1, .int .i64 p.2.2.2.2]) hM9 (by kernel_rfl) (?_))))))))))))
  refine S_call (hitT o d1_ p) (fun r : (Int × Int × Int × Int) × Bool => .tuple #[.agg #[.int .i64 r.1.1, .int .i64 r.1.2.1, .int .i64 r.1.2.2.1, .int .i64 r.1.2.2.2], .bool r.2]) hM9 (tHit o d1_ p w8) (by kernel_rfl) (fun r10 h11 w12 hM13 => ?_)
  have HR := hr_lt HR h11
  obtain ⟨r14, b16⟩ := r10
  cases b16
  · refine S_val (.tuple #[.agg #[.int .i64 r14.1, .int .i64 r14.2.1, .int .i64 r14.2.2.1, .int .i64 r14.2.2.2], .bool false]) (by kernel_rfl) (S_val (.agg #[.int .i64 r14.1, .int .i64 r14.2.1, .int .i64 r14.2.2.1, .int .i64 r14.2.2.2]) (by kernel_rfl) (S_val (.bool false) (by kernel_rfl) (S_fresh none #[.int .i64 0, .int .i64 0, .int .i64 0, .int .i64 0] 50 hM13 (by kernel_rfl) (fun g17 w18 hM19 => S_store 0 0 #[.int .i64 r14.1, .int .i64 r14.2.1, .int .i64 r14.2.2.1, .int .i64 r14.2.2.2] hM19 (by kernel_rfl) (fun w20 hM21 => S_val (.bool false) (by kernel_rfl) (S_nil (R_seq (R_seq (R_region (S_val (.pointer (some ⟨g7, 3, none⟩)) (by kernel_rfl) (S_load 1 3 (.agg #[.int .i64 p.2.1.1, .int .i64 p.2.1.2.1, .int .i64 p.2.1.2.2]) hM21 (by kernel_rfl) (?_))))))))))))
    have HR := hr_neg HR Bool.false_ne_true
    refine S_val (.pointer (some ⟨g7, 6, none⟩)) (by kernel_rfl) (S_load 1 6 (.agg #[.int .i64 p.2.2.1, .int .i64 p.2.2.2.1, .int .i64 p.2.2.2.2]) hM21 (by kernel_rfl) (S_val (.pointer (some ⟨g7, 0, none⟩)) (by kernel_rfl) (S_load 1 0 (.agg #[.int .i64 p.1.1, .int .i64 p.1.2.1, .int .i64 p.1.2.2]) hM21 (by kernel_rfl) (S_val (.agg #[.int .i64 p.2.1.1, .int .i64 p.2.1.2.1, .int .i64 p.2.1.2.2, .int .i64 p.2.2.1, .int .i64 p.2.2.2.1, .int .i64 p.2.2.2.2, .int .i64 p.1.1, .int .i64 p.1.2.1, .int .i64 p.1.2.2]) (by kernel_rfl) (S_val (.pointer (some ⟨g7, 6, none⟩)) (by kernel_rfl) (S_load 1 6 (.agg #[.int .i64 p.2.2.1, .int .i64 p.2.2.2.1, .int .i64 p.2.2.2.2]) hM21 (by kernel_rfl) (S_val (.pointer (some ⟨g7, 0, none⟩)) (by kernel_rfl) (S_load 1 0 (.agg #[.int .i64 p.1.1, .int .i64 p.1.2.1, .int .i64 p.1.2.2]) hM21 (by kernel_rfl) (S_val (.pointer (some ⟨g7, 3, none⟩)) (by kernel_rfl) (S_load 1 3 (.agg #[.int .i64 p.2.1.1, .int .i64 p.2.1.2.1, .int .i64 p.2.1.2.2]) hM21 (by kernel_rfl) (S_val (.agg #[.int .i64 p.2.2.1, .int .i64 p.2.2.2.1, .int .i64 p.2.2.2.2, .int .i64 p.1.1, .int .i64 p.1.2.1, .int .i64 p.1.2.2, .int .i64 p.2.1.1, .int .i64 p.2.1.2.1, .int .i64 p.2.1.2.2]) (by kernel_rfl) (?_))))))))))))
    refine S_val (.pointer (some ⟨g7, 0, none⟩)) (by kernel_rfl) (S_load 1 0 (.agg #[.int .i64 p.1.1, .int .i64 p.1.2.1, .int .i64 p.1.2.2]) hM21 (by kernel_rfl) (S_val (.pointer (some ⟨g7, 6, none⟩)) (by kernel_rfl) (S_load 1 6 (.agg #[.int .i64 p.2.2.1, .int .i64 p.2.2.2.1, .int .i64 p.2.2.2.2]) hM21 (by kernel_rfl) (S_val (.pointer (some ⟨g7, 3, none⟩)) (by kernel_rfl) (S_load 1 3 (.agg #[.int .i64 p.2.1.1, .int .i64 p.2.1.2.1, .int .i64 p.2.1.2.2]) hM21 (by kernel_rfl) (S_val (.agg #[.int .i64 p.1.1, .int .i64 p.1.2.1, .int .i64 p.1.2.2, .int .i64 p.2.2.1, .int .i64 p.2.2.2.1, .int .i64 p.2.2.2.2, .int .i64 p.2.1.1, .int .i64 p.2.1.2.1, .int .i64 p.2.1.2.2]) (by kernel_rfl) (S_fresh (some 3) #[.int .i64 p.2.1.1, .int .i64 p.2.1.2.1, .int .i64 p.2.1.2.2, .int .i64 p.2.2.1, .int .i64 p.2.2.2.1, .int .i64 p.2.2.2.2, .int .i64 p.1.1, .int .i64 p.1.2.1, .int .i64 p.1.2.2, .int .i64 p.2.2.1, .int .i64 p.2.2.2.1, .int .i64 p.2.2.2.2, .int .i64 p.1.1, .int .i64 p.1.2.1, .int .i64 p.1.2.2, .int .i64 p.2.1.1, .int .i64 p.2.1.2.1, .int .i64 p.2.1.2.2, .int .i64 p.1.1, .int .i64 p.1.2.1, .int .i64 p.1.2.2, .int .i64 p.2.2.1, .int .i64 p.2.2.2.1, .int .i64 p.2.2.2.2, .int .i64 p.2.1.1, .int .i64 p.2.1.2.1, .int .i64 p.2.1.2.2] 48 hM21 (by kernel_rfl) (fun g22 w23 hM24 => S_val (.int .i64 3) (by kernel_rfl) (S_val (.int .i64 0) (by kernel_rfl) (S_nil (R_block (?_))))))))))))
    refine R_loop (R_seq (R_region (S_val (.bool true) (by kernel_rfl) (S_nil (R_seq (R_yes (by kernel_rfl) (R_skip (R_seq (R_block (R_seq (R_region (?_))))))))))))
    refine S_val (.pointer (some ⟨g22, 0, none⟩)) (by kernel_rfl) (S_load 0 0 (.agg #[.int .i64 p.2.1.1, .int .i64 p.2.1.2.1, .int .i64 p.2.1.2.2, .int .i64 p.2.2.1, .int .i64 p.2.2.2.1, .int .i64 p.2.2.2.2, .int .i64 p.1.1, .int .i64 p.1.2.1, .int .i64 p.1.2.2]) hM24 (by kernel_rfl) (S_fresh none #[.int .i64 0, .int .i64 0, .int .i64 0, .int .i64 0, .int .i64 0, .int .i64 0, .int .i64 0, .int .i64 0, .int .i64 0] 48 hM24 (by kernel_rfl) (fun g25 w26 hM27 => S_store 0 0 #[.int .i64 p.2.1.1, .int .i64 p.2.1.2.1, .int .i64 p.2.1.2.2, .int .i64 p.2.2.1, .int .i64 p.2.2.2.1, .int .i64 p.2.2.2.2, .int .i64 p.1.1, .int .i64 p.1.2.1, .int .i64 p.1.2.2] hM27 (by kernel_rfl) (fun w28 hM29 => S_nil (R_seq (R_region (S_load 5 0 (.agg #[.int .i64 o.1, .int .i64 o.2.1, .int .i64 o.2.2]) hM29 (by kernel_rfl) (S_load 4 0 (.agg #[.int .i64 d1_.1, .int .i64 d1_.2.1, .int .i64 d1_.2.2]) hM29 (by kernel_rfl) (S_load 0 0 (.agg #[.int .i64 p.2.1.1, .int .i64 p.2.1.2.1, .int .i64 p.2.1.2.2, .int .i64 p.2.2.1, .int .i64 p.2.2.2.1, .int .i64 p.2.2.2.2, .int .i64 p.1.1, .int .i64 p.1.2.1, .int .i64 p.1.2.2]) hM29 (by kernel_rfl) (S_call (hitT o d1_ (p.2.1, p.2.2, p.1)) (fun r : (Int × Int × Int × Int) × Bool => .tuple #[.agg #[.int .i64 r.1.1, .int .i64 r.1.2.1, .int .i64 r.1.2.2.1, .int .i64 r.1.2.2.2], .bool r.2]) hM29 (tHit o d1_ (p.2.1, p.2.2, p.1) w28) (by kernel_rfl) (fun r30 h31 w32 hM33 => ?_)))))))))))
    have HR := hr_lt HR h31
    obtain ⟨r34, b36⟩ := r30
    cases b36
    · refine S_val (.tuple #[.agg #[.int .i64 r34.1, .int .i64 r34.2.1, .int .i64 r34.2.2.1, .int .i64 r34.2.2.2], .bool false]) (by kernel_rfl) (S_val (.agg #[.int .i64 r34.1, .int .i64 r34.2.1, .int .i64 r34.2.2.1, .int .i64 r34.2.2.2]) (by kernel_rfl) (S_val (.bool false) (by kernel_rfl) (S_fresh none #[.int .i64 0, .int .i64 0, .int .i64 0, .int .i64 0] 50 hM33 (by kernel_rfl) (fun g37 w38 hM39 => S_store 0 0 #[.int .i64 r34.1, .int .i64 r34.2.1, .int .i64 r34.2.2.1, .int .i64 r34.2.2.2] hM39 (by kernel_rfl) (fun w40 hM41 => S_val (.bool false) (by kernel_rfl) (S_nil (R_seq (R_region (S_val (.bool false) (by kernel_rfl) (S_val (.bool false) (by kernel_rfl) (S_val (.bool false) (by kernel_rfl) (?_))))))))))))
      have HR := hr_neg HR Bool.false_ne_true
      refine S_val (.bool false) (by kernel_rfl) (S_load 3 0 (.agg #[.int .i64 r14.1, .int .i64 r14.2.1, .int .i64 r14.2.2.1, .int .i64 r14.2.2.2]) hM41 (by kernel_rfl) (S_load 0 0 (.agg #[.int .i64 r34.1, .int .i64 r34.2.1, .int .i64 r34.2.2.1, .int .i64 r34.2.2.2]) hM41 (by kernel_rfl) (S_call (mless r14 r34) (fun r : Bool => .bool r) hM41 (tLess r14 r34 ((tr (P := fun r : (Int × Int × Int × Int) × Bool => (InM r.1 ∧ True)) h11 (hitT_I o d1_ p)).out.1) ((tr (P := fun r : (Int × Int × Int × Int) × Bool => (InM r.1 ∧ True)) h31 (hitT_I o d1_ (p.2.1, p.2.2, p.1))).out.1) w40) (by kernel_rfl) (fun r42 h43 w44 hM45 => ?_))))
      have HR := hr_lt HR h43
      cases r42
      · refine S_val (.bool false) (by kernel_rfl) (S_val (.bool false) (by kernel_rfl) (S_load 0 0 (.agg #[.int .i64 r34.1, .int .i64 r34.2.1, .int .i64 r34.2.2.1, .int .i64 r34.2.2.2]) hM45 (by kernel_rfl) (S_load 3 0 (.agg #[.int .i64 r14.1, .int .i64 r14.2.1, .int .i64 r14.2.2.1, .int .i64 r14.2.2.2]) hM45 (by kernel_rfl) (S_call (mless r34 r14) (fun r : Bool => .bool r) hM45 (tLess r34 r14 ((tr (P := fun r : (Int × Int × Int × Int) × Bool => (InM r.1 ∧ True)) h31 (hitT_I o d1_ (p.2.1, p.2.2, p.1))).out.1) ((tr (P := fun r : (Int × Int × Int × Int) × Bool => (InM r.1 ∧ True)) h11 (hitT_I o d1_ p)).out.1) w44) (by kernel_rfl) (fun r46 h47 w48 hM49 => ?_)))))
        have HR := hr_neg HR Bool.false_ne_true
        have HR := hr_lt HR h47
        cases r46
        · refine S_val (.bool false) (by kernel_rfl) (S_nil (R_no (by kernel_rfl) (R_skip (R_inBlock (R_region (S_val (.int .i64 1) (by kernel_rfl) (S_val (.int .i64 1) (by kernel_rfl) (S_nil (R_inLoop (R_seq (R_region (?_))))))))))))
          have HR := hr_neg HR Bool.false_ne_true
          refine S_val (.bool true) (by kernel_rfl) (S_nil (R_seq (R_yes (by kernel_rfl) (R_skip (R_seq (R_block (R_seq (R_region (S_val (.pointer (some ⟨g22, 9, none⟩)) (by kernel_rfl) (S_load 2 9 (.agg #[.int .i64 p.2.2.1, .int .i64 p.2.2.2.1, .int .i64 p.2.2.2.2, .int .i64 p.1.1, .int .i64 p.1.2.1, .int .i64 p.1.2.2, .int .i64 p.2.1.1, .int .i64 p.2.1.2.1, .int .i64 p.2.1.2.2]) hM49 (by kernel_rfl) (S_fresh none #[.int .i64 0, .int .i64 0, .int .i64 0, .int .i64 0, .int .i64 0, .int .i64 0, .int .i64 0, .int .i64 0, .int .i64 0] 48 hM49 (by kernel_rfl) (fun g50 w51 hM52 => ?_))))))))))))
          refine S_store 0 0 #[.int .i64 p.2.2.1, .int .i64 p.2.2.2.1, .int .i64 p.2.2.2.2, .int .i64 p.1.1, .int .i64 p.1.2.1, .int .i64 p.1.2.2, .int .i64 p.2.1.1, .int .i64 p.2.1.2.1, .int .i64 p.2.1.2.2] hM52 (by kernel_rfl) (fun w53 hM54 => S_nil (R_seq (R_region (S_load 7 0 (.agg #[.int .i64 o.1, .int .i64 o.2.1, .int .i64 o.2.2]) hM54 (by kernel_rfl) (S_load 6 0 (.agg #[.int .i64 d1_.1, .int .i64 d1_.2.1, .int .i64 d1_.2.2]) hM54 (by kernel_rfl) (S_load 0 0 (.agg #[.int .i64 p.2.2.1, .int .i64 p.2.2.2.1, .int .i64 p.2.2.2.2, .int .i64 p.1.1, .int .i64 p.1.2.1, .int .i64 p.1.2.2, .int .i64 p.2.1.1, .int .i64 p.2.1.2.1, .int .i64 p.2.1.2.2]) hM54 (by kernel_rfl) (S_call (hitT o d1_ (p.2.2, p.1, p.2.1)) (fun r : (Int × Int × Int × Int) × Bool => .tuple #[.agg #[.int .i64 r.1.1, .int .i64 r.1.2.1, .int .i64 r.1.2.2.1, .int .i64 r.1.2.2.2], .bool r.2]) hM54 (tHit o d1_ (p.2.2, p.1, p.2.1) w53) (by kernel_rfl) (fun r55 h56 w57 hM58 => ?_))))))))
          have HR := hr_lt HR h56
          obtain ⟨r59, b61⟩ := r55
          cases b61
          · refine S_val (.tuple #[.agg #[.int .i64 r59.1, .int .i64 r59.2.1, .int .i64 r59.2.2.1, .int .i64 r59.2.2.2], .bool false]) (by kernel_rfl) (S_val (.agg #[.int .i64 r59.1, .int .i64 r59.2.1, .int .i64 r59.2.2.1, .int .i64 r59.2.2.2]) (by kernel_rfl) (S_val (.bool false) (by kernel_rfl) (S_fresh none #[.int .i64 0, .int .i64 0, .int .i64 0, .int .i64 0] 50 hM58 (by kernel_rfl) (fun g62 w63 hM64 => S_store 0 0 #[.int .i64 r59.1, .int .i64 r59.2.1, .int .i64 r59.2.2.1, .int .i64 r59.2.2.2] hM64 (by kernel_rfl) (fun w65 hM66 => S_val (.bool false) (by kernel_rfl) (S_nil (R_seq (R_region (S_val (.bool false) (by kernel_rfl) (S_val (.bool false) (by kernel_rfl) (S_val (.bool false) (by kernel_rfl) (?_))))))))))))
            have HR := hr_neg HR Bool.false_ne_true
            refine S_val (.bool false) (by kernel_rfl) (S_load 5 0 (.agg #[.int .i64 r14.1, .int .i64 r14.2.1, .int .i64 r14.2.2.1, .int .i64 r14.2.2.2]) hM66 (by kernel_rfl) (S_load 0 0 (.agg #[.int .i64 r59.1, .int .i64 r59.2.1, .int .i64 r59.2.2.1, .int .i64 r59.2.2.2]) hM66 (by kernel_rfl) (S_call (mless r14 r59) (fun r : Bool => .bool r) hM66 (tLess r14 r59 ((tr (P := fun r : (Int × Int × Int × Int) × Bool => (InM r.1 ∧ True)) h11 (hitT_I o d1_ p)).out.1) ((tr (P := fun r : (Int × Int × Int × Int) × Bool => (InM r.1 ∧ True)) h56 (hitT_I o d1_ (p.2.2, p.1, p.2.1))).out.1) w65) (by kernel_rfl) (fun r67 h68 w69 hM70 => ?_))))
            have HR := hr_lt HR h68
            cases r67
            · refine S_val (.bool false) (by kernel_rfl) (S_val (.bool false) (by kernel_rfl) (S_load 0 0 (.agg #[.int .i64 r59.1, .int .i64 r59.2.1, .int .i64 r59.2.2.1, .int .i64 r59.2.2.2]) hM70 (by kernel_rfl) (S_load 5 0 (.agg #[.int .i64 r14.1, .int .i64 r14.2.1, .int .i64 r14.2.2.1, .int .i64 r14.2.2.2]) hM70 (by kernel_rfl) (S_call (mless r59 r14) (fun r : Bool => .bool r) hM70 (tLess r59 r14 ((tr (P := fun r : (Int × Int × Int × Int) × Bool => (InM r.1 ∧ True)) h56 (hitT_I o d1_ (p.2.2, p.1, p.2.1))).out.1) ((tr (P := fun r : (Int × Int × Int × Int) × Bool => (InM r.1 ∧ True)) h11 (hitT_I o d1_ p)).out.1) w69) (by kernel_rfl) (fun r71 h72 w73 hM74 => ?_)))))
              have HR := hr_neg HR Bool.false_ne_true
              have HR := hr_lt HR h72
              cases r71
              · refine S_val (.bool false) (by kernel_rfl) (S_nil (R_no (by kernel_rfl) (R_skip (R_inBlock (R_region (S_val (.int .i64 2) (by kernel_rfl) (S_val (.int .i64 2) (by kernel_rfl) (S_nil (R_inLoop (R_seq (R_region (?_))))))))))))
                have HR := hr_neg HR Bool.false_ne_true
                refine S_val (.bool true) (by kernel_rfl) (S_nil (R_seq (R_yes (by kernel_rfl) (R_skip (R_seq (R_block (R_seq (R_region (S_val (.pointer (some ⟨g22, 18, none⟩)) (by kernel_rfl) (S_load 4 18 (.agg #[.int .i64 p.1.1, .int .i64 p.1.2.1, .int .i64 p.1.2.2, .int .i64 p.2.2.1, .int .i64 p.2.2.2.1, .int .i64 p.2.2.2.2, .int .i64 p.2.1.1, .int .i64 p.2.1.2.1, .int .i64 p.2.1.2.2]) hM74 (by kernel_rfl) (S_fresh none #[.int .i64 0, .int .i64 0, .int .i64 0, .int .i64 0, .int .i64 0, .int .i64 0, .int .i64 0, .int .i64 0, .int .i64 0] 48 hM74 (by kernel_rfl) (fun g75 w76 hM77 => ?_))))))))))))
                refine S_store 0 0 #[.int .i64 p.1.1, .int .i64 p.1.2.1, .int .i64 p.1.2.2, .int .i64 p.2.2.1, .int .i64 p.2.2.2.1, .int .i64 p.2.2.2.2, .int .i64 p.2.1.1, .int .i64 p.2.1.2.1, .int .i64 p.2.1.2.2] hM77 (by kernel_rfl) (fun w78 hM79 => S_nil (R_seq (R_region (S_load 9 0 (.agg #[.int .i64 o.1, .int .i64 o.2.1, .int .i64 o.2.2]) hM79 (by kernel_rfl) (S_load 8 0 (.agg #[.int .i64 d1_.1, .int .i64 d1_.2.1, .int .i64 d1_.2.2]) hM79 (by kernel_rfl) (S_load 0 0 (.agg #[.int .i64 p.1.1, .int .i64 p.1.2.1, .int .i64 p.1.2.2, .int .i64 p.2.2.1, .int .i64 p.2.2.2.1, .int .i64 p.2.2.2.2, .int .i64 p.2.1.1, .int .i64 p.2.1.2.1, .int .i64 p.2.1.2.2]) hM79 (by kernel_rfl) (S_call (hitT o d1_ (p.1, p.2.2, p.2.1)) (fun r : (Int × Int × Int × Int) × Bool => .tuple #[.agg #[.int .i64 r.1.1, .int .i64 r.1.2.1, .int .i64 r.1.2.2.1, .int .i64 r.1.2.2.2], .bool r.2]) hM79 (tHit o d1_ (p.1, p.2.2, p.2.1) w78) (by kernel_rfl) (fun r80 h81 w82 hM83 => ?_))))))))
                have HR := hr_lt HR h81
                obtain ⟨r84, b86⟩ := r80
                cases b86
                · refine S_val (.tuple #[.agg #[.int .i64 r84.1, .int .i64 r84.2.1, .int .i64 r84.2.2.1, .int .i64 r84.2.2.2], .bool false]) (by kernel_rfl) (S_val (.agg #[.int .i64 r84.1, .int .i64 r84.2.1, .int .i64 r84.2.2.1, .int .i64 r84.2.2.2]) (by kernel_rfl) (S_val (.bool false) (by kernel_rfl) (S_fresh none #[.int .i64 0, .int .i64 0, .int .i64 0, .int .i64 0] 50 hM83 (by kernel_rfl) (fun g87 w88 hM89 => S_store 0 0 #[.int .i64 r84.1, .int .i64 r84.2.1, .int .i64 r84.2.2.1, .int .i64 r84.2.2.2] hM89 (by kernel_rfl) (fun w90 hM91 => S_val (.bool false) (by kernel_rfl) (S_nil (R_seq (R_region (S_val (.bool false) (by kernel_rfl) (S_val (.bool false) (by kernel_rfl) (S_val (.bool false) (by kernel_rfl) (?_))))))))))))
                  have HR := hr_neg HR Bool.false_ne_true
                  refine S_val (.bool false) (by kernel_rfl) (S_load 7 0 (.agg #[.int .i64 r14.1, .int .i64 r14.2.1, .int .i64 r14.2.2.1, .int .i64 r14.2.2.2]) hM91 (by kernel_rfl) (S_load 0 0 (.agg #[.int .i64 r84.1, .int .i64 r84.2.1, .int .i64 r84.2.2.1, .int .i64 r84.2.2.2]) hM91 (by kernel_rfl) (S_call (mless r14 r84) (fun r : Bool => .bool r) hM91 (tLess r14 r84 ((tr (P := fun r : (Int × Int × Int × Int) × Bool => (InM r.1 ∧ True)) h11 (hitT_I o d1_ p)).out.1) ((tr (P := fun r : (Int × Int × Int × Int) × Bool => (InM r.1 ∧ True)) h81 (hitT_I o d1_ (p.1, p.2.2, p.2.1))).out.1) w90) (by kernel_rfl) (fun r92 h93 w94 hM95 => ?_))))
                  have HR := hr_lt HR h93
                  cases r92
                  · refine S_val (.bool false) (by kernel_rfl) (S_val (.bool false) (by kernel_rfl) (S_load 0 0 (.agg #[.int .i64 r84.1, .int .i64 r84.2.1, .int .i64 r84.2.2.1, .int .i64 r84.2.2.2]) hM95 (by kernel_rfl) (S_load 7 0 (.agg #[.int .i64 r14.1, .int .i64 r14.2.1, .int .i64 r14.2.2.1, .int .i64 r14.2.2.2]) hM95 (by kernel_rfl) (S_call (mless r84 r14) (fun r : Bool => .bool r) hM95 (tLess r84 r14 ((tr (P := fun r : (Int × Int × Int × Int) × Bool => (InM r.1 ∧ True)) h81 (hitT_I o d1_ (p.1, p.2.2, p.2.1))).out.1) ((tr (P := fun r : (Int × Int × Int × Int) × Bool => (InM r.1 ∧ True)) h11 (hitT_I o d1_ p)).out.1) w94) (by kernel_rfl) (fun r96 h97 w98 hM99 => ?_)))))
                    have HR := hr_neg HR Bool.false_ne_true
                    have HR := hr_lt HR h97
                    cases r96
                    · refine S_val (.bool false) (by kernel_rfl) (S_nil (R_no (by kernel_rfl) (R_skip (R_inBlock (R_region (S_val (.int .i64 3) (by kernel_rfl) (S_val (.int .i64 3) (by kernel_rfl) (S_nil (R_inLoop (R_seq (R_region (?_))))))))))))
                      have HR := hr_neg HR Bool.false_ne_true
                      refine S_val (.bool false) (by kernel_rfl) (S_nil (R_seq (R_no (by kernel_rfl) (R_exit rfl (R_seq (R_region (S_call (s_umbralaw20_works ) (fun r : Bool => .bool r) hM99 (w_umbralaw20_works  w98) (by kernel_rfl) (fun r100 h101 w102 hM103 => ?_))))))))
                      have HR := hr_lt HR h101
                      cases r100
                      · refine S_val (.bool false) (by kernel_rfl) (S_nil (?_))
                        have HR := hr_neg HR Bool.false_ne_true
                        refine R_ret hM103 rfl (.cons (.tmp _ (.bool false) (by kernel_rfl)) .nil) rfl ?_
                        exact ⟨congrArg Ending.returned HR, hM103.below⟩
                      · refine S_val (.bool true) (by kernel_rfl) (S_nil (?_))
                        have HR := hr_pos HR rfl
                        refine R_ret hM103 rfl (.cons (.tmp _ (.bool true) (by kernel_rfl)) .nil) rfl ?_
                        exact ⟨congrArg Ending.returned HR, hM103.below⟩
                    · refine S_val (.bool true) (by kernel_rfl) (S_nil (R_yes (by kernel_rfl) (R_seq (R_region (S_val (.bool false) (by kernel_rfl) (S_nil (?_)))))))
                      have HR := hr_pos HR rfl
                      refine R_ret hM99 rfl (.cons (.tmp _ (.bool false) (by kernel_rfl)) .nil) rfl ?_
                      exact ⟨congrArg Ending.returned HR, hM99.below⟩
                  · refine S_val (.bool true) (by kernel_rfl) (S_val (.bool true) (by kernel_rfl) (S_skip (by kernel_rfl) (S_skip (by kernel_rfl) (S_skip (by kernel_rfl) (S_val (.bool true) (by kernel_rfl) (S_nil (R_yes (by kernel_rfl) (R_seq (R_region (S_val (.bool false) (by kernel_rfl) (S_nil (?_))))))))))))
                    have HR := hr_pos HR rfl
                    refine R_ret hM95 rfl (.cons (.tmp _ (.bool false) (by kernel_rfl)) .nil) rfl ?_
                    exact ⟨congrArg Ending.returned HR, hM95.below⟩
                · refine S_val (.tuple #[.agg #[.int .i64 r84.1, .int .i64 r84.2.1, .int .i64 r84.2.2.1, .int .i64 r84.2.2.2], .bool true]) (by kernel_rfl) (S_val (.agg #[.int .i64 r84.1, .int .i64 r84.2.1, .int .i64 r84.2.2.1, .int .i64 r84.2.2.2]) (by kernel_rfl) (S_val (.bool true) (by kernel_rfl) (S_fresh none #[.int .i64 0, .int .i64 0, .int .i64 0, .int .i64 0] 50 hM83 (by kernel_rfl) (fun g104 w105 hM106 => S_store 0 0 #[.int .i64 r84.1, .int .i64 r84.2.1, .int .i64 r84.2.2.1, .int .i64 r84.2.2.2] hM106 (by kernel_rfl) (fun w107 hM108 => S_val (.bool true) (by kernel_rfl) (S_nil (R_seq (R_region (S_val (.bool true) (by kernel_rfl) (S_val (.bool false) (by kernel_rfl) (S_val (.bool true) (by kernel_rfl) (?_))))))))))))
                  have HR := hr_pos HR rfl
                  refine S_val (.bool true) (by kernel_rfl) (S_skip (by kernel_rfl) (S_skip (by kernel_rfl) (S_skip (by kernel_rfl) (S_val (.bool true) (by kernel_rfl) (S_val (.bool true) (by kernel_rfl) (S_skip (by kernel_rfl) (S_skip (by kernel_rfl) (S_skip (by kernel_rfl) (S_val (.bool true) (by kernel_rfl) (S_nil (R_yes (by kernel_rfl) (?_))))))))))))
                  refine R_seq (R_region (S_val (.bool false) (by kernel_rfl) (S_nil (?_))))
                  refine R_ret hM108 rfl (.cons (.tmp _ (.bool false) (by kernel_rfl)) .nil) rfl ?_
                  exact ⟨congrArg Ending.returned HR, hM108.below⟩
              · refine S_val (.bool true) (by kernel_rfl) (S_nil (R_yes (by kernel_rfl) (R_seq (R_region (S_val (.bool false) (by kernel_rfl) (S_nil (?_)))))))
                have HR := hr_pos HR rfl
                refine R_ret hM74 rfl (.cons (.tmp _ (.bool false) (by kernel_rfl)) .nil) rfl ?_
                exact ⟨congrArg Ending.returned HR, hM74.below⟩
            · refine S_val (.bool true) (by kernel_rfl) (S_val (.bool true) (by kernel_rfl) (S_skip (by kernel_rfl) (S_skip (by kernel_rfl) (S_skip (by kernel_rfl) (S_val (.bool true) (by kernel_rfl) (S_nil (R_yes (by kernel_rfl) (R_seq (R_region (S_val (.bool false) (by kernel_rfl) (S_nil (?_))))))))))))
              have HR := hr_pos HR rfl
              refine R_ret hM70 rfl (.cons (.tmp _ (.bool false) (by kernel_rfl)) .nil) rfl ?_
              exact ⟨congrArg Ending.returned HR, hM70.below⟩
          · refine S_val (.tuple #[.agg #[.int .i64 r59.1, .int .i64 r59.2.1, .int .i64 r59.2.2.1, .int .i64 r59.2.2.2], .bool true]) (by kernel_rfl) (S_val (.agg #[.int .i64 r59.1, .int .i64 r59.2.1, .int .i64 r59.2.2.1, .int .i64 r59.2.2.2]) (by kernel_rfl) (S_val (.bool true) (by kernel_rfl) (S_fresh none #[.int .i64 0, .int .i64 0, .int .i64 0, .int .i64 0] 50 hM58 (by kernel_rfl) (fun g109 w110 hM111 => S_store 0 0 #[.int .i64 r59.1, .int .i64 r59.2.1, .int .i64 r59.2.2.1, .int .i64 r59.2.2.2] hM111 (by kernel_rfl) (fun w112 hM113 => S_val (.bool true) (by kernel_rfl) (S_nil (R_seq (R_region (S_val (.bool true) (by kernel_rfl) (S_val (.bool false) (by kernel_rfl) (S_val (.bool true) (by kernel_rfl) (?_))))))))))))
            have HR := hr_pos HR rfl
            refine S_val (.bool true) (by kernel_rfl) (S_skip (by kernel_rfl) (S_skip (by kernel_rfl) (S_skip (by kernel_rfl) (S_val (.bool true) (by kernel_rfl) (S_val (.bool true) (by kernel_rfl) (S_skip (by kernel_rfl) (S_skip (by kernel_rfl) (S_skip (by kernel_rfl) (S_val (.bool true) (by kernel_rfl) (S_nil (R_yes (by kernel_rfl) (?_))))))))))))
            refine R_seq (R_region (S_val (.bool false) (by kernel_rfl) (S_nil (?_))))
            refine R_ret hM113 rfl (.cons (.tmp _ (.bool false) (by kernel_rfl)) .nil) rfl ?_
            exact ⟨congrArg Ending.returned HR, hM113.below⟩
        · refine S_val (.bool true) (by kernel_rfl) (S_nil (R_yes (by kernel_rfl) (R_seq (R_region (S_val (.bool false) (by kernel_rfl) (S_nil (?_)))))))
          have HR := hr_pos HR rfl
          refine R_ret hM49 rfl (.cons (.tmp _ (.bool false) (by kernel_rfl)) .nil) rfl ?_
          exact ⟨congrArg Ending.returned HR, hM49.below⟩
      · refine S_val (.bool true) (by kernel_rfl) (S_val (.bool true) (by kernel_rfl) (S_skip (by kernel_rfl) (S_skip (by kernel_rfl) (S_skip (by kernel_rfl) (S_val (.bool true) (by kernel_rfl) (S_nil (R_yes (by kernel_rfl) (R_seq (R_region (S_val (.bool false) (by kernel_rfl) (S_nil (?_))))))))))))
        have HR := hr_pos HR rfl
        refine R_ret hM45 rfl (.cons (.tmp _ (.bool false) (by kernel_rfl)) .nil) rfl ?_
        exact ⟨congrArg Ending.returned HR, hM45.below⟩
    · refine S_val (.tuple #[.agg #[.int .i64 r34.1, .int .i64 r34.2.1, .int .i64 r34.2.2.1, .int .i64 r34.2.2.2], .bool true]) (by kernel_rfl) (S_val (.agg #[.int .i64 r34.1, .int .i64 r34.2.1, .int .i64 r34.2.2.1, .int .i64 r34.2.2.2]) (by kernel_rfl) (S_val (.bool true) (by kernel_rfl) (S_fresh none #[.int .i64 0, .int .i64 0, .int .i64 0, .int .i64 0] 50 hM33 (by kernel_rfl) (fun g114 w115 hM116 => S_store 0 0 #[.int .i64 r34.1, .int .i64 r34.2.1, .int .i64 r34.2.2.1, .int .i64 r34.2.2.2] hM116 (by kernel_rfl) (fun w117 hM118 => S_val (.bool true) (by kernel_rfl) (S_nil (R_seq (R_region (S_val (.bool true) (by kernel_rfl) (S_val (.bool false) (by kernel_rfl) (S_val (.bool true) (by kernel_rfl) (?_))))))))))))
      have HR := hr_pos HR rfl
      refine S_val (.bool true) (by kernel_rfl) (S_skip (by kernel_rfl) (S_skip (by kernel_rfl) (S_skip (by kernel_rfl) (S_val (.bool true) (by kernel_rfl) (S_val (.bool true) (by kernel_rfl) (S_skip (by kernel_rfl) (S_skip (by kernel_rfl) (S_skip (by kernel_rfl) (S_val (.bool true) (by kernel_rfl) (S_nil (R_yes (by kernel_rfl) (?_))))))))))))
      refine R_seq (R_region (S_val (.bool false) (by kernel_rfl) (S_nil (?_))))
      refine R_ret hM118 rfl (.cons (.tmp _ (.bool false) (by kernel_rfl)) .nil) rfl ?_
      exact ⟨congrArg Ending.returned HR, hM118.below⟩
  · refine S_val (.tuple #[.agg #[.int .i64 r14.1, .int .i64 r14.2.1, .int .i64 r14.2.2.1, .int .i64 r14.2.2.2], .bool true]) (by kernel_rfl) (S_val (.agg #[.int .i64 r14.1, .int .i64 r14.2.1, .int .i64 r14.2.2.1, .int .i64 r14.2.2.2]) (by kernel_rfl) (S_val (.bool true) (by kernel_rfl) (S_fresh none #[.int .i64 0, .int .i64 0, .int .i64 0, .int .i64 0] 50 hM13 (by kernel_rfl) (fun g119 w120 hM121 => S_store 0 0 #[.int .i64 r14.1, .int .i64 r14.2.1, .int .i64 r14.2.2.1, .int .i64 r14.2.2.2] hM121 (by kernel_rfl) (fun w122 hM123 => S_val (.bool true) (by kernel_rfl) (S_nil (R_seq (R_seq (R_region (S_val (.pointer (some ⟨g7, 3, none⟩)) (by kernel_rfl) (S_load 1 3 (.agg #[.int .i64 p.2.1.1, .int .i64 p.2.1.2.1, .int .i64 p.2.1.2.2]) hM123 (by kernel_rfl) (?_))))))))))))
    have HR := hr_pos HR rfl
    refine S_val (.pointer (some ⟨g7, 6, none⟩)) (by kernel_rfl) (S_load 1 6 (.agg #[.int .i64 p.2.2.1, .int .i64 p.2.2.2.1, .int .i64 p.2.2.2.2]) hM123 (by kernel_rfl) (S_val (.pointer (some ⟨g7, 0, none⟩)) (by kernel_rfl) (S_load 1 0 (.agg #[.int .i64 p.1.1, .int .i64 p.1.2.1, .int .i64 p.1.2.2]) hM123 (by kernel_rfl) (S_val (.agg #[.int .i64 p.2.1.1, .int .i64 p.2.1.2.1, .int .i64 p.2.1.2.2, .int .i64 p.2.2.1, .int .i64 p.2.2.2.1, .int .i64 p.2.2.2.2, .int .i64 p.1.1, .int .i64 p.1.2.1, .int .i64 p.1.2.2]) (by kernel_rfl) (S_val (.pointer (some ⟨g7, 6, none⟩)) (by kernel_rfl) (S_load 1 6 (.agg #[.int .i64 p.2.2.1, .int .i64 p.2.2.2.1, .int .i64 p.2.2.2.2]) hM123 (by kernel_rfl) (S_val (.pointer (some ⟨g7, 0, none⟩)) (by kernel_rfl) (S_load 1 0 (.agg #[.int .i64 p.1.1, .int .i64 p.1.2.1, .int .i64 p.1.2.2]) hM123 (by kernel_rfl) (S_val (.pointer (some ⟨g7, 3, none⟩)) (by kernel_rfl) (S_load 1 3 (.agg #[.int .i64 p.2.1.1, .int .i64 p.2.1.2.1, .int .i64 p.2.1.2.2]) hM123 (by kernel_rfl) (S_val (.agg #[.int .i64 p.2.2.1, .int .i64 p.2.2.2.1, .int .i64 p.2.2.2.2, .int .i64 p.1.1, .int .i64 p.1.2.1, .int .i64 p.1.2.2, .int .i64 p.2.1.1, .int .i64 p.2.1.2.1, .int .i64 p.2.1.2.2]) (by kernel_rfl) (?_))))))))))))
    refine S_val (.pointer (some ⟨g7, 0, none⟩)) (by kernel_rfl) (S_load 1 0 (.agg #[.int .i64 p.1.1, .int .i64 p.1.2.1, .int .i64 p.1.2.2]) hM123 (by kernel_rfl) (S_val (.pointer (some ⟨g7, 6, none⟩)) (by kernel_rfl) (S_load 1 6 (.agg #[.int .i64 p.2.2.1, .int .i64 p.2.2.2.1, .int .i64 p.2.2.2.2]) hM123 (by kernel_rfl) (S_val (.pointer (some ⟨g7, 3, none⟩)) (by kernel_rfl) (S_load 1 3 (.agg #[.int .i64 p.2.1.1, .int .i64 p.2.1.2.1, .int .i64 p.2.1.2.2]) hM123 (by kernel_rfl) (S_val (.agg #[.int .i64 p.1.1, .int .i64 p.1.2.1, .int .i64 p.1.2.2, .int .i64 p.2.2.1, .int .i64 p.2.2.2.1, .int .i64 p.2.2.2.2, .int .i64 p.2.1.1, .int .i64 p.2.1.2.1, .int .i64 p.2.1.2.2]) (by kernel_rfl) (S_fresh (some 3) #[.int .i64 p.2.1.1, .int .i64 p.2.1.2.1, .int .i64 p.2.1.2.2, .int .i64 p.2.2.1, .int .i64 p.2.2.2.1, .int .i64 p.2.2.2.2, .int .i64 p.1.1, .int .i64 p.1.2.1, .int .i64 p.1.2.2, .int .i64 p.2.2.1, .int .i64 p.2.2.2.1, .int .i64 p.2.2.2.2, .int .i64 p.1.1, .int .i64 p.1.2.1, .int .i64 p.1.2.2, .int .i64 p.2.1.1, .int .i64 p.2.1.2.1, .int .i64 p.2.1.2.2, .int .i64 p.1.1, .int .i64 p.1.2.1, .int .i64 p.1.2.2, .int .i64 p.2.2.1, .int .i64 p.2.2.2.1, .int .i64 p.2.2.2.2, .int .i64 p.2.1.1, .int .i64 p.2.1.2.1, .int .i64 p.2.1.2.2] 48 hM123 (by kernel_rfl) (fun g124 w125 hM126 => S_val (.int .i64 3) (by kernel_rfl) (S_val (.int .i64 0) (by kernel_rfl) (S_nil (R_block (?_))))))))))))
    refine R_loop (R_seq (R_region (S_val (.bool true) (by kernel_rfl) (S_nil (R_seq (R_yes (by kernel_rfl) (R_skip (R_seq (R_block (R_seq (R_region (?_))))))))))))
    refine S_val (.pointer (some ⟨g124, 0, none⟩)) (by kernel_rfl) (S_load 0 0 (.agg #[.int .i64 p.2.1.1, .int .i64 p.2.1.2.1, .int .i64 p.2.1.2.2, .int .i64 p.2.2.1, .int .i64 p.2.2.2.1, .int .i64 p.2.2.2.2, .int .i64 p.1.1, .int .i64 p.1.2.1, .int .i64 p.1.2.2]) hM126 (by kernel_rfl) (S_fresh none #[.int .i64 0, .int .i64 0, .int .i64 0, .int .i64 0, .int .i64 0, .int .i64 0, .int .i64 0, .int .i64 0, .int .i64 0] 48 hM126 (by kernel_rfl) (fun g127 w128 hM129 => S_store 0 0 #[.int .i64 p.2.1.1, .int .i64 p.2.1.2.1, .int .i64 p.2.1.2.2, .int .i64 p.2.2.1, .int .i64 p.2.2.2.1, .int .i64 p.2.2.2.2, .int .i64 p.1.1, .int .i64 p.1.2.1, .int .i64 p.1.2.2] hM129 (by kernel_rfl) (fun w130 hM131 => S_nil (R_seq (R_region (S_load 5 0 (.agg #[.int .i64 o.1, .int .i64 o.2.1, .int .i64 o.2.2]) hM131 (by kernel_rfl) (S_load 4 0 (.agg #[.int .i64 d1_.1, .int .i64 d1_.2.1, .int .i64 d1_.2.2]) hM131 (by kernel_rfl) (S_load 0 0 (.agg #[.int .i64 p.2.1.1, .int .i64 p.2.1.2.1, .int .i64 p.2.1.2.2, .int .i64 p.2.2.1, .int .i64 p.2.2.2.1, .int .i64 p.2.2.2.2, .int .i64 p.1.1, .int .i64 p.1.2.1, .int .i64 p.1.2.2]) hM131 (by kernel_rfl) (S_call (hitT o d1_ (p.2.1, p.2.2, p.1)) (fun r : (Int × Int × Int × Int) × Bool => .tuple #[.agg #[.int .i64 r.1.1, .int .i64 r.1.2.1, .int .i64 r.1.2.2.1, .int .i64 r.1.2.2.2], .bool r.2]) hM131 (tHit o d1_ (p.2.1, p.2.2, p.1) w130) (by kernel_rfl) (fun r132 h133 w134 hM135 => ?_)))))))))))
    have HR := hr_lt HR h133
    obtain ⟨r136, b138⟩ := r132
    cases b138
    · refine S_val (.tuple #[.agg #[.int .i64 r136.1, .int .i64 r136.2.1, .int .i64 r136.2.2.1, .int .i64 r136.2.2.2], .bool false]) (by kernel_rfl) (S_val (.agg #[.int .i64 r136.1, .int .i64 r136.2.1, .int .i64 r136.2.2.1, .int .i64 r136.2.2.2]) (by kernel_rfl) (S_val (.bool false) (by kernel_rfl) (S_fresh none #[.int .i64 0, .int .i64 0, .int .i64 0, .int .i64 0] 50 hM135 (by kernel_rfl) (fun g139 w140 hM141 => S_store 0 0 #[.int .i64 r136.1, .int .i64 r136.2.1, .int .i64 r136.2.2.1, .int .i64 r136.2.2.2] hM141 (by kernel_rfl) (fun w142 hM143 => S_val (.bool false) (by kernel_rfl) (S_nil (R_seq (R_region (S_val (.bool false) (by kernel_rfl) (S_val (.bool true) (by kernel_rfl) (S_val (.bool true) (by kernel_rfl) (?_))))))))))))
      have HR := hr_neg HR Bool.false_ne_true
      refine S_val (.bool true) (by kernel_rfl) (S_skip (by kernel_rfl) (S_skip (by kernel_rfl) (S_skip (by kernel_rfl) (S_val (.bool true) (by kernel_rfl) (S_val (.bool true) (by kernel_rfl) (S_skip (by kernel_rfl) (S_skip (by kernel_rfl) (S_skip (by kernel_rfl) (S_val (.bool true) (by kernel_rfl) (S_nil (R_yes (by kernel_rfl) (?_))))))))))))
      refine R_seq (R_region (S_val (.bool false) (by kernel_rfl) (S_nil (?_))))
      refine R_ret hM143 rfl (.cons (.tmp _ (.bool false) (by kernel_rfl)) .nil) rfl ?_
      exact ⟨congrArg Ending.returned HR, hM143.below⟩
    · refine S_val (.tuple #[.agg #[.int .i64 r136.1, .int .i64 r136.2.1, .int .i64 r136.2.2.1, .int .i64 r136.2.2.2], .bool true]) (by kernel_rfl) (S_val (.agg #[.int .i64 r136.1, .int .i64 r136.2.1, .int .i64 r136.2.2.1, .int .i64 r136.2.2.2]) (by kernel_rfl) (S_val (.bool true) (by kernel_rfl) (S_fresh none #[.int .i64 0, .int .i64 0, .int .i64 0, .int .i64 0] 50 hM135 (by kernel_rfl) (fun g144 w145 hM146 => S_store 0 0 #[.int .i64 r136.1, .int .i64 r136.2.1, .int .i64 r136.2.2.1, .int .i64 r136.2.2.2] hM146 (by kernel_rfl) (fun w147 hM148 => S_val (.bool true) (by kernel_rfl) (S_nil (R_seq (R_region (S_val (.bool true) (by kernel_rfl) (S_val (.bool true) (by kernel_rfl) (S_val (.bool false) (by kernel_rfl) (?_))))))))))))
      have HR := hr_pos HR rfl
      refine S_val (.bool false) (by kernel_rfl) (S_load 3 0 (.agg #[.int .i64 r14.1, .int .i64 r14.2.1, .int .i64 r14.2.2.1, .int .i64 r14.2.2.2]) hM148 (by kernel_rfl) (S_load 0 0 (.agg #[.int .i64 r136.1, .int .i64 r136.2.1, .int .i64 r136.2.2.1, .int .i64 r136.2.2.2]) hM148 (by kernel_rfl) (S_call (mless r14 r136) (fun r : Bool => .bool r) hM148 (tLess r14 r136 ((tr (P := fun r : (Int × Int × Int × Int) × Bool => (InM r.1 ∧ True)) h11 (hitT_I o d1_ p)).out.1) ((tr (P := fun r : (Int × Int × Int × Int) × Bool => (InM r.1 ∧ True)) h133 (hitT_I o d1_ (p.2.1, p.2.2, p.1))).out.1) w147) (by kernel_rfl) (fun r149 h150 w151 hM152 => ?_))))
      have HR := hr_lt HR h150
      cases r149
      · refine S_val (.bool false) (by kernel_rfl) (S_val (.bool false) (by kernel_rfl) (S_load 0 0 (.agg #[.int .i64 r136.1, .int .i64 r136.2.1, .int .i64 r136.2.2.1, .int .i64 r136.2.2.2]) hM152 (by kernel_rfl) (S_load 3 0 (.agg #[.int .i64 r14.1, .int .i64 r14.2.1, .int .i64 r14.2.2.1, .int .i64 r14.2.2.2]) hM152 (by kernel_rfl) (S_call (mless r136 r14) (fun r : Bool => .bool r) hM152 (tLess r136 r14 ((tr (P := fun r : (Int × Int × Int × Int) × Bool => (InM r.1 ∧ True)) h133 (hitT_I o d1_ (p.2.1, p.2.2, p.1))).out.1) ((tr (P := fun r : (Int × Int × Int × Int) × Bool => (InM r.1 ∧ True)) h11 (hitT_I o d1_ p)).out.1) w151) (by kernel_rfl) (fun r153 h154 w155 hM156 => ?_)))))
        have HR := hr_neg HR Bool.false_ne_true
        have HR := hr_lt HR h154
        cases r153
        · refine S_val (.bool false) (by kernel_rfl) (S_nil (R_no (by kernel_rfl) (R_skip (R_inBlock (R_region (S_val (.int .i64 1) (by kernel_rfl) (S_val (.int .i64 1) (by kernel_rfl) (S_nil (R_inLoop (R_seq (R_region (?_))))))))))))
          have HR := hr_neg HR Bool.false_ne_true
          refine S_val (.bool true) (by kernel_rfl) (S_nil (R_seq (R_yes (by kernel_rfl) (R_skip (R_seq (R_block (R_seq (R_region (S_val (.pointer (some ⟨g124, 9, none⟩)) (by kernel_rfl) (S_load 2 9 (.agg #[.int .i64 p.2.2.1, .int .i64 p.2.2.2.1, .int .i64 p.2.2.2.2, .int .i64 p.1.1, .int .i64 p.1.2.1, .int .i64 p.1.2.2, .int .i64 p.2.1.1, .int .i64 p.2.1.2.1, .int .i64 p.2.1.2.2]) hM156 (by kernel_rfl) (S_fresh none #[.int .i64 0, .int .i64 0, .int .i64 0, .int .i64 0, .int .i64 0, .int .i64 0, .int .i64 0, .int .i64 0, .int .i64 0] 48 hM156 (by kernel_rfl) (fun g157 w158 hM159 => ?_))))))))))))
          refine S_store 0 0 #[.int .i64 p.2.2.1, .int .i64 p.2.2.2.1, .int .i64 p.2.2.2.2, .int .i64 p.1.1, .int .i64 p.1.2.1, .int .i64 p.1.2.2, .int .i64 p.2.1.1, .int .i64 p.2.1.2.1, .int .i64 p.2.1.2.2] hM159 (by kernel_rfl) (fun w160 hM161 => S_nil (R_seq (R_region (S_load 7 0 (.agg #[.int .i64 o.1, .int .i64 o.2.1, .int .i64 o.2.2]) hM161 (by kernel_rfl) (S_load 6 0 (.agg #[.int .i64 d1_.1, .int .i64 d1_.2.1, .int .i64 d1_.2.2]) hM161 (by kernel_rfl) (S_load 0 0 (.agg #[.int .i64 p.2.2.1, .int .i64 p.2.2.2.1, .int .i64 p.2.2.2.2, .int .i64 p.1.1, .int .i64 p.1.2.1, .int .i64 p.1.2.2, .int .i64 p.2.1.1, .int .i64 p.2.1.2.1, .int .i64 p.2.1.2.2]) hM161 (by kernel_rfl) (S_call (hitT o d1_ (p.2.2, p.1, p.2.1)) (fun r : (Int × Int × Int × Int) × Bool => .tuple #[.agg #[.int .i64 r.1.1, .int .i64 r.1.2.1, .int .i64 r.1.2.2.1, .int .i64 r.1.2.2.2], .bool r.2]) hM161 (tHit o d1_ (p.2.2, p.1, p.2.1) w160) (by kernel_rfl) (fun r162 h163 w164 hM165 => ?_))))))))
          have HR := hr_lt HR h163
          obtain ⟨r166, b168⟩ := r162
          cases b168
          · refine S_val (.tuple #[.agg #[.int .i64 r166.1, .int .i64 r166.2.1, .int .i64 r166.2.2.1, .int .i64 r166.2.2.2], .bool false]) (by kernel_rfl) (S_val (.agg #[.int .i64 r166.1, .int .i64 r166.2.1, .int .i64 r166.2.2.1, .int .i64 r166.2.2.2]) (by kernel_rfl) (S_val (.bool false) (by kernel_rfl) (S_fresh none #[.int .i64 0, .int .i64 0, .int .i64 0, .int .i64 0] 50 hM165 (by kernel_rfl) (fun g169 w170 hM171 => S_store 0 0 #[.int .i64 r166.1, .int .i64 r166.2.1, .int .i64 r166.2.2.1, .int .i64 r166.2.2.2] hM171 (by kernel_rfl) (fun w172 hM173 => S_val (.bool false) (by kernel_rfl) (S_nil (R_seq (R_region (S_val (.bool false) (by kernel_rfl) (S_val (.bool true) (by kernel_rfl) (S_val (.bool true) (by kernel_rfl) (?_))))))))))))
            have HR := hr_neg HR Bool.false_ne_true
            refine S_val (.bool true) (by kernel_rfl) (S_skip (by kernel_rfl) (S_skip (by kernel_rfl) (S_skip (by kernel_rfl) (S_val (.bool true) (by kernel_rfl) (S_val (.bool true) (by kernel_rfl) (S_skip (by kernel_rfl) (S_skip (by kernel_rfl) (S_skip (by kernel_rfl) (S_val (.bool true) (by kernel_rfl) (S_nil (R_yes (by kernel_rfl) (?_))))))))))))
            refine R_seq (R_region (S_val (.bool false) (by kernel_rfl) (S_nil (?_))))
            refine R_ret hM173 rfl (.cons (.tmp _ (.bool false) (by kernel_rfl)) .nil) rfl ?_
            exact ⟨congrArg Ending.returned HR, hM173.below⟩
          · refine S_val (.tuple #[.agg #[.int .i64 r166.1, .int .i64 r166.2.1, .int .i64 r166.2.2.1, .int .i64 r166.2.2.2], .bool true]) (by kernel_rfl) (S_val (.agg #[.int .i64 r166.1, .int .i64 r166.2.1, .int .i64 r166.2.2.1, .int .i64 r166.2.2.2]) (by kernel_rfl) (S_val (.bool true) (by kernel_rfl) (S_fresh none #[.int .i64 0, .int .i64 0, .int .i64 0, .int .i64 0] 50 hM165 (by kernel_rfl) (fun g174 w175 hM176 => S_store 0 0 #[.int .i64 r166.1, .int .i64 r166.2.1, .int .i64 r166.2.2.1, .int .i64 r166.2.2.2] hM176 (by kernel_rfl) (fun w177 hM178 => S_val (.bool true) (by kernel_rfl) (S_nil (R_seq (R_region (S_val (.bool true) (by kernel_rfl) (S_val (.bool true) (by kernel_rfl) (S_val (.bool false) (by kernel_rfl) (?_))))))))))))
            have HR := hr_pos HR rfl
            refine S_val (.bool false) (by kernel_rfl) (S_load 5 0 (.agg #[.int .i64 r14.1, .int .i64 r14.2.1, .int .i64 r14.2.2.1, .int .i64 r14.2.2.2]) hM178 (by kernel_rfl) (S_load 0 0 (.agg #[.int .i64 r166.1, .int .i64 r166.2.1, .int .i64 r166.2.2.1, .int .i64 r166.2.2.2]) hM178 (by kernel_rfl) (S_call (mless r14 r166) (fun r : Bool => .bool r) hM178 (tLess r14 r166 ((tr (P := fun r : (Int × Int × Int × Int) × Bool => (InM r.1 ∧ True)) h11 (hitT_I o d1_ p)).out.1) ((tr (P := fun r : (Int × Int × Int × Int) × Bool => (InM r.1 ∧ True)) h163 (hitT_I o d1_ (p.2.2, p.1, p.2.1))).out.1) w177) (by kernel_rfl) (fun r179 h180 w181 hM182 => ?_))))
            have HR := hr_lt HR h180
            cases r179
            · refine S_val (.bool false) (by kernel_rfl) (S_val (.bool false) (by kernel_rfl) (S_load 0 0 (.agg #[.int .i64 r166.1, .int .i64 r166.2.1, .int .i64 r166.2.2.1, .int .i64 r166.2.2.2]) hM182 (by kernel_rfl) (S_load 5 0 (.agg #[.int .i64 r14.1, .int .i64 r14.2.1, .int .i64 r14.2.2.1, .int .i64 r14.2.2.2]) hM182 (by kernel_rfl) (S_call (mless r166 r14) (fun r : Bool => .bool r) hM182 (tLess r166 r14 ((tr (P := fun r : (Int × Int × Int × Int) × Bool => (InM r.1 ∧ True)) h163 (hitT_I o d1_ (p.2.2, p.1, p.2.1))).out.1) ((tr (P := fun r : (Int × Int × Int × Int) × Bool => (InM r.1 ∧ True)) h11 (hitT_I o d1_ p)).out.1) w181) (by kernel_rfl) (fun r183 h184 w185 hM186 => ?_)))))
              have HR := hr_neg HR Bool.false_ne_true
              have HR := hr_lt HR h184
              cases r183
              · refine S_val (.bool false) (by kernel_rfl) (S_nil (R_no (by kernel_rfl) (R_skip (R_inBlock (R_region (S_val (.int .i64 2) (by kernel_rfl) (S_val (.int .i64 2) (by kernel_rfl) (S_nil (R_inLoop (R_seq (R_region (?_))))))))))))
                have HR := hr_neg HR Bool.false_ne_true
                refine S_val (.bool true) (by kernel_rfl) (S_nil (R_seq (R_yes (by kernel_rfl) (R_skip (R_seq (R_block (R_seq (R_region (S_val (.pointer (some ⟨g124, 18, none⟩)) (by kernel_rfl) (S_load 4 18 (.agg #[.int .i64 p.1.1, .int .i64 p.1.2.1, .int .i64 p.1.2.2, .int .i64 p.2.2.1, .int .i64 p.2.2.2.1, .int .i64 p.2.2.2.2, .int .i64 p.2.1.1, .int .i64 p.2.1.2.1, .int .i64 p.2.1.2.2]) hM186 (by kernel_rfl) (S_fresh none #[.int .i64 0, .int .i64 0, .int .i64 0, .int .i64 0, .int .i64 0, .int .i64 0, .int .i64 0, .int .i64 0, .int .i64 0] 48 hM186 (by kernel_rfl) (fun g187 w188 hM189 => ?_))))))))))))
                refine S_store 0 0 #[.int .i64 p.1.1, .int .i64 p.1.2.1, .int .i64 p.1.2.2, .int .i64 p.2.2.1, .int .i64 p.2.2.2.1, .int .i64 p.2.2.2.2, .int .i64 p.2.1.1, .int .i64 p.2.1.2.1, .int .i64 p.2.1.2.2] hM189 (by kernel_rfl) (fun w190 hM191 => S_nil (R_seq (R_region (S_load 9 0 (.agg #[.int .i64 o.1, .int .i64 o.2.1, .int .i64 o.2.2]) hM191 (by kernel_rfl) (S_load 8 0 (.agg #[.int .i64 d1_.1, .int .i64 d1_.2.1, .int .i64 d1_.2.2]) hM191 (by kernel_rfl) (S_load 0 0 (.agg #[.int .i64 p.1.1, .int .i64 p.1.2.1, .int .i64 p.1.2.2, .int .i64 p.2.2.1, .int .i64 p.2.2.2.1, .int .i64 p.2.2.2.2, .int .i64 p.2.1.1, .int .i64 p.2.1.2.1, .int .i64 p.2.1.2.2]) hM191 (by kernel_rfl) (S_call (hitT o d1_ (p.1, p.2.2, p.2.1)) (fun r : (Int × Int × Int × Int) × Bool => .tuple #[.agg #[.int .i64 r.1.1, .int .i64 r.1.2.1, .int .i64 r.1.2.2.1, .int .i64 r.1.2.2.2], .bool r.2]) hM191 (tHit o d1_ (p.1, p.2.2, p.2.1) w190) (by kernel_rfl) (fun r192 h193 w194 hM195 => ?_))))))))
                have HR := hr_lt HR h193
                obtain ⟨r196, b198⟩ := r192
                cases b198
                · refine S_val (.tuple #[.agg #[.int .i64 r196.1, .int .i64 r196.2.1, .int .i64 r196.2.2.1, .int .i64 r196.2.2.2], .bool false]) (by kernel_rfl) (S_val (.agg #[.int .i64 r196.1, .int .i64 r196.2.1, .int .i64 r196.2.2.1, .int .i64 r196.2.2.2]) (by kernel_rfl) (S_val (.bool false) (by kernel_rfl) (S_fresh none #[.int .i64 0, .int .i64 0, .int .i64 0, .int .i64 0] 50 hM195 (by kernel_rfl) (fun g199 w200 hM201 => S_store 0 0 #[.int .i64 r196.1, .int .i64 r196.2.1, .int .i64 r196.2.2.1, .int .i64 r196.2.2.2] hM201 (by kernel_rfl) (fun w202 hM203 => S_val (.bool false) (by kernel_rfl) (S_nil (R_seq (R_region (S_val (.bool false) (by kernel_rfl) (S_val (.bool true) (by kernel_rfl) (S_val (.bool true) (by kernel_rfl) (?_))))))))))))
                  have HR := hr_neg HR Bool.false_ne_true
                  refine S_val (.bool true) (by kernel_rfl) (S_skip (by kernel_rfl) (S_skip (by kernel_rfl) (S_skip (by kernel_rfl) (S_val (.bool true) (by kernel_rfl) (S_val (.bool true) (by kernel_rfl) (S_skip (by kernel_rfl) (S_skip (by kernel_rfl) (S_skip (by kernel_rfl) (S_val (.bool true) (by kernel_rfl) (S_nil (R_yes (by kernel_rfl) (?_))))))))))))
                  refine R_seq (R_region (S_val (.bool false) (by kernel_rfl) (S_nil (?_))))
                  refine R_ret hM203 rfl (.cons (.tmp _ (.bool false) (by kernel_rfl)) .nil) rfl ?_
                  exact ⟨congrArg Ending.returned HR, hM203.below⟩
                · refine S_val (.tuple #[.agg #[.int .i64 r196.1, .int .i64 r196.2.1, .int .i64 r196.2.2.1, .int .i64 r196.2.2.2], .bool true]) (by kernel_rfl) (S_val (.agg #[.int .i64 r196.1, .int .i64 r196.2.1, .int .i64 r196.2.2.1, .int .i64 r196.2.2.2]) (by kernel_rfl) (S_val (.bool true) (by kernel_rfl) (S_fresh none #[.int .i64 0, .int .i64 0, .int .i64 0, .int .i64 0] 50 hM195 (by kernel_rfl) (fun g204 w205 hM206 => S_store 0 0 #[.int .i64 r196.1, .int .i64 r196.2.1, .int .i64 r196.2.2.1, .int .i64 r196.2.2.2] hM206 (by kernel_rfl) (fun w207 hM208 => S_val (.bool true) (by kernel_rfl) (S_nil (R_seq (R_region (S_val (.bool true) (by kernel_rfl) (S_val (.bool true) (by kernel_rfl) (S_val (.bool false) (by kernel_rfl) (?_))))))))))))
                  have HR := hr_pos HR rfl
                  refine S_val (.bool false) (by kernel_rfl) (S_load 7 0 (.agg #[.int .i64 r14.1, .int .i64 r14.2.1, .int .i64 r14.2.2.1, .int .i64 r14.2.2.2]) hM208 (by kernel_rfl) (S_load 0 0 (.agg #[.int .i64 r196.1, .int .i64 r196.2.1, .int .i64 r196.2.2.1, .int .i64 r196.2.2.2]) hM208 (by kernel_rfl) (S_call (mless r14 r196) (fun r : Bool => .bool r) hM208 (tLess r14 r196 ((tr (P := fun r : (Int × Int × Int × Int) × Bool => (InM r.1 ∧ True)) h11 (hitT_I o d1_ p)).out.1) ((tr (P := fun r : (Int × Int × Int × Int) × Bool => (InM r.1 ∧ True)) h193 (hitT_I o d1_ (p.1, p.2.2, p.2.1))).out.1) w207) (by kernel_rfl) (fun r209 h210 w211 hM212 => ?_))))
                  have HR := hr_lt HR h210
                  cases r209
                  · refine S_val (.bool false) (by kernel_rfl) (S_val (.bool false) (by kernel_rfl) (S_load 0 0 (.agg #[.int .i64 r196.1, .int .i64 r196.2.1, .int .i64 r196.2.2.1, .int .i64 r196.2.2.2]) hM212 (by kernel_rfl) (S_load 7 0 (.agg #[.int .i64 r14.1, .int .i64 r14.2.1, .int .i64 r14.2.2.1, .int .i64 r14.2.2.2]) hM212 (by kernel_rfl) (S_call (mless r196 r14) (fun r : Bool => .bool r) hM212 (tLess r196 r14 ((tr (P := fun r : (Int × Int × Int × Int) × Bool => (InM r.1 ∧ True)) h193 (hitT_I o d1_ (p.1, p.2.2, p.2.1))).out.1) ((tr (P := fun r : (Int × Int × Int × Int) × Bool => (InM r.1 ∧ True)) h11 (hitT_I o d1_ p)).out.1) w211) (by kernel_rfl) (fun r213 h214 w215 hM216 => ?_)))))
                    have HR := hr_neg HR Bool.false_ne_true
                    have HR := hr_lt HR h214
                    cases r213
                    · refine S_val (.bool false) (by kernel_rfl) (S_nil (R_no (by kernel_rfl) (R_skip (R_inBlock (R_region (S_val (.int .i64 3) (by kernel_rfl) (S_val (.int .i64 3) (by kernel_rfl) (S_nil (R_inLoop (R_seq (R_region (?_))))))))))))
                      have HR := hr_neg HR Bool.false_ne_true
                      refine S_val (.bool false) (by kernel_rfl) (S_nil (R_seq (R_no (by kernel_rfl) (R_exit rfl (R_seq (R_region (S_call (s_umbralaw20_works ) (fun r : Bool => .bool r) hM216 (w_umbralaw20_works  w215) (by kernel_rfl) (fun r217 h218 w219 hM220 => ?_))))))))
                      have HR := hr_lt HR h218
                      cases r217
                      · refine S_val (.bool false) (by kernel_rfl) (S_nil (?_))
                        have HR := hr_neg HR Bool.false_ne_true
                        refine R_ret hM220 rfl (.cons (.tmp _ (.bool false) (by kernel_rfl)) .nil) rfl ?_
                        exact ⟨congrArg Ending.returned HR, hM220.below⟩
                      · refine S_val (.bool true) (by kernel_rfl) (S_nil (?_))
                        have HR := hr_pos HR rfl
                        refine R_ret hM220 rfl (.cons (.tmp _ (.bool true) (by kernel_rfl)) .nil) rfl ?_
                        exact ⟨congrArg Ending.returned HR, hM220.below⟩
                    · refine S_val (.bool true) (by kernel_rfl) (S_nil (R_yes (by kernel_rfl) (R_seq (R_region (S_val (.bool false) (by kernel_rfl) (S_nil (?_)))))))
                      have HR := hr_pos HR rfl
                      refine R_ret hM216 rfl (.cons (.tmp _ (.bool false) (by kernel_rfl)) .nil) rfl ?_
                      exact ⟨congrArg Ending.returned HR, hM216.below⟩
                  · refine S_val (.bool true) (by kernel_rfl) (S_val (.bool true) (by kernel_rfl) (S_skip (by kernel_rfl) (S_skip (by kernel_rfl) (S_skip (by kernel_rfl) (S_val (.bool true) (by kernel_rfl) (S_nil (R_yes (by kernel_rfl) (R_seq (R_region (S_val (.bool false) (by kernel_rfl) (S_nil (?_))))))))))))
                    have HR := hr_pos HR rfl
                    refine R_ret hM212 rfl (.cons (.tmp _ (.bool false) (by kernel_rfl)) .nil) rfl ?_
                    exact ⟨congrArg Ending.returned HR, hM212.below⟩
              · refine S_val (.bool true) (by kernel_rfl) (S_nil (R_yes (by kernel_rfl) (R_seq (R_region (S_val (.bool false) (by kernel_rfl) (S_nil (?_)))))))
                have HR := hr_pos HR rfl
                refine R_ret hM186 rfl (.cons (.tmp _ (.bool false) (by kernel_rfl)) .nil) rfl ?_
                exact ⟨congrArg Ending.returned HR, hM186.below⟩
            · refine S_val (.bool true) (by kernel_rfl) (S_val (.bool true) (by kernel_rfl) (S_skip (by kernel_rfl) (S_skip (by kernel_rfl) (S_skip (by kernel_rfl) (S_val (.bool true) (by kernel_rfl) (S_nil (R_yes (by kernel_rfl) (R_seq (R_region (S_val (.bool false) (by kernel_rfl) (S_nil (?_))))))))))))
              have HR := hr_pos HR rfl
              refine R_ret hM182 rfl (.cons (.tmp _ (.bool false) (by kernel_rfl)) .nil) rfl ?_
              exact ⟨congrArg Ending.returned HR, hM182.below⟩
        · refine S_val (.bool true) (by kernel_rfl) (S_nil (R_yes (by kernel_rfl) (R_seq (R_region (S_val (.bool false) (by kernel_rfl) (S_nil (?_)))))))
          have HR := hr_pos HR rfl
          refine R_ret hM156 rfl (.cons (.tmp _ (.bool false) (by kernel_rfl)) .nil) rfl ?_
          exact ⟨congrArg Ending.returned HR, hM156.below⟩
      · refine S_val (.bool true) (by kernel_rfl) (S_val (.bool true) (by kernel_rfl) (S_skip (by kernel_rfl) (S_skip (by kernel_rfl) (S_skip (by kernel_rfl) (S_val (.bool true) (by kernel_rfl) (S_nil (R_yes (by kernel_rfl) (R_seq (R_region (S_val (.bool false) (by kernel_rfl) (S_nil (?_))))))))))))
        have HR := hr_pos HR rfl
        refine R_ret hM152 rfl (.cons (.tmp _ (.bool false) (by kernel_rfl)) .nil) rfl ?_
        exact ⟨congrArg Ending.returned HR, hM152.below⟩

end Go.Proofs.Ytbfgmedjogjkeaa
