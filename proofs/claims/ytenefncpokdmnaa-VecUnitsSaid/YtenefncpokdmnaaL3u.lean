/- Layer 3: VecUnits. -/
import Derived.Test.YtenefncpokdmnaaG3u
import Derived.Test.YtenefncpokdmnaaGoF
namespace Go.Proofs.Ytenefncpokdmnaa
open Go.RowKit Go.Sort
set_option linter.unusedVariables false
set_option linter.unusedSimpArgs false

def e_umbralaw03_works (r : Bool) : Value := .bool r
def s_umbralaw03_works  : Bool :=
  lt (vtow (3, 4, 0)) fun r1 =>
  if (r1 : Int × Int × Int) = (2576980377, 3435973836, 0) then
    lt (vof (3, 4, 0)) fun r6 =>
    lt (vlen r6) fun r10 =>
    if r10 = 21474836480 then
      true
    else
      false
  else
    false
set_option maxRecDepth 100000 in
set_option maxHeartbeats 4000000 in
theorem w_umbralaw03_works  (w : World) : Calls Try.prog 18 #[] w (Ret (e_umbralaw03_works (s_umbralaw03_works )) w) := by
  obtain ⟨R, HR⟩ : ∃ R, e_umbralaw03_works (s_umbralaw03_works ) = R := ⟨_, rfl⟩
  rw [HR]
  unfold s_umbralaw03_works at HR
  have hM0 := St.start w
  refine calls_run Try.func18 rfl ?_
  refine R_seq (R_region (S_val (.bool false) (by kernel_rfl) (S_nil (R_seq (R_region (S_val (.agg #[.int .i64 3, .int .i64 4, .int .i64 0]) (by kernel_rfl) (S_call (vtow (3, 4, 0)) (fun r : Int × Int × Int => .agg #[.int .i64 r.1, .int .i64 r.2.1, .int .i64 r.2.2]) hM0 (c_vec_Toward (3, 4, 0) (⟨(show InI 3 from by unfold InI; omega), (show InI 4 from by unfold InI; omega), (show InI 0 from by unfold InI; omega)⟩) w) (by kernel_rfl) (fun r1 h2 w3 hM4 => S_val (.agg #[.int .i64 2576980377, .int .i64 3435973836, .int .i64 0]) (by kernel_rfl) (?_)))))))))
  have HR := hr_lt HR h2
  refine S_dec ((r1 : Int × Int × Int) = (2576980377, 3435973836, 0)) (eqv_umbra_api_Vec (x := r1) (y := (2576980377, 3435973836, 0)) (by kernel_rfl) (by kernel_rfl) (by kernel_rfl)) (fun c5 => ?_) (fun c5 => ?_)
  · refine S_val (.bool true) (by kernel_rfl) (S_val (.agg #[.int .i64 3, .int .i64 4, .int .i64 0]) (by kernel_rfl) (S_call (vof (3, 4, 0)) (fun r : Int × Int × Int => .agg #[.int .i64 r.1, .int .i64 r.2.1, .int .i64 r.2.2]) hM4 (c_vec_Of (3, 4, 0) (⟨(show InI 3 from by unfold InI; omega), (show InI 4 from by unfold InI; omega), (show InI 0 from by unfold InI; omega)⟩) w3) (by kernel_rfl) (fun r6 h7 w8 hM9 => S_call (vlen r6) (fun r : Int => .int .i64 r) hM9 (c_vec_Length r6 ((tr (P := fun r : Int × Int × Int => InV r) h7 (vof_I (3, 4, 0))).out) w8) (by kernel_rfl) (fun r10 h11 w12 hM13 => ?_))))
    have HR := hr_pos HR c5
    have HR := hr_lt HR h7
    have HR := hr_lt HR h11
    refine S_dec (r10 = 21474836480) (by kernel_rfl) (fun c14 => ?_) (fun c14 => ?_)
    · refine S_val (.bool true) (by kernel_rfl) (S_val (.bool true) (by kernel_rfl) (S_nil (?_)))
      have HR := hr_pos HR c14
      refine R_ret hM13 rfl (.cons (.tmp _ (.bool true) (by kernel_rfl)) .nil) rfl ?_
      exact ⟨congrArg Ending.returned HR, hM13.below⟩
    · refine S_val (.bool false) (by kernel_rfl) (S_val (.bool false) (by kernel_rfl) (S_nil (?_)))
      have HR := hr_neg HR c14
      refine R_ret hM13 rfl (.cons (.tmp _ (.bool false) (by kernel_rfl)) .nil) rfl ?_
      exact ⟨congrArg Ending.returned HR, hM13.below⟩
  · refine S_val (.bool false) (by kernel_rfl) (S_skip (by kernel_rfl) (S_skip (by kernel_rfl) (S_skip (by kernel_rfl) (S_skip (by kernel_rfl) (S_val (.bool false) (by kernel_rfl) (S_val (.bool false) (by kernel_rfl) (S_nil (?_))))))))
    have HR := hr_neg HR c5
    refine R_ret hM4 rfl (.cons (.tmp _ (.bool false) (by kernel_rfl)) .nil) rfl ?_
    exact ⟨congrArg Ending.returned HR, hM4.below⟩

def e_umbralaw03_VecUnits (r : Bool) : Value := .bool r
def s_umbralaw03_VecUnits (a : Int × Int × Int) (p : Int × Int × Int) : Bool :=
  lt (vlen a) fun r10 =>
  lt (vlen a) fun r12 =>
  if r10 = r12 then
    lt (vunit a) fun r15 =>
    lt (vunit a) fun r17 =>
    if (r15 : Int × Int × Int) = r17 then
      lt (vtow p) fun r20 =>
      lt (vtow p) fun r22 =>
      if (r20 : Int × Int × Int) = r22 then
        lt (s_umbralaw03_works ) fun r25 =>
        if r25 = true then
          true
        else
          false
      else
        false
    else
      false
  else
    false
set_option maxRecDepth 100000 in
set_option maxHeartbeats 4000000 in
theorem w_umbralaw03_VecUnits (a : Int × Int × Int) (p : Int × Int × Int) (h_a : InV a) (h_p : InV p) (w : World) : Calls Try.prog 8 #[.agg #[.int .i64 a.1, .int .i64 a.2.1, .int .i64 a.2.2], .agg #[.int .i64 p.1, .int .i64 p.2.1, .int .i64 p.2.2]] w (Ret (e_umbralaw03_VecUnits (s_umbralaw03_VecUnits a p)) w) := by
  obtain ⟨R, HR⟩ : ∃ R, e_umbralaw03_VecUnits (s_umbralaw03_VecUnits a p) = R := ⟨_, rfl⟩
  rw [HR]
  unfold s_umbralaw03_VecUnits at HR
  have hM0 := St.start w
  refine calls_run Try.func8 rfl ?_
  refine R_seq (R_region (S_fresh none #[.int .i64 a.1, .int .i64 a.2.1, .int .i64 a.2.2] 26 hM0 (by kernel_rfl) (fun g1 w2 hM3 => S_fresh none #[.int .i64 p.1, .int .i64 p.2.1, .int .i64 p.2.2] 23 hM3 (by kernel_rfl) (fun g4 w5 hM6 => S_val (.bool false) (by kernel_rfl) (S_nil (R_seq (R_drawF 23 (by kernel_rfl) (fun F7 U8 hL9 => F_load 1 0 (.agg #[.int .i64 a.1, .int .i64 a.2.1, .int .i64 a.2.2]) hM6 (by kernel_rfl) (F_call (vlen a) (fun r : Int => .int .i64 r) hM6 hL9 (fun w' hM' => c_vec_Length a h_a w') (by kernel_rfl) (fun _ => by kernel_rfl) (fun r10 h11 => F_load 1 0 (.agg #[.int .i64 a.1, .int .i64 a.2.1, .int .i64 a.2.2]) hM6 (by kernel_rfl) (F_call (vlen a) (fun r : Int => .int .i64 r) hM6 hL9 (fun w' hM' => c_umbraref03_Length a h_a w') (by kernel_rfl) (fun _ => by kernel_rfl) (fun r12 h13 => ?_))))))))))))
  have HR := hr_lt HR h11
  have HR := hr_lt HR h13
  refine F_dec (r10 = r12) (fun _ => by kernel_rfl) (fun c14 => ?_) (fun c14 => ?_)
  · refine F_val (.bool true) (fun _ => by kernel_rfl) (F_load 1 0 (.agg #[.int .i64 a.1, .int .i64 a.2.1, .int .i64 a.2.2]) hM6 (by kernel_rfl) (F_call (vunit a) (fun r : Int × Int × Int => .agg #[.int .i64 r.1, .int .i64 r.2.1, .int .i64 r.2.2]) hM6 hL9 (fun w' hM' => c_vec_Unit a h_a w') (by kernel_rfl) (fun _ => by kernel_rfl) (fun r15 h16 => F_load 1 0 (.agg #[.int .i64 a.1, .int .i64 a.2.1, .int .i64 a.2.2]) hM6 (by kernel_rfl) (F_call (vunit a) (fun r : Int × Int × Int => .agg #[.int .i64 r.1, .int .i64 r.2.1, .int .i64 r.2.2]) hM6 hL9 (fun w' hM' => c_umbraref03_Unit a h_a w') (by kernel_rfl) (fun _ => by kernel_rfl) (fun r17 h18 => ?_)))))
    have HR := hr_pos HR c14
    have HR := hr_lt HR h16
    have HR := hr_lt HR h18
    refine F_dec ((r15 : Int × Int × Int) = r17) (fun _ => eqv_umbra_api_Vec (x := r15) (y := r17) (by kernel_rfl) (by kernel_rfl) (by kernel_rfl)) (fun c19 => ?_) (fun c19 => ?_)
    · refine F_val (.bool true) (fun _ => by kernel_rfl) (F_val (.bool true) (fun _ => by kernel_rfl) (F_load 0 0 (.agg #[.int .i64 p.1, .int .i64 p.2.1, .int .i64 p.2.2]) hM6 (by kernel_rfl) (F_call (vtow p) (fun r : Int × Int × Int => .agg #[.int .i64 r.1, .int .i64 r.2.1, .int .i64 r.2.2]) hM6 hL9 (fun w' hM' => c_vec_Toward p h_p w') (by kernel_rfl) (fun _ => by kernel_rfl) (fun r20 h21 => F_load 0 0 (.agg #[.int .i64 p.1, .int .i64 p.2.1, .int .i64 p.2.2]) hM6 (by kernel_rfl) (F_call (vtow p) (fun r : Int × Int × Int => .agg #[.int .i64 r.1, .int .i64 r.2.1, .int .i64 r.2.2]) hM6 hL9 (fun w' hM' => r3Toward p h_p w') (by kernel_rfl) (fun _ => by kernel_rfl) (fun r22 h23 => ?_))))))
      have HR := hr_pos HR c19
      have HR := hr_lt HR h21
      have HR := hr_lt HR h23
      refine F_dec ((r20 : Int × Int × Int) = r22) (fun _ => eqv_umbra_api_Vec (x := r20) (y := r22) (by kernel_rfl) (by kernel_rfl) (by kernel_rfl)) (fun c24 => ?_) (fun c24 => ?_)
      · refine F_val (.bool true) (fun _ => by kernel_rfl) (F_val (.bool true) (fun _ => by kernel_rfl) (F_call (s_umbralaw03_works ) (fun r : Bool => .bool r) hM6 hL9 (fun w' hM' => w_umbralaw03_works  w') (by kernel_rfl) (fun _ => by kernel_rfl) (fun r25 h26 => ?_)))
        have HR := hr_pos HR c24
        have HR := hr_lt HR h26
        cases r25
        · refine F_val (.bool false) (fun _ => by kernel_rfl) (F_val (.bool false) (fun _ => by kernel_rfl) (F_nil hM6 hL9 (fun w27 hM28 => S_nil (?_))))
          have HR := hr_neg HR Bool.false_ne_true
          refine R_ret hM28 rfl (.cons (.tmp _ (.bool false) (by kernel_rfl)) .nil) rfl ?_
          exact ⟨congrArg Ending.returned HR, hM28.below⟩
        · refine F_val (.bool true) (fun _ => by kernel_rfl) (F_val (.bool true) (fun _ => by kernel_rfl) (F_nil hM6 hL9 (fun w29 hM30 => S_nil (?_))))
          have HR := hr_pos HR rfl
          refine R_ret hM30 rfl (.cons (.tmp _ (.bool true) (by kernel_rfl)) .nil) rfl ?_
          exact ⟨congrArg Ending.returned HR, hM30.below⟩
      · refine F_val (.bool false) (fun _ => by kernel_rfl) (F_val (.bool false) (fun _ => by kernel_rfl) (F_skip (by kernel_rfl) (F_val (.bool false) (fun _ => by kernel_rfl) (F_val (.bool false) (fun _ => by kernel_rfl) (F_nil hM6 hL9 (fun w32 hM33 => S_nil (?_)))))))
        have HR := hr_neg HR c24
        refine R_ret hM33 rfl (.cons (.tmp _ (.bool false) (by kernel_rfl)) .nil) rfl ?_
        exact ⟨congrArg Ending.returned HR, hM33.below⟩
    · refine F_val (.bool false) (fun _ => by kernel_rfl) (F_val (.bool false) (fun _ => by kernel_rfl) (F_skip (by kernel_rfl) (F_skip (by kernel_rfl) (F_skip (by kernel_rfl) (F_skip (by kernel_rfl) (F_skip (by kernel_rfl) (F_val (.bool false) (fun _ => by kernel_rfl) (F_val (.bool false) (fun _ => by kernel_rfl) (F_skip (by kernel_rfl) (F_val (.bool false) (fun _ => by kernel_rfl) (F_val (.bool false) (fun _ => by kernel_rfl) (?_))))))))))))
      have HR := hr_neg HR c19
      refine F_nil hM6 hL9 (fun w34 hM35 => S_nil (?_))
      refine R_ret hM35 rfl (.cons (.tmp _ (.bool false) (by kernel_rfl)) .nil) rfl ?_
      exact ⟨congrArg Ending.returned HR, hM35.below⟩
  · refine F_val (.bool false) (fun _ => by kernel_rfl) (F_skip (by kernel_rfl) (F_skip (by kernel_rfl) (F_skip (by kernel_rfl) (F_skip (by kernel_rfl) (F_skip (by kernel_rfl) (F_val (.bool false) (fun _ => by kernel_rfl) (F_val (.bool false) (fun _ => by kernel_rfl) (F_skip (by kernel_rfl) (F_skip (by kernel_rfl) (F_skip (by kernel_rfl) (F_skip (by kernel_rfl) (?_))))))))))))
    have HR := hr_neg HR c14
    refine F_skip (by kernel_rfl) (F_val (.bool false) (fun _ => by kernel_rfl) (F_val (.bool false) (fun _ => by kernel_rfl) (F_skip (by kernel_rfl) (F_val (.bool false) (fun _ => by kernel_rfl) (F_val (.bool false) (fun _ => by kernel_rfl) (F_nil hM6 hL9 (fun w36 hM37 => S_nil (?_))))))))
    refine R_ret hM37 rfl (.cons (.tmp _ (.bool false) (by kernel_rfl)) .nil) rfl ?_
    exact ⟨congrArg Ending.returned HR, hM37.below⟩

theorem works03_true : s_umbralaw03_works = true := by kernel_rfl
theorem VecUnits_true (a p : T3) : s_umbralaw03_VecUnits a p = true := by
  unfold s_umbralaw03_VecUnits
  simp only [lt, works03_true, if_true]

theorem lawVecUnits (ns0 : List Int) (h0 : Al2 Fits [.i64, .i64, .i64] ns0) (ns1 : List Int) (h1 : Al2 Fits [.i64, .i64, .i64] ns1) (w : World) : Calls Try.prog 8 #[.agg (vals [.i64, .i64, .i64] ns0).toArray, .agg (vals [.i64, .i64, .i64] ns1).toArray] w (Ret (.bool true) w) := by
  obtain ⟨b0_0, l0_0, rfl, f0_0, h0⟩ := al2_cons h0
  obtain ⟨b0_1, l0_1, rfl, f0_1, h0⟩ := al2_cons h0
  obtain ⟨b0_2, l0_2, rfl, f0_2, h0⟩ := al2_cons h0
  obtain rfl := al2_nil h0
  obtain ⟨b1_0, l1_0, rfl, f1_0, h1⟩ := al2_cons h1
  obtain ⟨b1_1, l1_1, rfl, f1_1, h1⟩ := al2_cons h1
  obtain ⟨b1_2, l1_2, rfl, f1_2, h1⟩ := al2_cons h1
  obtain rfl := al2_nil h1
  have hw := w_umbralaw03_VecUnits (b0_0, b0_1, b0_2) (b1_0, b1_1, b1_2) ⟨fit_i64 f0_0, fit_i64 f0_1, fit_i64 f0_2⟩ ⟨fit_i64 f1_0, fit_i64 f1_1, fit_i64 f1_2⟩ w
  rw [VecUnits_true (b0_0, b0_1, b0_2) (b1_0, b1_1, b1_2)] at hw
  exact hw

end Go.Proofs.Ytenefncpokdmnaa
