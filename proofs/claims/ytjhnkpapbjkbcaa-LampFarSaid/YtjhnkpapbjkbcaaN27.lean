/- Walks: umbralaw27. Plain numbers of layer 27. Layer 27: LampArea, LampBehind hold. Layer 27: LampArea as its frame asks for it. -/
import Derived.Test.YtjhnkpapbjkbcaaNG27
import Derived.Test.YtjhnkpapbjkbcaaNO
import Derived.Test.YtjhnkpapbjkbcaaGoF
namespace Go.Proofs.Ytjhnkpapbjkbcaa
open Go.RowKit Go.Sort
set_option linter.unusedVariables false
set_option linter.unusedSimpArgs false

def e_umbralaw27_works (r : Bool) : Value := .bool r
def s_umbralaw27_works  : Bool :=
  lt (s_lamp_Sample (0, (65536, 65536, 65536), (0, 0, 1024), (0, 0, 0), (0, 0, 0)) (0, 0, 0) (0, 0, 4294967296) (0, 0)) fun r6 =>
  if r6.2.1 = true then
    if r6.2.2.1 = true then
      false
    else
      false
  else
    if r6.2.2.1 = true then
      false
    else
      if (r6.1 : Int × Int × Int) = (0, 0, 1024) then
        if (r6.2.2.2 : Int × Int × Int) = (4294967296, 4294967296, 4294967296) then
          true
        else
          false
      else
        false
set_option maxRecDepth 100000 in
set_option maxHeartbeats 4000000 in
theorem w_umbralaw27_works  (w : World) : Calls Try.prog 35 #[] w (Ret (e_umbralaw27_works (s_umbralaw27_works )) w) := by
  obtain ⟨R, HR⟩ : ∃ R, e_umbralaw27_works (s_umbralaw27_works ) = R := ⟨_, rfl⟩
  rw [HR]
  unfold s_umbralaw27_works at HR
  have hM0 := St.start w
  refine calls_run Try.func35 rfl ?_
  refine R_seq (R_region (S_val (.bool false) (by kernel_rfl) (S_nil (R_seq (R_region (S_val (.agg #[.int .i64 65536, .int .i64 65536, .int .i64 65536]) (by kernel_rfl) (S_val (.agg #[.int .i64 0, .int .i64 0, .int .i64 1024]) (by kernel_rfl) (S_val (.agg #[.int .i64 0, .int .i64 65536, .int .i64 65536, .int .i64 65536, .int .i64 0, .int .i64 0, .int .i64 1024, .int .i64 0, .int .i64 0, .int .i64 0, .int .i64 0, .int .i64 0, .int .i64 0]) (by kernel_rfl) (S_fresh none #[.int .i64 0, .int .i64 0, .int .i64 0, .int .i64 0, .int .i64 0, .int .i64 0, .int .i64 0, .int .i64 0, .int .i64 0, .int .i64 0, .int .i64 0, .int .i64 0, .int .i64 0] 58 hM0 (by kernel_rfl) (fun g1 w2 hM3 => S_store 0 0 #[.int .i64 0, .int .i64 65536, .int .i64 65536, .int .i64 65536, .int .i64 0, .int .i64 0, .int .i64 1024, .int .i64 0, .int .i64 0, .int .i64 0, .int .i64 0, .int .i64 0, .int .i64 0] hM3 (by kernel_rfl) (fun w4 hM5 => S_nil (?_))))))))))))
  refine R_seq (R_region (S_load 0 0 (.agg #[.int .i64 0, .int .i64 65536, .int .i64 65536, .int .i64 65536, .int .i64 0, .int .i64 0, .int .i64 1024, .int .i64 0, .int .i64 0, .int .i64 0, .int .i64 0, .int .i64 0, .int .i64 0]) hM5 (by kernel_rfl) (S_val (.agg #[.int .i64 0, .int .i64 0, .int .i64 0]) (by kernel_rfl) (S_val (.agg #[.int .i64 0, .int .i64 0, .int .i64 4294967296]) (by kernel_rfl) (S_val (.agg #[.int .u32 0, .int .u32 0]) (by kernel_rfl) (S_call (s_lamp_Sample (0, (65536, 65536, 65536), (0, 0, 1024), (0, 0, 0), (0, 0, 0)) (0, 0, 0) (0, 0, 4294967296) (0, 0)) (fun r : (Int × Int × Int) × Bool × Bool × (Int × Int × Int) => .agg #[.int .i64 r.1.1, .int .i64 r.1.2.1, .int .i64 r.1.2.2, .bool r.2.1, .bool r.2.2.1, .int .i64 r.2.2.2.1, .int .i64 r.2.2.2.2.1, .int .i64 r.2.2.2.2.2]) hM5 (w_lamp_Sample (0, (65536, 65536, 65536), (0, 0, 1024), (0, 0, 0), (0, 0, 0)) (0, 0, 0) (0, 0, 4294967296) (0, 0) (⟨(show InI 0 from by unfold InI; omega), ⟨(show InI 65536 from by unfold InI; omega), (show InI 65536 from by unfold InI; omega), (show InI 65536 from by unfold InI; omega)⟩, ⟨(show InI 0 from by unfold InI; omega), (show InI 0 from by unfold InI; omega), (show InI 1024 from by unfold InI; omega)⟩, ⟨(show InI 0 from by unfold InI; omega), (show InI 0 from by unfold InI; omega), (show InI 0 from by unfold InI; omega)⟩, ⟨(show InI 0 from by unfold InI; omega), (show InI 0 from by unfold InI; omega), (show InI 0 from by unfold InI; omega)⟩⟩) (⟨(show InI 0 from by unfold InI; omega), (show InI 0 from by unfold InI; omega), (show InI 0 from by unfold InI; omega)⟩) (⟨(show InI 0 from by unfold InI; omega), (show InI 0 from by unfold InI; omega), (show InI 4294967296 from by unfold InI; omega)⟩) (⟨(show InU32 0 from by unfold InU32; omega), (show InU32 0 from by unfold InU32; omega)⟩) w4) (by kernel_rfl) (fun r6 h7 w8 hM9 => ?_)))))))
  have HR := hr_lt HR h7
  obtain ⟨r10, b14, b15, r13⟩ := r6
  cases b14
  · cases b15
    · refine S_fresh none #[.int .i64 0, .int .i64 0, .int .i64 0, .bool false, .bool false, .int .i64 0, .int .i64 0, .int .i64 0] 62 hM9 (by kernel_rfl) (fun g16 w17 hM18 => S_store 0 0 #[.int .i64 r10.1, .int .i64 r10.2.1, .int .i64 r10.2.2, .bool false, .bool false, .int .i64 r13.1, .int .i64 r13.2.1, .int .i64 r13.2.2] hM18 (by kernel_rfl) (fun w19 hM20 => S_nil (R_seq (R_region (S_val (.pointer (some ⟨g16, 4, none⟩)) (by kernel_rfl) (S_load 0 4 (.bool false) hM20 (by kernel_rfl) (S_val (.bool true) (by kernel_rfl) (S_val (.bool true) (by kernel_rfl) (S_val (.pointer (some ⟨g16, 3, none⟩)) (by kernel_rfl) (S_load 0 3 (.bool false) hM20 (by kernel_rfl) (S_val (.bool true) (by kernel_rfl) (?_))))))))))))
      have HR := hr_neg HR Bool.false_ne_true
      have HR := hr_neg HR Bool.false_ne_true
      refine S_val (.bool true) (by kernel_rfl) (S_val (.bool true) (by kernel_rfl) (S_val (.pointer (some ⟨g16, 0, none⟩)) (by kernel_rfl) (S_load 0 0 (.agg #[.int .i64 r10.1, .int .i64 r10.2.1, .int .i64 r10.2.2]) hM20 (by kernel_rfl) (S_val (.agg #[.int .i64 0, .int .i64 0, .int .i64 1024]) (by kernel_rfl) (?_)))))
      refine S_dec ((r10 : Int × Int × Int) = (0, 0, 1024)) (eqv_umbra_api_Point (x := r10) (y := (0, 0, 1024)) (by kernel_rfl) (by kernel_rfl) (by kernel_rfl)) (fun c21 => ?_) (fun c21 => ?_)
      · refine S_val (.bool true) (by kernel_rfl) (S_val (.bool true) (by kernel_rfl) (S_val (.pointer (some ⟨g16, 5, none⟩)) (by kernel_rfl) (S_load 0 5 (.agg #[.int .i64 r13.1, .int .i64 r13.2.1, .int .i64 r13.2.2]) hM20 (by kernel_rfl) (S_val (.agg #[.int .i64 4294967296, .int .i64 4294967296, .int .i64 4294967296]) (by kernel_rfl) (?_)))))
        have HR := hr_pos HR c21
        refine S_dec ((r13 : Int × Int × Int) = (4294967296, 4294967296, 4294967296)) (eqv_umbra_api_Vec (x := r13) (y := (4294967296, 4294967296, 4294967296)) (by kernel_rfl) (by kernel_rfl) (by kernel_rfl)) (fun c22 => ?_) (fun c22 => ?_)
        · refine S_val (.bool true) (by kernel_rfl) (S_val (.bool true) (by kernel_rfl) (S_nil (?_)))
          have HR := hr_pos HR c22
          refine R_ret hM20 rfl (.cons (.tmp _ (.bool true) (by kernel_rfl)) .nil) rfl ?_
          exact ⟨congrArg Ending.returned HR, hM20.below⟩
        · refine S_val (.bool false) (by kernel_rfl) (S_val (.bool false) (by kernel_rfl) (S_nil (?_)))
          have HR := hr_neg HR c22
          refine R_ret hM20 rfl (.cons (.tmp _ (.bool false) (by kernel_rfl)) .nil) rfl ?_
          exact ⟨congrArg Ending.returned HR, hM20.below⟩
      · refine S_val (.bool false) (by kernel_rfl) (S_val (.bool false) (by kernel_rfl) (S_skip (by kernel_rfl) (S_skip (by kernel_rfl) (S_skip (by kernel_rfl) (S_skip (by kernel_rfl) (S_val (.bool false) (by kernel_rfl) (S_val (.bool false) (by kernel_rfl) (S_nil (?_)))))))))
        have HR := hr_neg HR c21
        refine R_ret hM20 rfl (.cons (.tmp _ (.bool false) (by kernel_rfl)) .nil) rfl ?_
        exact ⟨congrArg Ending.returned HR, hM20.below⟩
    · refine S_fresh none #[.int .i64 0, .int .i64 0, .int .i64 0, .bool false, .bool false, .int .i64 0, .int .i64 0, .int .i64 0] 62 hM9 (by kernel_rfl) (fun g23 w24 hM25 => S_store 0 0 #[.int .i64 r10.1, .int .i64 r10.2.1, .int .i64 r10.2.2, .bool false, .bool true, .int .i64 r13.1, .int .i64 r13.2.1, .int .i64 r13.2.2] hM25 (by kernel_rfl) (fun w26 hM27 => S_nil (R_seq (R_region (S_val (.pointer (some ⟨g23, 4, none⟩)) (by kernel_rfl) (S_load 0 4 (.bool true) hM27 (by kernel_rfl) (S_val (.bool false) (by kernel_rfl) (S_val (.bool false) (by kernel_rfl) (S_skip (by kernel_rfl) (S_skip (by kernel_rfl) (S_skip (by kernel_rfl) (?_))))))))))))
      have HR := hr_neg HR Bool.false_ne_true
      have HR := hr_pos HR rfl
      refine S_val (.bool false) (by kernel_rfl) (S_val (.bool false) (by kernel_rfl) (S_skip (by kernel_rfl) (S_skip (by kernel_rfl) (S_skip (by kernel_rfl) (S_skip (by kernel_rfl) (S_val (.bool false) (by kernel_rfl) (S_val (.bool false) (by kernel_rfl) (S_skip (by kernel_rfl) (S_skip (by kernel_rfl) (S_skip (by kernel_rfl) (S_skip (by kernel_rfl) (?_))))))))))))
      refine S_val (.bool false) (by kernel_rfl) (S_val (.bool false) (by kernel_rfl) (S_nil (?_)))
      refine R_ret hM27 rfl (.cons (.tmp _ (.bool false) (by kernel_rfl)) .nil) rfl ?_
      exact ⟨congrArg Ending.returned HR, hM27.below⟩
  · cases b15
    · refine S_fresh none #[.int .i64 0, .int .i64 0, .int .i64 0, .bool false, .bool false, .int .i64 0, .int .i64 0, .int .i64 0] 62 hM9 (by kernel_rfl) (fun g29 w30 hM31 => S_store 0 0 #[.int .i64 r10.1, .int .i64 r10.2.1, .int .i64 r10.2.2, .bool true, .bool false, .int .i64 r13.1, .int .i64 r13.2.1, .int .i64 r13.2.2] hM31 (by kernel_rfl) (fun w32 hM33 => S_nil (R_seq (R_region (S_val (.pointer (some ⟨g29, 4, none⟩)) (by kernel_rfl) (S_load 0 4 (.bool false) hM33 (by kernel_rfl) (S_val (.bool true) (by kernel_rfl) (S_val (.bool true) (by kernel_rfl) (S_val (.pointer (some ⟨g29, 3, none⟩)) (by kernel_rfl) (S_load 0 3 (.bool true) hM33 (by kernel_rfl) (S_val (.bool false) (by kernel_rfl) (?_))))))))))))
      have HR := hr_pos HR rfl
      have HR := hr_neg HR Bool.false_ne_true
      refine S_val (.bool false) (by kernel_rfl) (S_val (.bool false) (by kernel_rfl) (S_skip (by kernel_rfl) (S_skip (by kernel_rfl) (S_skip (by kernel_rfl) (S_skip (by kernel_rfl) (S_val (.bool false) (by kernel_rfl) (S_val (.bool false) (by kernel_rfl) (S_skip (by kernel_rfl) (S_skip (by kernel_rfl) (S_skip (by kernel_rfl) (S_skip (by kernel_rfl) (?_))))))))))))
      refine S_val (.bool false) (by kernel_rfl) (S_val (.bool false) (by kernel_rfl) (S_nil (?_)))
      refine R_ret hM33 rfl (.cons (.tmp _ (.bool false) (by kernel_rfl)) .nil) rfl ?_
      exact ⟨congrArg Ending.returned HR, hM33.below⟩
    · refine S_fresh none #[.int .i64 0, .int .i64 0, .int .i64 0, .bool false, .bool false, .int .i64 0, .int .i64 0, .int .i64 0] 62 hM9 (by kernel_rfl) (fun g34 w35 hM36 => S_store 0 0 #[.int .i64 r10.1, .int .i64 r10.2.1, .int .i64 r10.2.2, .bool true, .bool true, .int .i64 r13.1, .int .i64 r13.2.1, .int .i64 r13.2.2] hM36 (by kernel_rfl) (fun w37 hM38 => S_nil (R_seq (R_region (S_val (.pointer (some ⟨g34, 4, none⟩)) (by kernel_rfl) (S_load 0 4 (.bool true) hM38 (by kernel_rfl) (S_val (.bool false) (by kernel_rfl) (S_val (.bool false) (by kernel_rfl) (S_skip (by kernel_rfl) (S_skip (by kernel_rfl) (S_skip (by kernel_rfl) (?_))))))))))))
      have HR := hr_pos HR rfl
      have HR := hr_pos HR rfl
      refine S_val (.bool false) (by kernel_rfl) (S_val (.bool false) (by kernel_rfl) (S_skip (by kernel_rfl) (S_skip (by kernel_rfl) (S_skip (by kernel_rfl) (S_skip (by kernel_rfl) (S_val (.bool false) (by kernel_rfl) (S_val (.bool false) (by kernel_rfl) (S_skip (by kernel_rfl) (S_skip (by kernel_rfl) (S_skip (by kernel_rfl) (S_skip (by kernel_rfl) (?_))))))))))))
      refine S_val (.bool false) (by kernel_rfl) (S_val (.bool false) (by kernel_rfl) (S_nil (?_)))
      refine R_ret hM38 rfl (.cons (.tmp _ (.bool false) (by kernel_rfl)) .nil) rfl ?_
      exact ⟨congrArg Ending.returned HR, hM38.below⟩

def e_umbralaw27_LampSamples (r : Bool) : Value := .bool r
def s_umbralaw27_LampSamples (l : Int × (Int × Int × Int) × (Int × Int × Int) × (Int × Int × Int) × (Int × Int × Int)) (a : (Int × Int × Int) × (Int × Int × Int) × (Int × Int)) : Bool :=
  lt (s_lamp_Sample l a.1 a.2.1 a.2.2) fun r10 =>
  if r10.2.1 = true then
    if r10.2.2.1 = true then
      lt (s_umbraref27_Sample l a.1 a.2.1 a.2.2) fun r172 =>
      if r172.2.1 = true then
        if r172.2.2.1 = true then
          if ((r10.1, true, true, r10.2.2.2) : (Int × Int × Int) × Bool × Bool × (Int × Int × Int)) = (r172.1, true, true, r172.2.2.2) then
            lt (s_umbralaw27_works ) fun r212 =>
            if r212 = true then
              true
            else
              false
          else
            false
        else
          if ((r10.1, true, true, r10.2.2.2) : (Int × Int × Int) × Bool × Bool × (Int × Int × Int)) = (r172.1, true, false, r172.2.2.2) then
            lt (s_umbralaw27_works ) fun r202 =>
            if r202 = true then
              true
            else
              false
          else
            false
      else
        if r172.2.2.1 = true then
          if ((r10.1, true, true, r10.2.2.2) : (Int × Int × Int) × Bool × Bool × (Int × Int × Int)) = (r172.1, false, true, r172.2.2.2) then
            lt (s_umbralaw27_works ) fun r191 =>
            if r191 = true then
              true
            else
              false
          else
            false
        else
          if ((r10.1, true, true, r10.2.2.2) : (Int × Int × Int) × Bool × Bool × (Int × Int × Int)) = (r172.1, false, false, r172.2.2.2) then
            lt (s_umbralaw27_works ) fun r181 =>
            if r181 = true then
              true
            else
              false
          else
            false
    else
      lt (s_umbraref27_Sample l a.1 a.2.1 a.2.2) fun r121 =>
      if r121.2.1 = true then
        if r121.2.2.1 = true then
          if ((r10.1, true, false, r10.2.2.2) : (Int × Int × Int) × Bool × Bool × (Int × Int × Int)) = (r121.1, true, true, r121.2.2.2) then
            lt (s_umbralaw27_works ) fun r161 =>
            if r161 = true then
              true
            else
              false
          else
            false
        else
          if ((r10.1, true, false, r10.2.2.2) : (Int × Int × Int) × Bool × Bool × (Int × Int × Int)) = (r121.1, true, false, r121.2.2.2) then
            lt (s_umbralaw27_works ) fun r151 =>
            if r151 = true then
              true
            else
              false
          else
            false
      else
        if r121.2.2.1 = true then
          if ((r10.1, true, false, r10.2.2.2) : (Int × Int × Int) × Bool × Bool × (Int × Int × Int)) = (r121.1, false, true, r121.2.2.2) then
            lt (s_umbralaw27_works ) fun r140 =>
            if r140 = true then
              true
            else
              false
          else
            false
        else
          if ((r10.1, true, false, r10.2.2.2) : (Int × Int × Int) × Bool × Bool × (Int × Int × Int)) = (r121.1, false, false, r121.2.2.2) then
            lt (s_umbralaw27_works ) fun r130 =>
            if r130 = true then
              true
            else
              false
          else
            false
  else
    if r10.2.2.1 = true then
      lt (s_umbraref27_Sample l a.1 a.2.1 a.2.2) fun r69 =>
      if r69.2.1 = true then
        if r69.2.2.1 = true then
          if ((r10.1, false, true, r10.2.2.2) : (Int × Int × Int) × Bool × Bool × (Int × Int × Int)) = (r69.1, true, true, r69.2.2.2) then
            lt (s_umbralaw27_works ) fun r109 =>
            if r109 = true then
              true
            else
              false
          else
            false
        else
          if ((r10.1, false, true, r10.2.2.2) : (Int × Int × Int) × Bool × Bool × (Int × Int × Int)) = (r69.1, true, false, r69.2.2.2) then
            lt (s_umbralaw27_works ) fun r99 =>
            if r99 = true then
              true
            else
              false
          else
            false
      else
        if r69.2.2.1 = true then
          if ((r10.1, false, true, r10.2.2.2) : (Int × Int × Int) × Bool × Bool × (Int × Int × Int)) = (r69.1, false, true, r69.2.2.2) then
            lt (s_umbralaw27_works ) fun r88 =>
            if r88 = true then
              true
            else
              false
          else
            false
        else
          if ((r10.1, false, true, r10.2.2.2) : (Int × Int × Int) × Bool × Bool × (Int × Int × Int)) = (r69.1, false, false, r69.2.2.2) then
            lt (s_umbralaw27_works ) fun r78 =>
            if r78 = true then
              true
            else
              false
          else
            false
    else
      lt (s_umbraref27_Sample l a.1 a.2.1 a.2.2) fun r18 =>
      if r18.2.1 = true then
        if r18.2.2.1 = true then
          if ((r10.1, false, false, r10.2.2.2) : (Int × Int × Int) × Bool × Bool × (Int × Int × Int)) = (r18.1, true, true, r18.2.2.2) then
            lt (s_umbralaw27_works ) fun r58 =>
            if r58 = true then
              true
            else
              false
          else
            false
        else
          if ((r10.1, false, false, r10.2.2.2) : (Int × Int × Int) × Bool × Bool × (Int × Int × Int)) = (r18.1, true, false, r18.2.2.2) then
            lt (s_umbralaw27_works ) fun r48 =>
            if r48 = true then
              true
            else
              false
          else
            false
      else
        if r18.2.2.1 = true then
          if ((r10.1, false, false, r10.2.2.2) : (Int × Int × Int) × Bool × Bool × (Int × Int × Int)) = (r18.1, false, true, r18.2.2.2) then
            lt (s_umbralaw27_works ) fun r37 =>
            if r37 = true then
              true
            else
              false
          else
            false
        else
          if ((r10.1, false, false, r10.2.2.2) : (Int × Int × Int) × Bool × Bool × (Int × Int × Int)) = (r18.1, false, false, r18.2.2.2) then
            lt (s_umbralaw27_works ) fun r27 =>
            if r27 = true then
              true
            else
              false
          else
            false
set_option maxRecDepth 100000 in
set_option maxHeartbeats 4000000 in
theorem w_umbralaw27_LampSamples (l : Int × (Int × Int × Int) × (Int × Int × Int) × (Int × Int × Int) × (Int × Int × Int)) (a : (Int × Int × Int) × (Int × Int × Int) × (Int × Int)) (h_l : (InI l.1 ∧ InV l.2.1 ∧ InV l.2.2.1 ∧ InV l.2.2.2.1 ∧ InV l.2.2.2.2)) (h_a : (InV a.1 ∧ InV a.2.1 ∧ (InU32 a.2.2.1 ∧ InU32 a.2.2.2))) (w : World) : Calls Try.prog 9 #[.agg #[.int .i64 l.1, .int .i64 l.2.1.1, .int .i64 l.2.1.2.1, .int .i64 l.2.1.2.2, .int .i64 l.2.2.1.1, .int .i64 l.2.2.1.2.1, .int .i64 l.2.2.1.2.2, .int .i64 l.2.2.2.1.1, .int .i64 l.2.2.2.1.2.1, .int .i64 l.2.2.2.1.2.2, .int .i64 l.2.2.2.2.1, .int .i64 l.2.2.2.2.2.1, .int .i64 l.2.2.2.2.2.2], .agg #[.int .i64 a.1.1, .int .i64 a.1.2.1, .int .i64 a.1.2.2, .int .i64 a.2.1.1, .int .i64 a.2.1.2.1, .int .i64 a.2.1.2.2, .int .u32 a.2.2.1, .int .u32 a.2.2.2]] w (Ret (e_umbralaw27_LampSamples (s_umbralaw27_LampSamples l a)) w) := by
  obtain ⟨R, HR⟩ : ∃ R, e_umbralaw27_LampSamples (s_umbralaw27_LampSamples l a) = R := ⟨_, rfl⟩
  rw [HR]
  unfold s_umbralaw27_LampSamples at HR
  have hM0 := St.start w
  refine calls_run Try.func9 rfl ?_
  refine R_seq (R_region (S_fresh none #[.int .i64 l.1, .int .i64 l.2.1.1, .int .i64 l.2.1.2.1, .int .i64 l.2.1.2.2, .int .i64 l.2.2.1.1, .int .i64 l.2.2.1.2.1, .int .i64 l.2.2.1.2.2, .int .i64 l.2.2.2.1.1, .int .i64 l.2.2.2.1.2.1, .int .i64 l.2.2.2.1.2.2, .int .i64 l.2.2.2.2.1, .int .i64 l.2.2.2.2.2.1, .int .i64 l.2.2.2.2.2.2] 58 hM0 (by kernel_rfl) (fun g1 w2 hM3 => S_fresh none #[.int .i64 a.1.1, .int .i64 a.1.2.1, .int .i64 a.1.2.2, .int .i64 a.2.1.1, .int .i64 a.2.1.2.1, .int .i64 a.2.1.2.2, .int .u32 a.2.2.1, .int .u32 a.2.2.2] 60 hM3 (by kernel_rfl) (fun g4 w5 hM6 => S_val (.bool false) (by kernel_rfl) (S_nil (R_seq (R_drawF 21 (by kernel_rfl) (fun F7 U8 hL9 => F_load 1 0 (.agg #[.int .i64 l.1, .int .i64 l.2.1.1, .int .i64 l.2.1.2.1, .int .i64 l.2.1.2.2, .int .i64 l.2.2.1.1, .int .i64 l.2.2.1.2.1, .int .i64 l.2.2.1.2.2, .int .i64 l.2.2.2.1.1, .int .i64 l.2.2.2.1.2.1, .int .i64 l.2.2.2.1.2.2, .int .i64 l.2.2.2.2.1, .int .i64 l.2.2.2.2.2.1, .int .i64 l.2.2.2.2.2.2]) hM6 (by kernel_rfl) (F_val (.pointer (some ⟨g4, 0, none⟩)) (fun _ => by kernel_rfl) (F_load 0 0 (.agg #[.int .i64 a.1.1, .int .i64 a.1.2.1, .int .i64 a.1.2.2]) hM6 (by kernel_rfl) (F_val (.pointer (some ⟨g4, 3, none⟩)) (fun _ => by kernel_rfl) (?_))))))))))))
  refine F_load 0 3 (.agg #[.int .i64 a.2.1.1, .int .i64 a.2.1.2.1, .int .i64 a.2.1.2.2]) hM6 (by kernel_rfl) (F_val (.pointer (some ⟨g4, 6, none⟩)) (fun _ => by kernel_rfl) (F_load 0 6 (.agg #[.int .u32 a.2.2.1, .int .u32 a.2.2.2]) hM6 (by kernel_rfl) (F_call (s_lamp_Sample l a.1 a.2.1 a.2.2) (fun r : (Int × Int × Int) × Bool × Bool × (Int × Int × Int) => .agg #[.int .i64 r.1.1, .int .i64 r.1.2.1, .int .i64 r.1.2.2, .bool r.2.1, .bool r.2.2.1, .int .i64 r.2.2.2.1, .int .i64 r.2.2.2.2.1, .int .i64 r.2.2.2.2.2]) hM6 hL9 (fun w' hM' => w_lamp_Sample l a.1 a.2.1 a.2.2 h_l h_a.1 h_a.2.1 h_a.2.2 w') (by kernel_rfl) (fun _ => by kernel_rfl) (fun r10 h11 => ?_))))
  have HR := hr_lt HR h11
  obtain ⟨r12, b16, b17, r15⟩ := r10
  cases b16
  · cases b17
    · refine F_load 1 0 (.agg #[.int .i64 l.1, .int .i64 l.2.1.1, .int .i64 l.2.1.2.1, .int .i64 l.2.1.2.2, .int .i64 l.2.2.1.1, .int .i64 l.2.2.1.2.1, .int .i64 l.2.2.1.2.2, .int .i64 l.2.2.2.1.1, .int .i64 l.2.2.2.1.2.1, .int .i64 l.2.2.2.1.2.2, .int .i64 l.2.2.2.2.1, .int .i64 l.2.2.2.2.2.1, .int .i64 l.2.2.2.2.2.2]) hM6 (by kernel_rfl) (F_val (.pointer (some ⟨g4, 0, none⟩)) (fun _ => by kernel_rfl) (F_load 0 0 (.agg #[.int .i64 a.1.1, .int .i64 a.1.2.1, .int .i64 a.1.2.2]) hM6 (by kernel_rfl) (F_val (.pointer (some ⟨g4, 3, none⟩)) (fun _ => by kernel_rfl) (F_load 0 3 (.agg #[.int .i64 a.2.1.1, .int .i64 a.2.1.2.1, .int .i64 a.2.1.2.2]) hM6 (by kernel_rfl) (F_val (.pointer (some ⟨g4, 6, none⟩)) (fun _ => by kernel_rfl) (F_load 0 6 (.agg #[.int .u32 a.2.2.1, .int .u32 a.2.2.2]) hM6 (by kernel_rfl) (F_call (s_umbraref27_Sample l a.1 a.2.1 a.2.2) (fun r : (Int × Int × Int) × Bool × Bool × (Int × Int × Int) => .agg #[.int .i64 r.1.1, .int .i64 r.1.2.1, .int .i64 r.1.2.2, .bool r.2.1, .bool r.2.2.1, .int .i64 r.2.2.2.1, .int .i64 r.2.2.2.2.1, .int .i64 r.2.2.2.2.2]) hM6 hL9 (fun w' hM' => w_umbraref27_Sample l a.1 a.2.1 a.2.2 h_l h_a.1 h_a.2.1 h_a.2.2 w') (by kernel_rfl) (fun _ => by kernel_rfl) (fun r18 h19 => ?_))))))))
      have HR := hr_neg HR Bool.false_ne_true
      have HR := hr_neg HR Bool.false_ne_true
      have HR := hr_lt HR h19
      obtain ⟨r20, b24, b25, r23⟩ := r18
      cases b24
      · cases b25
        · have HR := hr_neg HR Bool.false_ne_true
          have HR := hr_neg HR Bool.false_ne_true
          refine F_dec (((r12, false, false, r15) : (Int × Int × Int) × Bool × Bool × (Int × Int × Int)) = (r20, false, false, r23)) (fun _ => eqv_umbra_api_Lamp (x := (r12, false, false, r15)) (y := (r20, false, false, r23)) (by kernel_rfl) (by kernel_rfl) (by kernel_rfl)) (fun c26 => ?_) (fun c26 => ?_)
          · refine F_val (.bool true) (fun _ => by kernel_rfl) (F_call (s_umbralaw27_works ) (fun r : Bool => .bool r) hM6 hL9 (fun w' hM' => w_umbralaw27_works  w') (by kernel_rfl) (fun _ => by kernel_rfl) (fun r27 h28 => ?_))
            have HR := hr_pos HR c26
            have HR := hr_lt HR h28
            cases r27
            · refine F_val (.bool false) (fun _ => by kernel_rfl) (F_val (.bool false) (fun _ => by kernel_rfl) (F_nil hM6 hL9 (fun w29 hM30 => S_nil (?_))))
              have HR := hr_neg HR Bool.false_ne_true
              refine R_ret hM30 rfl (.cons (.tmp _ (.bool false) (by kernel_rfl)) .nil) rfl ?_
              exact ⟨congrArg Ending.returned HR, hM30.below⟩
            · refine F_val (.bool true) (fun _ => by kernel_rfl) (F_val (.bool true) (fun _ => by kernel_rfl) (F_nil hM6 hL9 (fun w31 hM32 => S_nil (?_))))
              have HR := hr_pos HR rfl
              refine R_ret hM32 rfl (.cons (.tmp _ (.bool true) (by kernel_rfl)) .nil) rfl ?_
              exact ⟨congrArg Ending.returned HR, hM32.below⟩
          · refine F_val (.bool false) (fun _ => by kernel_rfl) (F_skip (by kernel_rfl) (F_val (.bool false) (fun _ => by kernel_rfl) (F_val (.bool false) (fun _ => by kernel_rfl) (F_nil hM6 hL9 (fun w34 hM35 => S_nil (?_))))))
            have HR := hr_neg HR c26
            refine R_ret hM35 rfl (.cons (.tmp _ (.bool false) (by kernel_rfl)) .nil) rfl ?_
            exact ⟨congrArg Ending.returned HR, hM35.below⟩
        · have HR := hr_neg HR Bool.false_ne_true
          have HR := hr_pos HR rfl
          refine F_dec (((r12, false, false, r15) : (Int × Int × Int) × Bool × Bool × (Int × Int × Int)) = (r20, false, true, r23)) (fun _ => eqv_umbra_api_Lamp (x := (r12, false, false, r15)) (y := (r20, false, true, r23)) (by kernel_rfl) (by kernel_rfl) (by kernel_rfl)) (fun c36 => ?_) (fun c36 => ?_)
          · refine F_val (.bool true) (fun _ => by kernel_rfl) (F_call (s_umbralaw27_works ) (fun r : Bool => .bool r) hM6 hL9 (fun w' hM' => w_umbralaw27_works  w') (by kernel_rfl) (fun _ => by kernel_rfl) (fun r37 h38 => ?_))
            have HR := hr_pos HR c36
            have HR := hr_lt HR h38
            cases r37
            · refine F_val (.bool false) (fun _ => by kernel_rfl) (F_val (.bool false) (fun _ => by kernel_rfl) (F_nil hM6 hL9 (fun w39 hM40 => S_nil (?_))))
              have HR := hr_neg HR Bool.false_ne_true
              refine R_ret hM40 rfl (.cons (.tmp _ (.bool false) (by kernel_rfl)) .nil) rfl ?_
              exact ⟨congrArg Ending.returned HR, hM40.below⟩
            · refine F_val (.bool true) (fun _ => by kernel_rfl) (F_val (.bool true) (fun _ => by kernel_rfl) (F_nil hM6 hL9 (fun w41 hM42 => S_nil (?_))))
              have HR := hr_pos HR rfl
              refine R_ret hM42 rfl (.cons (.tmp _ (.bool true) (by kernel_rfl)) .nil) rfl ?_
              exact ⟨congrArg Ending.returned HR, hM42.below⟩
          · refine F_val (.bool false) (fun _ => by kernel_rfl) (F_skip (by kernel_rfl) (F_val (.bool false) (fun _ => by kernel_rfl) (F_val (.bool false) (fun _ => by kernel_rfl) (F_nil hM6 hL9 (fun w44 hM45 => S_nil (?_))))))
            have HR := hr_neg HR c36
            refine R_ret hM45 rfl (.cons (.tmp _ (.bool false) (by kernel_rfl)) .nil) rfl ?_
            exact ⟨congrArg Ending.returned HR, hM45.below⟩
      · cases b25
        · have HR := hr_pos HR rfl
          have HR := hr_neg HR Bool.false_ne_true
          refine F_dec (((r12, false, false, r15) : (Int × Int × Int) × Bool × Bool × (Int × Int × Int)) = (r20, true, false, r23)) (fun _ => eqv_umbra_api_Lamp (x := (r12, false, false, r15)) (y := (r20, true, false, r23)) (by kernel_rfl) (by kernel_rfl) (by kernel_rfl)) (fun c47 => ?_) (fun c47 => ?_)
          · refine F_val (.bool true) (fun _ => by kernel_rfl) (F_call (s_umbralaw27_works ) (fun r : Bool => .bool r) hM6 hL9 (fun w' hM' => w_umbralaw27_works  w') (by kernel_rfl) (fun _ => by kernel_rfl) (fun r48 h49 => ?_))
            have HR := hr_pos HR c47
            have HR := hr_lt HR h49
            cases r48
            · refine F_val (.bool false) (fun _ => by kernel_rfl) (F_val (.bool false) (fun _ => by kernel_rfl) (F_nil hM6 hL9 (fun w50 hM51 => S_nil (?_))))
              have HR := hr_neg HR Bool.false_ne_true
              refine R_ret hM51 rfl (.cons (.tmp _ (.bool false) (by kernel_rfl)) .nil) rfl ?_
              exact ⟨congrArg Ending.returned HR, hM51.below⟩
            · refine F_val (.bool true) (fun _ => by kernel_rfl) (F_val (.bool true) (fun _ => by kernel_rfl) (F_nil hM6 hL9 (fun w52 hM53 => S_nil (?_))))
              have HR := hr_pos HR rfl
              refine R_ret hM53 rfl (.cons (.tmp _ (.bool true) (by kernel_rfl)) .nil) rfl ?_
              exact ⟨congrArg Ending.returned HR, hM53.below⟩
          · refine F_val (.bool false) (fun _ => by kernel_rfl) (F_skip (by kernel_rfl) (F_val (.bool false) (fun _ => by kernel_rfl) (F_val (.bool false) (fun _ => by kernel_rfl) (F_nil hM6 hL9 (fun w55 hM56 => S_nil (?_))))))
            have HR := hr_neg HR c47
            refine R_ret hM56 rfl (.cons (.tmp _ (.bool false) (by kernel_rfl)) .nil) rfl ?_
            exact ⟨congrArg Ending.returned HR, hM56.below⟩
        · have HR := hr_pos HR rfl
          have HR := hr_pos HR rfl
          refine F_dec (((r12, false, false, r15) : (Int × Int × Int) × Bool × Bool × (Int × Int × Int)) = (r20, true, true, r23)) (fun _ => eqv_umbra_api_Lamp (x := (r12, false, false, r15)) (y := (r20, true, true, r23)) (by kernel_rfl) (by kernel_rfl) (by kernel_rfl)) (fun c57 => ?_) (fun c57 => ?_)
          · refine F_val (.bool true) (fun _ => by kernel_rfl) (F_call (s_umbralaw27_works ) (fun r : Bool => .bool r) hM6 hL9 (fun w' hM' => w_umbralaw27_works  w') (by kernel_rfl) (fun _ => by kernel_rfl) (fun r58 h59 => ?_))
            have HR := hr_pos HR c57
            have HR := hr_lt HR h59
            cases r58
            · refine F_val (.bool false) (fun _ => by kernel_rfl) (F_val (.bool false) (fun _ => by kernel_rfl) (F_nil hM6 hL9 (fun w60 hM61 => S_nil (?_))))
              have HR := hr_neg HR Bool.false_ne_true
              refine R_ret hM61 rfl (.cons (.tmp _ (.bool false) (by kernel_rfl)) .nil) rfl ?_
              exact ⟨congrArg Ending.returned HR, hM61.below⟩
            · refine F_val (.bool true) (fun _ => by kernel_rfl) (F_val (.bool true) (fun _ => by kernel_rfl) (F_nil hM6 hL9 (fun w62 hM63 => S_nil (?_))))
              have HR := hr_pos HR rfl
              refine R_ret hM63 rfl (.cons (.tmp _ (.bool true) (by kernel_rfl)) .nil) rfl ?_
              exact ⟨congrArg Ending.returned HR, hM63.below⟩
          · refine F_val (.bool false) (fun _ => by kernel_rfl) (F_skip (by kernel_rfl) (F_val (.bool false) (fun _ => by kernel_rfl) (F_val (.bool false) (fun _ => by kernel_rfl) (F_nil hM6 hL9 (fun w65 hM66 => S_nil (?_))))))
            have HR := hr_neg HR c57
            refine R_ret hM66 rfl (.cons (.tmp _ (.bool false) (by kernel_rfl)) .nil) rfl ?_
            exact ⟨congrArg Ending.returned HR, hM66.below⟩
    · refine F_load 1 0 (.agg #[.int .i64 l.1, .int .i64 l.2.1.1, .int .i64 l.2.1.2.1, .int .i64 l.2.1.2.2, .int .i64 l.2.2.1.1, .int .i64 l.2.2.1.2.1, .int .i64 l.2.2.1.2.2, .int .i64 l.2.2.2.1.1, .int .i64 l.2.2.2.1.2.1, .int .i64 l.2.2.2.1.2.2, .int .i64 l.2.2.2.2.1, .int .i64 l.2.2.2.2.2.1, .int .i64 l.2.2.2.2.2.2]) hM6 (by kernel_rfl) (F_val (.pointer (some ⟨g4, 0, none⟩)) (fun _ => by kernel_rfl) (F_load 0 0 (.agg #[.int .i64 a.1.1, .int .i64 a.1.2.1, .int .i64 a.1.2.2]) hM6 (by kernel_rfl) (F_val (.pointer (some ⟨g4, 3, none⟩)) (fun _ => by kernel_rfl) (F_load 0 3 (.agg #[.int .i64 a.2.1.1, .int .i64 a.2.1.2.1, .int .i64 a.2.1.2.2]) hM6 (by kernel_rfl) (F_val (.pointer (some ⟨g4, 6, none⟩)) (fun _ => by kernel_rfl) (F_load 0 6 (.agg #[.int .u32 a.2.2.1, .int .u32 a.2.2.2]) hM6 (by kernel_rfl) (F_call (s_umbraref27_Sample l a.1 a.2.1 a.2.2) (fun r : (Int × Int × Int) × Bool × Bool × (Int × Int × Int) => .agg #[.int .i64 r.1.1, .int .i64 r.1.2.1, .int .i64 r.1.2.2, .bool r.2.1, .bool r.2.2.1, .int .i64 r.2.2.2.1, .int .i64 r.2.2.2.2.1, .int .i64 r.2.2.2.2.2]) hM6 hL9 (fun w' hM' => w_umbraref27_Sample l a.1 a.2.1 a.2.2 h_l h_a.1 h_a.2.1 h_a.2.2 w') (by kernel_rfl) (fun _ => by kernel_rfl) (fun r69 h70 => ?_))))))))
      have HR := hr_neg HR Bool.false_ne_true
      have HR := hr_pos HR rfl
      have HR := hr_lt HR h70
      obtain ⟨r71, b75, b76, r74⟩ := r69
      cases b75
      · cases b76
        · have HR := hr_neg HR Bool.false_ne_true
          have HR := hr_neg HR Bool.false_ne_true
          refine F_dec (((r12, false, true, r15) : (Int × Int × Int) × Bool × Bool × (Int × Int × Int)) = (r71, false, false, r74)) (fun _ => eqv_umbra_api_Lamp (x := (r12, false, true, r15)) (y := (r71, false, false, r74)) (by kernel_rfl) (by kernel_rfl) (by kernel_rfl)) (fun c77 => ?_) (fun c77 => ?_)
          · refine F_val (.bool true) (fun _ => by kernel_rfl) (F_call (s_umbralaw27_works ) (fun r : Bool => .bool r) hM6 hL9 (fun w' hM' => w_umbralaw27_works  w') (by kernel_rfl) (fun _ => by kernel_rfl) (fun r78 h79 => ?_))
            have HR := hr_pos HR c77
            have HR := hr_lt HR h79
            cases r78
            · refine F_val (.bool false) (fun _ => by kernel_rfl) (F_val (.bool false) (fun _ => by kernel_rfl) (F_nil hM6 hL9 (fun w80 hM81 => S_nil (?_))))
              have HR := hr_neg HR Bool.false_ne_true
              refine R_ret hM81 rfl (.cons (.tmp _ (.bool false) (by kernel_rfl)) .nil) rfl ?_
              exact ⟨congrArg Ending.returned HR, hM81.below⟩
            · refine F_val (.bool true) (fun _ => by kernel_rfl) (F_val (.bool true) (fun _ => by kernel_rfl) (F_nil hM6 hL9 (fun w82 hM83 => S_nil (?_))))
              have HR := hr_pos HR rfl
              refine R_ret hM83 rfl (.cons (.tmp _ (.bool true) (by kernel_rfl)) .nil) rfl ?_
              exact ⟨congrArg Ending.returned HR, hM83.below⟩
          · refine F_val (.bool false) (fun _ => by kernel_rfl) (F_skip (by kernel_rfl) (F_val (.bool false) (fun _ => by kernel_rfl) (F_val (.bool false) (fun _ => by kernel_rfl) (F_nil hM6 hL9 (fun w85 hM86 => S_nil (?_))))))
            have HR := hr_neg HR c77
            refine R_ret hM86 rfl (.cons (.tmp _ (.bool false) (by kernel_rfl)) .nil) rfl ?_
            exact ⟨congrArg Ending.returned HR, hM86.below⟩
        · have HR := hr_neg HR Bool.false_ne_true
          have HR := hr_pos HR rfl
          refine F_dec (((r12, false, true, r15) : (Int × Int × Int) × Bool × Bool × (Int × Int × Int)) = (r71, false, true, r74)) (fun _ => eqv_umbra_api_Lamp (x := (r12, false, true, r15)) (y := (r71, false, true, r74)) (by kernel_rfl) (by kernel_rfl) (by kernel_rfl)) (fun c87 => ?_) (fun c87 => ?_)
          · refine F_val (.bool true) (fun _ => by kernel_rfl) (F_call (s_umbralaw27_works ) (fun r : Bool => .bool r) hM6 hL9 (fun w' hM' => w_umbralaw27_works  w') (by kernel_rfl) (fun _ => by kernel_rfl) (fun r88 h89 => ?_))
            have HR := hr_pos HR c87
            have HR := hr_lt HR h89
            cases r88
            · refine F_val (.bool false) (fun _ => by kernel_rfl) (F_val (.bool false) (fun _ => by kernel_rfl) (F_nil hM6 hL9 (fun w90 hM91 => S_nil (?_))))
              have HR := hr_neg HR Bool.false_ne_true
              refine R_ret hM91 rfl (.cons (.tmp _ (.bool false) (by kernel_rfl)) .nil) rfl ?_
              exact ⟨congrArg Ending.returned HR, hM91.below⟩
            · refine F_val (.bool true) (fun _ => by kernel_rfl) (F_val (.bool true) (fun _ => by kernel_rfl) (F_nil hM6 hL9 (fun w92 hM93 => S_nil (?_))))
              have HR := hr_pos HR rfl
              refine R_ret hM93 rfl (.cons (.tmp _ (.bool true) (by kernel_rfl)) .nil) rfl ?_
              exact ⟨congrArg Ending.returned HR, hM93.below⟩
          · refine F_val (.bool false) (fun _ => by kernel_rfl) (F_skip (by kernel_rfl) (F_val (.bool false) (fun _ => by kernel_rfl) (F_val (.bool false) (fun _ => by kernel_rfl) (F_nil hM6 hL9 (fun w95 hM96 => S_nil (?_))))))
            have HR := hr_neg HR c87
            refine R_ret hM96 rfl (.cons (.tmp _ (.bool false) (by kernel_rfl)) .nil) rfl ?_
            exact ⟨congrArg Ending.returned HR, hM96.below⟩
      · cases b76
        · have HR := hr_pos HR rfl
          have HR := hr_neg HR Bool.false_ne_true
          refine F_dec (((r12, false, true, r15) : (Int × Int × Int) × Bool × Bool × (Int × Int × Int)) = (r71, true, false, r74)) (fun _ => eqv_umbra_api_Lamp (x := (r12, false, true, r15)) (y := (r71, true, false, r74)) (by kernel_rfl) (by kernel_rfl) (by kernel_rfl)) (fun c98 => ?_) (fun c98 => ?_)
          · refine F_val (.bool true) (fun _ => by kernel_rfl) (F_call (s_umbralaw27_works ) (fun r : Bool => .bool r) hM6 hL9 (fun w' hM' => w_umbralaw27_works  w') (by kernel_rfl) (fun _ => by kernel_rfl) (fun r99 h100 => ?_))
            have HR := hr_pos HR c98
            have HR := hr_lt HR h100
            cases r99
            · refine F_val (.bool false) (fun _ => by kernel_rfl) (F_val (.bool false) (fun _ => by kernel_rfl) (F_nil hM6 hL9 (fun w101 hM102 => S_nil (?_))))
              have HR := hr_neg HR Bool.false_ne_true
              refine R_ret hM102 rfl (.cons (.tmp _ (.bool false) (by kernel_rfl)) .nil) rfl ?_
              exact ⟨congrArg Ending.returned HR, hM102.below⟩
            · refine F_val (.bool true) (fun _ => by kernel_rfl) (F_val (.bool true) (fun _ => by kernel_rfl) (F_nil hM6 hL9 (fun w103 hM104 => S_nil (?_))))
              have HR := hr_pos HR rfl
              refine R_ret hM104 rfl (.cons (.tmp _ (.bool true) (by kernel_rfl)) .nil) rfl ?_
              exact ⟨congrArg Ending.returned HR, hM104.below⟩
          · refine F_val (.bool false) (fun _ => by kernel_rfl) (F_skip (by kernel_rfl) (F_val (.bool false) (fun _ => by kernel_rfl) (F_val (.bool false) (fun _ => by kernel_rfl) (F_nil hM6 hL9 (fun w106 hM107 => S_nil (?_))))))
            have HR := hr_neg HR c98
            refine R_ret hM107 rfl (.cons (.tmp _ (.bool false) (by kernel_rfl)) .nil) rfl ?_
            exact ⟨congrArg Ending.returned HR, hM107.below⟩
        · have HR := hr_pos HR rfl
          have HR := hr_pos HR rfl
          refine F_dec (((r12, false, true, r15) : (Int × Int × Int) × Bool × Bool × (Int × Int × Int)) = (r71, true, true, r74)) (fun _ => eqv_umbra_api_Lamp (x := (r12, false, true, r15)) (y := (r71, true, true, r74)) (by kernel_rfl) (by kernel_rfl) (by kernel_rfl)) (fun c108 => ?_) (fun c108 => ?_)
          · refine F_val (.bool true) (fun _ => by kernel_rfl) (F_call (s_umbralaw27_works ) (fun r : Bool => .bool r) hM6 hL9 (fun w' hM' => w_umbralaw27_works  w') (by kernel_rfl) (fun _ => by kernel_rfl) (fun r109 h110 => ?_))
            have HR := hr_pos HR c108
            have HR := hr_lt HR h110
            cases r109
            · refine F_val (.bool false) (fun _ => by kernel_rfl) (F_val (.bool false) (fun _ => by kernel_rfl) (F_nil hM6 hL9 (fun w111 hM112 => S_nil (?_))))
              have HR := hr_neg HR Bool.false_ne_true
              refine R_ret hM112 rfl (.cons (.tmp _ (.bool false) (by kernel_rfl)) .nil) rfl ?_
              exact ⟨congrArg Ending.returned HR, hM112.below⟩
            · refine F_val (.bool true) (fun _ => by kernel_rfl) (F_val (.bool true) (fun _ => by kernel_rfl) (F_nil hM6 hL9 (fun w113 hM114 => S_nil (?_))))
              have HR := hr_pos HR rfl
              refine R_ret hM114 rfl (.cons (.tmp _ (.bool true) (by kernel_rfl)) .nil) rfl ?_
              exact ⟨congrArg Ending.returned HR, hM114.below⟩
          · refine F_val (.bool false) (fun _ => by kernel_rfl) (F_skip (by kernel_rfl) (F_val (.bool false) (fun _ => by kernel_rfl) (F_val (.bool false) (fun _ => by kernel_rfl) (F_nil hM6 hL9 (fun w116 hM117 => S_nil (?_))))))
            have HR := hr_neg HR c108
            refine R_ret hM117 rfl (.cons (.tmp _ (.bool false) (by kernel_rfl)) .nil) rfl ?_
            exact ⟨congrArg Ending.returned HR, hM117.below⟩
  · cases b17
    · refine F_load 1 0 (.agg #[.int .i64 l.1, .int .i64 l.2.1.1, .int .i64 l.2.1.2.1, .int .i64 l.2.1.2.2, .int .i64 l.2.2.1.1, .int .i64 l.2.2.1.2.1, .int .i64 l.2.2.1.2.2, .int .i64 l.2.2.2.1.1, .int .i64 l.2.2.2.1.2.1, .int .i64 l.2.2.2.1.2.2, .int .i64 l.2.2.2.2.1, .int .i64 l.2.2.2.2.2.1, .int .i64 l.2.2.2.2.2.2]) hM6 (by kernel_rfl) (F_val (.pointer (some ⟨g4, 0, none⟩)) (fun _ => by kernel_rfl) (F_load 0 0 (.agg #[.int .i64 a.1.1, .int .i64 a.1.2.1, .int .i64 a.1.2.2]) hM6 (by kernel_rfl) (F_val (.pointer (some ⟨g4, 3, none⟩)) (fun _ => by kernel_rfl) (F_load 0 3 (.agg #[.int .i64 a.2.1.1, .int .i64 a.2.1.2.1, .int .i64 a.2.1.2.2]) hM6 (by kernel_rfl) (F_val (.pointer (some ⟨g4, 6, none⟩)) (fun _ => by kernel_rfl) (F_load 0 6 (.agg #[.int .u32 a.2.2.1, .int .u32 a.2.2.2]) hM6 (by kernel_rfl) (F_call (s_umbraref27_Sample l a.1 a.2.1 a.2.2) (fun r : (Int × Int × Int) × Bool × Bool × (Int × Int × Int) => .agg #[.int .i64 r.1.1, .int .i64 r.1.2.1, .int .i64 r.1.2.2, .bool r.2.1, .bool r.2.2.1, .int .i64 r.2.2.2.1, .int .i64 r.2.2.2.2.1, .int .i64 r.2.2.2.2.2]) hM6 hL9 (fun w' hM' => w_umbraref27_Sample l a.1 a.2.1 a.2.2 h_l h_a.1 h_a.2.1 h_a.2.2 w') (by kernel_rfl) (fun _ => by kernel_rfl) (fun r121 h122 => ?_))))))))
      have HR := hr_pos HR rfl
      have HR := hr_neg HR Bool.false_ne_true
      have HR := hr_lt HR h122
      obtain ⟨r123, b127, b128, r126⟩ := r121
      cases b127
      · cases b128
        · have HR := hr_neg HR Bool.false_ne_true
          have HR := hr_neg HR Bool.false_ne_true
          refine F_dec (((r12, true, false, r15) : (Int × Int × Int) × Bool × Bool × (Int × Int × Int)) = (r123, false, false, r126)) (fun _ => eqv_umbra_api_Lamp (x := (r12, true, false, r15)) (y := (r123, false, false, r126)) (by kernel_rfl) (by kernel_rfl) (by kernel_rfl)) (fun c129 => ?_) (fun c129 => ?_)
          · refine F_val (.bool true) (fun _ => by kernel_rfl) (F_call (s_umbralaw27_works ) (fun r : Bool => .bool r) hM6 hL9 (fun w' hM' => w_umbralaw27_works  w') (by kernel_rfl) (fun _ => by kernel_rfl) (fun r130 h131 => ?_))
            have HR := hr_pos HR c129
            have HR := hr_lt HR h131
            cases r130
            · refine F_val (.bool false) (fun _ => by kernel_rfl) (F_val (.bool false) (fun _ => by kernel_rfl) (F_nil hM6 hL9 (fun w132 hM133 => S_nil (?_))))
              have HR := hr_neg HR Bool.false_ne_true
              refine R_ret hM133 rfl (.cons (.tmp _ (.bool false) (by kernel_rfl)) .nil) rfl ?_
              exact ⟨congrArg Ending.returned HR, hM133.below⟩
            · refine F_val (.bool true) (fun _ => by kernel_rfl) (F_val (.bool true) (fun _ => by kernel_rfl) (F_nil hM6 hL9 (fun w134 hM135 => S_nil (?_))))
              have HR := hr_pos HR rfl
              refine R_ret hM135 rfl (.cons (.tmp _ (.bool true) (by kernel_rfl)) .nil) rfl ?_
              exact ⟨congrArg Ending.returned HR, hM135.below⟩
          · refine F_val (.bool false) (fun _ => by kernel_rfl) (F_skip (by kernel_rfl) (F_val (.bool false) (fun _ => by kernel_rfl) (F_val (.bool false) (fun _ => by kernel_rfl) (F_nil hM6 hL9 (fun w137 hM138 => S_nil (?_))))))
            have HR := hr_neg HR c129
            refine R_ret hM138 rfl (.cons (.tmp _ (.bool false) (by kernel_rfl)) .nil) rfl ?_
            exact ⟨congrArg Ending.returned HR, hM138.below⟩
        · have HR := hr_neg HR Bool.false_ne_true
          have HR := hr_pos HR rfl
          refine F_dec (((r12, true, false, r15) : (Int × Int × Int) × Bool × Bool × (Int × Int × Int)) = (r123, false, true, r126)) (fun _ => eqv_umbra_api_Lamp (x := (r12, true, false, r15)) (y := (r123, false, true, r126)) (by kernel_rfl) (by kernel_rfl) (by kernel_rfl)) (fun c139 => ?_) (fun c139 => ?_)
          · refine F_val (.bool true) (fun _ => by kernel_rfl) (F_call (s_umbralaw27_works ) (fun r : Bool => .bool r) hM6 hL9 (fun w' hM' => w_umbralaw27_works  w') (by kernel_rfl) (fun _ => by kernel_rfl) (fun r140 h141 => ?_))
            have HR := hr_pos HR c139
            have HR := hr_lt HR h141
            cases r140
            · refine F_val (.bool false) (fun _ => by kernel_rfl) (F_val (.bool false) (fun _ => by kernel_rfl) (F_nil hM6 hL9 (fun w142 hM143 => S_nil (?_))))
              have HR := hr_neg HR Bool.false_ne_true
              refine R_ret hM143 rfl (.cons (.tmp _ (.bool false) (by kernel_rfl)) .nil) rfl ?_
              exact ⟨congrArg Ending.returned HR, hM143.below⟩
            · refine F_val (.bool true) (fun _ => by kernel_rfl) (F_val (.bool true) (fun _ => by kernel_rfl) (F_nil hM6 hL9 (fun w144 hM145 => S_nil (?_))))
              have HR := hr_pos HR rfl
              refine R_ret hM145 rfl (.cons (.tmp _ (.bool true) (by kernel_rfl)) .nil) rfl ?_
              exact ⟨congrArg Ending.returned HR, hM145.below⟩
          · refine F_val (.bool false) (fun _ => by kernel_rfl) (F_skip (by kernel_rfl) (F_val (.bool false) (fun _ => by kernel_rfl) (F_val (.bool false) (fun _ => by kernel_rfl) (F_nil hM6 hL9 (fun w147 hM148 => S_nil (?_))))))
            have HR := hr_neg HR c139
            refine R_ret hM148 rfl (.cons (.tmp _ (.bool false) (by kernel_rfl)) .nil) rfl ?_
            exact ⟨congrArg Ending.returned HR, hM148.below⟩
      · cases b128
        · have HR := hr_pos HR rfl
          have HR := hr_neg HR Bool.false_ne_true
          refine F_dec (((r12, true, false, r15) : (Int × Int × Int) × Bool × Bool × (Int × Int × Int)) = (r123, true, false, r126)) (fun _ => eqv_umbra_api_Lamp (x := (r12, true, false, r15)) (y := (r123, true, false, r126)) (by kernel_rfl) (by kernel_rfl) (by kernel_rfl)) (fun c150 => ?_) (fun c150 => ?_)
          · refine F_val (.bool true) (fun _ => by kernel_rfl) (F_call (s_umbralaw27_works ) (fun r : Bool => .bool r) hM6 hL9 (fun w' hM' => w_umbralaw27_works  w') (by kernel_rfl) (fun _ => by kernel_rfl) (fun r151 h152 => ?_))
            have HR := hr_pos HR c150
            have HR := hr_lt HR h152
            cases r151
            · refine F_val (.bool false) (fun _ => by kernel_rfl) (F_val (.bool false) (fun _ => by kernel_rfl) (F_nil hM6 hL9 (fun w153 hM154 => S_nil (?_))))
              have HR := hr_neg HR Bool.false_ne_true
              refine R_ret hM154 rfl (.cons (.tmp _ (.bool false) (by kernel_rfl)) .nil) rfl ?_
              exact ⟨congrArg Ending.returned HR, hM154.below⟩
            · refine F_val (.bool true) (fun _ => by kernel_rfl) (F_val (.bool true) (fun _ => by kernel_rfl) (F_nil hM6 hL9 (fun w155 hM156 => S_nil (?_))))
              have HR := hr_pos HR rfl
              refine R_ret hM156 rfl (.cons (.tmp _ (.bool true) (by kernel_rfl)) .nil) rfl ?_
              exact ⟨congrArg Ending.returned HR, hM156.below⟩
          · refine F_val (.bool false) (fun _ => by kernel_rfl) (F_skip (by kernel_rfl) (F_val (.bool false) (fun _ => by kernel_rfl) (F_val (.bool false) (fun _ => by kernel_rfl) (F_nil hM6 hL9 (fun w158 hM159 => S_nil (?_))))))
            have HR := hr_neg HR c150
            refine R_ret hM159 rfl (.cons (.tmp _ (.bool false) (by kernel_rfl)) .nil) rfl ?_
            exact ⟨congrArg Ending.returned HR, hM159.below⟩
        · have HR := hr_pos HR rfl
          have HR := hr_pos HR rfl
          refine F_dec (((r12, true, false, r15) : (Int × Int × Int) × Bool × Bool × (Int × Int × Int)) = (r123, true, true, r126)) (fun _ => eqv_umbra_api_Lamp (x := (r12, true, false, r15)) (y := (r123, true, true, r126)) (by kernel_rfl) (by kernel_rfl) (by kernel_rfl)) (fun c160 => ?_) (fun c160 => ?_)
          · refine F_val (.bool true) (fun _ => by kernel_rfl) (F_call (s_umbralaw27_works ) (fun r : Bool => .bool r) hM6 hL9 (fun w' hM' => w_umbralaw27_works  w') (by kernel_rfl) (fun _ => by kernel_rfl) (fun r161 h162 => ?_))
            have HR := hr_pos HR c160
            have HR := hr_lt HR h162
            cases r161
            · refine F_val (.bool false) (fun _ => by kernel_rfl) (F_val (.bool false) (fun _ => by kernel_rfl) (F_nil hM6 hL9 (fun w163 hM164 => S_nil (?_))))
              have HR := hr_neg HR Bool.false_ne_true
              refine R_ret hM164 rfl (.cons (.tmp _ (.bool false) (by kernel_rfl)) .nil) rfl ?_
              exact ⟨congrArg Ending.returned HR, hM164.below⟩
            · refine F_val (.bool true) (fun _ => by kernel_rfl) (F_val (.bool true) (fun _ => by kernel_rfl) (F_nil hM6 hL9 (fun w165 hM166 => S_nil (?_))))
              have HR := hr_pos HR rfl
              refine R_ret hM166 rfl (.cons (.tmp _ (.bool true) (by kernel_rfl)) .nil) rfl ?_
              exact ⟨congrArg Ending.returned HR, hM166.below⟩
          · refine F_val (.bool false) (fun _ => by kernel_rfl) (F_skip (by kernel_rfl) (F_val (.bool false) (fun _ => by kernel_rfl) (F_val (.bool false) (fun _ => by kernel_rfl) (F_nil hM6 hL9 (fun w168 hM169 => S_nil (?_))))))
            have HR := hr_neg HR c160
            refine R_ret hM169 rfl (.cons (.tmp _ (.bool false) (by kernel_rfl)) .nil) rfl ?_
            exact ⟨congrArg Ending.returned HR, hM169.below⟩
    · refine F_load 1 0 (.agg #[.int .i64 l.1, .int .i64 l.2.1.1, .int .i64 l.2.1.2.1, .int .i64 l.2.1.2.2, .int .i64 l.2.2.1.1, .int .i64 l.2.2.1.2.1, .int .i64 l.2.2.1.2.2, .int .i64 l.2.2.2.1.1, .int .i64 l.2.2.2.1.2.1, .int .i64 l.2.2.2.1.2.2, .int .i64 l.2.2.2.2.1, .int .i64 l.2.2.2.2.2.1, .int .i64 l.2.2.2.2.2.2]) hM6 (by kernel_rfl) (F_val (.pointer (some ⟨g4, 0, none⟩)) (fun _ => by kernel_rfl) (F_load 0 0 (.agg #[.int .i64 a.1.1, .int .i64 a.1.2.1, .int .i64 a.1.2.2]) hM6 (by kernel_rfl) (F_val (.pointer (some ⟨g4, 3, none⟩)) (fun _ => by kernel_rfl) (F_load 0 3 (.agg #[.int .i64 a.2.1.1, .int .i64 a.2.1.2.1, .int .i64 a.2.1.2.2]) hM6 (by kernel_rfl) (F_val (.pointer (some ⟨g4, 6, none⟩)) (fun _ => by kernel_rfl) (F_load 0 6 (.agg #[.int .u32 a.2.2.1, .int .u32 a.2.2.2]) hM6 (by kernel_rfl) (F_call (s_umbraref27_Sample l a.1 a.2.1 a.2.2) (fun r : (Int × Int × Int) × Bool × Bool × (Int × Int × Int) => .agg #[.int .i64 r.1.1, .int .i64 r.1.2.1, .int .i64 r.1.2.2, .bool r.2.1, .bool r.2.2.1, .int .i64 r.2.2.2.1, .int .i64 r.2.2.2.2.1, .int .i64 r.2.2.2.2.2]) hM6 hL9 (fun w' hM' => w_umbraref27_Sample l a.1 a.2.1 a.2.2 h_l h_a.1 h_a.2.1 h_a.2.2 w') (by kernel_rfl) (fun _ => by kernel_rfl) (fun r172 h173 => ?_))))))))
      have HR := hr_pos HR rfl
      have HR := hr_pos HR rfl
      have HR := hr_lt HR h173
      obtain ⟨r174, b178, b179, r177⟩ := r172
      cases b178
      · cases b179
        · have HR := hr_neg HR Bool.false_ne_true
          have HR := hr_neg HR Bool.false_ne_true
          refine F_dec (((r12, true, true, r15) : (Int × Int × Int) × Bool × Bool × (Int × Int × Int)) = (r174, false, false, r177)) (fun _ => eqv_umbra_api_Lamp (x := (r12, true, true, r15)) (y := (r174, false, false, r177)) (by kernel_rfl) (by kernel_rfl) (by kernel_rfl)) (fun c180 => ?_) (fun c180 => ?_)
          · refine F_val (.bool true) (fun _ => by kernel_rfl) (F_call (s_umbralaw27_works ) (fun r : Bool => .bool r) hM6 hL9 (fun w' hM' => w_umbralaw27_works  w') (by kernel_rfl) (fun _ => by kernel_rfl) (fun r181 h182 => ?_))
            have HR := hr_pos HR c180
            have HR := hr_lt HR h182
            cases r181
            · refine F_val (.bool false) (fun _ => by kernel_rfl) (F_val (.bool false) (fun _ => by kernel_rfl) (F_nil hM6 hL9 (fun w183 hM184 => S_nil (?_))))
              have HR := hr_neg HR Bool.false_ne_true
              refine R_ret hM184 rfl (.cons (.tmp _ (.bool false) (by kernel_rfl)) .nil) rfl ?_
              exact ⟨congrArg Ending.returned HR, hM184.below⟩
            · refine F_val (.bool true) (fun _ => by kernel_rfl) (F_val (.bool true) (fun _ => by kernel_rfl) (F_nil hM6 hL9 (fun w185 hM186 => S_nil (?_))))
              have HR := hr_pos HR rfl
              refine R_ret hM186 rfl (.cons (.tmp _ (.bool true) (by kernel_rfl)) .nil) rfl ?_
              exact ⟨congrArg Ending.returned HR, hM186.below⟩
          · refine F_val (.bool false) (fun _ => by kernel_rfl) (F_skip (by kernel_rfl) (F_val (.bool false) (fun _ => by kernel_rfl) (F_val (.bool false) (fun _ => by kernel_rfl) (F_nil hM6 hL9 (fun w188 hM189 => S_nil (?_))))))
            have HR := hr_neg HR c180
            refine R_ret hM189 rfl (.cons (.tmp _ (.bool false) (by kernel_rfl)) .nil) rfl ?_
            exact ⟨congrArg Ending.returned HR, hM189.below⟩
        · have HR := hr_neg HR Bool.false_ne_true
          have HR := hr_pos HR rfl
          refine F_dec (((r12, true, true, r15) : (Int × Int × Int) × Bool × Bool × (Int × Int × Int)) = (r174, false, true, r177)) (fun _ => eqv_umbra_api_Lamp (x := (r12, true, true, r15)) (y := (r174, false, true, r177)) (by kernel_rfl) (by kernel_rfl) (by kernel_rfl)) (fun c190 => ?_) (fun c190 => ?_)
          · refine F_val (.bool true) (fun _ => by kernel_rfl) (F_call (s_umbralaw27_works ) (fun r : Bool => .bool r) hM6 hL9 (fun w' hM' => w_umbralaw27_works  w') (by kernel_rfl) (fun _ => by kernel_rfl) (fun r191 h192 => ?_))
            have HR := hr_pos HR c190
            have HR := hr_lt HR h192
            cases r191
            · refine F_val (.bool false) (fun _ => by kernel_rfl) (F_val (.bool false) (fun _ => by kernel_rfl) (F_nil hM6 hL9 (fun w193 hM194 => S_nil (?_))))
              have HR := hr_neg HR Bool.false_ne_true
              refine R_ret hM194 rfl (.cons (.tmp _ (.bool false) (by kernel_rfl)) .nil) rfl ?_
              exact ⟨congrArg Ending.returned HR, hM194.below⟩
            · refine F_val (.bool true) (fun _ => by kernel_rfl) (F_val (.bool true) (fun _ => by kernel_rfl) (F_nil hM6 hL9 (fun w195 hM196 => S_nil (?_))))
              have HR := hr_pos HR rfl
              refine R_ret hM196 rfl (.cons (.tmp _ (.bool true) (by kernel_rfl)) .nil) rfl ?_
              exact ⟨congrArg Ending.returned HR, hM196.below⟩
          · refine F_val (.bool false) (fun _ => by kernel_rfl) (F_skip (by kernel_rfl) (F_val (.bool false) (fun _ => by kernel_rfl) (F_val (.bool false) (fun _ => by kernel_rfl) (F_nil hM6 hL9 (fun w198 hM199 => S_nil (?_))))))
            have HR := hr_neg HR c190
            refine R_ret hM199 rfl (.cons (.tmp _ (.bool false) (by kernel_rfl)) .nil) rfl ?_
            exact ⟨congrArg Ending.returned HR, hM199.below⟩
      · cases b179
        · have HR := hr_pos HR rfl
          have HR := hr_neg HR Bool.false_ne_true
          refine F_dec (((r12, true, true, r15) : (Int × Int × Int) × Bool × Bool × (Int × Int × Int)) = (r174, true, false, r177)) (fun _ => eqv_umbra_api_Lamp (x := (r12, true, true, r15)) (y := (r174, true, false, r177)) (by kernel_rfl) (by kernel_rfl) (by kernel_rfl)) (fun c201 => ?_) (fun c201 => ?_)
          · refine F_val (.bool true) (fun _ => by kernel_rfl) (F_call (s_umbralaw27_works ) (fun r : Bool => .bool r) hM6 hL9 (fun w' hM' => w_umbralaw27_works  w') (by kernel_rfl) (fun _ => by kernel_rfl) (fun r202 h203 => ?_))
            have HR := hr_pos HR c201
            have HR := hr_lt HR h203
            cases r202
            · refine F_val (.bool false) (fun _ => by kernel_rfl) (F_val (.bool false) (fun _ => by kernel_rfl) (F_nil hM6 hL9 (fun w204 hM205 => S_nil (?_))))
              have HR := hr_neg HR Bool.false_ne_true
              refine R_ret hM205 rfl (.cons (.tmp _ (.bool false) (by kernel_rfl)) .nil) rfl ?_
              exact ⟨congrArg Ending.returned HR, hM205.below⟩
            · refine F_val (.bool true) (fun _ => by kernel_rfl) (F_val (.bool true) (fun _ => by kernel_rfl) (F_nil hM6 hL9 (fun w206 hM207 => S_nil (?_))))
              have HR := hr_pos HR rfl
              refine R_ret hM207 rfl (.cons (.tmp _ (.bool true) (by kernel_rfl)) .nil) rfl ?_
              exact ⟨congrArg Ending.returned HR, hM207.below⟩
          · refine F_val (.bool false) (fun _ => by kernel_rfl) (F_skip (by kernel_rfl) (F_val (.bool false) (fun _ => by kernel_rfl) (F_val (.bool false) (fun _ => by kernel_rfl) (F_nil hM6 hL9 (fun w209 hM210 => S_nil (?_))))))
            have HR := hr_neg HR c201
            refine R_ret hM210 rfl (.cons (.tmp _ (.bool false) (by kernel_rfl)) .nil) rfl ?_
            exact ⟨congrArg Ending.returned HR, hM210.below⟩
        · have HR := hr_pos HR rfl
          have HR := hr_pos HR rfl
          refine F_dec (((r12, true, true, r15) : (Int × Int × Int) × Bool × Bool × (Int × Int × Int)) = (r174, true, true, r177)) (fun _ => eqv_umbra_api_Lamp (x := (r12, true, true, r15)) (y := (r174, true, true, r177)) (by kernel_rfl) (by kernel_rfl) (by kernel_rfl)) (fun c211 => ?_) (fun c211 => ?_)
          · refine F_val (.bool true) (fun _ => by kernel_rfl) (F_call (s_umbralaw27_works ) (fun r : Bool => .bool r) hM6 hL9 (fun w' hM' => w_umbralaw27_works  w') (by kernel_rfl) (fun _ => by kernel_rfl) (fun r212 h213 => ?_))
            have HR := hr_pos HR c211
            have HR := hr_lt HR h213
            cases r212
            · refine F_val (.bool false) (fun _ => by kernel_rfl) (F_val (.bool false) (fun _ => by kernel_rfl) (F_nil hM6 hL9 (fun w214 hM215 => S_nil (?_))))
              have HR := hr_neg HR Bool.false_ne_true
              refine R_ret hM215 rfl (.cons (.tmp _ (.bool false) (by kernel_rfl)) .nil) rfl ?_
              exact ⟨congrArg Ending.returned HR, hM215.below⟩
            · refine F_val (.bool true) (fun _ => by kernel_rfl) (F_val (.bool true) (fun _ => by kernel_rfl) (F_nil hM6 hL9 (fun w216 hM217 => S_nil (?_))))
              have HR := hr_pos HR rfl
              refine R_ret hM217 rfl (.cons (.tmp _ (.bool true) (by kernel_rfl)) .nil) rfl ?_
              exact ⟨congrArg Ending.returned HR, hM217.below⟩
          · refine F_val (.bool false) (fun _ => by kernel_rfl) (F_skip (by kernel_rfl) (F_val (.bool false) (fun _ => by kernel_rfl) (F_val (.bool false) (fun _ => by kernel_rfl) (F_nil hM6 hL9 (fun w219 hM220 => S_nil (?_))))))
            have HR := hr_neg HR c211
            refine R_ret hM220 rfl (.cons (.tmp _ (.bool false) (by kernel_rfl)) .nil) rfl ?_
            exact ⟨congrArg Ending.returned HR, hM220.below⟩

def e_umbralaw27_LampArea (r : Bool) : Value := .bool r
def s_umbralaw27_LampArea (l : Int × (Int × Int × Int) × (Int × Int × Int) × (Int × Int × Int) × (Int × Int × Int)) (draw : Int × Int) : Bool :=
  lt (s_asset_Light (1, l.2.1, l.2.2.1, l.2.2.2.1, l.2.2.2.2)) fun r9 =>
  if r9 = 0 then
    lt (s_lamp_Point (1, l.2.1, l.2.2.1, l.2.2.2.1, l.2.2.2.2) draw) fun r19 =>
    lt (gmin l.2.2.2.1.1 0) fun x36 =>
    lt (IntKind.i64.wrap (l.2.2.1.1 + x36)) fun x38 =>
    lt (gmin l.2.2.2.2.1 0) fun x40 =>
    lt (IntKind.i64.wrap (x38 + x40)) fun x42 =>
    if r19.1 < x42 then
      false
    else
      lt (gmax l.2.2.2.1.1 0) fun x45 =>
      lt (IntKind.i64.wrap (l.2.2.1.1 + x45)) fun x47 =>
      lt (gmax l.2.2.2.2.1 0) fun x49 =>
      lt (IntKind.i64.wrap (x47 + x49)) fun x51 =>
      if r19.1 > x51 then
        false
      else
        lt (gmin l.2.2.2.1.2.1 0) fun x59 =>
        lt (IntKind.i64.wrap (l.2.2.1.2.1 + x59)) fun x61 =>
        lt (gmin l.2.2.2.2.2.1 0) fun x63 =>
        lt (IntKind.i64.wrap (x61 + x63)) fun x65 =>
        if r19.2.1 < x65 then
          false
        else
          lt (gmax l.2.2.2.1.2.1 0) fun x68 =>
          lt (IntKind.i64.wrap (l.2.2.1.2.1 + x68)) fun x70 =>
          lt (gmax l.2.2.2.2.2.1 0) fun x72 =>
          lt (IntKind.i64.wrap (x70 + x72)) fun x74 =>
          if r19.2.1 > x74 then
            false
          else
            lt (gmin l.2.2.2.1.2.2 0) fun x82 =>
            lt (IntKind.i64.wrap (l.2.2.1.2.2 + x82)) fun x84 =>
            lt (gmin l.2.2.2.2.2.2 0) fun x86 =>
            lt (IntKind.i64.wrap (x84 + x86)) fun x88 =>
            if r19.2.2 < x88 then
              false
            else
              lt (gmax l.2.2.2.1.2.2 0) fun x91 =>
              lt (IntKind.i64.wrap (l.2.2.1.2.2 + x91)) fun x93 =>
              lt (gmax l.2.2.2.2.2.2 0) fun x95 =>
              lt (IntKind.i64.wrap (x93 + x95)) fun x97 =>
              if r19.2.2 > x97 then
                false
              else
                lt (s_lamp_Point (1, l.2.1, l.2.2.1, l.2.2.2.1, l.2.2.2.2) (0, 0)) fun r103 =>
                if (r103 : Int × Int × Int) = l.2.2.1 then
                  lt (s_umbralaw27_works ) fun r106 =>
                  if r106 = true then
                    true
                  else
                    false
                else
                  false
  else
    lt (s_umbralaw27_works ) fun r14 =>
    if r14 = true then
      true
    else
      false
set_option maxRecDepth 100000 in
set_option maxHeartbeats 4000000 in
theorem w_umbralaw27_LampArea (l : Int × (Int × Int × Int) × (Int × Int × Int) × (Int × Int × Int) × (Int × Int × Int)) (draw : Int × Int) (h_l : (InI l.1 ∧ InV l.2.1 ∧ InV l.2.2.1 ∧ InV l.2.2.2.1 ∧ InV l.2.2.2.2)) (h_draw : (InU32 draw.1 ∧ InU32 draw.2)) (w : World) : Calls Try.prog 11 #[.agg #[.int .i64 l.1, .int .i64 l.2.1.1, .int .i64 l.2.1.2.1, .int .i64 l.2.1.2.2, .int .i64 l.2.2.1.1, .int .i64 l.2.2.1.2.1, .int .i64 l.2.2.1.2.2, .int .i64 l.2.2.2.1.1, .int .i64 l.2.2.2.1.2.1, .int .i64 l.2.2.2.1.2.2, .int .i64 l.2.2.2.2.1, .int .i64 l.2.2.2.2.2.1, .int .i64 l.2.2.2.2.2.2], .agg #[.int .u32 draw.1, .int .u32 draw.2]] w (Ret (e_umbralaw27_LampArea (s_umbralaw27_LampArea l draw)) w) := by
  obtain ⟨R, HR⟩ : ∃ R, e_umbralaw27_LampArea (s_umbralaw27_LampArea l draw) = R := ⟨_, rfl⟩
  rw [HR]
  unfold s_umbralaw27_LampArea at HR
  have hM0 := St.start w
  refine calls_run Try.func11 rfl ?_
  refine R_seq (R_region (S_fresh none #[.int .i64 l.1, .int .i64 l.2.1.1, .int .i64 l.2.1.2.1, .int .i64 l.2.1.2.2, .int .i64 l.2.2.1.1, .int .i64 l.2.2.1.2.1, .int .i64 l.2.2.1.2.2, .int .i64 l.2.2.2.1.1, .int .i64 l.2.2.2.1.2.1, .int .i64 l.2.2.2.1.2.2, .int .i64 l.2.2.2.2.1, .int .i64 l.2.2.2.2.2.1, .int .i64 l.2.2.2.2.2.2] 58 hM0 (by kernel_rfl) (fun g1 w2 hM3 => S_fresh none #[.int .u32 draw.1, .int .u32 draw.2] 49 hM3 (by kernel_rfl) (fun g4 w5 hM6 => S_val (.bool false) (by kernel_rfl) (S_nil (R_seq (R_region (S_val (.pointer (some ⟨g1, 0, none⟩)) (by kernel_rfl) (S_store 1 0 #[.int .i64 1, .int .i64 l.2.1.1, .int .i64 l.2.1.2.1, .int .i64 l.2.1.2.2, .int .i64 l.2.2.1.1, .int .i64 l.2.2.1.2.1, .int .i64 l.2.2.1.2.2, .int .i64 l.2.2.2.1.1, .int .i64 l.2.2.2.1.2.1, .int .i64 l.2.2.2.1.2.2, .int .i64 l.2.2.2.2.1, .int .i64 l.2.2.2.2.2.1, .int .i64 l.2.2.2.2.2.2] hM6 (by kernel_rfl) (fun w7 hM8 => S_nil (R_seq (?_))))))))))))
  refine R_seq (R_region (S_load 1 0 (.agg #[.int .i64 1, .int .i64 l.2.1.1, .int .i64 l.2.1.2.1, .int .i64 l.2.1.2.2, .int .i64 l.2.2.1.1, .int .i64 l.2.2.1.2.1, .int .i64 l.2.2.1.2.2, .int .i64 l.2.2.2.1.1, .int .i64 l.2.2.2.1.2.1, .int .i64 l.2.2.2.1.2.2, .int .i64 l.2.2.2.2.1, .int .i64 l.2.2.2.2.2.1, .int .i64 l.2.2.2.2.2.2]) hM8 (by kernel_rfl) (S_call (s_asset_Light (1, l.2.1, l.2.2.1, l.2.2.2.1, l.2.2.2.2)) (fun r : Int => .int .i64 r) hM8 (w_asset_Light (1, l.2.1, l.2.2.1, l.2.2.2.1, l.2.2.2.2) (⟨(show InI 1 from by unfold InI; omega), h_l.2.1, h_l.2.2.1, h_l.2.2.2.1, h_l.2.2.2.2⟩) w7) (by kernel_rfl) (fun r9 h10 w11 hM12 => ?_))))
  have HR := hr_lt HR h10
  refine S_decn (r9 = 0) (by kernel_rfl) (fun c13 => ?_) (fun c13 => ?_)
  · refine S_nil (R_yes (by kernel_rfl) (R_seq (R_region (S_call (s_umbralaw27_works ) (fun r : Bool => .bool r) hM12 (w_umbralaw27_works  w11) (by kernel_rfl) (fun r14 h15 w16 hM17 => ?_)))))
    have HR := hr_neg HR c13
    have HR := hr_lt HR h15
    cases r14
    · refine S_val (.bool false) (by kernel_rfl) (S_nil (?_))
      have HR := hr_neg HR Bool.false_ne_true
      refine R_ret hM17 rfl (.cons (.tmp _ (.bool false) (by kernel_rfl)) .nil) rfl ?_
      exact ⟨congrArg Ending.returned HR, hM17.below⟩
    · refine S_val (.bool true) (by kernel_rfl) (S_nil (?_))
      have HR := hr_pos HR rfl
      refine R_ret hM17 rfl (.cons (.tmp _ (.bool true) (by kernel_rfl)) .nil) rfl ?_
      exact ⟨congrArg Ending.returned HR, hM17.below⟩
  · refine S_nil (R_no (by kernel_rfl) (R_skip (R_seq (R_region (S_load 1 0 (.agg #[.int .i64 1, .int .i64 l.2.1.1, .int .i64 l.2.1.2.1, .int .i64 l.2.1.2.2, .int .i64 l.2.2.1.1, .int .i64 l.2.2.1.2.1, .int .i64 l.2.2.1.2.2, .int .i64 l.2.2.2.1.1, .int .i64 l.2.2.2.1.2.1, .int .i64 l.2.2.2.1.2.2, .int .i64 l.2.2.2.2.1, .int .i64 l.2.2.2.2.2.1, .int .i64 l.2.2.2.2.2.2]) hM12 (by kernel_rfl) (S_load 0 0 (.agg #[.int .u32 draw.1, .int .u32 draw.2]) hM12 (by kernel_rfl) (S_call (s_lamp_Point (1, l.2.1, l.2.2.1, l.2.2.2.1, l.2.2.2.2) draw) (fun r : Int × Int × Int => .agg #[.int .i64 r.1, .int .i64 r.2.1, .int .i64 r.2.2]) hM12 (w_lamp_Point (1, l.2.1, l.2.2.1, l.2.2.2.1, l.2.2.2.2) draw (⟨(show InI 1 from by unfold InI; omega), h_l.2.1, h_l.2.2.1, h_l.2.2.2.1, h_l.2.2.2.2⟩) h_draw w11) (by kernel_rfl) (fun r19 h20 w21 hM22 => S_fresh none #[.int .i64 0, .int .i64 0, .int .i64 0] 23 hM22 (by kernel_rfl) (fun g23 w24 hM25 => S_store 0 0 #[.int .i64 r19.1, .int .i64 r19.2.1, .int .i64 r19.2.2] hM25 (by kernel_rfl) (fun w26 hM27 => S_nil (R_seq (?_))))))))))))
    have HR := hr_pos HR c13
    have HR := hr_lt HR h20
    refine R_seq (R_region (S_val (.pointer (some ⟨g23, 0, none⟩)) (by kernel_rfl) (S_load 0 0 (.int .i64 r19.1) hM27 (by kernel_rfl) (S_val (.pointer (some ⟨g1, 4, none⟩)) (by kernel_rfl) (S_val (.pointer (some ⟨g1, 4, none⟩)) (by kernel_rfl) (S_load 2 4 (.int .i64 l.2.2.1.1) hM27 (by kernel_rfl) (S_val (.pointer (some ⟨g1, 7, none⟩)) (by kernel_rfl) (S_val (.pointer (some ⟨g1, 7, none⟩)) (by kernel_rfl) (S_load 2 7 (.int .i64 l.2.2.2.1.1) hM27 (by kernel_rfl) (S_val (.pointer (some ⟨g1, 10, none⟩)) (by kernel_rfl) (S_val (.pointer (some ⟨g1, 10, none⟩)) (by kernel_rfl) (?_))))))))))))
    refine S_load 2 10 (.int .i64 l.2.2.2.2.1) hM27 (by kernel_rfl) (S_val (.agg #[.int .i64 r19.1, .int .i64 l.2.2.1.1, .int .i64 l.2.2.2.1.1, .int .i64 l.2.2.2.2.1]) (by kernel_rfl) (S_val (.pointer (some ⟨g23, 1, none⟩)) (by kernel_rfl) (S_load 0 1 (.int .i64 r19.2.1) hM27 (by kernel_rfl) (S_val (.pointer (some ⟨g1, 4, none⟩)) (by kernel_rfl) (S_val (.pointer (some ⟨g1, 5, none⟩)) (by kernel_rfl) (S_load 2 5 (.int .i64 l.2.2.1.2.1) hM27 (by kernel_rfl) (S_val (.pointer (some ⟨g1, 7, none⟩)) (by kernel_rfl) (S_val (.pointer (some ⟨g1, 8, none⟩)) (by kernel_rfl) (S_load 2 8 (.int .i64 l.2.2.2.1.2.1) hM27 (by kernel_rfl) (S_val (.pointer (some ⟨g1, 10, none⟩)) (by kernel_rfl) (S_val (.pointer (some ⟨g1, 11, none⟩)) (by kernel_rfl) (?_))))))))))))
    refine S_load 2 11 (.int .i64 l.2.2.2.2.2.1) hM27 (by kernel_rfl) (S_val (.agg #[.int .i64 r19.2.1, .int .i64 l.2.2.1.2.1, .int .i64 l.2.2.2.1.2.1, .int .i64 l.2.2.2.2.2.1]) (by kernel_rfl) (S_val (.pointer (some ⟨g23, 2, none⟩)) (by kernel_rfl) (S_load 0 2 (.int .i64 r19.2.2) hM27 (by kernel_rfl) (S_val (.pointer (some ⟨g1, 4, none⟩)) (by kernel_rfl) (S_val (.pointer (some ⟨g1, 6, none⟩)) (by kernel_rfl) (S_load 2 6 (.int .i64 l.2.2.1.2.2) hM27 (by kernel_rfl) (S_val (.pointer (some ⟨g1, 7, none⟩)) (by kernel_rfl) (S_val (.pointer (some ⟨g1, 9, none⟩)) (by kernel_rfl) (S_load 2 9 (.int .i64 l.2.2.2.1.2.2) hM27 (by kernel_rfl) (S_val (.pointer (some ⟨g1, 10, none⟩)) (by kernel_rfl) (S_val (.pointer (some ⟨g1, 12, none⟩)) (by kernel_rfl) (?_))))))))))))
    refine S_load 2 12 (.int .i64 l.2.2.2.2.2.2) hM27 (by kernel_rfl) (S_val (.agg #[.int .i64 r19.2.2, .int .i64 l.2.2.1.2.2, .int .i64 l.2.2.2.1.2.2, .int .i64 l.2.2.2.2.2.2]) (by kernel_rfl) (S_fresh (some 3) #[.int .i64 r19.1, .int .i64 l.2.2.1.1, .int .i64 l.2.2.2.1.1, .int .i64 l.2.2.2.2.1, .int .i64 r19.2.1, .int .i64 l.2.2.1.2.1, .int .i64 l.2.2.2.1.2.1, .int .i64 l.2.2.2.2.2.1, .int .i64 r19.2.2, .int .i64 l.2.2.1.2.2, .int .i64 l.2.2.2.1.2.2, .int .i64 l.2.2.2.2.2.2] 69 hM27 (by kernel_rfl) (fun g28 w29 hM30 => S_val (.int .i64 3) (by kernel_rfl) (S_val (.int .i64 0) (by kernel_rfl) (S_nil (R_block (R_loop (R_seq (R_region (S_val (.bool true) (by kernel_rfl) (S_nil (?_))))))))))))
    refine R_seq (R_yes (by kernel_rfl) (R_skip (R_seq (R_block (R_seq (R_region (S_val (.pointer (some ⟨g28, 0, none⟩)) (by kernel_rfl) (S_load 0 0 (.agg #[.int .i64 r19.1, .int .i64 l.2.2.1.1, .int .i64 l.2.2.2.1.1, .int .i64 l.2.2.2.2.1]) hM30 (by kernel_rfl) (S_fresh none #[.int .i64 0, .int .i64 0, .int .i64 0, .int .i64 0] 69 hM30 (by kernel_rfl) (fun g31 w32 hM33 => S_store 0 0 #[.int .i64 r19.1, .int .i64 l.2.2.1.1, .int .i64 l.2.2.2.1.1, .int .i64 l.2.2.2.2.1] hM33 (by kernel_rfl) (fun w34 hM35 => S_nil (?_))))))))))))
    refine R_seq (R_region (S_val (.pointer (some ⟨g31, 0, none⟩)) (by kernel_rfl) (S_load 0 0 (.int .i64 r19.1) hM35 (by kernel_rfl) (S_val (.pointer (some ⟨g31, 1, none⟩)) (by kernel_rfl) (S_load 0 1 (.int .i64 l.2.2.1.1) hM35 (by kernel_rfl) (S_val (.pointer (some ⟨g31, 2, none⟩)) (by kernel_rfl) (S_load 0 2 (.int .i64 l.2.2.2.1.1) hM35 (by kernel_rfl) (S_int (gmin l.2.2.2.1.1 0) .i64 (by kernel_rfl) (fun x36 h37 => S_int (IntKind.i64.wrap (l.2.2.1.1 + x36)) .i64 (by kernel_rfl) (fun x38 h39 => S_val (.pointer (some ⟨g31, 3, none⟩)) (by kernel_rfl) (S_load 0 3 (.int .i64 l.2.2.2.2.1) hM35 (by kernel_rfl) (?_))))))))))))
    have HR := hr_lt HR h37
    have HR := hr_lt HR h39
    refine S_int (gmin l.2.2.2.2.1 0) .i64 (by kernel_rfl) (fun x40 h41 => S_int (IntKind.i64.wrap (x38 + x40)) .i64 (by kernel_rfl) (fun x42 h43 => ?_))
    have HR := hr_lt HR h41
    have HR := hr_lt HR h43
    refine S_dec (r19.1 < x42) (by kernel_rfl) (fun c44 => ?_) (fun c44 => ?_)
    · refine S_val (.bool true) (by kernel_rfl) (S_skip (by kernel_rfl) (S_skip (by kernel_rfl) (S_skip (by kernel_rfl) (S_skip (by kernel_rfl) (S_skip (by kernel_rfl) (S_skip (by kernel_rfl) (S_skip (by kernel_rfl) (S_skip (by kernel_rfl) (S_skip (by kernel_rfl) (S_skip (by kernel_rfl) (S_skip (by kernel_rfl) (?_))))))))))))
      have HR := hr_pos HR c44
      refine S_skip (by kernel_rfl) (S_skip (by kernel_rfl) (S_val (.bool true) (by kernel_rfl) (S_nil (R_yes (by kernel_rfl) (R_seq (R_region (S_val (.bool false) (by kernel_rfl) (S_nil (?_)))))))))
      refine R_ret hM35 rfl (.cons (.tmp _ (.bool false) (by kernel_rfl)) .nil) rfl ?_
      exact ⟨congrArg Ending.returned HR, hM35.below⟩
    · refine S_val (.bool false) (by kernel_rfl) (S_val (.pointer (some ⟨g31, 0, none⟩)) (by kernel_rfl) (S_load 0 0 (.int .i64 r19.1) hM35 (by kernel_rfl) (S_val (.pointer (some ⟨g31, 1, none⟩)) (by kernel_rfl) (S_load 0 1 (.int .i64 l.2.2.1.1) hM35 (by kernel_rfl) (S_val (.pointer (some ⟨g31, 2, none⟩)) (by kernel_rfl) (S_load 0 2 (.int .i64 l.2.2.2.1.1) hM35 (by kernel_rfl) (S_int (gmax l.2.2.2.1.1 0) .i64 (by kernel_rfl) (fun x45 h46 => S_int (IntKind.i64.wrap (l.2.2.1.1 + x45)) .i64 (by kernel_rfl) (fun x47 h48 => S_val (.pointer (some ⟨g31, 3, none⟩)) (by kernel_rfl) (S_load 0 3 (.int .i64 l.2.2.2.2.1) hM35 (by kernel_rfl) (S_int (gmax l.2.2.2.2.1 0) .i64 (by kernel_rfl) (fun x49 h50 => ?_))))))))))))
      have HR := hr_neg HR c44
      have HR := hr_lt HR h46
      have HR := hr_lt HR h48
      have HR := hr_lt HR h50
      refine S_int (IntKind.i64.wrap (x47 + x49)) .i64 (by kernel_rfl) (fun x51 h52 => ?_)
      have HR := hr_lt HR h52
      refine S_dec (r19.1 > x51) (by kernel_rfl) (fun c53 => ?_) (fun c53 => ?_)
      · refine S_val (.bool true) (by kernel_rfl) (S_nil (R_yes (by kernel_rfl) (R_seq (R_region (S_val (.bool false) (by kernel_rfl) (S_nil (?_)))))))
        have HR := hr_pos HR c53
        refine R_ret hM35 rfl (.cons (.tmp _ (.bool false) (by kernel_rfl)) .nil) rfl ?_
        exact ⟨congrArg Ending.returned HR, hM35.below⟩
      · refine S_val (.bool false) (by kernel_rfl) (S_nil (R_no (by kernel_rfl) (R_skip (R_inBlock (R_region (S_val (.int .i64 1) (by kernel_rfl) (S_val (.int .i64 1) (by kernel_rfl) (S_nil (R_inLoop (R_seq (R_region (?_))))))))))))
        have HR := hr_neg HR c53
        refine S_val (.bool true) (by kernel_rfl) (S_nil (R_seq (R_yes (by kernel_rfl) (R_skip (R_seq (R_block (R_seq (R_region (S_val (.pointer (some ⟨g28, 4, none⟩)) (by kernel_rfl) (S_load 1 4 (.agg #[.int .i64 r19.2.1, .int .i64 l.2.2.1.2.1, .int .i64 l.2.2.2.1.2.1, .int .i64 l.2.2.2.2.2.1]) hM35 (by kernel_rfl) (S_fresh none #[.int .i64 0, .int .i64 0, .int .i64 0, .int .i64 0] 69 hM35 (by kernel_rfl) (fun g54 w55 hM56 => ?_))))))))))))
        refine S_store 0 0 #[.int .i64 r19.2.1, .int .i64 l.2.2.1.2.1, .int .i64 l.2.2.2.1.2.1, .int .i64 l.2.2.2.2.2.1] hM56 (by kernel_rfl) (fun w57 hM58 => S_nil (R_seq (R_region (S_val (.pointer (some ⟨g54, 0, none⟩)) (by kernel_rfl) (S_load 0 0 (.int .i64 r19.2.1) hM58 (by kernel_rfl) (S_val (.pointer (some ⟨g54, 1, none⟩)) (by kernel_rfl) (S_load 0 1 (.int .i64 l.2.2.1.2.1) hM58 (by kernel_rfl) (S_val (.pointer (some ⟨g54, 2, none⟩)) (by kernel_rfl) (S_load 0 2 (.int .i64 l.2.2.2.1.2.1) hM58 (by kernel_rfl) (S_int (gmin l.2.2.2.1.2.1 0) .i64 (by kernel_rfl) (fun x59 h60 => S_int (IntKind.i64.wrap (l.2.2.1.2.1 + x59)) .i64 (by kernel_rfl) (fun x61 h62 => ?_))))))))))))
        have HR := hr_lt HR h60
        have HR := hr_lt HR h62
        refine S_val (.pointer (some ⟨g54, 3, none⟩)) (by kernel_rfl) (S_load 0 3 (.int .i64 l.2.2.2.2.2.1) hM58 (by kernel_rfl) (S_int (gmin l.2.2.2.2.2.1 0) .i64 (by kernel_rfl) (fun x63 h64 => S_int (IntKind.i64.wrap (x61 + x63)) .i64 (by kernel_rfl) (fun x65 h66 => ?_))))
        have HR := hr_lt HR h64
        have HR := hr_lt HR h66
        refine S_dec (r19.2.1 < x65) (by kernel_rfl) (fun c67 => ?_) (fun c67 => ?_)
        · refine S_val (.bool true) (by kernel_rfl) (S_skip (by kernel_rfl) (S_skip (by kernel_rfl) (S_skip (by kernel_rfl) (S_skip (by kernel_rfl) (S_skip (by kernel_rfl) (S_skip (by kernel_rfl) (S_skip (by kernel_rfl) (S_skip (by kernel_rfl) (S_skip (by kernel_rfl) (S_skip (by kernel_rfl) (S_skip (by kernel_rfl) (?_))))))))))))
          have HR := hr_pos HR c67
          refine S_skip (by kernel_rfl) (S_skip (by kernel_rfl) (S_val (.bool true) (by kernel_rfl) (S_nil (R_yes (by kernel_rfl) (R_seq (R_region (S_val (.bool false) (by kernel_rfl) (S_nil (?_)))))))))
          refine R_ret hM58 rfl (.cons (.tmp _ (.bool false) (by kernel_rfl)) .nil) rfl ?_
          exact ⟨congrArg Ending.returned HR, hM58.below⟩
        · refine S_val (.bool false) (by kernel_rfl) (S_val (.pointer (some ⟨g54, 0, none⟩)) (by kernel_rfl) (S_load 0 0 (.int .i64 r19.2.1) hM58 (by kernel_rfl) (S_val (.pointer (some ⟨g54, 1, none⟩)) (by kernel_rfl) (S_load 0 1 (.int .i64 l.2.2.1.2.1) hM58 (by kernel_rfl) (S_val (.pointer (some ⟨g54, 2, none⟩)) (by kernel_rfl) (S_load 0 2 (.int .i64 l.2.2.2.1.2.1) hM58 (by kernel_rfl) (S_int (gmax l.2.2.2.1.2.1 0) .i64 (by kernel_rfl) (fun x68 h69 => S_int (IntKind.i64.wrap (l.2.2.1.2.1 + x68)) .i64 (by kernel_rfl) (fun x70 h71 => S_val (.pointer (some ⟨g54, 3, none⟩)) (by kernel_rfl) (S_load 0 3 (.int .i64 l.2.2.2.2.2.1) hM58 (by kernel_rfl) (S_int (gmax l.2.2.2.2.2.1 0) .i64 (by kernel_rfl) (fun x72 h73 => ?_))))))))))))
          have HR := hr_neg HR c67
          have HR := hr_lt HR h69
          have HR := hr_lt HR h71
          have HR := hr_lt HR h73
          refine S_int (IntKind.i64.wrap (x70 + x72)) .i64 (by kernel_rfl) (fun x74 h75 => ?_)
          have HR := hr_lt HR h75
          refine S_dec (r19.2.1 > x74) (by kernel_rfl) (fun c76 => ?_) (fun c76 => ?_)
          · refine S_val (.bool true) (by kernel_rfl) (S_nil (R_yes (by kernel_rfl) (R_seq (R_region (S_val (.bool false) (by kernel_rfl) (S_nil (?_)))))))
            have HR := hr_pos HR c76
            refine R_ret hM58 rfl (.cons (.tmp _ (.bool false) (by kernel_rfl)) .nil) rfl ?_
            exact ⟨congrArg Ending.returned HR, hM58.below⟩
          · refine S_val (.bool false) (by kernel_rfl) (S_nil (R_no (by kernel_rfl) (R_skip (R_inBlock (R_region (S_val (.int .i64 2) (by kernel_rfl) (S_val (.int .i64 2) (by kernel_rfl) (S_nil (R_inLoop (R_seq (R_region (?_))))))))))))
            have HR := hr_neg HR c76
            refine S_val (.bool true) (by kernel_rfl) (S_nil (R_seq (R_yes (by kernel_rfl) (R_skip (R_seq (R_block (R_seq (R_region (S_val (.pointer (some ⟨g28, 8, none⟩)) (by kernel_rfl) (S_load 2 8 (.agg #[.int .i64 r19.2.2, .int .i64 l.2.2.1.2.2, .int .i64 l.2.2.2.1.2.2, .int .i64 l.2.2.2.2.2.2]) hM58 (by kernel_rfl) (S_fresh none #[.int .i64 0, .int .i64 0, .int .i64 0, .int .i64 0] 69 hM58 (by kernel_rfl) (fun g77 w78 hM79 => ?_))))))))))))
            refine S_store 0 0 #[.int .i64 r19.2.2, .int .i64 l.2.2.1.2.2, .int .i64 l.2.2.2.1.2.2, .int .i64 l.2.2.2.2.2.2] hM79 (by kernel_rfl) (fun w80 hM81 => S_nil (R_seq (R_region (S_val (.pointer (some ⟨g77, 0, none⟩)) (by kernel_rfl) (S_load 0 0 (.int .i64 r19.2.2) hM81 (by kernel_rfl) (S_val (.pointer (some ⟨g77, 1, none⟩)) (by kernel_rfl) (S_load 0 1 (.int .i64 l.2.2.1.2.2) hM81 (by kernel_rfl) (S_val (.pointer (some ⟨g77, 2, none⟩)) (by kernel_rfl) (S_load 0 2 (.int .i64 l.2.2.2.1.2.2) hM81 (by kernel_rfl) (S_int (gmin l.2.2.2.1.2.2 0) .i64 (by kernel_rfl) (fun x82 h83 => S_int (IntKind.i64.wrap (l.2.2.1.2.2 + x82)) .i64 (by kernel_rfl) (fun x84 h85 => ?_))))))))))))
            have HR := hr_lt HR h83
            have HR := hr_lt HR h85
            refine S_val (.pointer (some ⟨g77, 3, none⟩)) (by kernel_rfl) (S_load 0 3 (.int .i64 l.2.2.2.2.2.2) hM81 (by kernel_rfl) (S_int (gmin l.2.2.2.2.2.2 0) .i64 (by kernel_rfl) (fun x86 h87 => S_int (IntKind.i64.wrap (x84 + x86)) .i64 (by kernel_rfl) (fun x88 h89 => ?_))))
            have HR := hr_lt HR h87
            have HR := hr_lt HR h89
            refine S_dec (r19.2.2 < x88) (by kernel_rfl) (fun c90 => ?_) (fun c90 => ?_)
            · refine S_val (.bool true) (by kernel_rfl) (S_skip (by kernel_rfl) (S_skip (by kernel_rfl) (S_skip (by kernel_rfl) (S_skip (by kernel_rfl) (S_skip (by kernel_rfl) (S_skip (by kernel_rfl) (S_skip (by kernel_rfl) (S_skip (by kernel_rfl) (S_skip (by kernel_rfl) (S_skip (by kernel_rfl) (S_skip (by kernel_rfl) (?_))))))))))))
              have HR := hr_pos HR c90
              refine S_skip (by kernel_rfl) (S_skip (by kernel_rfl) (S_val (.bool true) (by kernel_rfl) (S_nil (R_yes (by kernel_rfl) (R_seq (R_region (S_val (.bool false) (by kernel_rfl) (S_nil (?_)))))))))
              refine R_ret hM81 rfl (.cons (.tmp _ (.bool false) (by kernel_rfl)) .nil) rfl ?_
              exact ⟨congrArg Ending.returned HR, hM81.below⟩
            · refine S_val (.bool false) (by kernel_rfl) (S_val (.pointer (some ⟨g77, 0, none⟩)) (by kernel_rfl) (S_load 0 0 (.int .i64 r19.2.2) hM81 (by kernel_rfl) (S_val (.pointer (some ⟨g77, 1, none⟩)) (by kernel_rfl) (S_load 0 1 (.int .i64 l.2.2.1.2.2) hM81 (by kernel_rfl) (S_val (.pointer (some ⟨g77, 2, none⟩)) (by kernel_rfl) (S_load 0 2 (.int .i64 l.2.2.2.1.2.2) hM81 (by kernel_rfl) (S_int (gmax l.2.2.2.1.2.2 0) .i64 (by kernel_rfl) (fun x91 h92 => S_int (IntKind.i64.wrap (l.2.2.1.2.2 + x91)) .i64 (by kernel_rfl) (fun x93 h94 => S_val (.pointer (some ⟨g77, 3, none⟩)) (by kernel_rfl) (S_load 0 3 (.int .i64 l.2.2.2.2.2.2) hM81 (by kernel_rfl) (S_int (gmax l.2.2.2.2.2.2 0) .i64 (by kernel_rfl) (fun x95 h96 => ?_))))))))))))
              have HR := hr_neg HR c90
              have HR := hr_lt HR h92
              have HR := hr_lt HR h94
              have HR := hr_lt HR h96
              refine S_int (IntKind.i64.wrap (x93 + x95)) .i64 (by kernel_rfl) (fun x97 h98 => ?_)
              have HR := hr_lt HR h98
              refine S_dec (r19.2.2 > x97) (by kernel_rfl) (fun c99 => ?_) (fun c99 => ?_)
              · refine S_val (.bool true) (by kernel_rfl) (S_nil (R_yes (by kernel_rfl) (R_seq (R_region (S_val (.bool false) (by kernel_rfl) (S_nil (?_)))))))
                have HR := hr_pos HR c99
                refine R_ret hM81 rfl (.cons (.tmp _ (.bool false) (by kernel_rfl)) .nil) rfl ?_
                exact ⟨congrArg Ending.returned HR, hM81.below⟩
              · refine S_val (.bool false) (by kernel_rfl) (S_nil (R_no (by kernel_rfl) (R_skip (R_inBlock (R_region (S_val (.int .i64 3) (by kernel_rfl) (S_val (.int .i64 3) (by kernel_rfl) (S_nil (R_inLoop (R_seq (R_region (?_))))))))))))
                have HR := hr_neg HR c99
                refine S_val (.bool false) (by kernel_rfl) (S_nil (R_seq (R_no (by kernel_rfl) (R_exit rfl (R_seq (R_drawF 10 (by kernel_rfl) (fun F100 U101 hL102 => F_load 6 0 (.agg #[.int .i64 1, .int .i64 l.2.1.1, .int .i64 l.2.1.2.1, .int .i64 l.2.1.2.2, .int .i64 l.2.2.1.1, .int .i64 l.2.2.1.2.1, .int .i64 l.2.2.1.2.2, .int .i64 l.2.2.2.1.1, .int .i64 l.2.2.2.1.2.1, .int .i64 l.2.2.2.1.2.2, .int .i64 l.2.2.2.2.1, .int .i64 l.2.2.2.2.2.1, .int .i64 l.2.2.2.2.2.2]) hM81 (by kernel_rfl) (F_val (.agg #[.int .u32 0, .int .u32 0]) (fun _ => by kernel_rfl) (F_call (s_lamp_Point (1, l.2.1, l.2.2.1, l.2.2.2.1, l.2.2.2.2) (0, 0)) (fun r : Int × Int × Int => .agg #[.int .i64 r.1, .int .i64 r.2.1, .int .i64 r.2.2]) hM81 hL102 (fun w' hM' => w_lamp_Point (1, l.2.1, l.2.2.1, l.2.2.2.1, l.2.2.2.2) (0, 0) (⟨(show InI 1 from by unfold InI; omega), h_l.2.1, h_l.2.2.1, h_l.2.2.2.1, h_l.2.2.2.2⟩) (⟨(show InU32 0 from by unfold InU32; omega), (show InU32 0 from by unfold InU32; omega)⟩) w') (by kernel_rfl) (fun _ => by kernel_rfl) (fun r103 h104 => F_val (.pointer (some ⟨g1, 4, none⟩)) (fun _ => by kernel_rfl) (F_load 6 4 (.agg #[.int .i64 l.2.2.1.1, .int .i64 l.2.2.1.2.1, .int .i64 l.2.2.1.2.2]) hM81 (by kernel_rfl) (?_))))))))))))
                have HR := hr_lt HR h104
                refine F_dec ((r103 : Int × Int × Int) = l.2.2.1) (fun _ => eqv_umbra_api_Point (x := r103) (y := l.2.2.1) (by kernel_rfl) (by kernel_rfl) (by kernel_rfl)) (fun c105 => ?_) (fun c105 => ?_)
                · refine F_val (.bool true) (fun _ => by kernel_rfl) (F_call (s_umbralaw27_works ) (fun r : Bool => .bool r) hM81 hL102 (fun w' hM' => w_umbralaw27_works  w') (by kernel_rfl) (fun _ => by kernel_rfl) (fun r106 h107 => ?_))
                  have HR := hr_pos HR c105
                  have HR := hr_lt HR h107
                  cases r106
                  · refine F_val (.bool false) (fun _ => by kernel_rfl) (F_val (.bool false) (fun _ => by kernel_rfl) (F_nil hM81 hL102 (fun w108 hM109 => S_nil (?_))))
                    have HR := hr_neg HR Bool.false_ne_true
                    refine R_ret hM109 rfl (.cons (.tmp _ (.bool false) (by kernel_rfl)) .nil) rfl ?_
                    exact ⟨congrArg Ending.returned HR, hM109.below⟩
                  · refine F_val (.bool true) (fun _ => by kernel_rfl) (F_val (.bool true) (fun _ => by kernel_rfl) (F_nil hM81 hL102 (fun w110 hM111 => S_nil (?_))))
                    have HR := hr_pos HR rfl
                    refine R_ret hM111 rfl (.cons (.tmp _ (.bool true) (by kernel_rfl)) .nil) rfl ?_
                    exact ⟨congrArg Ending.returned HR, hM111.below⟩
                · refine F_val (.bool false) (fun _ => by kernel_rfl) (F_skip (by kernel_rfl) (F_val (.bool false) (fun _ => by kernel_rfl) (F_val (.bool false) (fun _ => by kernel_rfl) (F_nil hM81 hL102 (fun w113 hM114 => S_nil (?_))))))
                  have HR := hr_neg HR c105
                  refine R_ret hM114 rfl (.cons (.tmp _ (.bool false) (by kernel_rfl)) .nil) rfl ?_
                  exact ⟨congrArg Ending.returned HR, hM114.below⟩

def e_umbralaw27_LampBehind (r : Bool) : Value := .bool r
def s_umbralaw27_LampBehind (l : Int × (Int × Int × Int) × (Int × Int × Int) × (Int × Int × Int) × (Int × Int × Int)) (a : (Int × Int × Int) × (Int × Int × Int) × (Int × Int)) (n : Int × Int × Int) : Bool :=
  lt (vtow n) fun r10 =>
  lt (s_lamp_Sample l a.1 r10 a.2.2) fun r16 =>
  if r16.2.1 = true then
    if r16.2.2.1 = true then
      if ((r16.1, true, true, r16.2.2.2) : (Int × Int × Int) × Bool × Bool × (Int × Int × Int)) = ((0, 0, 0), false, true, (0, 0, 0)) then
        lt (s_umbralaw27_works ) fun r120 =>
        if r120 = true then
          true
        else
          false
      else
        false
    else
      lt (s_asset_Light l) fun r81 =>
      if r81 = 0 then
        lt (s_tri_May a.1 r16.1) fun r86 =>
        if r86 = true then
          if l.1 = 2 then
            lt (vtow r16.1) fun r94 =>
            lt (vdot r10 r94) fun r96 =>
            if r96 ≥ (-16) then
              lt (gmin (gmin r16.2.2.2.1 r16.2.2.2.2.1) r16.2.2.2.2.2) fun x99 =>
              if x99 ≥ 0 then
                lt (s_umbralaw27_works ) fun r102 =>
                if r102 = true then
                  true
                else
                  false
              else
                false
            else
              false
          else
            false
        else
          false
      else
        false
  else
    if r16.2.2.1 = true then
      if ((r16.1, false, true, r16.2.2.2) : (Int × Int × Int) × Bool × Bool × (Int × Int × Int)) = ((0, 0, 0), false, true, (0, 0, 0)) then
        lt (s_umbralaw27_works ) fun r70 =>
        if r70 = true then
          true
        else
          false
      else
        false
    else
      lt (s_asset_Light l) fun r31 =>
      if r31 = 0 then
        lt (s_tri_May a.1 r16.1) fun r36 =>
        if r36 = true then
          if l.1 = 2 then
            false
          else
            lt (vtow r16.1) fun r44 =>
            lt (vdot r10 r44) fun r46 =>
            if r46 ≥ (-16) then
              lt (gmin (gmin r16.2.2.2.1 r16.2.2.2.2.1) r16.2.2.2.2.2) fun x49 =>
              if x49 ≥ 0 then
                lt (s_umbralaw27_works ) fun r52 =>
                if r52 = true then
                  true
                else
                  false
              else
                false
            else
              false
        else
          false
      else
        false
set_option maxRecDepth 100000 in
set_option maxHeartbeats 4000000 in
theorem w_umbralaw27_LampBehind (l : Int × (Int × Int × Int) × (Int × Int × Int) × (Int × Int × Int) × (Int × Int × Int)) (a : (Int × Int × Int) × (Int × Int × Int) × (Int × Int)) (n : Int × Int × Int) (h_l : (InI l.1 ∧ InV l.2.1 ∧ InV l.2.2.1 ∧ InV l.2.2.2.1 ∧ InV l.2.2.2.2)) (h_a : (InV a.1 ∧ InV a.2.1 ∧ (InU32 a.2.2.1 ∧ InU32 a.2.2.2))) (h_n : InV n) (w : World) : Calls Try.prog 10 #[.agg #[.int .i64 l.1, .int .i64 l.2.1.1, .int .i64 l.2.1.2.1, .int .i64 l.2.1.2.2, .int .i64 l.2.2.1.1, .int .i64 l.2.2.1.2.1, .int .i64 l.2.2.1.2.2, .int .i64 l.2.2.2.1.1, .int .i64 l.2.2.2.1.2.1, .int .i64 l.2.2.2.1.2.2, .int .i64 l.2.2.2.2.1, .int .i64 l.2.2.2.2.2.1, .int .i64 l.2.2.2.2.2.2], .agg #[.int .i64 a.1.1, .int .i64 a.1.2.1, .int .i64 a.1.2.2, .int .i64 a.2.1.1, .int .i64 a.2.1.2.1, .int .i64 a.2.1.2.2, .int .u32 a.2.2.1, .int .u32 a.2.2.2], .agg #[.int .i64 n.1, .int .i64 n.2.1, .int .i64 n.2.2]] w (Ret (e_umbralaw27_LampBehind (s_umbralaw27_LampBehind l a n)) w) := by
  obtain ⟨R, HR⟩ : ∃ R, e_umbralaw27_LampBehind (s_umbralaw27_LampBehind l a n) = R := ⟨_, rfl⟩
  rw [HR]
  unfold s_umbralaw27_LampBehind at HR
  have hM0 := St.start w
  refine calls_run Try.func10 rfl ?_
  refine R_seq (R_region (S_fresh none #[.int .i64 l.1, .int .i64 l.2.1.1, .int .i64 l.2.1.2.1, .int .i64 l.2.1.2.2, .int .i64 l.2.2.1.1, .int .i64 l.2.2.1.2.1, .int .i64 l.2.2.1.2.2, .int .i64 l.2.2.2.1.1, .int .i64 l.2.2.2.1.2.1, .int .i64 l.2.2.2.1.2.2, .int .i64 l.2.2.2.2.1, .int .i64 l.2.2.2.2.2.1, .int .i64 l.2.2.2.2.2.2] 58 hM0 (by kernel_rfl) (fun g1 w2 hM3 => S_fresh none #[.int .i64 a.1.1, .int .i64 a.1.2.1, .int .i64 a.1.2.2, .int .i64 a.2.1.1, .int .i64 a.2.1.2.1, .int .i64 a.2.1.2.2, .int .u32 a.2.2.1, .int .u32 a.2.2.2] 60 hM3 (by kernel_rfl) (fun g4 w5 hM6 => S_fresh none #[.int .i64 n.1, .int .i64 n.2.1, .int .i64 n.2.2] 23 hM6 (by kernel_rfl) (fun g7 w8 hM9 => S_val (.bool false) (by kernel_rfl) (S_nil (R_seq (R_region (S_load 0 0 (.agg #[.int .i64 n.1, .int .i64 n.2.1, .int .i64 n.2.2]) hM9 (by kernel_rfl) (S_call (vtow n) (fun r : Int × Int × Int => .agg #[.int .i64 r.1, .int .i64 r.2.1, .int .i64 r.2.2]) hM9 (c_vec_Toward n h_n w8) (by kernel_rfl) (fun r10 h11 w12 hM13 => S_val (.pointer (some ⟨g4, 3, none⟩)) (by kernel_rfl) (?_))))))))))))
  have HR := hr_lt HR h11
  refine S_store 1 3 #[.int .i64 a.1.1, .int .i64 a.1.2.1, .int .i64 a.1.2.2, .int .i64 r10.1, .int .i64 r10.2.1, .int .i64 r10.2.2, .int .u32 a.2.2.1, .int .u32 a.2.2.2] hM13 (by kernel_rfl) (fun w14 hM15 => S_nil (R_seq (R_region (S_load 2 0 (.agg #[.int .i64 l.1, .int .i64 l.2.1.1, .int .i64 l.2.1.2.1, .int .i64 l.2.1.2.2, .int .i64 l.2.2.1.1, .int .i64 l.2.2.1.2.1, .int .i64 l.2.2.1.2.2, .int .i64 l.2.2.2.1.1, .int .i64 l.2.2.2.1.2.1, .int .i64 l.2.2.2.1.2.2, .int .i64 l.2.2.2.2.1, .int .i64 l.2.2.2.2.2.1, .int .i64 l.2.2.2.2.2.2]) hM15 (by kernel_rfl) (S_val (.pointer (some ⟨g4, 0, none⟩)) (by kernel_rfl) (S_load 1 0 (.agg #[.int .i64 a.1.1, .int .i64 a.1.2.1, .int .i64 a.1.2.2]) hM15 (by kernel_rfl) (S_val (.pointer (some ⟨g4, 3, none⟩)) (by kernel_rfl) (S_load 1 3 (.agg #[.int .i64 r10.1, .int .i64 r10.2.1, .int .i64 r10.2.2]) hM15 (by kernel_rfl) (S_val (.pointer (some ⟨g4, 6, none⟩)) (by kernel_rfl) (S_load 1 6 (.agg #[.int .u32 a.2.2.1, .int .u32 a.2.2.2]) hM15 (by kernel_rfl) (S_call (s_lamp_Sample l a.1 r10 a.2.2) (fun r : (Int × Int × Int) × Bool × Bool × (Int × Int × Int) => .agg #[.int .i64 r.1.1, .int .i64 r.1.2.1, .int .i64 r.1.2.2, .bool r.2.1, .bool r.2.2.1, .int .i64 r.2.2.2.1, .int .i64 r.2.2.2.2.1, .int .i64 r.2.2.2.2.2]) hM15 (w_lamp_Sample l a.1 r10 a.2.2 h_l h_a.1 ((tr (P := fun r : Int × Int × Int => InV r) h11 (vtow_I n)).out) h_a.2.2 w14) (by kernel_rfl) (fun r16 h17 w18 hM19 => ?_))))))))))))
  have HR := hr_lt HR h17
  obtain ⟨r20, b24, b25, r23⟩ := r16
  cases b24
  · cases b25
    · refine S_fresh none #[.int .i64 0, .int .i64 0, .int .i64 0, .bool false, .bool false, .int .i64 0, .int .i64 0, .int .i64 0] 62 hM19 (by kernel_rfl) (fun g26 w27 hM28 => S_store 0 0 #[.int .i64 r20.1, .int .i64 r20.2.1, .int .i64 r20.2.2, .bool false, .bool false, .int .i64 r23.1, .int .i64 r23.2.1, .int .i64 r23.2.2] hM28 (by kernel_rfl) (fun w29 hM30 => S_nil (R_seq (R_seq (R_region (S_val (.pointer (some ⟨g26, 4, none⟩)) (by kernel_rfl) (S_load 0 4 (.bool false) hM30 (by kernel_rfl) (S_nil (R_no (by kernel_rfl) (R_skip (R_seq (?_))))))))))))
      have HR := hr_neg HR Bool.false_ne_true
      have HR := hr_neg HR Bool.false_ne_true
      refine R_seq (R_region (S_load 3 0 (.agg #[.int .i64 l.1, .int .i64 l.2.1.1, .int .i64 l.2.1.2.1, .int .i64 l.2.1.2.2, .int .i64 l.2.2.1.1, .int .i64 l.2.2.1.2.1, .int .i64 l.2.2.1.2.2, .int .i64 l.2.2.2.1.1, .int .i64 l.2.2.2.1.2.1, .int .i64 l.2.2.2.1.2.2, .int .i64 l.2.2.2.2.1, .int .i64 l.2.2.2.2.2.1, .int .i64 l.2.2.2.2.2.2]) hM30 (by kernel_rfl) (S_call (s_asset_Light l) (fun r : Int => .int .i64 r) hM30 (w_asset_Light l h_l w29) (by kernel_rfl) (fun r31 h32 w33 hM34 => ?_))))
      have HR := hr_lt HR h32
      refine S_decn (r31 = 0) (by kernel_rfl) (fun c35 => ?_) (fun c35 => ?_)
      · refine S_val (.bool true) (by kernel_rfl) (S_skip (by kernel_rfl) (S_skip (by kernel_rfl) (S_skip (by kernel_rfl) (S_skip (by kernel_rfl) (S_skip (by kernel_rfl) (S_skip (by kernel_rfl) (S_val (.bool true) (by kernel_rfl) (S_val (.bool true) (by kernel_rfl) (S_skip (by kernel_rfl) (S_skip (by kernel_rfl) (S_skip (by kernel_rfl) (?_))))))))))))
        have HR := hr_neg HR c35
        refine S_skip (by kernel_rfl) (S_skip (by kernel_rfl) (S_skip (by kernel_rfl) (S_val (.bool true) (by kernel_rfl) (S_nil (R_yes (by kernel_rfl) (R_seq (R_region (S_val (.bool false) (by kernel_rfl) (S_nil (?_))))))))))
        refine R_ret hM34 rfl (.cons (.tmp _ (.bool false) (by kernel_rfl)) .nil) rfl ?_
        exact ⟨congrArg Ending.returned HR, hM34.below⟩
      · refine S_val (.bool false) (by kernel_rfl) (S_val (.pointer (some ⟨g4, 0, none⟩)) (by kernel_rfl) (S_load 2 0 (.agg #[.int .i64 a.1.1, .int .i64 a.1.2.1, .int .i64 a.1.2.2]) hM34 (by kernel_rfl) (S_val (.pointer (some ⟨g26, 0, none⟩)) (by kernel_rfl) (S_load 0 0 (.agg #[.int .i64 r20.1, .int .i64 r20.2.1, .int .i64 r20.2.2]) hM34 (by kernel_rfl) (S_call (s_tri_May a.1 r20) (fun r : Bool => .bool r) hM34 (w_tri_May a.1 r20 h_a.1 ((tr (P := fun r : (Int × Int × Int) × Bool × Bool × (Int × Int × Int) => (InV r.1 ∧ True ∧ True ∧ InV r.2.2.2)) h17 (i_lamp_Sample l a.1 r10 a.2.2 h_l h_a.1 ((tr (P := fun r : Int × Int × Int => InV r) h11 (vtow_I n)).out) h_a.2.2)).out.1) w33) (by kernel_rfl) (fun r36 h37 w38 hM39 => ?_))))))
        have HR := hr_pos HR c35
        have HR := hr_lt HR h37
        cases r36
        · refine S_val (.bool true) (by kernel_rfl) (S_val (.bool true) (by kernel_rfl) (S_val (.bool true) (by kernel_rfl) (S_skip (by kernel_rfl) (S_skip (by kernel_rfl) (S_skip (by kernel_rfl) (S_skip (by kernel_rfl) (S_skip (by kernel_rfl) (S_skip (by kernel_rfl) (S_val (.bool true) (by kernel_rfl) (S_nil (R_yes (by kernel_rfl) (?_))))))))))))
          have HR := hr_neg HR Bool.false_ne_true
          refine R_seq (R_region (S_val (.bool false) (by kernel_rfl) (S_nil (?_))))
          refine R_ret hM39 rfl (.cons (.tmp _ (.bool false) (by kernel_rfl)) .nil) rfl ?_
          exact ⟨congrArg Ending.returned HR, hM39.below⟩
        · refine S_val (.bool false) (by kernel_rfl) (S_val (.bool false) (by kernel_rfl) (S_val (.bool false) (by kernel_rfl) (S_val (.pointer (some ⟨g26, 3, none⟩)) (by kernel_rfl) (S_load 0 3 (.bool false) hM39 (by kernel_rfl) (S_val (.pointer (some ⟨g1, 0, none⟩)) (by kernel_rfl) (S_load 3 0 (.int .i64 l.1) hM39 (by kernel_rfl) (?_)))))))
          have HR := hr_pos HR rfl
          refine S_dec (l.1 = 2) (by kernel_rfl) (fun c40 => ?_) (fun c40 => ?_)
          · refine S_val (.bool true) (by kernel_rfl) (S_val (.bool true) (by kernel_rfl) (S_nil (R_yes (by kernel_rfl) (R_seq (R_region (S_val (.bool false) (by kernel_rfl) (S_nil (?_))))))))
            have HR := hr_pos HR c40
            refine R_ret hM39 rfl (.cons (.tmp _ (.bool false) (by kernel_rfl)) .nil) rfl ?_
            exact ⟨congrArg Ending.returned HR, hM39.below⟩
          · refine S_val (.bool false) (by kernel_rfl) (S_val (.bool false) (by kernel_rfl) (S_nil (R_no (by kernel_rfl) (R_skip (R_seq (R_drawF 24 (by kernel_rfl) (fun F41 U42 hL43 => F_val (.pointer (some ⟨g4, 3, none⟩)) (fun _ => by kernel_rfl) (F_load 2 3 (.agg #[.int .i64 r10.1, .int .i64 r10.2.1, .int .i64 r10.2.2]) hM39 (by kernel_rfl) (F_val (.pointer (some ⟨g26, 0, none⟩)) (fun _ => by kernel_rfl) (F_load 0 0 (.agg #[.int .i64 r20.1, .int .i64 r20.2.1, .int .i64 r20.2.2]) hM39 (by kernel_rfl) (F_call (vtow r20) (fun r : Int × Int × Int => .agg #[.int .i64 r.1, .int .i64 r.2.1, .int .i64 r.2.2]) hM39 hL43 (fun w' hM' => c_vec_Toward r20 ((tr (P := fun r : (Int × Int × Int) × Bool × Bool × (Int × Int × Int) => (InV r.1 ∧ True ∧ True ∧ InV r.2.2.2)) h17 (i_lamp_Sample l a.1 r10 a.2.2 h_l h_a.1 ((tr (P := fun r : Int × Int × Int => InV r) h11 (vtow_I n)).out) h_a.2.2)).out.1) w') (by kernel_rfl) (fun _ => by kernel_rfl) (fun r44 h45 => ?_))))))))))))
            have HR := hr_neg HR c40
            have HR := hr_lt HR h45
            refine F_call (vdot r10 r44) (fun r : Int => .int .i64 r) hM39 hL43 (fun w' hM' => c_vec_Dot r10 r44 ((tr (P := fun r : Int × Int × Int => InV r) h11 (vtow_I n)).out) ((tr (P := fun r : Int × Int × Int => InV r) h45 (vtow_I r20)).out) w') (by kernel_rfl) (fun _ => by kernel_rfl) (fun r46 h47 => ?_)
            have HR := hr_lt HR h47
            refine F_dec (r46 ≥ (-16)) (fun _ => by kernel_rfl) (fun c48 => ?_) (fun c48 => ?_)
            · refine F_val (.bool true) (fun _ => by kernel_rfl) (F_val (.pointer (some ⟨g26, 5, none⟩)) (fun _ => by kernel_rfl) (F_val (.pointer (some ⟨g26, 5, none⟩)) (fun _ => by kernel_rfl) (F_load 0 5 (.int .i64 r23.1) hM39 (by kernel_rfl) (F_val (.pointer (some ⟨g26, 5, none⟩)) (fun _ => by kernel_rfl) (F_val (.pointer (some ⟨g26, 6, none⟩)) (fun _ => by kernel_rfl) (F_load 0 6 (.int .i64 r23.2.1) hM39 (by kernel_rfl) (F_val (.pointer (some ⟨g26, 5, none⟩)) (fun _ => by kernel_rfl) (F_val (.pointer (some ⟨g26, 7, none⟩)) (fun _ => by kernel_rfl) (F_load 0 7 (.int .i64 r23.2.2) hM39 (by kernel_rfl) (F_int (gmin (gmin r23.1 r23.2.1) r23.2.2) .i64 (fun _ => by kernel_rfl) (fun x49 h50 => ?_)))))))))))
              have HR := hr_pos HR c48
              have HR := hr_lt HR h50
              refine F_dec (x49 ≥ 0) (fun _ => by kernel_rfl) (fun c51 => ?_) (fun c51 => ?_)
              · refine F_val (.bool true) (fun _ => by kernel_rfl) (F_val (.bool true) (fun _ => by kernel_rfl) (F_call (s_umbralaw27_works ) (fun r : Bool => .bool r) hM39 hL43 (fun w' hM' => w_umbralaw27_works  w') (by kernel_rfl) (fun _ => by kernel_rfl) (fun r52 h53 => ?_)))
                have HR := hr_pos HR c51
                have HR := hr_lt HR h53
                cases r52
                · refine F_val (.bool false) (fun _ => by kernel_rfl) (F_val (.bool false) (fun _ => by kernel_rfl) (F_nil hM39 hL43 (fun w54 hM55 => S_nil (?_))))
                  have HR := hr_neg HR Bool.false_ne_true
                  refine R_ret hM55 rfl (.cons (.tmp _ (.bool false) (by kernel_rfl)) .nil) rfl ?_
                  exact ⟨congrArg Ending.returned HR, hM55.below⟩
                · refine F_val (.bool true) (fun _ => by kernel_rfl) (F_val (.bool true) (fun _ => by kernel_rfl) (F_nil hM39 hL43 (fun w56 hM57 => S_nil (?_))))
                  have HR := hr_pos HR rfl
                  refine R_ret hM57 rfl (.cons (.tmp _ (.bool true) (by kernel_rfl)) .nil) rfl ?_
                  exact ⟨congrArg Ending.returned HR, hM57.below⟩
              · refine F_val (.bool false) (fun _ => by kernel_rfl) (F_val (.bool false) (fun _ => by kernel_rfl) (F_skip (by kernel_rfl) (F_val (.bool false) (fun _ => by kernel_rfl) (F_val (.bool false) (fun _ => by kernel_rfl) (F_nil hM39 hL43 (fun w59 hM60 => S_nil (?_)))))))
                have HR := hr_neg HR c51
                refine R_ret hM60 rfl (.cons (.tmp _ (.bool false) (by kernel_rfl)) .nil) rfl ?_
                exact ⟨congrArg Ending.returned HR, hM60.below⟩
            · refine F_val (.bool false) (fun _ => by kernel_rfl) (F_skip (by kernel_rfl) (F_skip (by kernel_rfl) (F_skip (by kernel_rfl) (F_skip (by kernel_rfl) (F_skip (by kernel_rfl) (F_skip (by kernel_rfl) (F_skip (by kernel_rfl) (F_skip (by kernel_rfl) (F_skip (by kernel_rfl) (F_skip (by kernel_rfl) (F_skip (by kernel_rfl) (?_))))))))))))
              have HR := hr_neg HR c48
              refine F_val (.bool false) (fun _ => by kernel_rfl) (F_val (.bool false) (fun _ => by kernel_rfl) (F_skip (by kernel_rfl) (F_val (.bool false) (fun _ => by kernel_rfl) (F_val (.bool false) (fun _ => by kernel_rfl) (F_nil hM39 hL43 (fun w61 hM62 => S_nil (?_)))))))
              refine R_ret hM62 rfl (.cons (.tmp _ (.bool false) (by kernel_rfl)) .nil) rfl ?_
              exact ⟨congrArg Ending.returned HR, hM62.below⟩
    · refine S_fresh none #[.int .i64 0, .int .i64 0, .int .i64 0, .bool false, .bool false, .int .i64 0, .int .i64 0, .int .i64 0] 62 hM19 (by kernel_rfl) (fun g64 w65 hM66 => S_store 0 0 #[.int .i64 r20.1, .int .i64 r20.2.1, .int .i64 r20.2.2, .bool false, .bool true, .int .i64 r23.1, .int .i64 r23.2.1, .int .i64 r23.2.2] hM66 (by kernel_rfl) (fun w67 hM68 => S_nil (R_seq (R_seq (R_region (S_val (.pointer (some ⟨g64, 4, none⟩)) (by kernel_rfl) (S_load 0 4 (.bool true) hM68 (by kernel_rfl) (S_nil (R_yes (by kernel_rfl) (R_seq (R_region (?_))))))))))))
      have HR := hr_neg HR Bool.false_ne_true
      have HR := hr_pos HR rfl
      refine S_load 0 0 (.agg #[.int .i64 r20.1, .int .i64 r20.2.1, .int .i64 r20.2.2, .bool false, .bool true, .int .i64 r23.1, .int .i64 r23.2.1, .int .i64 r23.2.2]) hM68 (by kernel_rfl) (S_val (.agg #[.int .i64 0, .int .i64 0, .int .i64 0, .bool false, .bool true, .int .i64 0, .int .i64 0, .int .i64 0]) (by kernel_rfl) (?_))
      refine S_dec (((r20, false, true, r23) : (Int × Int × Int) × Bool × Bool × (Int × Int × Int)) = ((0, 0, 0), false, true, (0, 0, 0))) (eqv_umbra_api_Lamp (x := (r20, false, true, r23)) (y := ((0, 0, 0), false, true, (0, 0, 0))) (by kernel_rfl) (by kernel_rfl) (by kernel_rfl)) (fun c69 => ?_) (fun c69 => ?_)
      · refine S_val (.bool true) (by kernel_rfl) (S_call (s_umbralaw27_works ) (fun r : Bool => .bool r) hM68 (w_umbralaw27_works  w67) (by kernel_rfl) (fun r70 h71 w72 hM73 => ?_))
        have HR := hr_pos HR c69
        have HR := hr_lt HR h71
        cases r70
        · refine S_val (.bool false) (by kernel_rfl) (S_val (.bool false) (by kernel_rfl) (S_nil (?_)))
          have HR := hr_neg HR Bool.false_ne_true
          refine R_ret hM73 rfl (.cons (.tmp _ (.bool false) (by kernel_rfl)) .nil) rfl ?_
          exact ⟨congrArg Ending.returned HR, hM73.below⟩
        · refine S_val (.bool true) (by kernel_rfl) (S_val (.bool true) (by kernel_rfl) (S_nil (?_)))
          have HR := hr_pos HR rfl
          refine R_ret hM73 rfl (.cons (.tmp _ (.bool true) (by kernel_rfl)) .nil) rfl ?_
          exact ⟨congrArg Ending.returned HR, hM73.below⟩
      · refine S_val (.bool false) (by kernel_rfl) (S_skip (by kernel_rfl) (S_val (.bool false) (by kernel_rfl) (S_val (.bool false) (by kernel_rfl) (S_nil (?_)))))
        have HR := hr_neg HR c69
        refine R_ret hM68 rfl (.cons (.tmp _ (.bool false) (by kernel_rfl)) .nil) rfl ?_
        exact ⟨congrArg Ending.returned HR, hM68.below⟩
  · cases b25
    · refine S_fresh none #[.int .i64 0, .int .i64 0, .int .i64 0, .bool false, .bool false, .int .i64 0, .int .i64 0, .int .i64 0] 62 hM19 (by kernel_rfl) (fun g76 w77 hM78 => S_store 0 0 #[.int .i64 r20.1, .int .i64 r20.2.1, .int .i64 r20.2.2, .bool true, .bool false, .int .i64 r23.1, .int .i64 r23.2.1, .int .i64 r23.2.2] hM78 (by kernel_rfl) (fun w79 hM80 => S_nil (R_seq (R_seq (R_region (S_val (.pointer (some ⟨g76, 4, none⟩)) (by kernel_rfl) (S_load 0 4 (.bool false) hM80 (by kernel_rfl) (S_nil (R_no (by kernel_rfl) (R_skip (R_seq (?_))))))))))))
      have HR := hr_pos HR rfl
      have HR := hr_neg HR Bool.false_ne_true
      refine R_seq (R_region (S_load 3 0 (.agg #[.int .i64 l.1, .int .i64 l.2.1.1, .int .i64 l.2.1.2.1, .int .i64 l.2.1.2.2, .int .i64 l.2.2.1.1, .int .i64 l.2.2.1.2.1, .int .i64 l.2.2.1.2.2, .int .i64 l.2.2.2.1.1, .int .i64 l.2.2.2.1.2.1, .int .i64 l.2.2.2.1.2.2, .int .i64 l.2.2.2.2.1, .int .i64 l.2.2.2.2.2.1, .int .i64 l.2.2.2.2.2.2]) hM80 (by kernel_rfl) (S_call (s_asset_Light l) (fun r : Int => .int .i64 r) hM80 (w_asset_Light l h_l w79) (by kernel_rfl) (fun r81 h82 w83 hM84 => ?_))))
      have HR := hr_lt HR h82
      refine S_decn (r81 = 0) (by kernel_rfl) (fun c85 => ?_) (fun c85 => ?_)
      · refine S_val (.bool true) (by kernel_rfl) (S_skip (by kernel_rfl) (S_skip (by kernel_rfl) (S_skip (by kernel_rfl) (S_skip (by kernel_rfl) (S_skip (by kernel_rfl) (S_skip (by kernel_rfl) (S_val (.bool true) (by kernel_rfl) (S_val (.bool true) (by kernel_rfl) (S_skip (by kernel_rfl) (S_skip (by kernel_rfl) (S_skip (by kernel_rfl) (?_))))))))))))
        have HR := hr_neg HR c85
        refine S_skip (by kernel_rfl) (S_skip (by kernel_rfl) (S_skip (by kernel_rfl) (S_val (.bool true) (by kernel_rfl) (S_nil (R_yes (by kernel_rfl) (R_seq (R_region (S_val (.bool false) (by kernel_rfl) (S_nil (?_))))))))))
        refine R_ret hM84 rfl (.cons (.tmp _ (.bool false) (by kernel_rfl)) .nil) rfl ?_
        exact ⟨congrArg Ending.returned HR, hM84.below⟩
      · refine S_val (.bool false) (by kernel_rfl) (S_val (.pointer (some ⟨g4, 0, none⟩)) (by kernel_rfl) (S_load 2 0 (.agg #[.int .i64 a.1.1, .int .i64 a.1.2.1, .int .i64 a.1.2.2]) hM84 (by kernel_rfl) (S_val (.pointer (some ⟨g76, 0, none⟩)) (by kernel_rfl) (S_load 0 0 (.agg #[.int .i64 r20.1, .int .i64 r20.2.1, .int .i64 r20.2.2]) hM84 (by kernel_rfl) (S_call (s_tri_May a.1 r20) (fun r : Bool => .bool r) hM84 (w_tri_May a.1 r20 h_a.1 ((tr (P := fun r : (Int × Int × Int) × Bool × Bool × (Int × Int × Int) => (InV r.1 ∧ True ∧ True ∧ InV r.2.2.2)) h17 (i_lamp_Sample l a.1 r10 a.2.2 h_l h_a.1 ((tr (P := fun r : Int × Int × Int => InV r) h11 (vtow_I n)).out) h_a.2.2)).out.1) w83) (by kernel_rfl) (fun r86 h87 w88 hM89 => ?_))))))
        have HR := hr_pos HR c85
        have HR := hr_lt HR h87
        cases r86
        · refine S_val (.bool true) (by kernel_rfl) (S_val (.bool true) (by kernel_rfl) (S_val (.bool true) (by kernel_rfl) (S_skip (by kernel_rfl) (S_skip (by kernel_rfl) (S_skip (by kernel_rfl) (S_skip (by kernel_rfl) (S_skip (by kernel_rfl) (S_skip (by kernel_rfl) (S_val (.bool true) (by kernel_rfl) (S_nil (R_yes (by kernel_rfl) (?_))))))))))))
          have HR := hr_neg HR Bool.false_ne_true
          refine R_seq (R_region (S_val (.bool false) (by kernel_rfl) (S_nil (?_))))
          refine R_ret hM89 rfl (.cons (.tmp _ (.bool false) (by kernel_rfl)) .nil) rfl ?_
          exact ⟨congrArg Ending.returned HR, hM89.below⟩
        · refine S_val (.bool false) (by kernel_rfl) (S_val (.bool false) (by kernel_rfl) (S_val (.bool false) (by kernel_rfl) (S_val (.pointer (some ⟨g76, 3, none⟩)) (by kernel_rfl) (S_load 0 3 (.bool true) hM89 (by kernel_rfl) (S_val (.pointer (some ⟨g1, 0, none⟩)) (by kernel_rfl) (S_load 3 0 (.int .i64 l.1) hM89 (by kernel_rfl) (?_)))))))
          have HR := hr_pos HR rfl
          refine S_dec (l.1 = 2) (by kernel_rfl) (fun c90 => ?_) (fun c90 => ?_)
          · refine S_val (.bool false) (by kernel_rfl) (S_val (.bool false) (by kernel_rfl) (S_nil (R_no (by kernel_rfl) (R_skip (R_seq (R_drawF 24 (by kernel_rfl) (fun F91 U92 hL93 => F_val (.pointer (some ⟨g4, 3, none⟩)) (fun _ => by kernel_rfl) (F_load 2 3 (.agg #[.int .i64 r10.1, .int .i64 r10.2.1, .int .i64 r10.2.2]) hM89 (by kernel_rfl) (F_val (.pointer (some ⟨g76, 0, none⟩)) (fun _ => by kernel_rfl) (F_load 0 0 (.agg #[.int .i64 r20.1, .int .i64 r20.2.1, .int .i64 r20.2.2]) hM89 (by kernel_rfl) (F_call (vtow r20) (fun r : Int × Int × Int => .agg #[.int .i64 r.1, .int .i64 r.2.1, .int .i64 r.2.2]) hM89 hL93 (fun w' hM' => c_vec_Toward r20 ((tr (P := fun r : (Int × Int × Int) × Bool × Bool × (Int × Int × Int) => (InV r.1 ∧ True ∧ True ∧ InV r.2.2.2)) h17 (i_lamp_Sample l a.1 r10 a.2.2 h_l h_a.1 ((tr (P := fun r : Int × Int × Int => InV r) h11 (vtow_I n)).out) h_a.2.2)).out.1) w') (by kernel_rfl) (fun _ => by kernel_rfl) (fun r94 h95 => ?_))))))))))))
            have HR := hr_pos HR c90
            have HR := hr_lt HR h95
            refine F_call (vdot r10 r94) (fun r : Int => .int .i64 r) hM89 hL93 (fun w' hM' => c_vec_Dot r10 r94 ((tr (P := fun r : Int × Int × Int => InV r) h11 (vtow_I n)).out) ((tr (P := fun r : Int × Int × Int => InV r) h95 (vtow_I r20)).out) w') (by kernel_rfl) (fun _ => by kernel_rfl) (fun r96 h97 => ?_)
            have HR := hr_lt HR h97
            refine F_dec (r96 ≥ (-16)) (fun _ => by kernel_rfl) (fun c98 => ?_) (fun c98 => ?_)
            · refine F_val (.bool true) (fun _ => by kernel_rfl) (F_val (.pointer (some ⟨g76, 5, none⟩)) (fun _ => by kernel_rfl) (F_val (.pointer (some ⟨g76, 5, none⟩)) (fun _ => by kernel_rfl) (F_load 0 5 (.int .i64 r23.1) hM89 (by kernel_rfl) (F_val (.pointer (some ⟨g76, 5, none⟩)) (fun _ => by kernel_rfl) (F_val (.pointer (some ⟨g76, 6, none⟩)) (fun _ => by kernel_rfl) (F_load 0 6 (.int .i64 r23.2.1) hM89 (by kernel_rfl) (F_val (.pointer (some ⟨g76, 5, none⟩)) (fun _ => by kernel_rfl) (F_val (.pointer (some ⟨g76, 7, none⟩)) (fun _ => by kernel_rfl) (F_load 0 7 (.int .i64 r23.2.2) hM89 (by kernel_rfl) (F_int (gmin (gmin r23.1 r23.2.1) r23.2.2) .i64 (fun _ => by kernel_rfl) (fun x99 h100 => ?_)))))))))))
              have HR := hr_pos HR c98
              have HR := hr_lt HR h100
              refine F_dec (x99 ≥ 0) (fun _ => by kernel_rfl) (fun c101 => ?_) (fun c101 => ?_)
              · refine F_val (.bool true) (fun _ => by kernel_rfl) (F_val (.bool true) (fun _ => by kernel_rfl) (F_call (s_umbralaw27_works ) (fun r : Bool => .bool r) hM89 hL93 (fun w' hM' => w_umbralaw27_works  w') (by kernel_rfl) (fun _ => by kernel_rfl) (fun r102 h103 => ?_)))
                have HR := hr_pos HR c101
                have HR := hr_lt HR h103
                cases r102
                · refine F_val (.bool false) (fun _ => by kernel_rfl) (F_val (.bool false) (fun _ => by kernel_rfl) (F_nil hM89 hL93 (fun w104 hM105 => S_nil (?_))))
                  have HR := hr_neg HR Bool.false_ne_true
                  refine R_ret hM105 rfl (.cons (.tmp _ (.bool false) (by kernel_rfl)) .nil) rfl ?_
                  exact ⟨congrArg Ending.returned HR, hM105.below⟩
                · refine F_val (.bool true) (fun _ => by kernel_rfl) (F_val (.bool true) (fun _ => by kernel_rfl) (F_nil hM89 hL93 (fun w106 hM107 => S_nil (?_))))
                  have HR := hr_pos HR rfl
                  refine R_ret hM107 rfl (.cons (.tmp _ (.bool true) (by kernel_rfl)) .nil) rfl ?_
                  exact ⟨congrArg Ending.returned HR, hM107.below⟩
              · refine F_val (.bool false) (fun _ => by kernel_rfl) (F_val (.bool false) (fun _ => by kernel_rfl) (F_skip (by kernel_rfl) (F_val (.bool false) (fun _ => by kernel_rfl) (F_val (.bool false) (fun _ => by kernel_rfl) (F_nil hM89 hL93 (fun w109 hM110 => S_nil (?_)))))))
                have HR := hr_neg HR c101
                refine R_ret hM110 rfl (.cons (.tmp _ (.bool false) (by kernel_rfl)) .nil) rfl ?_
                exact ⟨congrArg Ending.returned HR, hM110.below⟩
            · refine F_val (.bool false) (fun _ => by kernel_rfl) (F_skip (by kernel_rfl) (F_skip (by kernel_rfl) (F_skip (by kernel_rfl) (F_skip (by kernel_rfl) (F_skip (by kernel_rfl) (F_skip (by kernel_rfl) (F_skip (by kernel_rfl) (F_skip (by kernel_rfl) (F_skip (by kernel_rfl) (F_skip (by kernel_rfl) (F_skip (by kernel_rfl) (?_))))))))))))
              have HR := hr_neg HR c98
              refine F_val (.bool false) (fun _ => by kernel_rfl) (F_val (.bool false) (fun _ => by kernel_rfl) (F_skip (by kernel_rfl) (F_val (.bool false) (fun _ => by kernel_rfl) (F_val (.bool false) (fun _ => by kernel_rfl) (F_nil hM89 hL93 (fun w111 hM112 => S_nil (?_)))))))
              refine R_ret hM112 rfl (.cons (.tmp _ (.bool false) (by kernel_rfl)) .nil) rfl ?_
              exact ⟨congrArg Ending.returned HR, hM112.below⟩
          · refine S_val (.bool true) (by kernel_rfl) (S_val (.bool true) (by kernel_rfl) (S_nil (R_yes (by kernel_rfl) (R_seq (R_region (S_val (.bool false) (by kernel_rfl) (S_nil (?_))))))))
            have HR := hr_neg HR c90
            refine R_ret hM89 rfl (.cons (.tmp _ (.bool false) (by kernel_rfl)) .nil) rfl ?_
            exact ⟨congrArg Ending.returned HR, hM89.below⟩
    · refine S_fresh none #[.int .i64 0, .int .i64 0, .int .i64 0, .bool false, .bool false, .int .i64 0, .int .i64 0, .int .i64 0] 62 hM19 (by kernel_rfl) (fun g114 w115 hM116 => S_store 0 0 #[.int .i64 r20.1, .int .i64 r20.2.1, .int .i64 r20.2.2, .bool true, .bool true, .int .i64 r23.1, .int .i64 r23.2.1, .int .i64 r23.2.2] hM116 (by kernel_rfl) (fun w117 hM118 => S_nil (R_seq (R_seq (R_region (S_val (.pointer (some ⟨g114, 4, none⟩)) (by kernel_rfl) (S_load 0 4 (.bool true) hM118 (by kernel_rfl) (S_nil (R_yes (by kernel_rfl) (R_seq (R_region (?_))))))))))))
      have HR := hr_pos HR rfl
      have HR := hr_pos HR rfl
      refine S_load 0 0 (.agg #[.int .i64 r20.1, .int .i64 r20.2.1, .int .i64 r20.2.2, .bool true, .bool true, .int .i64 r23.1, .int .i64 r23.2.1, .int .i64 r23.2.2]) hM118 (by kernel_rfl) (S_val (.agg #[.int .i64 0, .int .i64 0, .int .i64 0, .bool false, .bool true, .int .i64 0, .int .i64 0, .int .i64 0]) (by kernel_rfl) (?_))
      refine S_dec (((r20, true, true, r23) : (Int × Int × Int) × Bool × Bool × (Int × Int × Int)) = ((0, 0, 0), false, true, (0, 0, 0))) (eqv_umbra_api_Lamp (x := (r20, true, true, r23)) (y := ((0, 0, 0), false, true, (0, 0, 0))) (by kernel_rfl) (by kernel_rfl) (by kernel_rfl)) (fun c119 => ?_) (fun c119 => ?_)
      · refine S_val (.bool true) (by kernel_rfl) (S_call (s_umbralaw27_works ) (fun r : Bool => .bool r) hM118 (w_umbralaw27_works  w117) (by kernel_rfl) (fun r120 h121 w122 hM123 => ?_))
        have HR := hr_pos HR c119
        have HR := hr_lt HR h121
        cases r120
        · refine S_val (.bool false) (by kernel_rfl) (S_val (.bool false) (by kernel_rfl) (S_nil (?_)))
          have HR := hr_neg HR Bool.false_ne_true
          refine R_ret hM123 rfl (.cons (.tmp _ (.bool false) (by kernel_rfl)) .nil) rfl ?_
          exact ⟨congrArg Ending.returned HR, hM123.below⟩
        · refine S_val (.bool true) (by kernel_rfl) (S_val (.bool true) (by kernel_rfl) (S_nil (?_)))
          have HR := hr_pos HR rfl
          refine R_ret hM123 rfl (.cons (.tmp _ (.bool true) (by kernel_rfl)) .nil) rfl ?_
          exact ⟨congrArg Ending.returned HR, hM123.below⟩
      · refine S_val (.bool false) (by kernel_rfl) (S_skip (by kernel_rfl) (S_val (.bool false) (by kernel_rfl) (S_val (.bool false) (by kernel_rfl) (S_nil (?_)))))
        have HR := hr_neg HR c119
        refine R_ret hM118 rfl (.cons (.tmp _ (.bool false) (by kernel_rfl)) .nil) rfl ?_
        exact ⟨congrArg Ending.returned HR, hM118.below⟩

end Go.Proofs.Ytjhnkpapbjkbcaa

namespace Go.Proofs.Ytjhnkpapbjkbcaa
open Go.RowKit Go.Sort
set_option linter.unusedVariables false
set_option linter.unusedSimpArgs false

theorem sumF2 {a b : Int} (ha : InI a) : sumF [a, b] = satAdd a b := by show satAdd (satAdd 0 a) b = _; rw [satAdd_zero ha]
theorem clampI_v {x : Int} (h : -9223372036854775808 ≤ x ∧ x ≤ 9223372036854775807) : clampI x = x := clampI_in h
theorem fmul_small {a b : Int} (ha : -8589934592 ≤ a ∧ a ≤ 8589934592) (hb : -8589934592 ≤ b ∧ b ≤ 8589934592) : fmul a b = a * b / 4294967296 := by
  have h : -(8589934592 * 8589934592) ≤ a * b ∧ a * b ≤ 8589934592 * 8589934592 := by
    have h1 := Int.mul_nonneg (show 0 ≤ 8589934592 - a by omega) (show 0 ≤ 8589934592 - b by omega)
    have h2 := Int.mul_nonneg (show 0 ≤ 8589934592 + a by omega) (show 0 ≤ 8589934592 + b by omega)
    have h3 := Int.mul_nonneg (show 0 ≤ 8589934592 - a by omega) (show 0 ≤ 8589934592 + b by omega)
    have h4 := Int.mul_nonneg (show 0 ≤ 8589934592 + a by omega) (show 0 ≤ 8589934592 - b by omega)
    simp only [Int.sub_mul, Int.add_mul, Int.mul_sub, Int.mul_add] at h1 h2 h3 h4
    omega
  unfold fmul
  exact clampI_v (by omega)
def InB (a : Int) : Prop := -4294967296 ≤ a ∧ a ≤ 4294967296
theorem vdot_small {a b : T3} (h1 : InB a.1) (h2 : InB a.2.1) (h3 : InB a.2.2) (k1 : InB b.1) (k2 : InB b.2.1) (k3 : InB b.2.2) : vdot a b = a.1 * b.1 / 4294967296 + a.2.1 * b.2.1 / 4294967296 + a.2.2 * b.2.2 / 4294967296 := by
  unfold InB at *
  have bd : ∀ x y : Int, -4294967296 ≤ x ∧ x ≤ 4294967296 → -4294967296 ≤ y ∧ y ≤ 4294967296 → -4294967296 ≤ x * y / 4294967296 ∧ x * y / 4294967296 ≤ 4294967296 := by
    intro x y hx hy
    have g1 := Int.mul_nonneg (show 0 ≤ 4294967296 - x by omega) (show 0 ≤ 4294967296 - y by omega)
    have g2 := Int.mul_nonneg (show 0 ≤ 4294967296 + x by omega) (show 0 ≤ 4294967296 + y by omega)
    have g3 := Int.mul_nonneg (show 0 ≤ 4294967296 - x by omega) (show 0 ≤ 4294967296 + y by omega)
    have g4 := Int.mul_nonneg (show 0 ≤ 4294967296 + x by omega) (show 0 ≤ 4294967296 - y by omega)
    simp only [Int.sub_mul, Int.add_mul, Int.mul_sub, Int.mul_add] at g1 g2 g3 g4
    omega
  have b1 := bd _ _ h1 k1
  have b2 := bd _ _ h2 k2
  have b3 := bd _ _ h3 k3
  unfold vdot vmul
  simp only
  rw [fmul_small (by omega) (by omega), fmul_small (by omega) (by omega), fmul_small (by omega) (by omega)]
  unfold satAdd
  rw [clampI_v (x := a.1 * b.1 / 4294967296 + a.2.1 * b.2.1 / 4294967296) (by omega), clampI_v (by omega)]
theorem vtow_B (p : T3) : InB (vtow p).1 ∧ InB (vtow p).2.1 ∧ InB (vtow p).2.2 := vtow_bd p
theorem neg_q {a R : Int} (hR : 0 < R) : -a / R = -(a / R) ∨ -a / R = -(a / R) - 1 := by
  have d1 := Int.emod_add_mul_ediv a R
  have d2 := Int.emod_add_mul_ediv (-a) R
  have e1 := Int.emod_nonneg a (show R ≠ 0 by omega)
  have e2 := Int.emod_lt_of_pos a hR
  have e3 := Int.emod_nonneg (-a) (show R ≠ 0 by omega)
  have e4 := Int.emod_lt_of_pos (-a) hR
  generalize a / R = Q at *
  generalize -a / R = Q' at *
  have hs : R * (Q + Q') = -(a % R + -a % R) := by rw [Int.mul_add]; omega
  have a3 := Int.lt_of_mul_lt_mul_left (show R * (-2) < R * (Q + Q') by omega) (by omega)
  have a4 : Q + Q' < 1 := Int.lt_of_mul_lt_mul_left (show R * (Q + Q') < R * 1 by omega) (by omega)
  omega
def neg3 (r : T3) : T3 := (-r.1, -r.2.1, -r.2.2)
theorem vtow_neg (r : T3) (h : (-16384 ≤ r.1 ∧ r.1 ≤ 16384) ∧ (-16384 ≤ r.2.1 ∧ r.2.1 ≤ 16384) ∧ (-16384 ≤ r.2.2 ∧ r.2.2 ≤ 16384)) :
    ((vtow (neg3 r)).1 = -(vtow r).1 ∨ (vtow (neg3 r)).1 = -(vtow r).1 - 1) ∧ ((vtow (neg3 r)).2.1 = -(vtow r).2.1 ∨ (vtow (neg3 r)).2.1 = -(vtow r).2.1 - 1) ∧ ((vtow (neg3 r)).2.2 = -(vtow r).2.2 ∨ (vtow (neg3 r)).2.2 = -(vtow r).2.2 - 1) := by
  have hc : ∀ x : Int, -16384 ≤ x ∧ x ≤ 16384 → clip x = x ∧ clip (-x) = -x := by intro x hx; unfold clip; omega
  have c1 := hc _ h.1
  have c2 := hc _ h.2.1
  have c3 := hc _ h.2.2
  have er : vroot (neg3 r) = vroot r := by
    unfold vroot neg3
    simp only [c1, c2, c3, Int.neg_mul_neg]
  have hb := vroot_bd r
  unfold vtow
  rw [er]
  by_cases h0 : vroot r = 0
  · rw [if_pos h0, if_pos h0]; unfold zero3; simp
  · rw [if_neg h0, if_neg h0]
    unfold neg3
    simp only [c1, c2, c3, Int.neg_mul]
    exact ⟨neg_q (by omega), neg_q (by omega), neg_q (by omega)⟩
theorem turn_c {N x x' : Int} (hN : InB N) (h : x' = -x ∨ x' = -x - 1) : -(N * x / 4294967296) - 2 ≤ N * x' / 4294967296 := by
  unfold InB at hN
  rcases h with e | e
  · rw [e, Int.mul_neg]; omega
  · rw [e, Int.mul_sub, Int.mul_neg]; omega
theorem turn_dot (n r : T3) (h : (-16384 ≤ r.1 ∧ r.1 ≤ 16384) ∧ (-16384 ≤ r.2.1 ∧ r.2.1 ≤ 16384) ∧ (-16384 ≤ r.2.2 ∧ r.2.2 ≤ 16384)) (hc : vdot (vtow n) (vtow r) < 0) : vdot (vtow n) (vtow (neg3 r)) ≥ -16 := by
  obtain ⟨v1, v2, v3⟩ := vtow_B n
  obtain ⟨w1, w2, w3⟩ := vtow_B r
  obtain ⟨u1, u2, u3⟩ := vtow_B (neg3 r)
  obtain ⟨t1, t2, t3⟩ := vtow_neg r h
  rw [vdot_small v1 v2 v3 w1 w2 w3] at hc
  rw [vdot_small v1 v2 v3 u1 u2 u3]
  have := turn_c v1 t1
  have := turn_c v2 t2
  have := turn_c v3 t3
  omega
theorem satSub_v {a b : Int} (h : -9223372036854775808 ≤ a - b ∧ a - b ≤ 9223372036854775807) : satSub a b = a - b := clampI_v h
end Go.Proofs.Ytjhnkpapbjkbcaa

namespace Go.Proofs.Ytjhnkpapbjkbcaa
open Go.RowKit Go.Sort
set_option linter.unusedVariables false
set_option linter.unusedSimpArgs false

abbrev Lt := Int × T3 × T3 × T3 × T3
theorem works27 : s_umbralaw27_works = true := by kernel_rfl
def Far3 (p : T3) (m : Int) : Prop := (p.1 > m ∨ p.1 < -m) ∨ (p.2.1 > m ∨ p.2.1 < -m) ∨ (p.2.2 > m ∨ p.2.2 < -m)
instance (p : T3) (m : Int) : Decidable (Far3 p m) := inferInstanceAs (Decidable (_ ∨ _))
theorem out1 (m n : Int) : s_asset_outside_1 m n = decide (n < 0 ∨ n > m) := by
  unfold s_asset_outside_1
  by_cases h1 : n < 0 <;> by_cases h2 : n > m <;> simp [h1, h2]
theorem outn1 (k m : Int) : s_asset_outside_n1 k m = decide (k < 0 ∨ k > m) := by
  unfold s_asset_outside_n1 s_slices_ContainsFunc_g_n1 s_slices_IndexFunc_g_n1
  simp only [lt, out1]
  by_cases h : k < 0 ∨ k > m <;> simp [h]
theorem outn3 (l : Lt) (m : Int) : s_asset_outside_n3 l m = decide ((l.2.1.1 < 0 ∨ l.2.1.1 > m) ∨ (l.2.1.2.1 < 0 ∨ l.2.1.2.1 > m) ∨ (l.2.1.2.2 < 0 ∨ l.2.1.2.2 > m)) := by
  unfold s_asset_outside_n3 s_slices_ContainsFunc_g_n3 s_slices_IndexFunc_g_n3
  simp only [lt, out1]
  by_cases h1 : l.2.1.1 < 0 ∨ l.2.1.1 > m <;> by_cases h2 : l.2.1.2.1 < 0 ∨ l.2.1.2.1 > m <;> by_cases h3 : l.2.1.2.2 < 0 ∨ l.2.1.2.2 > m <;> simp [h1, h2, h3]
theorem light1 (p : T3) : s_asset_Light_1 p = decide (Far3 p 4096) := by
  unfold s_asset_Light_1 Far3
  simp only [lt, gmax_eq, gmin_eq]
  repeat' split
  all_goals simp
  all_goals omega
theorem off_v (p : T3) (m : Int) (hm : 0 ≤ m ∧ m ≤ 1000000) : s_umbraref13_Off p m = decide (Far3 p m) := by
  unfold s_umbraref13_Off Far3
  simp only [lt, wr_id (n := 0 - m) (by unfold InI; omega)]
  repeat' split
  all_goals simp
  all_goals omega
theorem within_v (p : T3) (m : Int) (hm : 0 ≤ m ∧ m ≤ 1000000) : s_tri_within p m = decide (¬ Far3 p m) := by
  unfold s_tri_within Far3
  simp only [lt, gmax_eq, gmin_eq, wr_id (n := 0 - m) (by unfold InI; omega)]
  repeat' split
  all_goals simp
  all_goals omega
theorem may_v (o d : T3) : s_tri_May o d = decide (¬ Far3 o 65536 ∧ ¬ Far3 d 131072 ∧ d ≠ (0, 0, 0)) := by
  unfold s_tri_May
  simp only [lt, within_v o 65536 (by omega), within_v d 131072 (by omega)]
  by_cases h1 : Far3 o 65536 <;> by_cases h2 : Far3 d 131072 <;> by_cases h3 : d = (0, 0, 0) <;> simp [h1, h2, h3]
theorem light_ok {l : Lt} (h : s_asset_Light l = 0) : (0 ≤ l.1 ∧ l.1 ≤ 2) ∧ ((0 ≤ l.2.1.1 ∧ l.2.1.1 ≤ 1048576) ∧ (0 ≤ l.2.1.2.1 ∧ l.2.1.2.1 ≤ 1048576) ∧ (0 ≤ l.2.1.2.2 ∧ l.2.1.2.2 ≤ 1048576)) ∧ ¬ Far3 l.2.2.1 4096 ∧ ¬ Far3 l.2.2.2.1 4096 ∧ ¬ Far3 l.2.2.2.2 4096 := by
  unfold s_asset_Light at h
  simp only [lt, outn1, outn3, light1, decide_eq_true_eq] at h
  by_cases h1 : l.1 < 0 ∨ l.1 > 2
  · rw [if_pos h1] at h; omega
  rw [if_neg h1] at h
  by_cases h2 : (l.2.1.1 < 0 ∨ l.2.1.1 > 1048576) ∨ (l.2.1.2.1 < 0 ∨ l.2.1.2.1 > 1048576) ∨ (l.2.1.2.2 < 0 ∨ l.2.1.2.2 > 1048576)
  · rw [if_pos h2] at h; omega
  rw [if_neg h2] at h
  by_cases h3 : Far3 l.2.2.1 4096
  · rw [if_pos h3] at h; omega
  rw [if_neg h3] at h
  by_cases h4 : Far3 l.2.2.2.1 4096
  · rw [if_pos h4] at h; omega
  rw [if_neg h4] at h
  by_cases h5 : Far3 l.2.2.2.2 4096
  · rw [if_pos h5] at h; omega
  exact ⟨by omega, by omega, h3, h4, h5⟩
theorem near3 {p : T3} {m : Int} (h : ¬ Far3 p m) : (-m ≤ p.1 ∧ p.1 ≤ m) ∧ (-m ≤ p.2.1 ∧ p.2.1 ≤ m) ∧ (-m ≤ p.2.2 ∧ p.2.2 ≤ m) := by unfold Far3 at h; omega
theorem md_v {u x : Int} (hu : -4096 ≤ u ∧ u ≤ 4096) (hx : InU32 x) : mdN u (IntKind.i64.wrap x) 4294967296 = u * x / 4294967296 ∧ min u 0 ≤ u * x / 4294967296 ∧ u * x / 4294967296 ≤ max u 0 := by
  unfold InU32 at hx
  rw [wr_id (by unfold InI; omega)]
  have b : min u 0 ≤ u * x / 4294967296 ∧ u * x / 4294967296 ≤ max u 0 := by
    rcases Int.le_total 0 u with h | h
    · have h1 := Int.mul_nonneg h hx.1
      have h2 := Int.mul_le_mul_of_nonneg_left hx.2 h
      omega
    · have h1 := Int.mul_nonneg (show 0 ≤ -u by omega) hx.1
      have h2 := Int.mul_le_mul_of_nonneg_left hx.2 (show 0 ≤ -u by omega)
      rw [Int.neg_mul] at h1 h2
      omega
  refine ⟨?_, b⟩
  unfold mdN
  rw [if_neg (by omega)]
  unfold fq
  rw [if_pos (by omega)]
  exact clampI_v (by omega)
theorem point1 {t u v : Int} {draw : Int × Int} (ht : -4096 ≤ t ∧ t ≤ 4096) (hu : -4096 ≤ u ∧ u ≤ 4096) (hv : -4096 ≤ v ∧ v ≤ 4096) (h1 : InU32 draw.1) (h2 : InU32 draw.2) : s_lamp_Point_1 draw t u v = t + u * draw.1 / 4294967296 + v * draw.2 / 4294967296 ∧ t + min u 0 + min v 0 ≤ t + u * draw.1 / 4294967296 + v * draw.2 / 4294967296 ∧ t + u * draw.1 / 4294967296 + v * draw.2 / 4294967296 ≤ t + max u 0 + max v 0 := by
  unfold s_lamp_Point_1
  simp only [lt]
  obtain ⟨e1, a1, a2⟩ := md_v hu h1
  obtain ⟨e2, b1, b2⟩ := md_v hv h2
  rw [e1, e2]
  generalize u * draw.1 / 4294967296 = A at *
  generalize v * draw.2 / 4294967296 = B at *
  rw [wr_id (n := t + A) (by unfold InI; omega), wr_id (n := t + A + B) (by unfold InI; omega)]
  omega
theorem LampArea_true (l : Lt) (draw : Int × Int) (h1 : InU32 draw.1) (h2 : InU32 draw.2) : s_umbralaw27_LampArea l draw = true := by
  unfold s_umbralaw27_LampArea
  simp only [lt, works27, if_true]
  by_cases h : s_asset_Light (1, l.2.1, l.2.2.1, l.2.2.2.1, l.2.2.2.2) = 0
  · rw [if_pos h]
    obtain ⟨-, -, n1, n2, n3⟩ := light_ok h
    simp only at n1 n2 n3
    obtain ⟨a1, a2, a3⟩ := near3 n1
    obtain ⟨b1, b2, b3⟩ := near3 n2
    obtain ⟨c1, c2, c3⟩ := near3 n3
    have z : InU32 0 := by unfold InU32; omega
    obtain ⟨p1, p2, p3⟩ := point1 (draw := draw) a1 b1 c1 h1 h2
    obtain ⟨q1, q2, q3⟩ := point1 (draw := draw) a2 b2 c2 h1 h2
    obtain ⟨r1, r2, r3⟩ := point1 (draw := draw) a3 b3 c3 h1 h2
    have ep : ∀ d : Int × Int, s_lamp_Point (1, l.2.1, l.2.2.1, l.2.2.2.1, l.2.2.2.2) d = (s_lamp_Point_1 d l.2.2.1.1 l.2.2.2.1.1 l.2.2.2.2.1, s_lamp_Point_1 d l.2.2.1.2.1 l.2.2.2.1.2.1 l.2.2.2.2.2.1, s_lamp_Point_1 d l.2.2.1.2.2 l.2.2.2.1.2.2 l.2.2.2.2.2.2) := fun _ => rfl
    have e0 : s_lamp_Point (1, l.2.1, l.2.2.1, l.2.2.2.1, l.2.2.2.2) (0, 0) = l.2.2.1 := by
      rw [ep, (point1 (draw := (0, 0)) a1 b1 c1 z z).1, (point1 (draw := (0, 0)) a2 b2 c2 z z).1, (point1 (draw := (0, 0)) a3 b3 c3 z z).1]
      simp
    generalize hP : s_lamp_Point (1, l.2.1, l.2.2.1, l.2.2.2.1, l.2.2.2.2) draw = P at *
    generalize s_lamp_Point (1, l.2.1, l.2.2.1, l.2.2.2.1, l.2.2.2.2) (0, 0) = P0 at *
    subst e0
    rw [ep draw, p1, q1, r1] at hP
    have hP1 := congrArg Prod.fst hP
    have hP2 := congrArg (fun t : T3 => t.2.1) hP
    have hP3 := congrArg (fun t : T3 => t.2.2) hP
    simp only at hP1 hP2 hP3
    have w : ∀ t a b : Int, (-4096 ≤ t ∧ t ≤ 4096) → (-4096 ≤ a ∧ a ≤ 4096) → (-4096 ≤ b ∧ b ≤ 4096) → IntKind.i64.wrap (IntKind.i64.wrap (t + gmin a 0) + gmin b 0) = t + min a 0 + min b 0 ∧ IntKind.i64.wrap (IntKind.i64.wrap (t + gmax a 0) + gmax b 0) = t + max a 0 + max b 0 := by
      intro t a b ht ha hb
      rw [gmin_eq, gmin_eq, gmax_eq, gmax_eq]
      constructor
      · rw [wr_id (n := t + min a 0) (by unfold InI; omega), wr_id (by unfold InI; omega)]
      · rw [wr_id (n := t + max a 0) (by unfold InI; omega), wr_id (by unfold InI; omega)]
    have w1 := w _ _ _ a1 b1 c1
    have w2 := w _ _ _ a2 b2 c2
    have w3 := w _ _ _ a3 b3 c3
    rw [if_neg (by rw [w1.1]; omega), if_neg (by rw [w1.2]; omega), if_neg (by rw [w2.1]; omega), if_neg (by rw [w2.2]; omega), if_neg (by rw [w3.1]; omega), if_neg (by rw [w3.2]; omega)]
    simp
  · rw [if_neg h]
end Go.Proofs.Ytjhnkpapbjkbcaa

namespace Go.Proofs.Ytjhnkpapbjkbcaa
open Go.RowKit Go.Sort
set_option linter.unusedVariables false
set_option linter.unusedSimpArgs false

theorem LampArea_law (l : Int × (Int × Int × Int) × (Int × Int × Int) × (Int × Int × Int) × (Int × Int × Int)) (draw : Int × Int) (h_l : (InI l.1 ∧ InV l.2.1 ∧ InV l.2.2.1 ∧ InV l.2.2.2.1 ∧ InV l.2.2.2.2)) (h_draw : (InU32 draw.1 ∧ InU32 draw.2)) : s_umbralaw27_LampArea l draw = true := LampArea_true l draw h_draw.1 h_draw.2

theorem lawLampArea (ns0 : List Int) (h0 : Al2 Fits [.i64, .i64, .i64, .i64, .i64, .i64, .i64, .i64, .i64, .i64, .i64, .i64, .i64] ns0) (ns1 : List Int) (h1 : Al2 Fits [.u32, .u32] ns1) (w : World) : Calls Try.prog 11 #[.agg (vals [.i64, .i64, .i64, .i64, .i64, .i64, .i64, .i64, .i64, .i64, .i64, .i64, .i64] ns0).toArray, .agg (vals [.u32, .u32] ns1).toArray] w (Ret (.bool true) w) := by
  obtain ⟨b0_0, l0_0, rfl, f0_0, h0⟩ := al2_cons h0
  obtain ⟨b0_1, l0_1, rfl, f0_1, h0⟩ := al2_cons h0
  obtain ⟨b0_2, l0_2, rfl, f0_2, h0⟩ := al2_cons h0
  obtain ⟨b0_3, l0_3, rfl, f0_3, h0⟩ := al2_cons h0
  obtain ⟨b0_4, l0_4, rfl, f0_4, h0⟩ := al2_cons h0
  obtain ⟨b0_5, l0_5, rfl, f0_5, h0⟩ := al2_cons h0
  obtain ⟨b0_6, l0_6, rfl, f0_6, h0⟩ := al2_cons h0
  obtain ⟨b0_7, l0_7, rfl, f0_7, h0⟩ := al2_cons h0
  obtain ⟨b0_8, l0_8, rfl, f0_8, h0⟩ := al2_cons h0
  obtain ⟨b0_9, l0_9, rfl, f0_9, h0⟩ := al2_cons h0
  obtain ⟨b0_10, l0_10, rfl, f0_10, h0⟩ := al2_cons h0
  obtain ⟨b0_11, l0_11, rfl, f0_11, h0⟩ := al2_cons h0
  obtain ⟨b0_12, l0_12, rfl, f0_12, h0⟩ := al2_cons h0
  obtain rfl := al2_nil h0
  obtain ⟨b1_0, l1_0, rfl, f1_0, h1⟩ := al2_cons h1
  obtain ⟨b1_1, l1_1, rfl, f1_1, h1⟩ := al2_cons h1
  obtain rfl := al2_nil h1
  have hw := w_umbralaw27_LampArea (b0_0, (b0_1, b0_2, b0_3), (b0_4, b0_5, b0_6), (b0_7, b0_8, b0_9), (b0_10, b0_11, b0_12)) (b1_0, b1_1) ⟨fit_i64 f0_0, ⟨fit_i64 f0_1, fit_i64 f0_2, fit_i64 f0_3⟩, ⟨fit_i64 f0_4, fit_i64 f0_5, fit_i64 f0_6⟩, ⟨fit_i64 f0_7, fit_i64 f0_8, fit_i64 f0_9⟩, ⟨fit_i64 f0_10, fit_i64 f0_11, fit_i64 f0_12⟩⟩ ⟨fit_u32 f1_0, fit_u32 f1_1⟩ w
  rw [LampArea_law (b0_0, (b0_1, b0_2, b0_3), (b0_4, b0_5, b0_6), (b0_7, b0_8, b0_9), (b0_10, b0_11, b0_12)) (b1_0, b1_1) ⟨fit_i64 f0_0, ⟨fit_i64 f0_1, fit_i64 f0_2, fit_i64 f0_3⟩, ⟨fit_i64 f0_4, fit_i64 f0_5, fit_i64 f0_6⟩, ⟨fit_i64 f0_7, fit_i64 f0_8, fit_i64 f0_9⟩, ⟨fit_i64 f0_10, fit_i64 f0_11, fit_i64 f0_12⟩⟩ ⟨fit_u32 f1_0, fit_u32 f1_1⟩] at hw
  exact hw

end Go.Proofs.Ytjhnkpapbjkbcaa
