/- Walks: texture.Check, texture.At, texel.Sample and the document's, on any texture. -/
import Derived.Test.YtognbeejobfpfaaGoC
import Derived.Test.YtognbeejobfpfaaGoX
import Derived.Test.YtognbeejobfpfaaGoM
import Derived.Test.YtognbeejobfpfaaGoQ
namespace Go.Proofs.Ytognbeejobfpfaa
open Go.RowKit Go.Sort
set_option linter.unusedVariables false
set_option linter.unusedSimpArgs false

def e_slices_Index_g_v (r : Int) : Value := .int .i64 r
def s_slices_Index_g_v (v : Int) : Int :=
  if v = 1 then
    0
  else
    if v = 2 then
      1
    else
      if v = 4 then
        2
      else
        if v = 8 then
          3
        else
          if v = 16 then
            4
          else
            (-1)
set_option maxRecDepth 100000 in
set_option maxHeartbeats 4000000 in
theorem w_slices_Index_g_v (v : Int) (B0 : Nat) (T0 : TypeId) (fr0 : Nat × Nat) (w : World) (hB0 : Has B0 (.cells #[.int .i64 1, .int .i64 2, .int .i64 4, .int .i64 8, .int .i64 16] T0 fr0) w) : Calls Try.prog 75 #[.slice (some ⟨B0, 0, none⟩) 5 5, .int .i64 v] w (Ret (e_slices_Index_g_v (s_slices_Index_g_v v)) w) := by
  obtain ⟨R, HR⟩ : ∃ R, e_slices_Index_g_v (s_slices_Index_g_v v) = R := ⟨_, rfl⟩
  rw [HR]
  unfold s_slices_Index_g_v at HR
  have hM0 := St.start1 hB0
  refine calls_run Try.func75 rfl ?_
  refine R_seq (R_region (S_val (.int .i64 0) (by kernel_rfl) (S_nil (R_seq (R_seq (R_region (S_val (.slice (some ⟨B0, 0, none⟩) 5 5) (by kernel_rfl) (S_val (.int .i64 5) (by kernel_rfl) (S_val (.int .i64 0) (by kernel_rfl) (S_nil (R_block (?_))))))))))))
  refine R_loop (R_seq (R_region (S_val (.bool true) (by kernel_rfl) (S_nil (R_seq (R_yes (by kernel_rfl) (R_skip (R_seq (R_block (R_seq (R_region (?_))))))))))))
  refine S_val (.int .i64 0) (by kernel_rfl) (S_val (.int .i64 0) (by kernel_rfl) (S_nil (R_seq (R_region (S_val (.int .i64 v) (by kernel_rfl) (S_val (.slice (some ⟨B0, 0, none⟩) 5 5) (by kernel_rfl) (S_val (.int .i64 0) (by kernel_rfl) (S_val (.pointer (some ⟨B0, 0, none⟩)) (by kernel_rfl) (S_load 0 0 (.int .i64 1) hM0 (by kernel_rfl) (?_))))))))))
  refine S_dec (v = 1) (by kernel_rfl) (fun c1 => ?_) (fun c1 => ?_)
  · refine S_nil (R_yes (by kernel_rfl) (R_seq (R_region (S_val (.int .i64 0) (by kernel_rfl) (S_val (.int .i64 0) (by kernel_rfl) (S_nil (?_)))))))
    have HR := hr_pos HR c1
    refine R_ret hM0 rfl (.cons (.tmp _ (.int .i64 0) (by kernel_rfl)) .nil) rfl ?_
    exact ⟨congrArg Ending.returned HR, hM0.below⟩
  · refine S_nil (R_no (by kernel_rfl) (R_skip (R_inBlock (R_region (S_val (.int .i64 1) (by kernel_rfl) (S_val (.int .i64 1) (by kernel_rfl) (S_nil (R_inLoop (R_seq (R_region (S_val (.bool true) (by kernel_rfl) (?_))))))))))))
    have HR := hr_neg HR c1
    refine S_nil (R_seq (R_yes (by kernel_rfl) (R_skip (R_seq (R_block (R_seq (R_region (S_val (.int .i64 1) (by kernel_rfl) (S_val (.int .i64 1) (by kernel_rfl) (S_nil (R_seq (?_))))))))))))
    refine R_region (S_val (.int .i64 v) (by kernel_rfl) (S_val (.slice (some ⟨B0, 0, none⟩) 5 5) (by kernel_rfl) (S_val (.int .i64 1) (by kernel_rfl) (S_val (.pointer (some ⟨B0, 1, none⟩)) (by kernel_rfl) (S_load 0 1 (.int .i64 2) hM0 (by kernel_rfl) (?_))))))
    refine S_dec (v = 2) (by kernel_rfl) (fun c2 => ?_) (fun c2 => ?_)
    · refine S_nil (R_yes (by kernel_rfl) (R_seq (R_region (S_val (.int .i64 1) (by kernel_rfl) (S_val (.int .i64 1) (by kernel_rfl) (S_nil (?_)))))))
      have HR := hr_pos HR c2
      refine R_ret hM0 rfl (.cons (.tmp _ (.int .i64 1) (by kernel_rfl)) .nil) rfl ?_
      exact ⟨congrArg Ending.returned HR, hM0.below⟩
    · refine S_nil (R_no (by kernel_rfl) (R_skip (R_inBlock (R_region (S_val (.int .i64 2) (by kernel_rfl) (S_val (.int .i64 2) (by kernel_rfl) (S_nil (R_inLoop (R_seq (R_region (S_val (.bool true) (by kernel_rfl) (?_))))))))))))
      have HR := hr_neg HR c2
      refine S_nil (R_seq (R_yes (by kernel_rfl) (R_skip (R_seq (R_block (R_seq (R_region (S_val (.int .i64 2) (by kernel_rfl) (S_val (.int .i64 2) (by kernel_rfl) (S_nil (R_seq (?_))))))))))))
      refine R_region (S_val (.int .i64 v) (by kernel_rfl) (S_val (.slice (some ⟨B0, 0, none⟩) 5 5) (by kernel_rfl) (S_val (.int .i64 2) (by kernel_rfl) (S_val (.pointer (some ⟨B0, 2, none⟩)) (by kernel_rfl) (S_load 0 2 (.int .i64 4) hM0 (by kernel_rfl) (?_))))))
      refine S_dec (v = 4) (by kernel_rfl) (fun c3 => ?_) (fun c3 => ?_)
      · refine S_nil (R_yes (by kernel_rfl) (R_seq (R_region (S_val (.int .i64 2) (by kernel_rfl) (S_val (.int .i64 2) (by kernel_rfl) (S_nil (?_)))))))
        have HR := hr_pos HR c3
        refine R_ret hM0 rfl (.cons (.tmp _ (.int .i64 2) (by kernel_rfl)) .nil) rfl ?_
        exact ⟨congrArg Ending.returned HR, hM0.below⟩
      · refine S_nil (R_no (by kernel_rfl) (R_skip (R_inBlock (R_region (S_val (.int .i64 3) (by kernel_rfl) (S_val (.int .i64 3) (by kernel_rfl) (S_nil (R_inLoop (R_seq (R_region (S_val (.bool true) (by kernel_rfl) (?_))))))))))))
        have HR := hr_neg HR c3
        refine S_nil (R_seq (R_yes (by kernel_rfl) (R_skip (R_seq (R_block (R_seq (R_region (S_val (.int .i64 3) (by kernel_rfl) (S_val (.int .i64 3) (by kernel_rfl) (S_nil (R_seq (?_))))))))))))
        refine R_region (S_val (.int .i64 v) (by kernel_rfl) (S_val (.slice (some ⟨B0, 0, none⟩) 5 5) (by kernel_rfl) (S_val (.int .i64 3) (by kernel_rfl) (S_val (.pointer (some ⟨B0, 3, none⟩)) (by kernel_rfl) (S_load 0 3 (.int .i64 8) hM0 (by kernel_rfl) (?_))))))
        refine S_dec (v = 8) (by kernel_rfl) (fun c4 => ?_) (fun c4 => ?_)
        · refine S_nil (R_yes (by kernel_rfl) (R_seq (R_region (S_val (.int .i64 3) (by kernel_rfl) (S_val (.int .i64 3) (by kernel_rfl) (S_nil (?_)))))))
          have HR := hr_pos HR c4
          refine R_ret hM0 rfl (.cons (.tmp _ (.int .i64 3) (by kernel_rfl)) .nil) rfl ?_
          exact ⟨congrArg Ending.returned HR, hM0.below⟩
        · refine S_nil (R_no (by kernel_rfl) (R_skip (R_inBlock (R_region (S_val (.int .i64 4) (by kernel_rfl) (S_val (.int .i64 4) (by kernel_rfl) (S_nil (R_inLoop (R_seq (R_region (S_val (.bool true) (by kernel_rfl) (?_))))))))))))
          have HR := hr_neg HR c4
          refine S_nil (R_seq (R_yes (by kernel_rfl) (R_skip (R_seq (R_block (R_seq (R_region (S_val (.int .i64 4) (by kernel_rfl) (S_val (.int .i64 4) (by kernel_rfl) (S_nil (R_seq (?_))))))))))))
          refine R_region (S_val (.int .i64 v) (by kernel_rfl) (S_val (.slice (some ⟨B0, 0, none⟩) 5 5) (by kernel_rfl) (S_val (.int .i64 4) (by kernel_rfl) (S_val (.pointer (some ⟨B0, 4, none⟩)) (by kernel_rfl) (S_load 0 4 (.int .i64 16) hM0 (by kernel_rfl) (?_))))))
          refine S_dec (v = 16) (by kernel_rfl) (fun c5 => ?_) (fun c5 => ?_)
          · refine S_nil (R_yes (by kernel_rfl) (R_seq (R_region (S_val (.int .i64 4) (by kernel_rfl) (S_val (.int .i64 4) (by kernel_rfl) (S_nil (?_)))))))
            have HR := hr_pos HR c5
            refine R_ret hM0 rfl (.cons (.tmp _ (.int .i64 4) (by kernel_rfl)) .nil) rfl ?_
            exact ⟨congrArg Ending.returned HR, hM0.below⟩
          · refine S_nil (R_no (by kernel_rfl) (R_skip (R_inBlock (R_region (S_val (.int .i64 5) (by kernel_rfl) (S_val (.int .i64 5) (by kernel_rfl) (S_nil (R_inLoop (R_seq (R_region (S_val (.bool false) (by kernel_rfl) (?_))))))))))))
            have HR := hr_neg HR c5
            refine S_nil (R_seq (R_no (by kernel_rfl) (R_exit rfl (R_seq (R_region (S_val (.int .i64 (-1)) (by kernel_rfl) (S_nil (?_))))))))
            refine R_ret hM0 rfl (.cons (.tmp _ (.int .i64 (-1)) (by kernel_rfl)) .nil) rfl ?_
            exact ⟨congrArg Ending.returned HR, hM0.below⟩

def P_slices_Index_g_v (r : Int) : Prop := InI r
theorem i_slices_Index_g_v (v : Int) : P_slices_Index_g_v (s_slices_Index_g_v v) := by
  unfold s_slices_Index_g_v
  exact (ite_P (fun c1 => (show InI 0 from (show InI 0 from by unfold InI; omega))) (fun c1 => (ite_P (fun c2 => (show InI 1 from (show InI 1 from by unfold InI; omega))) (fun c2 => (ite_P (fun c3 => (show InI 2 from (show InI 2 from by unfold InI; omega))) (fun c3 => (ite_P (fun c4 => (show InI 3 from (show InI 3 from by unfold InI; omega))) (fun c4 => (ite_P (fun c5 => (show InI 4 from (show InI 4 from by unfold InI; omega))) (fun c5 => (show InI (-1) from (show InI (-1) from by unfold InI; omega))))))))))))

def e_slices_Contains_g_v (r : Bool) : Value := .bool r
def s_slices_Contains_g_v (v : Int) : Bool :=
  lt (s_slices_Index_g_v v) fun r1 =>
  if r1 ≥ 0 then
    true
  else
    false
set_option maxRecDepth 100000 in
set_option maxHeartbeats 4000000 in
theorem w_slices_Contains_g_v (v : Int) (B0 : Nat) (T0 : TypeId) (fr0 : Nat × Nat) (w : World) (hB0 : Has B0 (.cells #[.int .i64 1, .int .i64 2, .int .i64 4, .int .i64 8, .int .i64 16] T0 fr0) w) : Calls Try.prog 40 #[.slice (some ⟨B0, 0, none⟩) 5 5, .int .i64 v] w (Ret (e_slices_Contains_g_v (s_slices_Contains_g_v v)) w) := by
  obtain ⟨R, HR⟩ : ∃ R, e_slices_Contains_g_v (s_slices_Contains_g_v v) = R := ⟨_, rfl⟩
  rw [HR]
  unfold s_slices_Contains_g_v at HR
  have hM0 := St.start1 hB0
  refine calls_run Try.func40 rfl ?_
  refine R_seq (R_region (S_val (.bool false) (by kernel_rfl) (S_nil (R_seq (R_region (S_val (.slice (some ⟨B0, 0, none⟩) 5 5) (by kernel_rfl) (S_val (.int .i64 v) (by kernel_rfl) (S_call (s_slices_Index_g_v v) (fun r : Int => .int .i64 r) hM0 (w_slices_Index_g_v v B0 _ _ w (hM0.at 0 rfl)) (by kernel_rfl) (fun r1 h2 w3 hM4 => ?_)))))))))
  have HR := hr_lt HR h2
  refine S_dec (r1 ≥ 0) (by kernel_rfl) (fun c5 => ?_) (fun c5 => ?_)
  · refine S_val (.bool true) (by kernel_rfl) (S_nil (?_))
    have HR := hr_pos HR c5
    refine R_ret hM4 rfl (.cons (.tmp _ (.bool true) (by kernel_rfl)) .nil) rfl ?_
    exact ⟨congrArg Ending.returned HR, hM4.below⟩
  · refine S_val (.bool false) (by kernel_rfl) (S_nil (?_))
    have HR := hr_neg HR c5
    refine R_ret hM4 rfl (.cons (.tmp _ (.bool false) (by kernel_rfl)) .nil) rfl ?_
    exact ⟨congrArg Ending.returned HR, hM4.below⟩

def e_texture_Check (r : Int) : Value := .int .i64 r
def L4_texture_Check (side : Int) (l : List (Int × Int × Int)) : Nat → (Int) → Int
  | 0, _ => default
  | f14 + 1, k =>
    if k < (List.length l : Int) then
      lt (gmin (gmin ((gd zero3 l k).1) ((gd zero3 l k).2.1)) ((gd zero3 l k).2.2)) fun x28 =>
      if x28 < 0 then
        5
      else
        lt (gmax (gmax ((gd zero3 l k).1) ((gd zero3 l k).2.1)) ((gd zero3 l k).2.2)) fun x31 =>
        if x31 > 255 then
          5
        else
          lt (IntKind.i64.wrap (k + 1)) fun x34 =>
          L4_texture_Check side l f14 x34
    else
      0
def s_texture_Check (side : Int) (l : List (Int × Int × Int)) : Int :=
  lt (s_slices_Contains_g_v side) fun r7 =>
  if r7 = true then
    lt (IntKind.i64.wrap (side * side)) fun x11 =>
    if (List.length l : Int) = x11 then
      L4_texture_Check side l (Int.toNat ((List.length l : Int) - 0) + 1) 0
    else
      5
  else
    5
set_option maxRecDepth 100000 in
set_option maxHeartbeats 4000000 in
theorem w_texture_Check (side : Int) (l : List (Int × Int × Int)) (w : World) (A : Option Addr) (cap : Nat) (hR : Rd v3c 3 w A l) (hl : (List.length l : Int) ≤ 1000) : Calls Try.prog 15 #[.agg #[.int .i64 side, .slice A (List.length l) cap]] w (Ret (e_texture_Check (s_texture_Check side l)) w) := by
  obtain ⟨R, HR⟩ : ∃ R, e_texture_Check (s_texture_Check side l) = R := ⟨_, rfl⟩
  rw [HR]
  unfold s_texture_Check at HR
  have hM0 := St.start w
  refine calls_run Try.func15 rfl ?_
  refine R_seq (R_region (S_fresh none #[.int .i64 side, .slice A (List.length l) cap] 24 hM0 (by kernel_rfl) (fun g1 w2 hM3 => S_val (.int .i64 0) (by kernel_rfl) (S_nil (R_seq (R_seq (R_region (S_fresh (some 5) #[.int .i64 1, .int .i64 2, .int .i64 4, .int .i64 8, .int .i64 16] 3 hM3 (by kernel_rfl) (fun g4 w5 hM6 => S_val (.pointer (some ⟨g1, 0, none⟩)) (by kernel_rfl) (S_load 1 0 (.int .i64 side) hM6 (by kernel_rfl) (S_call (s_slices_Contains_g_v side) (fun r : Bool => .bool r) hM6 (w_slices_Contains_g_v side g4 _ _ w5 (hM6.at 0 rfl)) (by kernel_rfl) (fun r7 h8 w9 hM10 => ?_))))))))))))
  have HR := hr_lt HR h8
  cases r7
  · refine S_val (.bool true) (by kernel_rfl) (S_val (.bool true) (by kernel_rfl) (S_skip (by kernel_rfl) (S_skip (by kernel_rfl) (S_skip (by kernel_rfl) (S_skip (by kernel_rfl) (S_skip (by kernel_rfl) (S_skip (by kernel_rfl) (S_skip (by kernel_rfl) (S_skip (by kernel_rfl) (S_skip (by kernel_rfl) (S_val (.bool true) (by kernel_rfl) (?_))))))))))))
    have HR := hr_neg HR Bool.false_ne_true
    refine S_nil (R_yes (by kernel_rfl) (R_seq (R_region (S_val (.int .i64 5) (by kernel_rfl) (S_nil (?_))))))
    refine R_ret hM10 rfl (.cons (.tmp _ (.int .i64 5) (by kernel_rfl)) .nil) rfl ?_
    exact ⟨congrArg Ending.returned HR, hM10.below⟩
  · refine S_val (.bool false) (by kernel_rfl) (S_val (.bool false) (by kernel_rfl) (S_val (.pointer (some ⟨g1, 1, none⟩)) (by kernel_rfl) (S_load 1 1 (.slice A (List.length l) cap) hM10 (by kernel_rfl) (S_val (.int .i64 (List.length l : Int)) (by kernel_rfl) (S_val (.pointer (some ⟨g1, 0, none⟩)) (by kernel_rfl) (S_load 1 0 (.int .i64 side) hM10 (by kernel_rfl) (S_val (.pointer (some ⟨g1, 0, none⟩)) (by kernel_rfl) (S_load 1 0 (.int .i64 side) hM10 (by kernel_rfl) (S_int (IntKind.i64.wrap (side * side)) .i64 (by kernel_rfl) (fun x11 h12 => ?_))))))))))
    have HR := hr_pos HR rfl
    have HR := hr_lt HR h12
    refine S_decn ((List.length l : Int) = x11) (by kernel_rfl) (fun c13 => ?_) (fun c13 => ?_)
    · refine S_val (.bool true) (by kernel_rfl) (S_nil (R_yes (by kernel_rfl) (R_seq (R_region (S_val (.int .i64 5) (by kernel_rfl) (S_nil (?_)))))))
      have HR := hr_neg HR c13
      refine R_ret hM10 rfl (.cons (.tmp _ (.int .i64 5) (by kernel_rfl)) .nil) rfl ?_
      exact ⟨congrArg Ending.returned HR, hM10.below⟩
    · refine S_val (.bool false) (by kernel_rfl) (S_nil (R_no (by kernel_rfl) (R_skip (R_seq (R_seq (R_region (S_val (.pointer (some ⟨g1, 1, none⟩)) (by kernel_rfl) (S_load 1 1 (.slice A (List.length l) cap) hM10 (by kernel_rfl) (S_val (.int .i64 (List.length l : Int)) (by kernel_rfl) (S_val (.int .i64 0) (by kernel_rfl) (S_nil (?_))))))))))))
      have HR := hr_pos HR c13
      refine R_block (?_)
      refine R_fuel (fun m15 a16 w17 => ∃ (k : Int) (u1 : List Value), a16 = { tmps := #[.agg #[.int .i64 side, .slice A (List.length l) cap], .pointer (some ⟨g1, 0, none⟩), (gv u1 0), undef, (gv u1 1), .slice (some ⟨g4, 0, none⟩) 5 5, .pointer (some ⟨g1, 0, none⟩), .int .i64 side, .bool true, .bool false, .bool false, .pointer (some ⟨g1, 1, none⟩), .slice A (List.length l) cap, .int .i64 (List.length l : Int), .pointer (some ⟨g1, 0, none⟩), .int .i64 side, .pointer (some ⟨g1, 0, none⟩), .int .i64 side, .int .i64 x11, .bool false, .bool false, .pointer (some ⟨g1, 1, none⟩), .slice A (List.length l) cap, .int .i64 (List.length l : Int), .int .i64 k, (gv u1 2), (gv u1 3), (gv u1 4), (gv u1 5), (gv u1 6), (gv u1 7), (gv u1 8), (gv u1 9), (gv u1 10), (gv u1 11), (gv u1 12), (gv u1 13), (gv u1 14), (gv u1 15), (gv u1 16), (gv u1 17), (gv u1 18), (gv u1 19), (gv u1 20), (gv u1 21), (gv u1 22), (gv u1 23)], defers := [] } ∧ St w [⟨g4, #[.int .i64 1, .int .i64 2, .int .i64 4, .int .i64 8, .int .i64 16], 3, (0, 0), true⟩, ⟨g1, #[.int .i64 side, .slice A (List.length l) cap], 24, (0, 0), true⟩] w17 ∧ (List.length l : Int) - k < (m15 : Int) ∧ ((0 ≤ k ∧ k ≤ (List.length l : Int))) ∧ e_texture_Check (L4_texture_Check side l m15 k) = R) (Int.toNat ((List.length l : Int) - 0) + 1) ⟨0, [.int .i64 0, undef, undef, undef, undef, undef, undef, undef, undef, undef, undef, undef, undef, undef, undef, undef, undef, undef, undef, undef, undef, undef, undef, undef], by kernel_rfl, hM10, by omega, (by omega), HR⟩ ?_
      rintro m15 a16 w17 ⟨k, u1, rfl, hM18, hmu1, hk, HR⟩ hnext19
      obtain ⟨f14, rfl⟩ : ∃ f, m15 = f + 1 := ⟨m15 - 1, by omega⟩
      rw [L4_texture_Check] at HR
      refine R_seq (R_region (?_))
      refine S_dec (k < (List.length l : Int)) (by kernel_rfl) (fun c20 => ?_) (fun c20 => ?_)
      · refine S_nil (R_seq (R_yes (by kernel_rfl) (R_skip (R_seq (R_block (R_seq (R_region (?_))))))))
        have HR := hr_pos HR c20
        obtain ⟨b21, off22, rfl⟩ := Rd.op (i := k) hR (by omega)
        refine S_idx 36 3 b21 off22 (List.length l) cap k (by omega) (by kernel_rfl) (S_loadX v3c 3 zero3 k 0 b21 off22 (.agg #[.int .i64 ((gd zero3 l k).1), .int .i64 ((gd zero3 l k).2.1), .int .i64 ((gd zero3 l k).2.2)]) hM18 hR v3c_len (by omega) (by kernel_rfl) (S_fresh none #[.int .i64 0, .int .i64 0, .int .i64 0] 36 hM18 (by kernel_rfl) (fun g23 w24 hM25 => S_store 0 0 #[.int .i64 ((gd zero3 l k).1), .int .i64 ((gd zero3 l k).2.1), .int .i64 ((gd zero3 l k).2.2)] hM25 (by kernel_rfl) (fun w26 hM27 => S_nil (R_seq (R_region (S_val (.pointer (some ⟨g23, 0, none⟩)) (by kernel_rfl) (S_load 0 0 (.int .i64 ((gd zero3 l k).1)) hM27 (by kernel_rfl) (S_val (.pointer (some ⟨g23, 1, none⟩)) (by kernel_rfl) (S_load 0 1 (.int .i64 ((gd zero3 l k).2.1)) hM27 (by kernel_rfl) (S_val (.pointer (some ⟨g23, 2, none⟩)) (by kernel_rfl) (?_))))))))))))
        refine S_load 0 2 (.int .i64 ((gd zero3 l k).2.2)) hM27 (by kernel_rfl) (S_int (gmin (gmin ((gd zero3 l k).1) ((gd zero3 l k).2.1)) ((gd zero3 l k).2.2)) .i64 (by kernel_rfl) (fun x28 h29 => ?_))
        have HR := hr_lt HR h29
        refine S_dec (x28 < 0) (by kernel_rfl) (fun c30 => ?_) (fun c30 => ?_)
        · refine S_val (.bool true) (by kernel_rfl) (S_skip (by kernel_rfl) (S_skip (by kernel_rfl) (S_skip (by kernel_rfl) (S_skip (by kernel_rfl) (S_skip (by kernel_rfl) (S_skip (by kernel_rfl) (S_skip (by kernel_rfl) (S_skip (by kernel_rfl) (S_val (.bool true) (by kernel_rfl) (S_nil (R_yes (by kernel_rfl) (?_))))))))))))
          have HR := hr_pos HR c30
          refine R_seq (R_region (S_val (.int .i64 5) (by kernel_rfl) (S_nil (?_))))
          refine R_ret hM27 rfl (.cons (.tmp _ (.int .i64 5) (by kernel_rfl)) .nil) rfl ?_
          exact ⟨congrArg Ending.returned HR, hM27.below⟩
        · refine S_val (.bool false) (by kernel_rfl) (S_val (.pointer (some ⟨g23, 0, none⟩)) (by kernel_rfl) (S_load 0 0 (.int .i64 ((gd zero3 l k).1)) hM27 (by kernel_rfl) (S_val (.pointer (some ⟨g23, 1, none⟩)) (by kernel_rfl) (S_load 0 1 (.int .i64 ((gd zero3 l k).2.1)) hM27 (by kernel_rfl) (S_val (.pointer (some ⟨g23, 2, none⟩)) (by kernel_rfl) (S_load 0 2 (.int .i64 ((gd zero3 l k).2.2)) hM27 (by kernel_rfl) (S_int (gmax (gmax ((gd zero3 l k).1) ((gd zero3 l k).2.1)) ((gd zero3 l k).2.2)) .i64 (by kernel_rfl) (fun x31 h32 => ?_))))))))
          have HR := hr_neg HR c30
          have HR := hr_lt HR h32
          refine S_dec (x31 > 255) (by kernel_rfl) (fun c33 => ?_) (fun c33 => ?_)
          · refine S_val (.bool true) (by kernel_rfl) (S_nil (R_yes (by kernel_rfl) (R_seq (R_region (S_val (.int .i64 5) (by kernel_rfl) (S_nil (?_)))))))
            have HR := hr_pos HR c33
            refine R_ret hM27 rfl (.cons (.tmp _ (.int .i64 5) (by kernel_rfl)) .nil) rfl ?_
            exact ⟨congrArg Ending.returned HR, hM27.below⟩
          · refine S_val (.bool false) (by kernel_rfl) (S_nil (R_no (by kernel_rfl) (R_skip (R_inBlock (R_region (S_int (IntKind.i64.wrap (k + 1)) .i64 (by kernel_rfl) (fun x34 h35 => S_val (.int .i64 x34) (by kernel_rfl) (S_nil (?_)))))))))
            have HR := hr_neg HR c33
            have HR := hr_lt HR h35
            have hw_x34 := h35; rw [wrI] at hw_x34; unfold wrap64 at hw_x34
            exact hnext19 f14 _ _ (Nat.lt_succ_self _) ⟨x34, [(gv u1 0), .pointer (some ⟨g23, 0, none⟩), .bool true, .pointer (some ⟨b21, off22 + Int.toNat k * 3 + 0, none⟩), .agg #[.int .i64 ((gd zero3 l k).1), .int .i64 ((gd zero3 l k).2.1), .int .i64 ((gd zero3 l k).2.2)], .pointer (some ⟨g23, 0, none⟩), .int .i64 ((gd zero3 l k).1), .pointer (some ⟨g23, 1, none⟩), .int .i64 ((gd zero3 l k).2.1), .pointer (some ⟨g23, 2, none⟩), .int .i64 ((gd zero3 l k).2.2), .int .i64 x28, .bool false, .bool false, .pointer (some ⟨g23, 0, none⟩), .int .i64 ((gd zero3 l k).1), .pointer (some ⟨g23, 1, none⟩), .int .i64 ((gd zero3 l k).2.1), .pointer (some ⟨g23, 2, none⟩), .int .i64 ((gd zero3 l k).2.2), .int .i64 x31, .bool false, .bool false, .int .i64 x34], by kernel_rfl, hM27.off, by omega, (by omega), HR⟩
      · refine S_nil (R_seq (R_no (by kernel_rfl) (R_exit rfl (R_seq (R_region (S_val (.int .i64 0) (by kernel_rfl) (S_nil (?_))))))))
        have HR := hr_neg HR c20
        refine R_ret hM18 rfl (.cons (.tmp _ (.int .i64 0) (by kernel_rfl)) .nil) rfl ?_
        exact ⟨congrArg Ending.returned HR, hM18.below⟩

def e_umbraref14_Check (r : Int) : Value := .int .i64 r
def L4_umbraref14_Check (side : Int) (l : List (Int × Int × Int)) : Nat → (Int) → Int
  | 0, _ => default
  | f8 + 1, k =>
    if k < (List.length l : Int) then
      if (gd zero3 l k).1 < 0 then
        5
      else
        if (gd zero3 l k).1 > 255 then
          5
        else
          if (gd zero3 l k).2.1 < 0 then
            5
          else
            if (gd zero3 l k).2.1 > 255 then
              5
            else
              if (gd zero3 l k).2.2 < 0 then
                5
              else
                if (gd zero3 l k).2.2 > 255 then
                  5
                else
                  lt (IntKind.i64.wrap (k + 1)) fun x23 =>
                  L4_umbraref14_Check side l f8 x23
    else
      0
def s_umbraref14_Check (side : Int) (l : List (Int × Int × Int)) : Int :=
  if side = 1 then
    lt (IntKind.i64.wrap (side * side)) fun x42 =>
    if (List.length l : Int) = x42 then
      L4_umbraref14_Check side l (Int.toNat ((List.length l : Int) - 0) + 1) 0
    else
      5
  else
    if side = 2 then
      lt (IntKind.i64.wrap (side * side)) fun x39 =>
      if (List.length l : Int) = x39 then
        L4_umbraref14_Check side l (Int.toNat ((List.length l : Int) - 0) + 1) 0
      else
        5
    else
      if side = 4 then
        lt (IntKind.i64.wrap (side * side)) fun x36 =>
        if (List.length l : Int) = x36 then
          L4_umbraref14_Check side l (Int.toNat ((List.length l : Int) - 0) + 1) 0
        else
          5
      else
        if side = 8 then
          lt (IntKind.i64.wrap (side * side)) fun x33 =>
          if (List.length l : Int) = x33 then
            L4_umbraref14_Check side l (Int.toNat ((List.length l : Int) - 0) + 1) 0
          else
            5
        else
          if side = 16 then
            lt (IntKind.i64.wrap (side * side)) fun x30 =>
            if (List.length l : Int) = x30 then
              L4_umbraref14_Check side l (Int.toNat ((List.length l : Int) - 0) + 1) 0
            else
              5
          else
            5
set_option maxRecDepth 100000 in
set_option maxHeartbeats 4000000 in
theorem w_umbraref14_Check (side : Int) (l : List (Int × Int × Int)) (w : World) (A : Option Addr) (cap : Nat) (hR : Rd v3c 3 w A l) (hl : (List.length l : Int) ≤ 1000) : Calls Try.prog 44 #[.agg #[.int .i64 side, .slice A (List.length l) cap]] w (Ret (e_umbraref14_Check (s_umbraref14_Check side l)) w) := by
  obtain ⟨R, HR⟩ : ∃ R, e_umbraref14_Check (s_umbraref14_Check side l) = R := ⟨_, rfl⟩
  rw [HR]
  unfold s_umbraref14_Check at HR
  have hM0 := St.start w
  refine calls_run Try.func44 rfl ?_
  refine R_seq (R_region (S_fresh none #[.int .i64 side, .slice A (List.length l) cap] 24 hM0 (by kernel_rfl) (fun g1 w2 hM3 => S_val (.int .i64 0) (by kernel_rfl) (S_nil (?_)))))
  refine R_joinS1 (fun a7 w4 => ∃ (u1 : List Value), a7 = { tmps := #[.agg #[.int .i64 side, .slice A (List.length l) cap], .pointer (some ⟨g1, 0, none⟩), (gv u1 0), undef, undef, (gv u1 1), (gv u1 2), (gv u1 3), (gv u1 4), (gv u1 5), (gv u1 6), (gv u1 7), (gv u1 8), (gv u1 9), (gv u1 10), (gv u1 11), (gv u1 12), (gv u1 13), (gv u1 14), (gv u1 15), (gv u1 16), (gv u1 17), (gv u1 18), (gv u1 19), (gv u1 20), (gv u1 21), (gv u1 22), (gv u1 23), (gv u1 24), (gv u1 25), (gv u1 26), (gv u1 27), (gv u1 28), (gv u1 29), (gv u1 30), (gv u1 31), (gv u1 32), (gv u1 33), (gv u1 34), undef, undef, undef, undef, undef, undef, undef, undef, undef, undef, undef, undef, undef, undef, undef, undef, undef, undef, undef, undef, undef, undef, undef, undef, undef, undef, undef, undef, undef], defers := [] } ∧ St w [⟨g1, #[.int .i64 side, .slice A (List.length l) cap], 24, (0, 0), true⟩] w4 ∧ e_umbraref14_Check (
      L4_umbraref14_Check side l (Int.toNat ((List.length l : Int) - 0) + 1) 0
  ) = R) ?_ (fun hn6 => ?_)
  · rintro _ w4 ⟨u1, rfl, hM5, HR⟩
    refine R_seq (R_seq (R_region (S_val (.int .i64 0) (by kernel_rfl) (S_nil (R_block (?_))))))
    refine R_fuel (fun m9 a10 w11 => ∃ (k : Int) (u2 : List Value), a10 = { tmps := #[.agg #[.int .i64 side, .slice A (List.length l) cap], .pointer (some ⟨g1, 0, none⟩), (gv u2 0), .int .i64 k, (gv u2 1), (gv u1 1), (gv u1 2), (gv u1 3), (gv u1 4), (gv u1 5), (gv u1 6), (gv u1 7), (gv u1 8), (gv u1 9), (gv u1 10), (gv u1 11), (gv u1 12), (gv u1 13), (gv u1 14), (gv u1 15), (gv u1 16), (gv u1 17), (gv u1 18), (gv u1 19), (gv u1 20), (gv u1 21), (gv u1 22), (gv u1 23), (gv u1 24), (gv u1 25), (gv u1 26), (gv u1 27), (gv u1 28), (gv u1 29), (gv u1 30), (gv u1 31), (gv u1 32), (gv u1 33), (gv u1 34), (gv u2 2), (gv u2 3), (gv u2 4), (gv u2 5), (gv u2 6), (gv u2 7), (gv u2 8), (gv u2 9), (gv u2 10), (gv u2 11), (gv u2 12), (gv u2 13), (gv u2 14), (gv u2 15), (gv u2 16), (gv u2 17), (gv u2 18), (gv u2 19), (gv u2 20), (gv u2 21), (gv u2 22), (gv u2 23), (gv u2 24), (gv u2 25), (gv u2 26), (gv u2 27), (gv u2 28), (gv u2 29), (gv u2 30)], defers := [] } ∧ St w [⟨g1, #[.int .i64 side, .slice A (List.length l) cap], 24, (0, 0), true⟩] w11 ∧ (List.length l : Int) - k < (m9 : Int) ∧ ((0 ≤ k ∧ k ≤ (List.length l : Int))) ∧ e_umbraref14_Check (L4_umbraref14_Check side l m9 k) = R) (Int.toNat ((List.length l : Int) - 0) + 1) ⟨0, [(gv u1 0), undef, undef, undef, undef, undef, undef, undef, undef, undef, undef, undef, undef, undef, undef, undef, undef, undef, undef, undef, undef, undef, undef, undef, undef, undef, undef, undef, undef, undef, undef], by kernel_rfl, hM5, by omega, (by omega), HR⟩ ?_
    rintro m9 a10 w11 ⟨k, u2, rfl, hM12, hmu2, hk, HR⟩ hnext13
    obtain ⟨f8, rfl⟩ : ∃ f, m9 = f + 1 := ⟨m9 - 1, by omega⟩
    rw [L4_umbraref14_Check] at HR
    refine R_seq (R_seq (R_region (S_val (.int .i64 k) (by kernel_rfl) (S_val (.pointer (some ⟨g1, 1, none⟩)) (by kernel_rfl) (S_load 0 1 (.slice A (List.length l) cap) hM12 (by kernel_rfl) (S_val (.int .i64 (List.length l : Int)) (by kernel_rfl) (?_)))))))
    refine S_dec (k < (List.length l : Int)) (by kernel_rfl) (fun c14 => ?_) (fun c14 => ?_)
    · refine S_nil (R_yes (by kernel_rfl) (R_skip (R_seq (R_block (R_seq (R_region (S_val (.int .i64 0) (by kernel_rfl) (S_nil (R_block (R_loop (R_seq (?_))))))))))))
      have HR := hr_pos HR c14
      refine R_seq (R_region (S_val (.int .i64 0) (by kernel_rfl) (S_val (.bool true) (by kernel_rfl) (S_nil (R_yes (by kernel_rfl) (R_skip (R_seq (R_block (R_seq (R_region (S_val (.pointer (some ⟨g1, 1, none⟩)) (by kernel_rfl) (?_))))))))))))
      refine S_load 0 1 (.slice A (List.length l) cap) hM12 (by kernel_rfl) (S_val (.int .i64 k) (by kernel_rfl) (S_val (.int .i64 0) (by kernel_rfl) (?_)))
      obtain ⟨b15, off16, rfl⟩ := Rd.op (i := k) hR (by omega)
      refine S_idx 36 3 b15 off16 (List.length l) cap k (by omega) (by kernel_rfl) (S_val (.pointer (some ⟨b15, off16 + Int.toNat k * 3 + 0, none⟩)) (by kernel_rfl) (S_loadX v3c 3 zero3 k 0 b15 off16 (.int .i64 ((gd zero3 l k).1)) hM12 hR v3c_len (by omega) (by kernel_rfl) (?_)))
      refine S_dec ((gd zero3 l k).1 < 0) (by kernel_rfl) (fun c17 => ?_) (fun c17 => ?_)
      · refine S_val (.bool true) (by kernel_rfl) (S_skip (by kernel_rfl) (S_skip (by kernel_rfl) (S_skip (by kernel_rfl) (S_skip (by kernel_rfl) (S_skip (by kernel_rfl) (S_skip (by kernel_rfl) (S_skip (by kernel_rfl) (S_skip (by kernel_rfl) (S_val (.bool true) (by kernel_rfl) (S_nil (R_yes (by kernel_rfl) (?_))))))))))))
        have HR := hr_pos HR c17
        refine R_seq (R_region (S_val (.int .i64 5) (by kernel_rfl) (S_nil (?_))))
        refine R_ret hM12 rfl (.cons (.tmp _ (.int .i64 5) (by kernel_rfl)) .nil) rfl ?_
        exact ⟨congrArg Ending.returned HR, hM12.below⟩
      · refine S_val (.bool false) (by kernel_rfl) (S_val (.pointer (some ⟨g1, 1, none⟩)) (by kernel_rfl) (S_load 0 1 (.slice (some ⟨b15, off16, none⟩) (List.length l) cap) hM12 (by kernel_rfl) (S_val (.int .i64 k) (by kernel_rfl) (S_val (.int .i64 0) (by kernel_rfl) (?_)))))
        have HR := hr_neg HR c17
        refine S_idx 36 3 b15 off16 (List.length l) cap k (by omega) (by kernel_rfl) (S_val (.pointer (some ⟨b15, off16 + Int.toNat k * 3 + 0, none⟩)) (by kernel_rfl) (S_loadX v3c 3 zero3 k 0 b15 off16 (.int .i64 ((gd zero3 l k).1)) hM12 hR v3c_len (by omega) (by kernel_rfl) (?_)))
        refine S_dec ((gd zero3 l k).1 > 255) (by kernel_rfl) (fun c18 => ?_) (fun c18 => ?_)
        · refine S_val (.bool true) (by kernel_rfl) (S_nil (R_yes (by kernel_rfl) (R_seq (R_region (S_val (.int .i64 5) (by kernel_rfl) (S_nil (?_)))))))
          have HR := hr_pos HR c18
          refine R_ret hM12 rfl (.cons (.tmp _ (.int .i64 5) (by kernel_rfl)) .nil) rfl ?_
          exact ⟨congrArg Ending.returned HR, hM12.below⟩
        · refine S_val (.bool false) (by kernel_rfl) (S_nil (R_no (by kernel_rfl) (R_skip (R_inBlock (R_region (S_val (.int .i64 0) (by kernel_rfl) (S_val (.int .i64 1) (by kernel_rfl) (S_val (.int .i64 1) (by kernel_rfl) (S_nil (R_inLoop (R_seq (?_))))))))))))
          have HR := hr_neg HR c18
          refine R_seq (R_region (S_val (.int .i64 1) (by kernel_rfl) (S_val (.bool true) (by kernel_rfl) (S_nil (R_yes (by kernel_rfl) (R_skip (R_seq (R_block (R_seq (R_region (S_val (.pointer (some ⟨g1, 1, none⟩)) (by kernel_rfl) (?_))))))))))))
          refine S_load 0 1 (.slice (some ⟨b15, off16, none⟩) (List.length l) cap) hM12 (by kernel_rfl) (S_val (.int .i64 k) (by kernel_rfl) (S_val (.int .i64 1) (by kernel_rfl) (?_)))
          refine S_idx 36 3 b15 off16 (List.length l) cap k (by omega) (by kernel_rfl) (S_val (.pointer (some ⟨b15, off16 + Int.toNat k * 3 + 1, none⟩)) (by kernel_rfl) (S_loadX v3c 3 zero3 k 1 b15 off16 (.int .i64 ((gd zero3 l k).2.1)) hM12 hR v3c_len (by omega) (by kernel_rfl) (?_)))
          refine S_dec ((gd zero3 l k).2.1 < 0) (by kernel_rfl) (fun c19 => ?_) (fun c19 => ?_)
          · refine S_val (.bool true) (by kernel_rfl) (S_skip (by kernel_rfl) (S_skip (by kernel_rfl) (S_skip (by kernel_rfl) (S_skip (by kernel_rfl) (S_skip (by kernel_rfl) (S_skip (by kernel_rfl) (S_skip (by kernel_rfl) (S_skip (by kernel_rfl) (S_val (.bool true) (by kernel_rfl) (S_nil (R_yes (by kernel_rfl) (?_))))))))))))
            have HR := hr_pos HR c19
            refine R_seq (R_region (S_val (.int .i64 5) (by kernel_rfl) (S_nil (?_))))
            refine R_ret hM12 rfl (.cons (.tmp _ (.int .i64 5) (by kernel_rfl)) .nil) rfl ?_
            exact ⟨congrArg Ending.returned HR, hM12.below⟩
          · refine S_val (.bool false) (by kernel_rfl) (S_val (.pointer (some ⟨g1, 1, none⟩)) (by kernel_rfl) (S_load 0 1 (.slice (some ⟨b15, off16, none⟩) (List.length l) cap) hM12 (by kernel_rfl) (S_val (.int .i64 k) (by kernel_rfl) (S_val (.int .i64 1) (by kernel_rfl) (?_)))))
            have HR := hr_neg HR c19
            refine S_idx 36 3 b15 off16 (List.length l) cap k (by omega) (by kernel_rfl) (S_val (.pointer (some ⟨b15, off16 + Int.toNat k * 3 + 1, none⟩)) (by kernel_rfl) (S_loadX v3c 3 zero3 k 1 b15 off16 (.int .i64 ((gd zero3 l k).2.1)) hM12 hR v3c_len (by omega) (by kernel_rfl) (?_)))
            refine S_dec ((gd zero3 l k).2.1 > 255) (by kernel_rfl) (fun c20 => ?_) (fun c20 => ?_)
            · refine S_val (.bool true) (by kernel_rfl) (S_nil (R_yes (by kernel_rfl) (R_seq (R_region (S_val (.int .i64 5) (by kernel_rfl) (S_nil (?_)))))))
              have HR := hr_pos HR c20
              refine R_ret hM12 rfl (.cons (.tmp _ (.int .i64 5) (by kernel_rfl)) .nil) rfl ?_
              exact ⟨congrArg Ending.returned HR, hM12.below⟩
            · refine S_val (.bool false) (by kernel_rfl) (S_nil (R_no (by kernel_rfl) (R_skip (R_inBlock (R_region (S_val (.int .i64 1) (by kernel_rfl) (S_val (.int .i64 2) (by kernel_rfl) (S_val (.int .i64 2) (by kernel_rfl) (S_nil (R_inLoop (R_seq (?_))))))))))))
              have HR := hr_neg HR c20
              refine R_seq (R_region (S_val (.int .i64 2) (by kernel_rfl) (S_val (.bool true) (by kernel_rfl) (S_nil (R_yes (by kernel_rfl) (R_skip (R_seq (R_block (R_seq (R_region (S_val (.pointer (some ⟨g1, 1, none⟩)) (by kernel_rfl) (?_))))))))))))
              refine S_load 0 1 (.slice (some ⟨b15, off16, none⟩) (List.length l) cap) hM12 (by kernel_rfl) (S_val (.int .i64 k) (by kernel_rfl) (S_val (.int .i64 2) (by kernel_rfl) (?_)))
              refine S_idx 36 3 b15 off16 (List.length l) cap k (by omega) (by kernel_rfl) (S_val (.pointer (some ⟨b15, off16 + Int.toNat k * 3 + 2, none⟩)) (by kernel_rfl) (S_loadX v3c 3 zero3 k 2 b15 off16 (.int .i64 ((gd zero3 l k).2.2)) hM12 hR v3c_len (by omega) (by kernel_rfl) (?_)))
              refine S_dec ((gd zero3 l k).2.2 < 0) (by kernel_rfl) (fun c21 => ?_) (fun c21 => ?_)
              · refine S_val (.bool true) (by kernel_rfl) (S_skip (by kernel_rfl) (S_skip (by kernel_rfl) (S_skip (by kernel_rfl) (S_skip (by kernel_rfl) (S_skip (by kernel_rfl) (S_skip (by kernel_rfl) (S_skip (by kernel_rfl) (S_skip (by kernel_rfl) (S_val (.bool true) (by kernel_rfl) (S_nil (R_yes (by kernel_rfl) (?_))))))))))))
                have HR := hr_pos HR c21
                refine R_seq (R_region (S_val (.int .i64 5) (by kernel_rfl) (S_nil (?_))))
                refine R_ret hM12 rfl (.cons (.tmp _ (.int .i64 5) (by kernel_rfl)) .nil) rfl ?_
                exact ⟨congrArg Ending.returned HR, hM12.below⟩
              · refine S_val (.bool false) (by kernel_rfl) (S_val (.pointer (some ⟨g1, 1, none⟩)) (by kernel_rfl) (S_load 0 1 (.slice (some ⟨b15, off16, none⟩) (List.length l) cap) hM12 (by kernel_rfl) (S_val (.int .i64 k) (by kernel_rfl) (S_val (.int .i64 2) (by kernel_rfl) (?_)))))
                have HR := hr_neg HR c21
                refine S_idx 36 3 b15 off16 (List.length l) cap k (by omega) (by kernel_rfl) (S_val (.pointer (some ⟨b15, off16 + Int.toNat k * 3 + 2, none⟩)) (by kernel_rfl) (S_loadX v3c 3 zero3 k 2 b15 off16 (.int .i64 ((gd zero3 l k).2.2)) hM12 hR v3c_len (by omega) (by kernel_rfl) (?_)))
                refine S_dec ((gd zero3 l k).2.2 > 255) (by kernel_rfl) (fun c22 => ?_) (fun c22 => ?_)
                · refine S_val (.bool true) (by kernel_rfl) (S_nil (R_yes (by kernel_rfl) (R_seq (R_region (S_val (.int .i64 5) (by kernel_rfl) (S_nil (?_)))))))
                  have HR := hr_pos HR c22
                  refine R_ret hM12 rfl (.cons (.tmp _ (.int .i64 5) (by kernel_rfl)) .nil) rfl ?_
                  exact ⟨congrArg Ending.returned HR, hM12.below⟩
                · refine S_val (.bool false) (by kernel_rfl) (S_nil (R_no (by kernel_rfl) (R_skip (R_inBlock (R_region (S_val (.int .i64 2) (by kernel_rfl) (S_val (.int .i64 3) (by kernel_rfl) (S_val (.int .i64 3) (by kernel_rfl) (S_nil (R_inLoop (R_seq (?_))))))))))))
                  have HR := hr_neg HR c22
                  refine R_seq (R_region (S_val (.int .i64 3) (by kernel_rfl) (S_val (.bool false) (by kernel_rfl) (S_nil (R_no (by kernel_rfl) (R_exit rfl (R_inBlock (R_region (S_val (.int .i64 k) (by kernel_rfl) (S_int (IntKind.i64.wrap (k + 1)) .i64 (by kernel_rfl) (fun x23 h24 => S_val (.int .i64 x23) (by kernel_rfl) (?_))))))))))))
                  have HR := hr_lt HR h24
                  refine S_nil (?_)
                  have hw_x23 := h24; rw [wrI] at hw_x23; unfold wrap64 at hw_x23
                  exact hnext13 f8 _ _ (Nat.lt_succ_self _) ⟨x23, [(gv u2 0), .int .i64 3, .int .i64 k, .pointer (some ⟨g1, 1, none⟩), .slice (some ⟨b15, off16, none⟩) (List.length l) cap, .int .i64 (List.length l : Int), .bool true, .int .i64 k, .int .i64 x23, .int .i64 3, .bool false, .int .i64 2, .int .i64 3, .pointer (some ⟨g1, 1, none⟩), .slice (some ⟨b15, off16, none⟩) (List.length l) cap, .int .i64 k, .int .i64 2, .pointer (some ⟨b15, off16 + Int.toNat k * 3 + 0, none⟩), .pointer (some ⟨b15, off16 + Int.toNat k * 3 + 2, none⟩), .int .i64 ((gd zero3 l k).2.2), .bool false, .bool false, .pointer (some ⟨g1, 1, none⟩), .slice (some ⟨b15, off16, none⟩) (List.length l) cap, .int .i64 k, .int .i64 2, .pointer (some ⟨b15, off16 + Int.toNat k * 3 + 0, none⟩), .pointer (some ⟨b15, off16 + Int.toNat k * 3 + 2, none⟩), .int .i64 ((gd zero3 l k).2.2), .bool false, .bool false], by kernel_rfl, hM12, by omega, (by omega), HR⟩
    · refine S_nil (R_no (by kernel_rfl) (R_exit rfl (R_seq (R_region (S_val (.int .i64 0) (by kernel_rfl) (S_nil (?_)))))))
      have HR := hr_neg HR c14
      refine R_ret hM12 rfl (.cons (.tmp _ (.int .i64 0) (by kernel_rfl)) .nil) rfl ?_
      exact ⟨congrArg Ending.returned HR, hM12.below⟩
  · refine R_seq (R_region (S_val (.pointer (some ⟨g1, 0, none⟩)) (by kernel_rfl) (S_load 0 0 (.int .i64 side) hM3 (by kernel_rfl) (?_))))
    refine S_decn (side = 1) (by kernel_rfl) (fun c25 => ?_) (fun c25 => ?_)
    · refine S_val (.bool true) (by kernel_rfl) (S_val (.pointer (some ⟨g1, 0, none⟩)) (by kernel_rfl) (S_load 0 0 (.int .i64 side) hM3 (by kernel_rfl) (?_)))
      have HR := hr_neg HR c25
      refine S_decn (side = 2) (by kernel_rfl) (fun c26 => ?_) (fun c26 => ?_)
      · refine S_val (.bool true) (by kernel_rfl) (S_val (.bool true) (by kernel_rfl) (S_val (.pointer (some ⟨g1, 0, none⟩)) (by kernel_rfl) (S_load 0 0 (.int .i64 side) hM3 (by kernel_rfl) (?_))))
        have HR := hr_neg HR c26
        refine S_decn (side = 4) (by kernel_rfl) (fun c27 => ?_) (fun c27 => ?_)
        · refine S_val (.bool true) (by kernel_rfl) (S_val (.bool true) (by kernel_rfl) (S_val (.pointer (some ⟨g1, 0, none⟩)) (by kernel_rfl) (S_load 0 0 (.int .i64 side) hM3 (by kernel_rfl) (?_))))
          have HR := hr_neg HR c27
          refine S_decn (side = 8) (by kernel_rfl) (fun c28 => ?_) (fun c28 => ?_)
          · refine S_val (.bool true) (by kernel_rfl) (S_val (.bool true) (by kernel_rfl) (S_val (.pointer (some ⟨g1, 0, none⟩)) (by kernel_rfl) (S_load 0 0 (.int .i64 side) hM3 (by kernel_rfl) (?_))))
            have HR := hr_neg HR c28
            refine S_decn (side = 16) (by kernel_rfl) (fun c29 => ?_) (fun c29 => ?_)
            · refine S_val (.bool true) (by kernel_rfl) (S_val (.bool true) (by kernel_rfl) (S_skip (by kernel_rfl) (S_skip (by kernel_rfl) (S_skip (by kernel_rfl) (S_skip (by kernel_rfl) (S_skip (by kernel_rfl) (S_skip (by kernel_rfl) (S_skip (by kernel_rfl) (S_skip (by kernel_rfl) (S_skip (by kernel_rfl) (S_val (.bool true) (by kernel_rfl) (?_))))))))))))
              have HR := hr_neg HR c29
              refine S_nil (R_yes (by kernel_rfl) (R_seq (R_region (S_val (.int .i64 5) (by kernel_rfl) (S_nil (?_))))))
              refine R_ret hM3 rfl (.cons (.tmp _ (.int .i64 5) (by kernel_rfl)) .nil) rfl ?_
              exact ⟨congrArg Ending.returned HR, hM3.below⟩
            · refine S_val (.bool false) (by kernel_rfl) (S_val (.bool false) (by kernel_rfl) (S_val (.pointer (some ⟨g1, 1, none⟩)) (by kernel_rfl) (S_load 0 1 (.slice A (List.length l) cap) hM3 (by kernel_rfl) (S_val (.int .i64 (List.length l : Int)) (by kernel_rfl) (S_val (.pointer (some ⟨g1, 0, none⟩)) (by kernel_rfl) (S_load 0 0 (.int .i64 side) hM3 (by kernel_rfl) (S_val (.pointer (some ⟨g1, 0, none⟩)) (by kernel_rfl) (S_load 0 0 (.int .i64 side) hM3 (by kernel_rfl) (S_int (IntKind.i64.wrap (side * side)) .i64 (by kernel_rfl) (fun x30 h31 => ?_))))))))))
              have HR := hr_pos HR c29
              have HR := hr_lt HR h31
              refine S_decn ((List.length l : Int) = x30) (by kernel_rfl) (fun c32 => ?_) (fun c32 => ?_)
              · refine S_val (.bool true) (by kernel_rfl) (S_nil (R_yes (by kernel_rfl) (R_seq (R_region (S_val (.int .i64 5) (by kernel_rfl) (S_nil (?_)))))))
                have HR := hr_neg HR c32
                refine R_ret hM3 rfl (.cons (.tmp _ (.int .i64 5) (by kernel_rfl)) .nil) rfl ?_
                exact ⟨congrArg Ending.returned HR, hM3.below⟩
              · refine S_val (.bool false) (by kernel_rfl) (S_nil (R_no (by kernel_rfl) (R_skip (?_))))
                have HR := hr_pos HR c32
                exact hn6 _ _ ⟨[.int .i64 0, .pointer (some ⟨g1, 0, none⟩), .int .i64 side, .bool true, .bool true, .pointer (some ⟨g1, 0, none⟩), .int .i64 side, .bool true, .bool true, .bool true, .pointer (some ⟨g1, 0, none⟩), .int .i64 side, .bool true, .bool true, .bool true, .pointer (some ⟨g1, 0, none⟩), .int .i64 side, .bool true, .bool true, .bool true, .pointer (some ⟨g1, 0, none⟩), .int .i64 side, .bool false, .bool false, .bool false, .pointer (some ⟨g1, 1, none⟩), .slice A (List.length l) cap, .int .i64 (List.length l : Int), .pointer (some ⟨g1, 0, none⟩), .int .i64 side, .pointer (some ⟨g1, 0, none⟩), .int .i64 side, .int .i64 x30, .bool false, .bool false], by kernel_rfl, hM3, HR⟩
          · refine S_val (.bool false) (by kernel_rfl) (S_val (.bool false) (by kernel_rfl) (S_skip (by kernel_rfl) (S_skip (by kernel_rfl) (S_skip (by kernel_rfl) (S_val (.bool false) (by kernel_rfl) (S_val (.bool false) (by kernel_rfl) (S_val (.pointer (some ⟨g1, 1, none⟩)) (by kernel_rfl) (S_load 0 1 (.slice A (List.length l) cap) hM3 (by kernel_rfl) (S_val (.int .i64 (List.length l : Int)) (by kernel_rfl) (S_val (.pointer (some ⟨g1, 0, none⟩)) (by kernel_rfl) (S_load 0 0 (.int .i64 side) hM3 (by kernel_rfl) (?_))))))))))))
            have HR := hr_pos HR c28
            refine S_val (.pointer (some ⟨g1, 0, none⟩)) (by kernel_rfl) (S_load 0 0 (.int .i64 side) hM3 (by kernel_rfl) (S_int (IntKind.i64.wrap (side * side)) .i64 (by kernel_rfl) (fun x33 h34 => ?_)))
            have HR := hr_lt HR h34
            refine S_decn ((List.length l : Int) = x33) (by kernel_rfl) (fun c35 => ?_) (fun c35 => ?_)
            · refine S_val (.bool true) (by kernel_rfl) (S_nil (R_yes (by kernel_rfl) (R_seq (R_region (S_val (.int .i64 5) (by kernel_rfl) (S_nil (?_)))))))
              have HR := hr_neg HR c35
              refine R_ret hM3 rfl (.cons (.tmp _ (.int .i64 5) (by kernel_rfl)) .nil) rfl ?_
              exact ⟨congrArg Ending.returned HR, hM3.below⟩
            · refine S_val (.bool false) (by kernel_rfl) (S_nil (R_no (by kernel_rfl) (R_skip (?_))))
              have HR := hr_pos HR c35
              exact hn6 _ _ ⟨[.int .i64 0, .pointer (some ⟨g1, 0, none⟩), .int .i64 side, .bool true, .bool true, .pointer (some ⟨g1, 0, none⟩), .int .i64 side, .bool true, .bool true, .bool true, .pointer (some ⟨g1, 0, none⟩), .int .i64 side, .bool true, .bool true, .bool true, .pointer (some ⟨g1, 0, none⟩), .int .i64 side, .bool false, .bool false, .bool false, undef, undef, undef, .bool false, .bool false, .pointer (some ⟨g1, 1, none⟩), .slice A (List.length l) cap, .int .i64 (List.length l : Int), .pointer (some ⟨g1, 0, none⟩), .int .i64 side, .pointer (some ⟨g1, 0, none⟩), .int .i64 side, .int .i64 x33, .bool false, .bool false], by kernel_rfl, hM3, HR⟩
        · refine S_val (.bool false) (by kernel_rfl) (S_val (.bool false) (by kernel_rfl) (S_skip (by kernel_rfl) (S_skip (by kernel_rfl) (S_skip (by kernel_rfl) (S_val (.bool false) (by kernel_rfl) (S_val (.bool false) (by kernel_rfl) (S_skip (by kernel_rfl) (S_skip (by kernel_rfl) (S_skip (by kernel_rfl) (S_val (.bool false) (by kernel_rfl) (S_val (.bool false) (by kernel_rfl) (?_))))))))))))
          have HR := hr_pos HR c27
          refine S_val (.pointer (some ⟨g1, 1, none⟩)) (by kernel_rfl) (S_load 0 1 (.slice A (List.length l) cap) hM3 (by kernel_rfl) (S_val (.int .i64 (List.length l : Int)) (by kernel_rfl) (S_val (.pointer (some ⟨g1, 0, none⟩)) (by kernel_rfl) (S_load 0 0 (.int .i64 side) hM3 (by kernel_rfl) (S_val (.pointer (some ⟨g1, 0, none⟩)) (by kernel_rfl) (S_load 0 0 (.int .i64 side) hM3 (by kernel_rfl) (S_int (IntKind.i64.wrap (side * side)) .i64 (by kernel_rfl) (fun x36 h37 => ?_))))))))
          have HR := hr_lt HR h37
          refine S_decn ((List.length l : Int) = x36) (by kernel_rfl) (fun c38 => ?_) (fun c38 => ?_)
          · refine S_val (.bool true) (by kernel_rfl) (S_nil (R_yes (by kernel_rfl) (R_seq (R_region (S_val (.int .i64 5) (by kernel_rfl) (S_nil (?_)))))))
            have HR := hr_neg HR c38
            refine R_ret hM3 rfl (.cons (.tmp _ (.int .i64 5) (by kernel_rfl)) .nil) rfl ?_
            exact ⟨congrArg Ending.returned HR, hM3.below⟩
          · refine S_val (.bool false) (by kernel_rfl) (S_nil (R_no (by kernel_rfl) (R_skip (?_))))
            have HR := hr_pos HR c38
            exact hn6 _ _ ⟨[.int .i64 0, .pointer (some ⟨g1, 0, none⟩), .int .i64 side, .bool true, .bool true, .pointer (some ⟨g1, 0, none⟩), .int .i64 side, .bool true, .bool true, .bool true, .pointer (some ⟨g1, 0, none⟩), .int .i64 side, .bool false, .bool false, .bool false, undef, undef, undef, .bool false, .bool false, undef, undef, undef, .bool false, .bool false, .pointer (some ⟨g1, 1, none⟩), .slice A (List.length l) cap, .int .i64 (List.length l : Int), .pointer (some ⟨g1, 0, none⟩), .int .i64 side, .pointer (some ⟨g1, 0, none⟩), .int .i64 side, .int .i64 x36, .bool false, .bool false], by kernel_rfl, hM3, HR⟩
      · refine S_val (.bool false) (by kernel_rfl) (S_val (.bool false) (by kernel_rfl) (S_skip (by kernel_rfl) (S_skip (by kernel_rfl) (S_skip (by kernel_rfl) (S_val (.bool false) (by kernel_rfl) (S_val (.bool false) (by kernel_rfl) (S_skip (by kernel_rfl) (S_skip (by kernel_rfl) (S_skip (by kernel_rfl) (S_val (.bool false) (by kernel_rfl) (S_val (.bool false) (by kernel_rfl) (?_))))))))))))
        have HR := hr_pos HR c26
        refine S_skip (by kernel_rfl) (S_skip (by kernel_rfl) (S_skip (by kernel_rfl) (S_val (.bool false) (by kernel_rfl) (S_val (.bool false) (by kernel_rfl) (S_val (.pointer (some ⟨g1, 1, none⟩)) (by kernel_rfl) (S_load 0 1 (.slice A (List.length l) cap) hM3 (by kernel_rfl) (S_val (.int .i64 (List.length l : Int)) (by kernel_rfl) (S_val (.pointer (some ⟨g1, 0, none⟩)) (by kernel_rfl) (S_load 0 0 (.int .i64 side) hM3 (by kernel_rfl) (S_val (.pointer (some ⟨g1, 0, none⟩)) (by kernel_rfl) (S_load 0 0 (.int .i64 side) hM3 (by kernel_rfl) (?_))))))))))))
        refine S_int (IntKind.i64.wrap (side * side)) .i64 (by kernel_rfl) (fun x39 h40 => ?_)
        have HR := hr_lt HR h40
        refine S_decn ((List.length l : Int) = x39) (by kernel_rfl) (fun c41 => ?_) (fun c41 => ?_)
        · refine S_val (.bool true) (by kernel_rfl) (S_nil (R_yes (by kernel_rfl) (R_seq (R_region (S_val (.int .i64 5) (by kernel_rfl) (S_nil (?_)))))))
          have HR := hr_neg HR c41
          refine R_ret hM3 rfl (.cons (.tmp _ (.int .i64 5) (by kernel_rfl)) .nil) rfl ?_
          exact ⟨congrArg Ending.returned HR, hM3.below⟩
        · refine S_val (.bool false) (by kernel_rfl) (S_nil (R_no (by kernel_rfl) (R_skip (?_))))
          have HR := hr_pos HR c41
          exact hn6 _ _ ⟨[.int .i64 0, .pointer (some ⟨g1, 0, none⟩), .int .i64 side, .bool true, .bool true, .pointer (some ⟨g1, 0, none⟩), .int .i64 side, .bool false, .bool false, .bool false, undef, undef, undef, .bool false, .bool false, undef, undef, undef, .bool false, .bool false, undef, undef, undef, .bool false, .bool false, .pointer (some ⟨g1, 1, none⟩), .slice A (List.length l) cap, .int .i64 (List.length l : Int), .pointer (some ⟨g1, 0, none⟩), .int .i64 side, .pointer (some ⟨g1, 0, none⟩), .int .i64 side, .int .i64 x39, .bool false, .bool false], by kernel_rfl, hM3, HR⟩
    · refine S_val (.bool false) (by kernel_rfl) (S_skip (by kernel_rfl) (S_skip (by kernel_rfl) (S_skip (by kernel_rfl) (S_val (.bool false) (by kernel_rfl) (S_val (.bool false) (by kernel_rfl) (S_skip (by kernel_rfl) (S_skip (by kernel_rfl) (S_skip (by kernel_rfl) (S_val (.bool false) (by kernel_rfl) (S_val (.bool false) (by kernel_rfl) (S_skip (by kernel_rfl) (?_))))))))))))
      have HR := hr_pos HR c25
      refine S_skip (by kernel_rfl) (S_skip (by kernel_rfl) (S_val (.bool false) (by kernel_rfl) (S_val (.bool false) (by kernel_rfl) (S_skip (by kernel_rfl) (S_skip (by kernel_rfl) (S_skip (by kernel_rfl) (S_val (.bool false) (by kernel_rfl) (S_val (.bool false) (by kernel_rfl) (S_val (.pointer (some ⟨g1, 1, none⟩)) (by kernel_rfl) (S_load 0 1 (.slice A (List.length l) cap) hM3 (by kernel_rfl) (S_val (.int .i64 (List.length l : Int)) (by kernel_rfl) (?_))))))))))))
      refine S_val (.pointer (some ⟨g1, 0, none⟩)) (by kernel_rfl) (S_load 0 0 (.int .i64 side) hM3 (by kernel_rfl) (S_val (.pointer (some ⟨g1, 0, none⟩)) (by kernel_rfl) (S_load 0 0 (.int .i64 side) hM3 (by kernel_rfl) (S_int (IntKind.i64.wrap (side * side)) .i64 (by kernel_rfl) (fun x42 h43 => ?_)))))
      have HR := hr_lt HR h43
      refine S_decn ((List.length l : Int) = x42) (by kernel_rfl) (fun c44 => ?_) (fun c44 => ?_)
      · refine S_val (.bool true) (by kernel_rfl) (S_nil (R_yes (by kernel_rfl) (R_seq (R_region (S_val (.int .i64 5) (by kernel_rfl) (S_nil (?_)))))))
        have HR := hr_neg HR c44
        refine R_ret hM3 rfl (.cons (.tmp _ (.int .i64 5) (by kernel_rfl)) .nil) rfl ?_
        exact ⟨congrArg Ending.returned HR, hM3.below⟩
      · refine S_val (.bool false) (by kernel_rfl) (S_nil (R_no (by kernel_rfl) (R_skip (?_))))
        have HR := hr_pos HR c44
        exact hn6 _ _ ⟨[.int .i64 0, .pointer (some ⟨g1, 0, none⟩), .int .i64 side, .bool false, .bool false, undef, undef, undef, .bool false, .bool false, undef, undef, undef, .bool false, .bool false, undef, undef, undef, .bool false, .bool false, undef, undef, undef, .bool false, .bool false, .pointer (some ⟨g1, 1, none⟩), .slice A (List.length l) cap, .int .i64 (List.length l : Int), .pointer (some ⟨g1, 0, none⟩), .int .i64 side, .pointer (some ⟨g1, 0, none⟩), .int .i64 side, .int .i64 x42, .bool false, .bool false], by kernel_rfl, hM3, HR⟩

def SqT (side : Int) (l : List T3) : Prop := (side = 1 ∨ side = 2 ∨ side = 4 ∨ side = 8 ∨ side = 16) ∧ (List.length l : Int) = side * side
theorem SqT.ne {side : Int} {l : List T3} (h : SqT side l) : side ≠ 0 := by rcases h.1 with h | h | h | h | h <;> omega
theorem mask_side {side y x : Int} (hs : side = 1 ∨ side = 2 ∨ side = 4 ∨ side = 8 ∨ side = 16) (hx : IntKind.i64.wrap (side - 1) = x) : bits .and .i64 y x = y % side := by
  rw [wrI] at hx
  rcases hs with h | h | h | h | h <;> subst h
  · have := i64_mask 0 (by omega) y; rw [show x = ((2 ^ 0 - 1 : Nat) : Int) by rw [← hx]; decide +kernel]; exact this
  · have := i64_mask 1 (by omega) y; rw [show x = ((2 ^ 1 - 1 : Nat) : Int) by rw [← hx]; decide +kernel]; exact this
  · have := i64_mask 2 (by omega) y; rw [show x = ((2 ^ 2 - 1 : Nat) : Int) by rw [← hx]; decide +kernel]; exact this
  · have := i64_mask 3 (by omega) y; rw [show x = ((2 ^ 3 - 1 : Nat) : Int) by rw [← hx]; decide +kernel]; exact this
  · have := i64_mask 4 (by omega) y; rw [show x = ((2 ^ 4 - 1 : Nat) : Int) by rw [← hx]; decide +kernel]; exact this
theorem grid_bd {side p q : Int} (hs : side = 1 ∨ side = 2 ∨ side = 4 ∨ side = 8 ∨ side = 16) : 0 ≤ (p % side) * side + q % side ∧ (p % side) * side + q % side < side * side := by
  rcases hs with h | h | h | h | h <;> subst h <;> omega
theorem grid_wr {side p q : Int} (hs : side = 1 ∨ side = 2 ∨ side = 4 ∨ side = 8 ∨ side = 16) : wrap64 (wrap64 ((p % side) * side) + q % side) = (p % side) * side + q % side := by
  unfold wrap64
  rcases hs with h | h | h | h | h <;> subst h <;> omega
theorem at_idx {side : Int} {l : List T3} (hs : SqT side l) {y x x1 x2 x3 x4 x5 x6 : Int} (h1 : IntKind.i64.wrap (side - 1) = x1) (h2 : bits .and .i64 y x1 = x2) (h3 : IntKind.i64.wrap (x2 * side) = x3)
    (h4 : IntKind.i64.wrap (side - 1) = x4) (h5 : bits .and .i64 x x4 = x5) (h6 : IntKind.i64.wrap (x3 + x5) = x6) : 0 ≤ x6 ∧ x6 < (List.length l : Int) := by
  rw [mask_side hs.1 h1] at h2
  rw [mask_side hs.1 h4] at h5
  rw [wrI] at h3 h6
  subst h2 h5 h3
  rw [grid_wr hs.1] at h6
  subst h6
  have := grid_bd hs.1 (p := y) (q := x)
  have := hs.2
  omega
theorem check_sq {side : Int} {l : List T3} (h : s_texture_Check side l = 0) : SqT side l := by
  unfold s_texture_Check s_slices_Contains_g_v s_slices_Index_g_v at h
  simp only [lt, wrI] at h
  have key : ∀ (s : Int), (s = 1 ∨ s = 2 ∨ s = 4 ∨ s = 8 ∨ s = 16) → wrap64 (s * s) = s * s := by
    intro s hs
    rcases hs with g | g | g | g | g <;> subst g <;> decide +kernel
  by_cases hs : side = 1 ∨ side = 2 ∨ side = 4 ∨ side = 8 ∨ side = 16
  · refine ⟨hs, ?_⟩
    rw [key side hs] at h
    by_cases hl : (List.length l : Int) = side * side
    · exact hl
    · rcases hs with g | g | g | g | g <;> subst g <;> simp at h <;> split at h <;> omega
  · simp only [not_or] at hs
    obtain ⟨a1, a2, a3, a4, a5⟩ := hs
    simp [a1, a2, a3, a4, a5] at h
theorem check14_sq {side : Int} {l : List T3} (h : s_umbraref14_Check side l = 0) : SqT side l := by
  unfold s_umbraref14_Check at h
  simp only [lt, wrI] at h
  have key : ∀ (s : Int), (s = 1 ∨ s = 2 ∨ s = 4 ∨ s = 8 ∨ s = 16) → wrap64 (s * s) = s * s := by
    intro s hs
    rcases hs with g | g | g | g | g <;> subst g <;> decide +kernel
  by_cases hs : side = 1 ∨ side = 2 ∨ side = 4 ∨ side = 8 ∨ side = 16
  · refine ⟨hs, ?_⟩
    rw [key side hs] at h
    by_cases hl : (List.length l : Int) = side * side
    · exact hl
    · rcases hs with g | g | g | g | g <;> subst g <;> simp at h <;> split at h <;> omega
  · simp only [not_or] at hs
    obtain ⟨a1, a2, a3, a4, a5⟩ := hs
    simp [a1, a2, a3, a4, a5] at h
def rmod (a m : Int) : Int := let x := Int.tmod a m; if x < 0 then wrap64 (x + m) else x
theorem rmod_side {side p : Int} (hs : side = 1 ∨ side = 2 ∨ side = 4 ∨ side = 8 ∨ side = 16) : rmod p side = p % side := by
  unfold rmod wrap64
  have h1 := Int.mul_tdiv_add_tmod p side
  have h2 := Int.tmod_lt_of_pos p (show 0 < side by rcases hs with h | h | h | h | h <;> omega)
  have h3 := Int.lt_tmod_of_pos p (show 0 < side by rcases hs with h | h | h | h | h <;> omega)
  simp only
  generalize Int.tmod p side = r at *
  generalize Int.tdiv p side = q at *
  rcases hs with h | h | h | h | h <;> subst h <;> split <;> omega
def e_texture_at (r : Int × Int × Int) : Value := .agg #[.int .i64 r.1, .int .i64 r.2.1, .int .i64 r.2.2]
def s_texture_at (side : Int) (l : List (Int × Int × Int)) (x : Int) (y : Int) : Int × Int × Int :=
  lt (IntKind.i64.wrap (side - 1)) fun x7 =>
  lt (bits .and .i64 y x7) fun x9 =>
  lt (IntKind.i64.wrap (x9 * side)) fun x11 =>
  lt (IntKind.i64.wrap (side - 1)) fun x13 =>
  lt (bits .and .i64 x x13) fun x15 =>
  lt (IntKind.i64.wrap (x11 + x15)) fun x17 =>
  ((gd zero3 l x17).1, (gd zero3 l x17).2.1, (gd zero3 l x17).2.2)
set_option maxRecDepth 100000 in
set_option maxHeartbeats 4000000 in
theorem w_texture_at (side : Int) (l : List (Int × Int × Int)) (x : Int) (y : Int) (hs : SqT side l) (w : World) (A : Option Addr) (cap : Nat) (hR : Rd v3c 3 w A l) (hl : (List.length l : Int) ≤ 1000) : Calls Try.prog 50 #[.agg #[.int .i64 side, .slice A (List.length l) cap], .int .i64 x, .int .i64 y] w (Ret (e_texture_at (s_texture_at side l x y)) w) := by
  obtain ⟨R, HR⟩ : ∃ R, e_texture_at (s_texture_at side l x y) = R := ⟨_, rfl⟩
  rw [HR]
  unfold s_texture_at at HR
  have hM0 := St.start w
  refine calls_run Try.func50 rfl ?_
  refine R_seq (R_region (S_fresh none #[.int .i64 side, .slice A (List.length l) cap] 24 hM0 (by kernel_rfl) (fun g1 w2 hM3 => S_fresh none #[.int .i64 0, .int .i64 0, .int .i64 0] 36 hM3 (by kernel_rfl) (fun g4 w5 hM6 => S_nil (R_seq (R_region (S_val (.pointer (some ⟨g1, 1, none⟩)) (by kernel_rfl) (S_load 1 1 (.slice A (List.length l) cap) hM6 (by kernel_rfl) (S_val (.int .i64 y) (by kernel_rfl) (S_val (.pointer (some ⟨g1, 0, none⟩)) (by kernel_rfl) (S_load 1 0 (.int .i64 side) hM6 (by kernel_rfl) (?_))))))))))))
  refine S_int (IntKind.i64.wrap (side - 1)) .i64 (by kernel_rfl) (fun x7 h8 => S_int (bits .and .i64 y x7) .i64 (by kernel_rfl) (fun x9 h10 => S_val (.pointer (some ⟨g1, 0, none⟩)) (by kernel_rfl) (S_load 1 0 (.int .i64 side) hM6 (by kernel_rfl) (S_int (IntKind.i64.wrap (x9 * side)) .i64 (by kernel_rfl) (fun x11 h12 => S_val (.int .i64 x) (by kernel_rfl) (S_val (.pointer (some ⟨g1, 0, none⟩)) (by kernel_rfl) (S_load 1 0 (.int .i64 side) hM6 (by kernel_rfl) (S_int (IntKind.i64.wrap (side - 1)) .i64 (by kernel_rfl) (fun x13 h14 => S_int (bits .and .i64 x x13) .i64 (by kernel_rfl) (fun x15 h16 => S_int (IntKind.i64.wrap (x11 + x15)) .i64 (by kernel_rfl) (fun x17 h18 => ?_)))))))))))
  have HR := hr_lt HR h8
  have HR := hr_lt HR h10
  have HR := hr_lt HR h12
  have HR := hr_lt HR h14
  have HR := hr_lt HR h16
  have HR := hr_lt HR h18
  obtain ⟨b19, off20, rfl⟩ := Rd.op (i := x17) hR (at_idx hs h8 h10 h12 h14 h16 h18)
  refine S_idx 36 3 b19 off20 (List.length l) cap x17 (at_idx hs h8 h10 h12 h14 h16 h18) (by kernel_rfl) (S_loadX v3c 3 zero3 x17 0 b19 off20 (.agg #[.int .i64 ((gd zero3 l x17).1), .int .i64 ((gd zero3 l x17).2.1), .int .i64 ((gd zero3 l x17).2.2)]) hM6 hR v3c_len (at_idx hs h8 h10 h12 h14 h16 h18) (by kernel_rfl) (S_store 0 0 #[.int .i64 ((gd zero3 l x17).1), .int .i64 ((gd zero3 l x17).2.1), .int .i64 ((gd zero3 l x17).2.2)] hM6 (by kernel_rfl) (fun w21 hM22 => S_nil (?_))))
  refine R_ret hM22 rfl (.cons (.cell _ _ 0 0 (.agg #[.int .i64 ((gd zero3 l x17).1), .int .i64 ((gd zero3 l x17).2.1), .int .i64 ((gd zero3 l x17).2.2)]) (by kernel_rfl)) .nil) rfl ?_
  exact ⟨congrArg Ending.returned HR, hM22.below⟩

def e_texture_At (r : (Int × Int × Int) × Int) : Value := .tuple #[.agg #[.int .i64 r.1.1, .int .i64 r.1.2.1, .int .i64 r.1.2.2], .int .i64 r.2]
def s_texture_At (side : Int) (l : List (Int × Int × Int)) (x : Int) (y : Int) : (Int × Int × Int) × Int :=
  lt (s_texture_Check side l) fun r7 =>
  if r7 = 0 then
    lt (s_texture_at side l x y) fun r14 =>
    (r14, 0)
  else
    ((0, 0, 0), r7)
set_option maxRecDepth 100000 in
set_option maxHeartbeats 4000000 in
theorem w_texture_At (side : Int) (l : List (Int × Int × Int)) (x : Int) (y : Int) (w : World) (A : Option Addr) (cap : Nat) (hR : Rd v3c 3 w A l) (hl : (List.length l : Int) ≤ 1000) : Calls Try.prog 22 #[.agg #[.int .i64 side, .slice A (List.length l) cap], .int .i64 x, .int .i64 y] w (Ret (e_texture_At (s_texture_At side l x y)) w) := by
  obtain ⟨R, HR⟩ : ∃ R, e_texture_At (s_texture_At side l x y) = R := ⟨_, rfl⟩
  rw [HR]
  unfold s_texture_At at HR
  have hM0 := St.start w
  refine calls_run Try.func22 rfl ?_
  refine R_seq (R_region (S_fresh none #[.int .i64 side, .slice A (List.length l) cap] 24 hM0 (by kernel_rfl) (fun g1 w2 hM3 => S_fresh none #[.int .i64 0, .int .i64 0, .int .i64 0] 36 hM3 (by kernel_rfl) (fun g4 w5 hM6 => S_val (.int .i64 0) (by kernel_rfl) (S_nil (R_seq (R_seq (R_region (S_load 1 0 (.agg #[.int .i64 side, .slice A (List.length l) cap]) hM6 (by kernel_rfl) (S_call (s_texture_Check side l) (fun r : Int => .int .i64 r) hM6 (w_texture_Check side l w5 A cap (Rd.stay hR (St.below hM6)) (by assumption)) (by kernel_rfl) (fun r7 h8 w9 hM10 => S_val (.int .i64 r7) (by kernel_rfl) (?_))))))))))))
  have HR := hr_lt HR h8
  refine S_nil (R_seq (R_region (S_val (.int .i64 r7) (by kernel_rfl) (?_))))
  refine S_decn (r7 = 0) (by kernel_rfl) (fun c11 => ?_) (fun c11 => ?_)
  · refine S_nil (R_yes (by kernel_rfl) (R_seq (R_region (S_val (.agg #[.int .i64 0, .int .i64 0, .int .i64 0]) (by kernel_rfl) (S_val (.int .i64 r7) (by kernel_rfl) (S_store 0 0 #[.int .i64 0, .int .i64 0, .int .i64 0] hM10 (by kernel_rfl) (fun w12 hM13 => S_val (.int .i64 r7) (by kernel_rfl) (S_nil (?_)))))))))
    have HR := hr_neg HR c11
    refine R_ret hM13 rfl (.cons (.cell _ _ 0 0 (.agg #[.int .i64 0, .int .i64 0, .int .i64 0]) (by kernel_rfl)) (.cons (.tmp _ (.int .i64 r7) (by kernel_rfl)) .nil)) rfl ?_
    exact ⟨congrArg Ending.returned HR, hM13.below⟩
  · refine S_nil (R_no (by kernel_rfl) (R_skip (R_seq (R_region (S_load 1 0 (.agg #[.int .i64 side, .slice A (List.length l) cap]) hM10 (by kernel_rfl) (S_val (.int .i64 x) (by kernel_rfl) (S_val (.int .i64 y) (by kernel_rfl) (S_call (s_texture_at side l x y) (fun r : Int × Int × Int => .agg #[.int .i64 r.1, .int .i64 r.2.1, .int .i64 r.2.2]) hM10 (w_texture_at side l x y (check_sq (h8.trans c11)) w9 A cap (Rd.stay hR (St.below hM10)) (by assumption)) (by kernel_rfl) (fun r14 h15 w16 hM17 => S_store 0 0 #[.int .i64 r14.1, .int .i64 r14.2.1, .int .i64 r14.2.2] hM17 (by kernel_rfl) (fun w18 hM19 => S_val (.int .i64 0) (by kernel_rfl) (S_nil (?_))))))))))))
    have HR := hr_pos HR c11
    have HR := hr_lt HR h15
    refine R_ret hM19 rfl (.cons (.cell _ _ 0 0 (.agg #[.int .i64 r14.1, .int .i64 r14.2.1, .int .i64 r14.2.2]) (by kernel_rfl)) (.cons (.tmp _ (.int .i64 0) (by kernel_rfl)) .nil)) rfl ?_
    exact ⟨congrArg Ending.returned HR, hM19.below⟩

def e_umbraref14_Mod (r : Int) : Value := .int .i64 r
def s_umbraref14_Mod (n : Int) (m : Int) : Int :=
  lt (Int.tmod n m) fun x1 =>
  if x1 < 0 then
    lt (IntKind.i64.wrap (x1 + m)) fun x4 =>
    x4
  else
    x1
set_option maxRecDepth 100000 in
set_option maxHeartbeats 4000000 in
theorem w_umbraref14_Mod (n : Int) (m : Int) (hm : m ≠ 0) (w : World) : Calls Try.prog 82 #[.int .i64 n, .int .i64 m] w (Ret (e_umbraref14_Mod (s_umbraref14_Mod n m)) w) := by
  obtain ⟨R, HR⟩ : ∃ R, e_umbraref14_Mod (s_umbraref14_Mod n m) = R := ⟨_, rfl⟩
  rw [HR]
  unfold s_umbraref14_Mod at HR
  have hM0 := St.start w
  refine calls_run Try.func82 rfl ?_
  refine R_seq (R_region (S_val (.int .i64 0) (by kernel_rfl) (S_nil (R_seq (R_region (S_val (.int .i64 n) (by kernel_rfl) (S_val (.int .i64 m) (by kernel_rfl) (S_int (Int.tmod n m) .i64 (rem_run hm (by kernel_rfl) _) (fun x1 h2 => S_val (.int .i64 x1) (by kernel_rfl) (S_nil (R_seq (?_))))))))))))
  have HR := hr_lt HR h2
  refine R_seq (R_region (S_val (.int .i64 x1) (by kernel_rfl) (?_)))
  refine S_dec (x1 < 0) (by kernel_rfl) (fun c3 => ?_) (fun c3 => ?_)
  · refine S_nil (R_yes (by kernel_rfl) (R_region (S_val (.int .i64 x1) (by kernel_rfl) (S_val (.int .i64 m) (by kernel_rfl) (S_int (IntKind.i64.wrap (x1 + m)) .i64 (by kernel_rfl) (fun x4 h5 => S_val (.int .i64 x4) (by kernel_rfl) (S_nil (R_seq (R_region (S_val (.int .i64 x4) (by kernel_rfl) (S_val (.int .i64 x4) (by kernel_rfl) (?_))))))))))))
    have HR := hr_pos HR c3
    have HR := hr_lt HR h5
    refine S_nil (?_)
    refine R_ret hM0 rfl (.cons (.tmp _ (.int .i64 x4) (by kernel_rfl)) .nil) rfl ?_
    exact ⟨congrArg Ending.returned HR, hM0.below⟩
  · refine S_nil (R_no (by kernel_rfl) (R_skip (R_seq (R_region (S_val (.int .i64 x1) (by kernel_rfl) (S_val (.int .i64 x1) (by kernel_rfl) (S_nil (?_))))))))
    have HR := hr_neg HR c3
    refine R_ret hM0 rfl (.cons (.tmp _ (.int .i64 x1) (by kernel_rfl)) .nil) rfl ?_
    exact ⟨congrArg Ending.returned HR, hM0.below⟩

theorem mod_side {side p : Int} (hs : side = 1 ∨ side = 2 ∨ side = 4 ∨ side = 8 ∨ side = 16) : s_umbraref14_Mod p side = p % side := by
  rw [← rmod_side hs]
  unfold s_umbraref14_Mod rmod
  simp only [lt, wrI]
theorem at14_idx {side : Int} {l : List T3} (hs : SqT side l) {y x x1 x2 x3 x4 : Int} (h1 : s_umbraref14_Mod y side = x1) (h2 : IntKind.i64.wrap (x1 * side) = x2) (h3 : s_umbraref14_Mod x side = x3) (h4 : IntKind.i64.wrap (x2 + x3) = x4) : 0 ≤ x4 ∧ x4 < (List.length l : Int) := by
  rw [mod_side hs.1] at h1 h3
  rw [wrI] at h2 h4
  subst h1 h2 h3
  rw [grid_wr hs.1] at h4
  subst h4
  have := grid_bd hs.1 (p := y) (q := x)
  have := hs.2
  omega

def e_umbraref14_Texel (r : Int × Int × Int) : Value := .agg #[.int .i64 r.1, .int .i64 r.2.1, .int .i64 r.2.2]
def s_umbraref14_Texel (side : Int) (l : List (Int × Int × Int)) (x : Int) (y : Int) : Int × Int × Int :=
  lt (s_umbraref14_Mod y side) fun r10 =>
  lt (IntKind.i64.wrap (r10 * side)) fun x12 =>
  lt (s_umbraref14_Mod x side) fun r14 =>
  lt (IntKind.i64.wrap (x12 + r14)) fun x16 =>
  ((gd zero3 l x16).1, (gd zero3 l x16).2.1, (gd zero3 l x16).2.2)
set_option maxRecDepth 100000 in
set_option maxHeartbeats 4000000 in
theorem w_umbraref14_Texel (side : Int) (l : List (Int × Int × Int)) (x : Int) (y : Int) (hs : SqT side l) (w : World) (A : Option Addr) (cap : Nat) (hR : Rd v3c 3 w A l) (hl : (List.length l : Int) ≤ 1000) : Calls Try.prog 46 #[.agg #[.int .i64 side, .slice A (List.length l) cap], .int .i64 x, .int .i64 y] w (Ret (e_umbraref14_Texel (s_umbraref14_Texel side l x y)) w) := by
  obtain ⟨R, HR⟩ : ∃ R, e_umbraref14_Texel (s_umbraref14_Texel side l x y) = R := ⟨_, rfl⟩
  rw [HR]
  unfold s_umbraref14_Texel at HR
  have hM0 := St.start w
  refine calls_run Try.func46 rfl ?_
  refine R_seq (R_region (S_fresh none #[.int .i64 side, .slice A (List.length l) cap] 24 hM0 (by kernel_rfl) (fun g1 w2 hM3 => S_fresh none #[.int .i64 0, .int .i64 0, .int .i64 0] 36 hM3 (by kernel_rfl) (fun g4 w5 hM6 => S_nil (R_seq (R_drawF 16 (by kernel_rfl) (fun F7 U8 hL9 => F_val (.pointer (some ⟨g1, 1, none⟩)) (fun _ => by kernel_rfl) (F_load 1 1 (.slice A (List.length l) cap) hM6 (by kernel_rfl) (F_val (.int .i64 y) (fun _ => by kernel_rfl) (F_val (.pointer (some ⟨g1, 0, none⟩)) (fun _ => by kernel_rfl) (F_load 1 0 (.int .i64 side) hM6 (by kernel_rfl) (?_))))))))))))
  refine F_call (s_umbraref14_Mod y side) (fun r : Int => .int .i64 r) hM6 hL9 (fun w' hM' => w_umbraref14_Mod y side hs.ne w') (by kernel_rfl) (fun _ => by kernel_rfl) (fun r10 h11 => F_val (.pointer (some ⟨g1, 0, none⟩)) (fun _ => by kernel_rfl) (F_load 1 0 (.int .i64 side) hM6 (by kernel_rfl) (F_int (IntKind.i64.wrap (r10 * side)) .i64 (fun _ => by kernel_rfl) (fun x12 h13 => F_val (.int .i64 x) (fun _ => by kernel_rfl) (F_val (.pointer (some ⟨g1, 0, none⟩)) (fun _ => by kernel_rfl) (F_load 1 0 (.int .i64 side) hM6 (by kernel_rfl) (F_call (s_umbraref14_Mod x side) (fun r : Int => .int .i64 r) hM6 hL9 (fun w' hM' => w_umbraref14_Mod x side hs.ne w') (by kernel_rfl) (fun _ => by kernel_rfl) (fun r14 h15 => F_int (IntKind.i64.wrap (x12 + r14)) .i64 (fun _ => by kernel_rfl) (fun x16 h17 => ?_)))))))))
  have HR := hr_lt HR h11
  have HR := hr_lt HR h13
  have HR := hr_lt HR h15
  have HR := hr_lt HR h17
  obtain ⟨b18, off19, rfl⟩ := Rd.op (i := x16) hR (at14_idx hs h11 h13 h15 h17)
  refine F_idx 36 3 b18 off19 (List.length l) cap x16 (at14_idx hs h11 h13 h15 h17) (by kernel_rfl) (F_loadX v3c 3 zero3 x16 0 b18 off19 (.agg #[.int .i64 ((gd zero3 l x16).1), .int .i64 ((gd zero3 l x16).2.1), .int .i64 ((gd zero3 l x16).2.2)]) hM6 hR v3c_len (at14_idx hs h11 h13 h15 h17) (by kernel_rfl) (F_nil hM6 hL9 (fun w20 hM21 => S_store 0 0 #[.int .i64 ((gd zero3 l x16).1), .int .i64 ((gd zero3 l x16).2.1), .int .i64 ((gd zero3 l x16).2.2)] hM21 (by kernel_rfl) (fun w22 hM23 => S_nil (?_)))))
  refine R_ret hM23 rfl (.cons (.cell _ _ 0 0 (.agg #[.int .i64 ((gd zero3 l x16).1), .int .i64 ((gd zero3 l x16).2.1), .int .i64 ((gd zero3 l x16).2.2)]) (by kernel_rfl)) .nil) rfl ?_
  exact ⟨congrArg Ending.returned HR, hM23.below⟩

def e_umbraref25_floor (r : Int) : Value := .int .i64 r
def s_umbraref25_floor (n : Int) : Int :=
  lt (IntKind.i64.wrap (Int.tdiv n 65536)) fun x1 =>
  lt (Int.tmod n 65536) fun x3 =>
  if x3 < 0 then
    lt (IntKind.i64.wrap (x1 - 1)) fun x6 =>
    x6
  else
    x1
set_option maxRecDepth 100000 in
set_option maxHeartbeats 4000000 in
theorem w_umbraref25_floor (n : Int) (w : World) : Calls Try.prog 45 #[.int .i64 n] w (Ret (e_umbraref25_floor (s_umbraref25_floor n)) w) := by
  obtain ⟨R, HR⟩ : ∃ R, e_umbraref25_floor (s_umbraref25_floor n) = R := ⟨_, rfl⟩
  rw [HR]
  unfold s_umbraref25_floor at HR
  have hM0 := St.start w
  refine calls_run Try.func45 rfl ?_
  refine R_seq (R_region (S_val (.int .i64 0) (by kernel_rfl) (S_nil (R_seq (R_region (S_val (.int .i64 n) (by kernel_rfl) (S_int (IntKind.i64.wrap (Int.tdiv n 65536)) .i64 (by kernel_rfl) (fun x1 h2 => S_val (.int .i64 x1) (by kernel_rfl) (S_nil (R_seq (R_seq (?_))))))))))))
  have HR := hr_lt HR h2
  refine R_region (S_val (.int .i64 n) (by kernel_rfl) (S_int (Int.tmod n 65536) .i64 (by kernel_rfl) (fun x3 h4 => ?_)))
  have HR := hr_lt HR h4
  refine S_dec (x3 < 0) (by kernel_rfl) (fun c5 => ?_) (fun c5 => ?_)
  · refine S_nil (R_yes (by kernel_rfl) (R_region (S_val (.int .i64 x1) (by kernel_rfl) (S_int (IntKind.i64.wrap (x1 - 1)) .i64 (by kernel_rfl) (fun x6 h7 => S_val (.int .i64 x6) (by kernel_rfl) (S_nil (R_seq (R_region (S_val (.int .i64 x6) (by kernel_rfl) (S_val (.int .i64 x6) (by kernel_rfl) (S_nil (?_))))))))))))
    have HR := hr_pos HR c5
    have HR := hr_lt HR h7
    refine R_ret hM0 rfl (.cons (.tmp _ (.int .i64 x6) (by kernel_rfl)) .nil) rfl ?_
    exact ⟨congrArg Ending.returned HR, hM0.below⟩
  · refine S_nil (R_no (by kernel_rfl) (R_skip (R_seq (R_region (S_val (.int .i64 x1) (by kernel_rfl) (S_val (.int .i64 x1) (by kernel_rfl) (S_nil (?_))))))))
    have HR := hr_neg HR c5
    refine R_ret hM0 rfl (.cons (.tmp _ (.int .i64 x1) (by kernel_rfl)) .nil) rfl ?_
    exact ⟨congrArg Ending.returned HR, hM0.below⟩

def P_umbraref25_floor (r : Int) : Prop := InI r
theorem i_umbraref25_floor (n : Int) : P_umbraref25_floor (s_umbraref25_floor n) := by
  unfold s_umbraref25_floor
  exact (lt_P fun x1 h2 => (lt_P fun x3 h4 => (ite_P (fun c5 => (lt_P fun x6 h7 => (show InI x6 from (wr_i64 h7)))) (fun c5 => (show InI x1 from (wr_i64 h2))))))

def e_texel_Sample_1 (r : Int × Int × Int) : Value := .agg #[.int .i64 r.1, .int .i64 r.2.1, .int .i64 r.2.2]
def s_texel_Sample_1 (side : Int) (l : List (Int × Int × Int)) (X : Int) (Y : Int) (i : Int) (j : Int) : Int × Int × Int :=
  lt (Int.fdiv X (2 ^ 16)) fun x4 =>
  lt (IntKind.i64.wrap (x4 + i)) fun x6 =>
  lt (Int.fdiv Y (2 ^ 16)) fun x8 =>
  lt (IntKind.i64.wrap (x8 + j)) fun x10 =>
  lt (s_texture_At side l x6 x10) fun r12 =>
  r12.1
set_option maxRecDepth 100000 in
set_option maxHeartbeats 4000000 in
theorem w_texel_Sample_1 (side : Int) (l : List (Int × Int × Int)) (X : Int) (Y : Int) (i : Int) (j : Int) (B0 : Nat) (T0 : TypeId) (fr0 : Nat × Nat) (B1 : Nat) (T1 : TypeId) (fr1 : Nat × Nat) (B2 : Nat) (T2 : TypeId) (fr2 : Nat × Nat) (w : World) (A : Option Addr) (cap : Nat) (hR : Rd v3c 3 w A l) (hl : (List.length l : Int) ≤ 1000) (hB0 : Has B0 (.cells #[.int .i64 side, .slice A (List.length l) cap] T0 fr0) w) (hB1 : Has B1 (.cells #[.int .i64 X] T1 fr1) w) (hB2 : Has B2 (.cells #[.int .i64 Y] T2 fr2) w) (n1_0 : B1 ≠ B0) (n2_0 : B2 ≠ B0) (n2_1 : B2 ≠ B1) : Calls Try.prog 39 #[.int .i64 i, .int .i64 j, .pointer (some ⟨B0, 0, none⟩), .pointer (some ⟨B1, 0, none⟩), .pointer (some ⟨B2, 0, none⟩)] w (Ret (e_texel_Sample_1 (s_texel_Sample_1 side l X Y i j)) w) := by
  obtain ⟨R, HR⟩ : ∃ R, e_texel_Sample_1 (s_texel_Sample_1 side l X Y i j) = R := ⟨_, rfl⟩
  rw [HR]
  unfold s_texel_Sample_1 at HR
  have hM0 := St.start2 (St.start2 (St.start1 hB0) hB1 (by simpa using n1_0)) hB2 (by simp only [List.map_cons, List.map_nil, List.mem_cons, List.not_mem_nil, or_false, not_or]; exact ⟨n2_1, n2_0⟩)
  refine calls_run Try.func39 rfl ?_
  refine R_seq (R_region (S_fresh none #[.int .i64 0, .int .i64 0, .int .i64 0] 36 hM0 (by kernel_rfl) (fun g1 w2 hM3 => S_nil (R_seq (R_region (S_load 3 0 (.agg #[.int .i64 side, .slice A (List.length l) cap]) hM3 (by kernel_rfl) (S_load 2 0 (.int .i64 X) hM3 (by kernel_rfl) (S_int (Int.fdiv X (2 ^ 16)) .i64 (by kernel_rfl) (fun x4 h5 => S_val (.int .i64 i) (by kernel_rfl) (S_int (IntKind.i64.wrap (x4 + i)) .i64 (by kernel_rfl) (fun x6 h7 => S_load 1 0 (.int .i64 Y) hM3 (by kernel_rfl) (?_))))))))))))
  have HR := hr_lt HR h5
  have HR := hr_lt HR h7
  refine S_int (Int.fdiv Y (2 ^ 16)) .i64 (by kernel_rfl) (fun x8 h9 => S_val (.int .i64 j) (by kernel_rfl) (S_int (IntKind.i64.wrap (x8 + j)) .i64 (by kernel_rfl) (fun x10 h11 => S_call (s_texture_At side l x6 x10) (fun r : (Int × Int × Int) × Int => .tuple #[.agg #[.int .i64 r.1.1, .int .i64 r.1.2.1, .int .i64 r.1.2.2], .int .i64 r.2]) hM3 (w_texture_At side l x6 x10 w2 A cap (Rd.stay hR (St.below hM3)) (by assumption)) (by kernel_rfl) (fun r12 h13 w14 hM15 => S_val (.tuple #[.agg #[.int .i64 r12.1.1, .int .i64 r12.1.2.1, .int .i64 r12.1.2.2], .int .i64 r12.2]) (by kernel_rfl) (S_val (.agg #[.int .i64 r12.1.1, .int .i64 r12.1.2.1, .int .i64 r12.1.2.2]) (by kernel_rfl) (S_val (.int .i64 r12.2) (by kernel_rfl) (S_fresh none #[.int .i64 0, .int .i64 0, .int .i64 0] 36 hM15 (by kernel_rfl) (fun g16 w17 hM18 => S_store 0 0 #[.int .i64 r12.1.1, .int .i64 r12.1.2.1, .int .i64 r12.1.2.2] hM18 (by kernel_rfl) (fun w19 hM20 => S_val (.int .i64 r12.2) (by kernel_rfl) (S_nil (R_seq (?_))))))))))))
  have HR := hr_lt HR h9
  have HR := hr_lt HR h11
  have HR := hr_lt HR h13
  refine R_region (S_load 0 0 (.agg #[.int .i64 r12.1.1, .int .i64 r12.1.2.1, .int .i64 r12.1.2.2]) hM20 (by kernel_rfl) (S_store 1 0 #[.int .i64 r12.1.1, .int .i64 r12.1.2.1, .int .i64 r12.1.2.2] hM20 (by kernel_rfl) (fun w21 hM22 => S_nil (?_))))
  refine R_ret hM22 rfl (.cons (.cell _ _ 1 0 (.agg #[.int .i64 r12.1.1, .int .i64 r12.1.2.1, .int .i64 r12.1.2.2]) (by kernel_rfl)) .nil) rfl ?_
  exact ⟨congrArg Ending.returned HR, hM22.below⟩

def e_texel_Sample (r : (Int × Int × Int) × Int) : Value := .tuple #[.agg #[.int .i64 r.1.1, .int .i64 r.1.2.1, .int .i64 r.1.2.2], .int .i64 r.2]
def s_texel_Sample (side : Int) (l : List (Int × Int × Int)) (u : Int) (v : Int) : (Int × Int × Int) × Int :=
  lt (s_texture_Check side l) fun r7 =>
  if r7 = 0 then
    lt (gmin u v) fun x14 =>
    if x14 < 0 then
      ((0, 0, 0), 2)
    else
      lt (gmax u v) fun x19 =>
      if x19 > 65535 then
        ((0, 0, 0), 2)
      else
        lt (IntKind.i64.wrap (u * side)) fun x27 =>
        lt (IntKind.i64.wrap (x27 - 32768)) fun x29 =>
        lt (IntKind.i64.wrap (v * side)) fun x31 =>
        lt (IntKind.i64.wrap (x31 - 32768)) fun x33 =>
        lt (bits .and .i64 x29 65535) fun x52 =>
        lt (bits .and .i64 x33 65535) fun x54 =>
        lt (IntKind.i64.wrap (65536 - x52)) fun x58 =>
        lt (IntKind.i64.wrap (65536 - x54)) fun x60 =>
        lt (IntKind.i64.wrap (x58 * x60)) fun x62 =>
        lt (IntKind.i64.wrap (65536 - x54)) fun x64 =>
        lt (IntKind.i64.wrap (x52 * x64)) fun x66 =>
        lt (IntKind.i64.wrap (65536 - x52)) fun x68 =>
        lt (IntKind.i64.wrap (x68 * x54)) fun x70 =>
        lt (IntKind.i64.wrap (x52 * x54)) fun x72 =>
        lt (s_texel_Sample_1 side l x29 x33 0 0) fun r79 =>
        lt (s_texel_Sample_1 side l x29 x33 1 0) fun r83 =>
        lt (s_texel_Sample_1 side l x29 x33 0 1) fun r87 =>
        lt (s_texel_Sample_1 side l x29 x33 1 1) fun r91 =>
        lt (IntKind.i64.wrap (r79.1 * x62)) fun x111 =>
        lt (IntKind.i64.wrap (0 + x111)) fun x113 =>
        lt (IntKind.i64.wrap (r79.2.1 * x62)) fun x122 =>
        lt (IntKind.i64.wrap (0 + x122)) fun x124 =>
        lt (IntKind.i64.wrap (r79.2.2 * x62)) fun x133 =>
        lt (IntKind.i64.wrap (0 + x133)) fun x135 =>
        lt (IntKind.i64.wrap (r83.1 * x66)) fun x149 =>
        lt (IntKind.i64.wrap (x113 + x149)) fun x151 =>
        lt (IntKind.i64.wrap (r83.2.1 * x66)) fun x160 =>
        lt (IntKind.i64.wrap (x124 + x160)) fun x162 =>
        lt (IntKind.i64.wrap (r83.2.2 * x66)) fun x171 =>
        lt (IntKind.i64.wrap (x135 + x171)) fun x173 =>
        lt (IntKind.i64.wrap (r87.1 * x70)) fun x187 =>
        lt (IntKind.i64.wrap (x151 + x187)) fun x189 =>
        lt (IntKind.i64.wrap (r87.2.1 * x70)) fun x198 =>
        lt (IntKind.i64.wrap (x162 + x198)) fun x200 =>
        lt (IntKind.i64.wrap (r87.2.2 * x70)) fun x209 =>
        lt (IntKind.i64.wrap (x173 + x209)) fun x211 =>
        lt (IntKind.i64.wrap (r91.1 * x72)) fun x225 =>
        lt (IntKind.i64.wrap (x189 + x225)) fun x227 =>
        lt (IntKind.i64.wrap (r91.2.1 * x72)) fun x236 =>
        lt (IntKind.i64.wrap (x200 + x236)) fun x238 =>
        lt (IntKind.i64.wrap (r91.2.2 * x72)) fun x247 =>
        lt (IntKind.i64.wrap (x211 + x247)) fun x249 =>
        lt (IntKind.i64.wrap (Int.tdiv x227 255)) fun x255 =>
        lt (IntKind.i64.wrap (Int.tdiv x238 255)) fun x257 =>
        lt (IntKind.i64.wrap (Int.tdiv x249 255)) fun x259 =>
        ((x255, x257, x259), 0)
  else
    ((0, 0, 0), r7)
set_option maxRecDepth 100000 in
set_option maxHeartbeats 4000000 in
theorem w_texel_Sample (side : Int) (l : List (Int × Int × Int)) (u : Int) (v : Int) (w : World) (A : Option Addr) (cap : Nat) (hR : Rd v3c 3 w A l) (hl : (List.length l : Int) ≤ 1000) : Calls Try.prog 14 #[.agg #[.int .i64 side, .slice A (List.length l) cap], .int .i64 u, .int .i64 v] w (Ret (e_texel_Sample (s_texel_Sample side l u v)) w) := by
  obtain ⟨R, HR⟩ : ∃ R, e_texel_Sample (s_texel_Sample side l u v) = R := ⟨_, rfl⟩
  rw [HR]
  unfold s_texel_Sample at HR
  have hM0 := St.start w
  refine calls_run Try.func14 rfl ?_
  refine R_seq (R_region (S_fresh none #[.int .i64 side, .slice A (List.length l) cap] 24 hM0 (by kernel_rfl) (fun g1 w2 hM3 => S_fresh none #[.int .i64 0, .int .i64 0, .int .i64 0] 29 hM3 (by kernel_rfl) (fun g4 w5 hM6 => S_val (.int .i64 0) (by kernel_rfl) (S_nil (R_seq (R_seq (R_region (S_load 1 0 (.agg #[.int .i64 side, .slice A (List.length l) cap]) hM6 (by kernel_rfl) (S_call (s_texture_Check side l) (fun r : Int => .int .i64 r) hM6 (w_texture_Check side l w5 A cap (Rd.stay hR (St.below hM6)) (by assumption)) (by kernel_rfl) (fun r7 h8 w9 hM10 => S_val (.int .i64 r7) (by kernel_rfl) (?_))))))))))))
  have HR := hr_lt HR h8
  refine S_nil (R_seq (R_region (S_val (.int .i64 r7) (by kernel_rfl) (?_))))
  refine S_decn (r7 = 0) (by kernel_rfl) (fun c11 => ?_) (fun c11 => ?_)
  · refine S_nil (R_yes (by kernel_rfl) (R_seq (R_region (S_val (.agg #[.int .i64 0, .int .i64 0, .int .i64 0]) (by kernel_rfl) (S_val (.int .i64 r7) (by kernel_rfl) (S_store 0 0 #[.int .i64 0, .int .i64 0, .int .i64 0] hM10 (by kernel_rfl) (fun w12 hM13 => S_val (.int .i64 r7) (by kernel_rfl) (S_nil (?_)))))))))
    have HR := hr_neg HR c11
    refine R_ret hM13 rfl (.cons (.cell _ _ 0 0 (.agg #[.int .i64 0, .int .i64 0, .int .i64 0]) (by kernel_rfl)) (.cons (.tmp _ (.int .i64 r7) (by kernel_rfl)) .nil)) rfl ?_
    exact ⟨congrArg Ending.returned HR, hM13.below⟩
  · refine S_nil (R_no (by kernel_rfl) (R_skip (R_seq (R_seq (R_region (S_val (.int .i64 u) (by kernel_rfl) (S_val (.int .i64 v) (by kernel_rfl) (S_int (gmin u v) .i64 (by kernel_rfl) (fun x14 h15 => ?_)))))))))
    have HR := hr_pos HR c11
    have HR := hr_lt HR h15
    refine S_dec (x14 < 0) (by kernel_rfl) (fun c16 => ?_) (fun c16 => ?_)
    · refine S_val (.bool true) (by kernel_rfl) (S_skip (by kernel_rfl) (S_skip (by kernel_rfl) (S_skip (by kernel_rfl) (S_skip (by kernel_rfl) (S_val (.bool true) (by kernel_rfl) (S_nil (R_yes (by kernel_rfl) (R_seq (R_region (S_val (.agg #[.int .i64 0, .int .i64 0, .int .i64 0]) (by kernel_rfl) (S_store 0 0 #[.int .i64 0, .int .i64 0, .int .i64 0] hM10 (by kernel_rfl) (fun w17 hM18 => ?_))))))))))))
      have HR := hr_pos HR c16
      refine S_val (.int .i64 2) (by kernel_rfl) (S_nil (?_))
      refine R_ret hM18 rfl (.cons (.cell _ _ 0 0 (.agg #[.int .i64 0, .int .i64 0, .int .i64 0]) (by kernel_rfl)) (.cons (.tmp _ (.int .i64 2) (by kernel_rfl)) .nil)) rfl ?_
      exact ⟨congrArg Ending.returned HR, hM18.below⟩
    · refine S_val (.bool false) (by kernel_rfl) (S_val (.int .i64 u) (by kernel_rfl) (S_val (.int .i64 v) (by kernel_rfl) (S_int (gmax u v) .i64 (by kernel_rfl) (fun x19 h20 => ?_))))
      have HR := hr_neg HR c16
      have HR := hr_lt HR h20
      refine S_dec (x19 > 65535) (by kernel_rfl) (fun c21 => ?_) (fun c21 => ?_)
      · refine S_val (.bool true) (by kernel_rfl) (S_nil (R_yes (by kernel_rfl) (R_seq (R_region (S_val (.agg #[.int .i64 0, .int .i64 0, .int .i64 0]) (by kernel_rfl) (S_store 0 0 #[.int .i64 0, .int .i64 0, .int .i64 0] hM10 (by kernel_rfl) (fun w22 hM23 => S_val (.int .i64 2) (by kernel_rfl) (S_nil (?_)))))))))
        have HR := hr_pos HR c21
        refine R_ret hM23 rfl (.cons (.cell _ _ 0 0 (.agg #[.int .i64 0, .int .i64 0, .int .i64 0]) (by kernel_rfl)) (.cons (.tmp _ (.int .i64 2) (by kernel_rfl)) .nil)) rfl ?_
        exact ⟨congrArg Ending.returned HR, hM23.below⟩
      · refine S_val (.bool false) (by kernel_rfl) (S_nil (R_no (by kernel_rfl) (R_skip (R_seq (R_drawG 14 (by kernel_rfl) (fun F24 U25 hL26 => G_val (.int .i64 u) (fun _ => by kernel_rfl) (G_val (.pointer (some ⟨g1, 0, none⟩)) (fun _ => by kernel_rfl) (G_load 1 0 (.int .i64 side) hM10 (by kernel_rfl) (G_int (IntKind.i64.wrap (u * side)) .i64 (fun _ => by kernel_rfl) (fun x27 h28 => G_int (IntKind.i64.wrap (x27 - 32768)) .i64 (fun _ => by kernel_rfl) (fun x29 h30 => G_val (.int .i64 v) (fun _ => by kernel_rfl) (?_))))))))))))
        have HR := hr_neg HR c21
        have HR := hr_lt HR h28
        have HR := hr_lt HR h30
        refine G_val (.pointer (some ⟨g1, 0, none⟩)) (fun _ => by kernel_rfl) (G_load 1 0 (.int .i64 side) hM10 (by kernel_rfl) (G_int (IntKind.i64.wrap (v * side)) .i64 (fun _ => by kernel_rfl) (fun x31 h32 => G_int (IntKind.i64.wrap (x31 - 32768)) .i64 (fun _ => by kernel_rfl) (fun x33 h34 => G_fresh none #[.int .i64 0] 3 hL26 (by kernel_rfl) (fun _ => by kernel_rfl) (fun g35 F36 U37 hL38 => G_fresh none #[.int .i64 0] 3 hL38 (by kernel_rfl) (fun _ => by kernel_rfl) (fun g39 F40 U41 hL42 => G_store 1 0 #[.int .i64 x29] hL42 (by kernel_rfl) (by kernel_rfl) (fun F43 hL44 => G_store 0 0 #[.int .i64 x33] hL44 (by kernel_rfl) (by kernel_rfl) (fun F45 hL46 => G_nil hM10 hL46 (fun w47 hM48 => S_nil (R_seq (R_drawF 6 (by kernel_rfl) (fun F49 U50 hL51 => ?_))))))))))))
        have HR := hr_lt HR h32
        have HR := hr_lt HR h34
        refine F_load 1 0 (.int .i64 x29) hM48 (by kernel_rfl) (F_int (bits .and .i64 x29 65535) .i64 (fun _ => by kernel_rfl) (fun x52 h53 => F_load 0 0 (.int .i64 x33) hM48 (by kernel_rfl) (F_int (bits .and .i64 x33 65535) .i64 (fun _ => by kernel_rfl) (fun x54 h55 => F_val (.int .i64 x52) (fun _ => by kernel_rfl) (F_val (.int .i64 x54) (fun _ => by kernel_rfl) (F_nil hM48 hL51 (fun w56 hM57 => S_nil (R_seq (R_region (S_val (.func (.func 39) #[] #[.pointer (some ⟨g1, 0, none⟩), .pointer (some ⟨g35, 0, none⟩), .pointer (some ⟨g39, 0, none⟩)]) (by kernel_rfl) (S_val (.func (.func 39) #[] #[.pointer (some ⟨g1, 0, none⟩), .pointer (some ⟨g35, 0, none⟩), .pointer (some ⟨g39, 0, none⟩)]) (by kernel_rfl) (?_))))))))))))
        have HR := hr_lt HR h53
        have HR := hr_lt HR h55
        refine S_nil (R_seq (R_region (S_val (.int .i64 x52) (by kernel_rfl) (S_int (IntKind.i64.wrap (65536 - x52)) .i64 (by kernel_rfl) (fun x58 h59 => S_val (.int .i64 x54) (by kernel_rfl) (S_int (IntKind.i64.wrap (65536 - x54)) .i64 (by kernel_rfl) (fun x60 h61 => S_int (IntKind.i64.wrap (x58 * x60)) .i64 (by kernel_rfl) (fun x62 h63 => S_val (.int .i64 x52) (by kernel_rfl) (S_val (.int .i64 x54) (by kernel_rfl) (S_int (IntKind.i64.wrap (65536 - x54)) .i64 (by kernel_rfl) (fun x64 h65 => S_int (IntKind.i64.wrap (x52 * x64)) .i64 (by kernel_rfl) (fun x66 h67 => ?_))))))))))))
        have HR := hr_lt HR h59
        have HR := hr_lt HR h61
        have HR := hr_lt HR h63
        have HR := hr_lt HR h65
        have HR := hr_lt HR h67
        refine S_val (.int .i64 x52) (by kernel_rfl) (S_int (IntKind.i64.wrap (65536 - x52)) .i64 (by kernel_rfl) (fun x68 h69 => S_val (.int .i64 x54) (by kernel_rfl) (S_int (IntKind.i64.wrap (x68 * x54)) .i64 (by kernel_rfl) (fun x70 h71 => S_val (.int .i64 x52) (by kernel_rfl) (S_val (.int .i64 x54) (by kernel_rfl) (S_int (IntKind.i64.wrap (x52 * x54)) .i64 (by kernel_rfl) (fun x72 h73 => S_val (.agg #[.int .i64 x62, .int .i64 x66, .int .i64 x70, .int .i64 x72]) (by kernel_rfl) (S_fresh none #[.int .i64 0, .int .i64 0, .int .i64 0, .int .i64 0] 41 hM57 (by kernel_rfl) (fun g74 w75 hM76 => S_store 0 0 #[.int .i64 x62, .int .i64 x66, .int .i64 x70, .int .i64 x72] hM76 (by kernel_rfl) (fun w77 hM78 => S_nil (R_seq (?_))))))))))))
        have HR := hr_lt HR h69
        have HR := hr_lt HR h71
        have HR := hr_lt HR h73
        refine R_region (S_val (.func (.func 39) #[] #[.pointer (some ⟨g1, 0, none⟩), .pointer (some ⟨g35, 0, none⟩), .pointer (some ⟨g39, 0, none⟩)]) (by kernel_rfl) (S_call (s_texel_Sample_1 side l x29 x33 0 0) (fun r : Int × Int × Int => .agg #[.int .i64 r.1, .int .i64 r.2.1, .int .i64 r.2.2]) hM78 (w_texel_Sample_1 side l x29 x33 0 0 g1 _ _ g35 _ _ g39 _ _ w77 A cap (Rd.stay hR (St.below hM78)) (by assumption) (hM78.at 4 rfl) (hM78.at 2 rfl) (hM78.at 1 rfl) (hM78.ne 2 4 rfl rfl (by decide)) (hM78.ne 1 4 rfl rfl (by decide)) (hM78.ne 1 2 rfl rfl (by decide))) (by kernel_rfl) (fun r79 h80 w81 hM82 => S_val (.func (.func 39) #[] #[.pointer (some ⟨g1, 0, none⟩), .pointer (some ⟨g35, 0, none⟩), .pointer (some ⟨g39, 0, none⟩)]) (by kernel_rfl) (S_call (s_texel_Sample_1 side l x29 x33 1 0) (fun r : Int × Int × Int => .agg #[.int .i64 r.1, .int .i64 r.2.1, .int .i64 r.2.2]) hM82 (w_texel_Sample_1 side l x29 x33 1 0 g1 _ _ g35 _ _ g39 _ _ w81 A cap (Rd.stay hR (St.below hM82)) (by assumption) (hM82.at 4 rfl) (hM82.at 2 rfl) (hM82.at 1 rfl) (hM82.ne 2 4 rfl rfl (by decide)) (hM82.ne 1 4 rfl rfl (by decide)) (hM82.ne 1 2 rfl rfl (by decide))) (by kernel_rfl) (fun r83 h84 w85 hM86 => S_val (.func (.func 39) #[] #[.pointer (some ⟨g1, 0, none⟩), .pointer (some ⟨g35, 0, none⟩), .pointer (some ⟨g39, 0, none⟩)]) (by kernel_rfl) (S_call (s_texel_Sample_1 side l x29 x33 0 1) (fun r : Int × Int × Int => .agg #[.int .i64 r.1, .int .i64 r.2.1, .int .i64 r.2.2]) hM86 (w_texel_Sample_1 side l x29 x33 0 1 g1 _ _ g35 _ _ g39 _ _ w85 A cap (Rd.stay hR (St.below hM86)) (by assumption) (hM86.at 4 rfl) (hM86.at 2 rfl) (hM86.at 1 rfl) (hM86.ne 2 4 rfl rfl (by decide)) (hM86.ne 1 4 rfl rfl (by decide)) (hM86.ne 1 2 rfl rfl (by decide))) (by kernel_rfl) (fun r87 h88 w89 hM90 => S_val (.func (.func 39) #[] #[.pointer (some ⟨g1, 0, none⟩), .pointer (some ⟨g35, 0, none⟩), .pointer (some ⟨g39, 0, none⟩)]) (by kernel_rfl) (S_call (s_texel_Sample_1 side l x29 x33 1 1) (fun r : Int × Int × Int => .agg #[.int .i64 r.1, .int .i64 r.2.1, .int .i64 r.2.2]) hM90 (w_texel_Sample_1 side l x29 x33 1 1 g1 _ _ g35 _ _ g39 _ _ w89 A cap (Rd.stay hR (St.below hM90)) (by assumption) (hM90.at 4 rfl) (hM90.at 2 rfl) (hM90.at 1 rfl) (hM90.ne 2 4 rfl rfl (by decide)) (hM90.ne 1 4 rfl rfl (by decide)) (hM90.ne 1 2 rfl rfl (by decide))) (by kernel_rfl) (fun r91 h92 w93 hM94 => S_val (.agg #[.int .i64 r79.1, .int .i64 r79.2.1, .int .i64 r79.2.2, .int .i64 r83.1, .int .i64 r83.2.1, .int .i64 r83.2.2, .int .i64 r87.1, .int .i64 r87.2.1, .int .i64 r87.2.2, .int .i64 r91.1, .int .i64 r91.2.1, .int .i64 r91.2.2]) (by kernel_rfl) (S_fresh none #[.int .i64 0, .int .i64 0, .int .i64 0, .int .i64 0, .int .i64 0, .int .i64 0, .int .i64 0, .int .i64 0, .int .i64 0, .int .i64 0, .int .i64 0, .int .i64 0] 93 hM94 (by kernel_rfl) (fun g95 w96 hM97 => S_store 0 0 #[.int .i64 r79.1, .int .i64 r79.2.1, .int .i64 r79.2.2, .int .i64 r83.1, .int .i64 r83.2.1, .int .i64 r83.2.2, .int .i64 r87.1, .int .i64 r87.2.1, .int .i64 r87.2.2, .int .i64 r91.1, .int .i64 r91.2.1, .int .i64 r91.2.2] hM97 (by kernel_rfl) (fun w98 hM99 => ?_))))))))))))
        have HR := hr_lt HR h80
        have HR := hr_lt HR h84
        have HR := hr_lt HR h88
        have HR := hr_lt HR h92
        refine S_nil (R_seq (R_region (S_fresh none #[.int .i64 0, .int .i64 0, .int .i64 0] 36 hM99 (by kernel_rfl) (fun g100 w101 hM102 => S_nil (R_seq (R_seq (R_region (S_load 1 0 (.agg #[.int .i64 r79.1, .int .i64 r79.2.1, .int .i64 r79.2.2, .int .i64 r83.1, .int .i64 r83.2.1, .int .i64 r83.2.2, .int .i64 r87.1, .int .i64 r87.2.1, .int .i64 r87.2.2, .int .i64 r91.1, .int .i64 r91.2.1, .int .i64 r91.2.2]) hM102 (by kernel_rfl) (S_val (.int .i64 0) (by kernel_rfl) (S_nil (R_block (?_))))))))))))
        refine R_loop (R_seq (R_region (S_val (.bool true) (by kernel_rfl) (S_nil (R_seq (R_yes (by kernel_rfl) (R_skip (R_seq (R_block (R_seq (R_region (?_))))))))))))
        refine S_val (.int .i64 0) (by kernel_rfl) (S_val (.agg #[.int .i64 r79.1, .int .i64 r79.2.1, .int .i64 r79.2.2]) (by kernel_rfl) (S_fresh none #[.int .i64 0, .int .i64 0, .int .i64 0] 36 hM102 (by kernel_rfl) (fun g103 w104 hM105 => S_val (.int .i64 0) (by kernel_rfl) (S_store 0 0 #[.int .i64 r79.1, .int .i64 r79.2.1, .int .i64 r79.2.2] hM105 (by kernel_rfl) (fun w106 hM107 => S_nil (R_seq (R_region (S_val (.int .i64 0) (by kernel_rfl) (S_nil (R_block (R_loop (?_))))))))))))
        refine R_seq (R_region (S_val (.bool true) (by kernel_rfl) (S_nil (R_seq (R_yes (by kernel_rfl) (R_skip (R_seq (R_block (R_seq (R_region (S_val (.int .i64 0) (by kernel_rfl) (?_))))))))))))
        refine S_val (.int .i64 0) (by kernel_rfl) (S_nil (R_drawF 12 (by kernel_rfl) (fun F108 U109 hL110 => F_val (.int .i64 0) (fun _ => by kernel_rfl) (F_val (.pointer (some ⟨g100, 0, none⟩)) (fun _ => by kernel_rfl) (F_load 1 0 (.int .i64 0) hM107 (by kernel_rfl) (F_val (.int .i64 0) (fun _ => by kernel_rfl) (F_val (.pointer (some ⟨g103, 0, none⟩)) (fun _ => by kernel_rfl) (F_load 0 0 (.int .i64 r79.1) hM107 (by kernel_rfl) (F_val (.int .i64 0) (fun _ => by kernel_rfl) (F_val (.pointer (some ⟨g74, 0, none⟩)) (fun _ => by kernel_rfl) (F_load 3 0 (.int .i64 x62) hM107 (by kernel_rfl) (?_))))))))))))
        refine F_int (IntKind.i64.wrap (r79.1 * x62)) .i64 (fun _ => by kernel_rfl) (fun x111 h112 => F_int (IntKind.i64.wrap (0 + x111)) .i64 (fun _ => by kernel_rfl) (fun x113 h114 => F_val (.pointer (some ⟨g100, 0, none⟩)) (fun _ => by kernel_rfl) (F_nil hM107 hL110 (fun w115 hM116 => S_store 1 0 #[.int .i64 x113, .int .i64 0, .int .i64 0] hM116 (by kernel_rfl) (fun w117 hM118 => S_nil (R_inBlock (R_region (S_val (.int .i64 1) (by kernel_rfl) (S_val (.int .i64 1) (by kernel_rfl) (S_nil (R_inLoop (?_))))))))))))
        have HR := hr_lt HR h112
        have HR := hr_lt HR h114
        refine R_seq (R_region (S_val (.bool true) (by kernel_rfl) (S_nil (R_seq (R_yes (by kernel_rfl) (R_skip (R_seq (R_block (R_seq (R_region (S_val (.int .i64 1) (by kernel_rfl) (?_))))))))))))
        refine S_val (.int .i64 1) (by kernel_rfl) (S_nil (R_drawF 12 (by kernel_rfl) (fun F119 U120 hL121 => F_val (.int .i64 1) (fun _ => by kernel_rfl) (F_val (.pointer (some ⟨g100, 1, none⟩)) (fun _ => by kernel_rfl) (F_load 1 1 (.int .i64 0) hM118 (by kernel_rfl) (F_val (.int .i64 1) (fun _ => by kernel_rfl) (F_val (.pointer (some ⟨g103, 1, none⟩)) (fun _ => by kernel_rfl) (F_load 0 1 (.int .i64 r79.2.1) hM118 (by kernel_rfl) (F_val (.int .i64 0) (fun _ => by kernel_rfl) (F_val (.pointer (some ⟨g74, 0, none⟩)) (fun _ => by kernel_rfl) (F_load 3 0 (.int .i64 x62) hM118 (by kernel_rfl) (?_))))))))))))
        refine F_int (IntKind.i64.wrap (r79.2.1 * x62)) .i64 (fun _ => by kernel_rfl) (fun x122 h123 => F_int (IntKind.i64.wrap (0 + x122)) .i64 (fun _ => by kernel_rfl) (fun x124 h125 => F_val (.pointer (some ⟨g100, 1, none⟩)) (fun _ => by kernel_rfl) (F_nil hM118 hL121 (fun w126 hM127 => S_store 1 1 #[.int .i64 x113, .int .i64 x124, .int .i64 0] hM127 (by kernel_rfl) (fun w128 hM129 => S_nil (R_inBlock (R_region (S_val (.int .i64 2) (by kernel_rfl) (S_val (.int .i64 2) (by kernel_rfl) (S_nil (R_inLoop (?_))))))))))))
        have HR := hr_lt HR h123
        have HR := hr_lt HR h125
        refine R_seq (R_region (S_val (.bool true) (by kernel_rfl) (S_nil (R_seq (R_yes (by kernel_rfl) (R_skip (R_seq (R_block (R_seq (R_region (S_val (.int .i64 2) (by kernel_rfl) (?_))))))))))))
        refine S_val (.int .i64 2) (by kernel_rfl) (S_nil (R_drawF 12 (by kernel_rfl) (fun F130 U131 hL132 => F_val (.int .i64 2) (fun _ => by kernel_rfl) (F_val (.pointer (some ⟨g100, 2, none⟩)) (fun _ => by kernel_rfl) (F_load 1 2 (.int .i64 0) hM129 (by kernel_rfl) (F_val (.int .i64 2) (fun _ => by kernel_rfl) (F_val (.pointer (some ⟨g103, 2, none⟩)) (fun _ => by kernel_rfl) (F_load 0 2 (.int .i64 r79.2.2) hM129 (by kernel_rfl) (F_val (.int .i64 0) (fun _ => by kernel_rfl) (F_val (.pointer (some ⟨g74, 0, none⟩)) (fun _ => by kernel_rfl) (F_load 3 0 (.int .i64 x62) hM129 (by kernel_rfl) (?_))))))))))))
        refine F_int (IntKind.i64.wrap (r79.2.2 * x62)) .i64 (fun _ => by kernel_rfl) (fun x133 h134 => F_int (IntKind.i64.wrap (0 + x133)) .i64 (fun _ => by kernel_rfl) (fun x135 h136 => F_val (.pointer (some ⟨g100, 2, none⟩)) (fun _ => by kernel_rfl) (F_nil hM129 hL132 (fun w137 hM138 => S_store 1 2 #[.int .i64 x113, .int .i64 x124, .int .i64 x135] hM138 (by kernel_rfl) (fun w139 hM140 => S_nil (R_inBlock (R_region (S_val (.int .i64 3) (by kernel_rfl) (S_val (.int .i64 3) (by kernel_rfl) (S_nil (R_inLoop (?_))))))))))))
        have HR := hr_lt HR h134
        have HR := hr_lt HR h136
        refine R_seq (R_region (S_val (.bool false) (by kernel_rfl) (S_nil (R_seq (R_no (by kernel_rfl) (R_exit rfl (R_inBlock (R_region (S_val (.int .i64 1) (by kernel_rfl) (S_val (.int .i64 1) (by kernel_rfl) (S_nil (?_))))))))))))
        refine R_inLoop (R_seq (R_region (S_val (.bool true) (by kernel_rfl) (S_nil (R_seq (R_yes (by kernel_rfl) (R_skip (R_seq (R_block (R_seq (R_region (?_))))))))))))
        refine S_val (.int .i64 1) (by kernel_rfl) (S_val (.agg #[.int .i64 r83.1, .int .i64 r83.2.1, .int .i64 r83.2.2]) (by kernel_rfl) (S_fresh none #[.int .i64 0, .int .i64 0, .int .i64 0] 36 hM140 (by kernel_rfl) (fun g141 w142 hM143 => S_val (.int .i64 1) (by kernel_rfl) (S_store 0 0 #[.int .i64 r83.1, .int .i64 r83.2.1, .int .i64 r83.2.2] hM143 (by kernel_rfl) (fun w144 hM145 => S_nil (R_seq (R_region (S_val (.int .i64 0) (by kernel_rfl) (S_nil (R_block (R_loop (?_))))))))))))
        refine R_seq (R_region (S_val (.bool true) (by kernel_rfl) (S_nil (R_seq (R_yes (by kernel_rfl) (R_skip (R_seq (R_block (R_seq (R_region (S_val (.int .i64 0) (by kernel_rfl) (?_))))))))))))
        refine S_val (.int .i64 0) (by kernel_rfl) (S_nil (R_drawF 12 (by kernel_rfl) (fun F146 U147 hL148 => F_val (.int .i64 0) (fun _ => by kernel_rfl) (F_val (.pointer (some ⟨g100, 0, none⟩)) (fun _ => by kernel_rfl) (F_load 2 0 (.int .i64 x113) hM145 (by kernel_rfl) (F_val (.int .i64 0) (fun _ => by kernel_rfl) (F_val (.pointer (some ⟨g141, 0, none⟩)) (fun _ => by kernel_rfl) (F_load 0 0 (.int .i64 r83.1) hM145 (by kernel_rfl) (F_val (.int .i64 1) (fun _ => by kernel_rfl) (F_val (.pointer (some ⟨g74, 1, none⟩)) (fun _ => by kernel_rfl) (F_load 4 1 (.int .i64 x66) hM145 (by kernel_rfl) (?_))))))))))))
        refine F_int (IntKind.i64.wrap (r83.1 * x66)) .i64 (fun _ => by kernel_rfl) (fun x149 h150 => F_int (IntKind.i64.wrap (x113 + x149)) .i64 (fun _ => by kernel_rfl) (fun x151 h152 => F_val (.pointer (some ⟨g100, 0, none⟩)) (fun _ => by kernel_rfl) (F_nil hM145 hL148 (fun w153 hM154 => S_store 2 0 #[.int .i64 x151, .int .i64 x124, .int .i64 x135] hM154 (by kernel_rfl) (fun w155 hM156 => S_nil (R_inBlock (R_region (S_val (.int .i64 1) (by kernel_rfl) (S_val (.int .i64 1) (by kernel_rfl) (S_nil (R_inLoop (?_))))))))))))
        have HR := hr_lt HR h150
        have HR := hr_lt HR h152
        refine R_seq (R_region (S_val (.bool true) (by kernel_rfl) (S_nil (R_seq (R_yes (by kernel_rfl) (R_skip (R_seq (R_block (R_seq (R_region (S_val (.int .i64 1) (by kernel_rfl) (?_))))))))))))
        refine S_val (.int .i64 1) (by kernel_rfl) (S_nil (R_drawF 12 (by kernel_rfl) (fun F157 U158 hL159 => F_val (.int .i64 1) (fun _ => by kernel_rfl) (F_val (.pointer (some ⟨g100, 1, none⟩)) (fun _ => by kernel_rfl) (F_load 2 1 (.int .i64 x124) hM156 (by kernel_rfl) (F_val (.int .i64 1) (fun _ => by kernel_rfl) (F_val (.pointer (some ⟨g141, 1, none⟩)) (fun _ => by kernel_rfl) (F_load 0 1 (.int .i64 r83.2.1) hM156 (by kernel_rfl) (F_val (.int .i64 1) (fun _ => by kernel_rfl) (F_val (.pointer (some ⟨g74, 1, none⟩)) (fun _ => by kernel_rfl) (F_load 4 1 (.int .i64 x66) hM156 (by kernel_rfl) (?_))))))))))))
        refine F_int (IntKind.i64.wrap (r83.2.1 * x66)) .i64 (fun _ => by kernel_rfl) (fun x160 h161 => F_int (IntKind.i64.wrap (x124 + x160)) .i64 (fun _ => by kernel_rfl) (fun x162 h163 => F_val (.pointer (some ⟨g100, 1, none⟩)) (fun _ => by kernel_rfl) (F_nil hM156 hL159 (fun w164 hM165 => S_store 2 1 #[.int .i64 x151, .int .i64 x162, .int .i64 x135] hM165 (by kernel_rfl) (fun w166 hM167 => S_nil (R_inBlock (R_region (S_val (.int .i64 2) (by kernel_rfl) (S_val (.int .i64 2) (by kernel_rfl) (S_nil (R_inLoop (?_))))))))))))
        have HR := hr_lt HR h161
        have HR := hr_lt HR h163
        refine R_seq (R_region (S_val (.bool true) (by kernel_rfl) (S_nil (R_seq (R_yes (by kernel_rfl) (R_skip (R_seq (R_block (R_seq (R_region (S_val (.int .i64 2) (by kernel_rfl) (?_))))))))))))
        refine S_val (.int .i64 2) (by kernel_rfl) (S_nil (R_drawF 12 (by kernel_rfl) (fun F168 U169 hL170 => F_val (.int .i64 2) (fun _ => by kernel_rfl) (F_val (.pointer (some ⟨g100, 2, none⟩)) (fun _ => by kernel_rfl) (F_load 2 2 (.int .i64 x135) hM167 (by kernel_rfl) (F_val (.int .i64 2) (fun _ => by kernel_rfl) (F_val (.pointer (some ⟨g141, 2, none⟩)) (fun _ => by kernel_rfl) (F_load 0 2 (.int .i64 r83.2.2) hM167 (by kernel_rfl) (F_val (.int .i64 1) (fun _ => by kernel_rfl) (F_val (.pointer (some ⟨g74, 1, none⟩)) (fun _ => by kernel_rfl) (F_load 4 1 (.int .i64 x66) hM167 (by kernel_rfl) (?_))))))))))))
        refine F_int (IntKind.i64.wrap (r83.2.2 * x66)) .i64 (fun _ => by kernel_rfl) (fun x171 h172 => F_int (IntKind.i64.wrap (x135 + x171)) .i64 (fun _ => by kernel_rfl) (fun x173 h174 => F_val (.pointer (some ⟨g100, 2, none⟩)) (fun _ => by kernel_rfl) (F_nil hM167 hL170 (fun w175 hM176 => S_store 2 2 #[.int .i64 x151, .int .i64 x162, .int .i64 x173] hM176 (by kernel_rfl) (fun w177 hM178 => S_nil (R_inBlock (R_region (S_val (.int .i64 3) (by kernel_rfl) (S_val (.int .i64 3) (by kernel_rfl) (S_nil (R_inLoop (?_))))))))))))
        have HR := hr_lt HR h172
        have HR := hr_lt HR h174
        refine R_seq (R_region (S_val (.bool false) (by kernel_rfl) (S_nil (R_seq (R_no (by kernel_rfl) (R_exit rfl (R_inBlock (R_region (S_val (.int .i64 2) (by kernel_rfl) (S_val (.int .i64 2) (by kernel_rfl) (S_nil (?_))))))))))))
        refine R_inLoop (R_seq (R_region (S_val (.bool true) (by kernel_rfl) (S_nil (R_seq (R_yes (by kernel_rfl) (R_skip (R_seq (R_block (R_seq (R_region (?_))))))))))))
        refine S_val (.int .i64 2) (by kernel_rfl) (S_val (.agg #[.int .i64 r87.1, .int .i64 r87.2.1, .int .i64 r87.2.2]) (by kernel_rfl) (S_fresh none #[.int .i64 0, .int .i64 0, .int .i64 0] 36 hM178 (by kernel_rfl) (fun g179 w180 hM181 => S_val (.int .i64 2) (by kernel_rfl) (S_store 0 0 #[.int .i64 r87.1, .int .i64 r87.2.1, .int .i64 r87.2.2] hM181 (by kernel_rfl) (fun w182 hM183 => S_nil (R_seq (R_region (S_val (.int .i64 0) (by kernel_rfl) (S_nil (R_block (R_loop (?_))))))))))))
        refine R_seq (R_region (S_val (.bool true) (by kernel_rfl) (S_nil (R_seq (R_yes (by kernel_rfl) (R_skip (R_seq (R_block (R_seq (R_region (S_val (.int .i64 0) (by kernel_rfl) (?_))))))))))))
        refine S_val (.int .i64 0) (by kernel_rfl) (S_nil (R_drawF 12 (by kernel_rfl) (fun F184 U185 hL186 => F_val (.int .i64 0) (fun _ => by kernel_rfl) (F_val (.pointer (some ⟨g100, 0, none⟩)) (fun _ => by kernel_rfl) (F_load 3 0 (.int .i64 x151) hM183 (by kernel_rfl) (F_val (.int .i64 0) (fun _ => by kernel_rfl) (F_val (.pointer (some ⟨g179, 0, none⟩)) (fun _ => by kernel_rfl) (F_load 0 0 (.int .i64 r87.1) hM183 (by kernel_rfl) (F_val (.int .i64 2) (fun _ => by kernel_rfl) (F_val (.pointer (some ⟨g74, 2, none⟩)) (fun _ => by kernel_rfl) (F_load 5 2 (.int .i64 x70) hM183 (by kernel_rfl) (?_))))))))))))
        refine F_int (IntKind.i64.wrap (r87.1 * x70)) .i64 (fun _ => by kernel_rfl) (fun x187 h188 => F_int (IntKind.i64.wrap (x151 + x187)) .i64 (fun _ => by kernel_rfl) (fun x189 h190 => F_val (.pointer (some ⟨g100, 0, none⟩)) (fun _ => by kernel_rfl) (F_nil hM183 hL186 (fun w191 hM192 => S_store 3 0 #[.int .i64 x189, .int .i64 x162, .int .i64 x173] hM192 (by kernel_rfl) (fun w193 hM194 => S_nil (R_inBlock (R_region (S_val (.int .i64 1) (by kernel_rfl) (S_val (.int .i64 1) (by kernel_rfl) (S_nil (R_inLoop (?_))))))))))))
        have HR := hr_lt HR h188
        have HR := hr_lt HR h190
        refine R_seq (R_region (S_val (.bool true) (by kernel_rfl) (S_nil (R_seq (R_yes (by kernel_rfl) (R_skip (R_seq (R_block (R_seq (R_region (S_val (.int .i64 1) (by kernel_rfl) (?_))))))))))))
        refine S_val (.int .i64 1) (by kernel_rfl) (S_nil (R_drawF 12 (by kernel_rfl) (fun F195 U196 hL197 => F_val (.int .i64 1) (fun _ => by kernel_rfl) (F_val (.pointer (some ⟨g100, 1, none⟩)) (fun _ => by kernel_rfl) (F_load 3 1 (.int .i64 x162) hM194 (by kernel_rfl) (F_val (.int .i64 1) (fun _ => by kernel_rfl) (F_val (.pointer (some ⟨g179, 1, none⟩)) (fun _ => by kernel_rfl) (F_load 0 1 (.int .i64 r87.2.1) hM194 (by kernel_rfl) (F_val (.int .i64 2) (fun _ => by kernel_rfl) (F_val (.pointer (some ⟨g74, 2, none⟩)) (fun _ => by kernel_rfl) (F_load 5 2 (.int .i64 x70) hM194 (by kernel_rfl) (?_))))))))))))
        refine F_int (IntKind.i64.wrap (r87.2.1 * x70)) .i64 (fun _ => by kernel_rfl) (fun x198 h199 => F_int (IntKind.i64.wrap (x162 + x198)) .i64 (fun _ => by kernel_rfl) (fun x200 h201 => F_val (.pointer (some ⟨g100, 1, none⟩)) (fun _ => by kernel_rfl) (F_nil hM194 hL197 (fun w202 hM203 => S_store 3 1 #[.int .i64 x189, .int .i64 x200, .int .i64 x173] hM203 (by kernel_rfl) (fun w204 hM205 => S_nil (R_inBlock (R_region (S_val (.int .i64 2) (by kernel_rfl) (S_val (.int .i64 2) (by kernel_rfl) (S_nil (R_inLoop (?_))))))))))))
        have HR := hr_lt HR h199
        have HR := hr_lt HR h201
        refine R_seq (R_region (S_val (.bool true) (by kernel_rfl) (S_nil (R_seq (R_yes (by kernel_rfl) (R_skip (R_seq (R_block (R_seq (R_region (S_val (.int .i64 2) (by kernel_rfl) (?_))))))))))))
        refine S_val (.int .i64 2) (by kernel_rfl) (S_nil (R_drawF 12 (by kernel_rfl) (fun F206 U207 hL208 => F_val (.int .i64 2) (fun _ => by kernel_rfl) (F_val (.pointer (some ⟨g100, 2, none⟩)) (fun _ => by kernel_rfl) (F_load 3 2 (.int .i64 x173) hM205 (by kernel_rfl) (F_val (.int .i64 2) (fun _ => by kernel_rfl) (F_val (.pointer (some ⟨g179, 2, none⟩)) (fun _ => by kernel_rfl) (F_load 0 2 (.int .i64 r87.2.2) hM205 (by kernel_rfl) (F_val (.int .i64 2) (fun _ => by kernel_rfl) (F_val (.pointer (some ⟨g74, 2, none⟩)) (fun _ => by kernel_rfl) (F_load 5 2 (.int .i64 x70) hM205 (by kernel_rfl) (?_))))))))))))
        refine F_int (IntKind.i64.wrap (r87.2.2 * x70)) .i64 (fun _ => by kernel_rfl) (fun x209 h210 => F_int (IntKind.i64.wrap (x173 + x209)) .i64 (fun _ => by kernel_rfl) (fun x211 h212 => F_val (.pointer (some ⟨g100, 2, none⟩)) (fun _ => by kernel_rfl) (F_nil hM205 hL208 (fun w213 hM214 => S_store 3 2 #[.int .i64 x189, .int .i64 x200, .int .i64 x211] hM214 (by kernel_rfl) (fun w215 hM216 => S_nil (R_inBlock (R_region (S_val (.int .i64 3) (by kernel_rfl) (S_val (.int .i64 3) (by kernel_rfl) (S_nil (R_inLoop (?_))))))))))))
        have HR := hr_lt HR h210
        have HR := hr_lt HR h212
        refine R_seq (R_region (S_val (.bool false) (by kernel_rfl) (S_nil (R_seq (R_no (by kernel_rfl) (R_exit rfl (R_inBlock (R_region (S_val (.int .i64 3) (by kernel_rfl) (S_val (.int .i64 3) (by kernel_rfl) (S_nil (?_))))))))))))
        refine R_inLoop (R_seq (R_region (S_val (.bool true) (by kernel_rfl) (S_nil (R_seq (R_yes (by kernel_rfl) (R_skip (R_seq (R_block (R_seq (R_region (?_))))))))))))
        refine S_val (.int .i64 3) (by kernel_rfl) (S_val (.agg #[.int .i64 r91.1, .int .i64 r91.2.1, .int .i64 r91.2.2]) (by kernel_rfl) (S_fresh none #[.int .i64 0, .int .i64 0, .int .i64 0] 36 hM216 (by kernel_rfl) (fun g217 w218 hM219 => S_val (.int .i64 3) (by kernel_rfl) (S_store 0 0 #[.int .i64 r91.1, .int .i64 r91.2.1, .int .i64 r91.2.2] hM219 (by kernel_rfl) (fun w220 hM221 => S_nil (R_seq (R_region (S_val (.int .i64 0) (by kernel_rfl) (S_nil (R_block (R_loop (?_))))))))))))
        refine R_seq (R_region (S_val (.bool true) (by kernel_rfl) (S_nil (R_seq (R_yes (by kernel_rfl) (R_skip (R_seq (R_block (R_seq (R_region (S_val (.int .i64 0) (by kernel_rfl) (?_))))))))))))
        refine S_val (.int .i64 0) (by kernel_rfl) (S_nil (R_drawF 12 (by kernel_rfl) (fun F222 U223 hL224 => F_val (.int .i64 0) (fun _ => by kernel_rfl) (F_val (.pointer (some ⟨g100, 0, none⟩)) (fun _ => by kernel_rfl) (F_load 4 0 (.int .i64 x189) hM221 (by kernel_rfl) (F_val (.int .i64 0) (fun _ => by kernel_rfl) (F_val (.pointer (some ⟨g217, 0, none⟩)) (fun _ => by kernel_rfl) (F_load 0 0 (.int .i64 r91.1) hM221 (by kernel_rfl) (F_val (.int .i64 3) (fun _ => by kernel_rfl) (F_val (.pointer (some ⟨g74, 3, none⟩)) (fun _ => by kernel_rfl) (F_load 6 3 (.int .i64 x72) hM221 (by kernel_rfl) (?_))))))))))))
        refine F_int (IntKind.i64.wrap (r91.1 * x72)) .i64 (fun _ => by kernel_rfl) (fun x225 h226 => F_int (IntKind.i64.wrap (x189 + x225)) .i64 (fun _ => by kernel_rfl) (fun x227 h228 => F_val (.pointer (some ⟨g100, 0, none⟩)) (fun _ => by kernel_rfl) (F_nil hM221 hL224 (fun w229 hM230 => S_store 4 0 #[.int .i64 x227, .int .i64 x200, .int .i64 x211] hM230 (by kernel_rfl) (fun w231 hM232 => S_nil (R_inBlock (R_region (S_val (.int .i64 1) (by kernel_rfl) (S_val (.int .i64 1) (by kernel_rfl) (S_nil (R_inLoop (?_))))))))))))
        have HR := hr_lt HR h226
        have HR := hr_lt HR h228
        refine R_seq (R_region (S_val (.bool true) (by kernel_rfl) (S_nil (R_seq (R_yes (by kernel_rfl) (R_skip (R_seq (R_block (R_seq (R_region (S_val (.int .i64 1) (by kernel_rfl) (?_))))))))))))
        refine S_val (.int .i64 1) (by kernel_rfl) (S_nil (R_drawF 12 (by kernel_rfl) (fun F233 U234 hL235 => F_val (.int .i64 1) (fun _ => by kernel_rfl) (F_val (.pointer (some ⟨g100, 1, none⟩)) (fun _ => by kernel_rfl) (F_load 4 1 (.int .i64 x200) hM232 (by kernel_rfl) (F_val (.int .i64 1) (fun _ => by kernel_rfl) (F_val (.pointer (some ⟨g217, 1, none⟩)) (fun _ => by kernel_rfl) (F_load 0 1 (.int .i64 r91.2.1) hM232 (by kernel_rfl) (F_val (.int .i64 3) (fun _ => by kernel_rfl) (F_val (.pointer (some ⟨g74, 3, none⟩)) (fun _ => by kernel_rfl) (F_load 6 3 (.int .i64 x72) hM232 (by kernel_rfl) (?_))))))))))))
        refine F_int (IntKind.i64.wrap (r91.2.1 * x72)) .i64 (fun _ => by kernel_rfl) (fun x236 h237 => F_int (IntKind.i64.wrap (x200 + x236)) .i64 (fun _ => by kernel_rfl) (fun x238 h239 => F_val (.pointer (some ⟨g100, 1, none⟩)) (fun _ => by kernel_rfl) (F_nil hM232 hL235 (fun w240 hM241 => S_store 4 1 #[.int .i64 x227, .int .i64 x238, .int .i64 x211] hM241 (by kernel_rfl) (fun w242 hM243 => S_nil (R_inBlock (R_region (S_val (.int .i64 2) (by kernel_rfl) (S_val (.int .i64 2) (by kernel_rfl) (S_nil (R_inLoop (?_))))))))))))
        have HR := hr_lt HR h237
        have HR := hr_lt HR h239
        refine R_seq (R_region (S_val (.bool true) (by kernel_rfl) (S_nil (R_seq (R_yes (by kernel_rfl) (R_skip (R_seq (R_block (R_seq (R_region (S_val (.int .i64 2) (by kernel_rfl) (?_))))))))))))
        refine S_val (.int .i64 2) (by kernel_rfl) (S_nil (R_drawF 12 (by kernel_rfl) (fun F244 U245 hL246 => F_val (.int .i64 2) (fun _ => by kernel_rfl) (F_val (.pointer (some ⟨g100, 2, none⟩)) (fun _ => by kernel_rfl) (F_load 4 2 (.int .i64 x211) hM243 (by kernel_rfl) (F_val (.int .i64 2) (fun _ => by kernel_rfl) (F_val (.pointer (some ⟨g217, 2, none⟩)) (fun _ => by kernel_rfl) (F_load 0 2 (.int .i64 r91.2.2) hM243 (by kernel_rfl) (F_val (.int .i64 3) (fun _ => by kernel_rfl) (F_val (.pointer (some ⟨g74, 3, none⟩)) (fun _ => by kernel_rfl) (F_load 6 3 (.int .i64 x72) hM243 (by kernel_rfl) (?_))))))))))))
        refine F_int (IntKind.i64.wrap (r91.2.2 * x72)) .i64 (fun _ => by kernel_rfl) (fun x247 h248 => F_int (IntKind.i64.wrap (x211 + x247)) .i64 (fun _ => by kernel_rfl) (fun x249 h250 => F_val (.pointer (some ⟨g100, 2, none⟩)) (fun _ => by kernel_rfl) (F_nil hM243 hL246 (fun w251 hM252 => S_store 4 2 #[.int .i64 x227, .int .i64 x238, .int .i64 x249] hM252 (by kernel_rfl) (fun w253 hM254 => S_nil (R_inBlock (R_region (S_val (.int .i64 3) (by kernel_rfl) (S_val (.int .i64 3) (by kernel_rfl) (S_nil (R_inLoop (?_))))))))))))
        have HR := hr_lt HR h248
        have HR := hr_lt HR h250
        refine R_seq (R_region (S_val (.bool false) (by kernel_rfl) (S_nil (R_seq (R_no (by kernel_rfl) (R_exit rfl (R_inBlock (R_region (S_val (.int .i64 4) (by kernel_rfl) (S_val (.int .i64 4) (by kernel_rfl) (S_nil (?_))))))))))))
        refine R_inLoop (R_seq (R_region (S_val (.bool false) (by kernel_rfl) (S_nil (R_seq (R_no (by kernel_rfl) (R_exit rfl (R_seq (R_region (S_val (.pointer (some ⟨g100, 0, none⟩)) (by kernel_rfl) (S_load 4 0 (.int .i64 x227) hM254 (by kernel_rfl) (?_))))))))))))
        refine S_int (IntKind.i64.wrap (Int.tdiv x227 255)) .i64 (by kernel_rfl) (fun x255 h256 => S_val (.pointer (some ⟨g100, 1, none⟩)) (by kernel_rfl) (S_load 4 1 (.int .i64 x238) hM254 (by kernel_rfl) (S_int (IntKind.i64.wrap (Int.tdiv x238 255)) .i64 (by kernel_rfl) (fun x257 h258 => S_val (.pointer (some ⟨g100, 2, none⟩)) (by kernel_rfl) (S_load 4 2 (.int .i64 x249) hM254 (by kernel_rfl) (S_int (IntKind.i64.wrap (Int.tdiv x249 255)) .i64 (by kernel_rfl) (fun x259 h260 => S_val (.agg #[.int .i64 x255, .int .i64 x257, .int .i64 x259]) (by kernel_rfl) (S_store 9 0 #[.int .i64 x255, .int .i64 x257, .int .i64 x259] hM254 (by kernel_rfl) (fun w261 hM262 => S_val (.int .i64 0) (by kernel_rfl) (S_nil (?_)))))))))))
        have HR := hr_lt HR h256
        have HR := hr_lt HR h258
        have HR := hr_lt HR h260
        refine R_ret hM262 rfl (.cons (.cell _ _ 9 0 (.agg #[.int .i64 x255, .int .i64 x257, .int .i64 x259]) (by kernel_rfl)) (.cons (.tmp _ (.int .i64 0) (by kernel_rfl)) .nil)) rfl ?_
        exact ⟨congrArg Ending.returned HR, hM262.below⟩

def e_umbraref25_Sample (r : (Int × Int × Int) × Int) : Value := .tuple #[.agg #[.int .i64 r.1.1, .int .i64 r.1.2.1, .int .i64 r.1.2.2], .int .i64 r.2]
def s_umbraref25_Sample (side : Int) (l : List (Int × Int × Int)) (u : Int) (v : Int) : (Int × Int × Int) × Int :=
  lt (s_umbraref14_Check side l) fun r7 =>
  if r7 = 0 then
    if u < 0 then
      ((0, 0, 0), 2)
    else
      if u > 65535 then
        ((0, 0, 0), 2)
      else
        if v < 0 then
          ((0, 0, 0), 2)
        else
          if v > 65535 then
            ((0, 0, 0), 2)
          else
            lt (IntKind.i64.wrap (u * side)) fun x29 =>
            lt (IntKind.i64.wrap (x29 - 32768)) fun x31 =>
            lt (IntKind.i64.wrap (v * side)) fun x33 =>
            lt (IntKind.i64.wrap (x33 - 32768)) fun x35 =>
            lt (s_umbraref25_floor x31) fun r39 =>
            lt (s_umbraref25_floor x35) fun r43 =>
            lt (IntKind.i64.wrap (65536 * r39)) fun x47 =>
            lt (IntKind.i64.wrap (x31 - x47)) fun x49 =>
            lt (IntKind.i64.wrap (65536 * r43)) fun x51 =>
            lt (IntKind.i64.wrap (x35 - x51)) fun x53 =>
            lt (s_umbraref14_Texel side l r39 r43) fun r58 =>
            lt (IntKind.i64.wrap (65536 - x49)) fun x60 =>
            lt (IntKind.i64.wrap (r58.1 * x60)) fun x62 =>
            lt (IntKind.i64.wrap (r39 + 1)) fun x64 =>
            lt (s_umbraref14_Texel side l x64 r43) fun r66 =>
            lt (IntKind.i64.wrap (r66.1 * x49)) fun x68 =>
            lt (IntKind.i64.wrap (x62 + x68)) fun x70 =>
            lt (IntKind.i64.wrap (r43 + 1)) fun x77 =>
            lt (s_umbraref14_Texel side l r39 x77) fun r79 =>
            lt (IntKind.i64.wrap (65536 - x49)) fun x81 =>
            lt (IntKind.i64.wrap (r79.1 * x81)) fun x83 =>
            lt (IntKind.i64.wrap (r39 + 1)) fun x85 =>
            lt (IntKind.i64.wrap (r43 + 1)) fun x87 =>
            lt (s_umbraref14_Texel side l x85 x87) fun r89 =>
            lt (IntKind.i64.wrap (r89.1 * x49)) fun x91 =>
            lt (IntKind.i64.wrap (x83 + x91)) fun x93 =>
            lt (IntKind.i64.wrap (65536 - x53)) fun x97 =>
            lt (IntKind.i64.wrap (x70 * x97)) fun x99 =>
            lt (IntKind.i64.wrap (x93 * x53)) fun x101 =>
            lt (IntKind.i64.wrap (x99 + x101)) fun x103 =>
            lt (IntKind.i64.wrap (Int.tdiv x103 255)) fun x105 =>
            lt (s_umbraref14_Texel side l r39 r43) fun r119 =>
            lt (IntKind.i64.wrap (65536 - x49)) fun x121 =>
            lt (IntKind.i64.wrap (r119.2.1 * x121)) fun x123 =>
            lt (IntKind.i64.wrap (r39 + 1)) fun x125 =>
            lt (s_umbraref14_Texel side l x125 r43) fun r127 =>
            lt (IntKind.i64.wrap (r127.2.1 * x49)) fun x129 =>
            lt (IntKind.i64.wrap (x123 + x129)) fun x131 =>
            lt (IntKind.i64.wrap (r43 + 1)) fun x138 =>
            lt (s_umbraref14_Texel side l r39 x138) fun r140 =>
            lt (IntKind.i64.wrap (65536 - x49)) fun x142 =>
            lt (IntKind.i64.wrap (r140.2.1 * x142)) fun x144 =>
            lt (IntKind.i64.wrap (r39 + 1)) fun x146 =>
            lt (IntKind.i64.wrap (r43 + 1)) fun x148 =>
            lt (s_umbraref14_Texel side l x146 x148) fun r150 =>
            lt (IntKind.i64.wrap (r150.2.1 * x49)) fun x152 =>
            lt (IntKind.i64.wrap (x144 + x152)) fun x154 =>
            lt (IntKind.i64.wrap (65536 - x53)) fun x158 =>
            lt (IntKind.i64.wrap (x131 * x158)) fun x160 =>
            lt (IntKind.i64.wrap (x154 * x53)) fun x162 =>
            lt (IntKind.i64.wrap (x160 + x162)) fun x164 =>
            lt (IntKind.i64.wrap (Int.tdiv x164 255)) fun x166 =>
            lt (s_umbraref14_Texel side l r39 r43) fun r180 =>
            lt (IntKind.i64.wrap (65536 - x49)) fun x182 =>
            lt (IntKind.i64.wrap (r180.2.2 * x182)) fun x184 =>
            lt (IntKind.i64.wrap (r39 + 1)) fun x186 =>
            lt (s_umbraref14_Texel side l x186 r43) fun r188 =>
            lt (IntKind.i64.wrap (r188.2.2 * x49)) fun x190 =>
            lt (IntKind.i64.wrap (x184 + x190)) fun x192 =>
            lt (IntKind.i64.wrap (r43 + 1)) fun x199 =>
            lt (s_umbraref14_Texel side l r39 x199) fun r201 =>
            lt (IntKind.i64.wrap (65536 - x49)) fun x203 =>
            lt (IntKind.i64.wrap (r201.2.2 * x203)) fun x205 =>
            lt (IntKind.i64.wrap (r39 + 1)) fun x207 =>
            lt (IntKind.i64.wrap (r43 + 1)) fun x209 =>
            lt (s_umbraref14_Texel side l x207 x209) fun r211 =>
            lt (IntKind.i64.wrap (r211.2.2 * x49)) fun x213 =>
            lt (IntKind.i64.wrap (x205 + x213)) fun x215 =>
            lt (IntKind.i64.wrap (65536 - x53)) fun x219 =>
            lt (IntKind.i64.wrap (x192 * x219)) fun x221 =>
            lt (IntKind.i64.wrap (x215 * x53)) fun x223 =>
            lt (IntKind.i64.wrap (x221 + x223)) fun x225 =>
            lt (IntKind.i64.wrap (Int.tdiv x225 255)) fun x227 =>
            ((x105, x166, x227), 0)
  else
    ((0, 0, 0), r7)
set_option maxRecDepth 100000 in
set_option maxHeartbeats 4000000 in
theorem w_umbraref25_Sample (side : Int) (l : List (Int × Int × Int)) (u : Int) (v : Int) (w : World) (A : Option Addr) (cap : Nat) (hR : Rd v3c 3 w A l) (hl : (List.length l : Int) ≤ 1000) : Calls Try.prog 19 #[.agg #[.int .i64 side, .slice A (List.length l) cap], .int .i64 u, .int .i64 v] w (Ret (e_umbraref25_Sample (s_umbraref25_Sample side l u v)) w) := by
  obtain ⟨R, HR⟩ : ∃ R, e_umbraref25_Sample (s_umbraref25_Sample side l u v) = R := ⟨_, rfl⟩
  rw [HR]
  unfold s_umbraref25_Sample at HR
  have hM0 := St.start w
  refine calls_run Try.func19 rfl ?_
  refine R_seq (R_region (S_fresh none #[.int .i64 side, .slice A (List.length l) cap] 24 hM0 (by kernel_rfl) (fun g1 w2 hM3 => S_fresh none #[.int .i64 0, .int .i64 0, .int .i64 0] 29 hM3 (by kernel_rfl) (fun g4 w5 hM6 => S_val (.int .i64 0) (by kernel_rfl) (S_nil (R_seq (R_seq (R_region (S_load 1 0 (.agg #[.int .i64 side, .slice A (List.length l) cap]) hM6 (by kernel_rfl) (S_call (s_umbraref14_Check side l) (fun r : Int => .int .i64 r) hM6 (w_umbraref14_Check side l w5 A cap (Rd.stay hR (St.below hM6)) (by assumption)) (by kernel_rfl) (fun r7 h8 w9 hM10 => S_val (.int .i64 r7) (by kernel_rfl) (?_))))))))))))
  have HR := hr_lt HR h8
  refine S_nil (R_seq (R_region (S_val (.int .i64 r7) (by kernel_rfl) (?_))))
  refine S_decn (r7 = 0) (by kernel_rfl) (fun c11 => ?_) (fun c11 => ?_)
  · refine S_nil (R_yes (by kernel_rfl) (R_seq (R_region (S_val (.agg #[.int .i64 0, .int .i64 0, .int .i64 0]) (by kernel_rfl) (S_val (.int .i64 r7) (by kernel_rfl) (S_store 0 0 #[.int .i64 0, .int .i64 0, .int .i64 0] hM10 (by kernel_rfl) (fun w12 hM13 => S_val (.int .i64 r7) (by kernel_rfl) (S_nil (?_)))))))))
    have HR := hr_neg HR c11
    refine R_ret hM13 rfl (.cons (.cell _ _ 0 0 (.agg #[.int .i64 0, .int .i64 0, .int .i64 0]) (by kernel_rfl)) (.cons (.tmp _ (.int .i64 r7) (by kernel_rfl)) .nil)) rfl ?_
    exact ⟨congrArg Ending.returned HR, hM13.below⟩
  · refine S_nil (R_no (by kernel_rfl) (R_skip (R_seq (R_seq (R_region (S_val (.int .i64 u) (by kernel_rfl) (?_)))))))
    have HR := hr_pos HR c11
    refine S_dec (u < 0) (by kernel_rfl) (fun c14 => ?_) (fun c14 => ?_)
    · refine S_val (.bool true) (by kernel_rfl) (S_skip (by kernel_rfl) (S_skip (by kernel_rfl) (S_val (.bool true) (by kernel_rfl) (S_val (.bool true) (by kernel_rfl) (S_skip (by kernel_rfl) (S_skip (by kernel_rfl) (S_val (.bool true) (by kernel_rfl) (S_val (.bool true) (by kernel_rfl) (S_skip (by kernel_rfl) (S_skip (by kernel_rfl) (S_val (.bool true) (by kernel_rfl) (?_))))))))))))
      have HR := hr_pos HR c14
      refine S_nil (R_yes (by kernel_rfl) (R_seq (R_region (S_val (.agg #[.int .i64 0, .int .i64 0, .int .i64 0]) (by kernel_rfl) (S_store 0 0 #[.int .i64 0, .int .i64 0, .int .i64 0] hM10 (by kernel_rfl) (fun w15 hM16 => S_val (.int .i64 2) (by kernel_rfl) (S_nil (?_))))))))
      refine R_ret hM16 rfl (.cons (.cell _ _ 0 0 (.agg #[.int .i64 0, .int .i64 0, .int .i64 0]) (by kernel_rfl)) (.cons (.tmp _ (.int .i64 2) (by kernel_rfl)) .nil)) rfl ?_
      exact ⟨congrArg Ending.returned HR, hM16.below⟩
    · refine S_val (.bool false) (by kernel_rfl) (S_val (.int .i64 u) (by kernel_rfl) (?_))
      have HR := hr_neg HR c14
      refine S_dec (u > 65535) (by kernel_rfl) (fun c17 => ?_) (fun c17 => ?_)
      · refine S_val (.bool true) (by kernel_rfl) (S_val (.bool true) (by kernel_rfl) (S_skip (by kernel_rfl) (S_skip (by kernel_rfl) (S_val (.bool true) (by kernel_rfl) (S_val (.bool true) (by kernel_rfl) (S_skip (by kernel_rfl) (S_skip (by kernel_rfl) (S_val (.bool true) (by kernel_rfl) (S_nil (R_yes (by kernel_rfl) (R_seq (?_))))))))))))
        have HR := hr_pos HR c17
        refine R_region (S_val (.agg #[.int .i64 0, .int .i64 0, .int .i64 0]) (by kernel_rfl) (S_store 0 0 #[.int .i64 0, .int .i64 0, .int .i64 0] hM10 (by kernel_rfl) (fun w18 hM19 => S_val (.int .i64 2) (by kernel_rfl) (S_nil (?_)))))
        refine R_ret hM19 rfl (.cons (.cell _ _ 0 0 (.agg #[.int .i64 0, .int .i64 0, .int .i64 0]) (by kernel_rfl)) (.cons (.tmp _ (.int .i64 2) (by kernel_rfl)) .nil)) rfl ?_
        exact ⟨congrArg Ending.returned HR, hM19.below⟩
      · refine S_val (.bool false) (by kernel_rfl) (S_val (.bool false) (by kernel_rfl) (S_val (.int .i64 v) (by kernel_rfl) (?_)))
        have HR := hr_neg HR c17
        refine S_dec (v < 0) (by kernel_rfl) (fun c20 => ?_) (fun c20 => ?_)
        · refine S_val (.bool true) (by kernel_rfl) (S_val (.bool true) (by kernel_rfl) (S_skip (by kernel_rfl) (S_skip (by kernel_rfl) (S_val (.bool true) (by kernel_rfl) (S_nil (R_yes (by kernel_rfl) (R_seq (R_region (S_val (.agg #[.int .i64 0, .int .i64 0, .int .i64 0]) (by kernel_rfl) (S_store 0 0 #[.int .i64 0, .int .i64 0, .int .i64 0] hM10 (by kernel_rfl) (fun w21 hM22 => S_val (.int .i64 2) (by kernel_rfl) (?_))))))))))))
          have HR := hr_pos HR c20
          refine S_nil (?_)
          refine R_ret hM22 rfl (.cons (.cell _ _ 0 0 (.agg #[.int .i64 0, .int .i64 0, .int .i64 0]) (by kernel_rfl)) (.cons (.tmp _ (.int .i64 2) (by kernel_rfl)) .nil)) rfl ?_
          exact ⟨congrArg Ending.returned HR, hM22.below⟩
        · refine S_val (.bool false) (by kernel_rfl) (S_val (.bool false) (by kernel_rfl) (S_val (.int .i64 v) (by kernel_rfl) (?_)))
          have HR := hr_neg HR c20
          refine S_dec (v > 65535) (by kernel_rfl) (fun c23 => ?_) (fun c23 => ?_)
          · refine S_val (.bool true) (by kernel_rfl) (S_nil (R_yes (by kernel_rfl) (R_seq (R_region (S_val (.agg #[.int .i64 0, .int .i64 0, .int .i64 0]) (by kernel_rfl) (S_store 0 0 #[.int .i64 0, .int .i64 0, .int .i64 0] hM10 (by kernel_rfl) (fun w24 hM25 => S_val (.int .i64 2) (by kernel_rfl) (S_nil (?_)))))))))
            have HR := hr_pos HR c23
            refine R_ret hM25 rfl (.cons (.cell _ _ 0 0 (.agg #[.int .i64 0, .int .i64 0, .int .i64 0]) (by kernel_rfl)) (.cons (.tmp _ (.int .i64 2) (by kernel_rfl)) .nil)) rfl ?_
            exact ⟨congrArg Ending.returned HR, hM25.below⟩
          · refine S_val (.bool false) (by kernel_rfl) (S_nil (R_no (by kernel_rfl) (R_skip (R_seq (R_drawF 12 (by kernel_rfl) (fun F26 U27 hL28 => F_val (.int .i64 u) (fun _ => by kernel_rfl) (F_val (.pointer (some ⟨g1, 0, none⟩)) (fun _ => by kernel_rfl) (F_load 1 0 (.int .i64 side) hM10 (by kernel_rfl) (F_int (IntKind.i64.wrap (u * side)) .i64 (fun _ => by kernel_rfl) (fun x29 h30 => F_int (IntKind.i64.wrap (x29 - 32768)) .i64 (fun _ => by kernel_rfl) (fun x31 h32 => F_val (.int .i64 v) (fun _ => by kernel_rfl) (?_))))))))))))
            have HR := hr_neg HR c23
            have HR := hr_lt HR h30
            have HR := hr_lt HR h32
            refine F_val (.pointer (some ⟨g1, 0, none⟩)) (fun _ => by kernel_rfl) (F_load 1 0 (.int .i64 side) hM10 (by kernel_rfl) (F_int (IntKind.i64.wrap (v * side)) .i64 (fun _ => by kernel_rfl) (fun x33 h34 => F_int (IntKind.i64.wrap (x33 - 32768)) .i64 (fun _ => by kernel_rfl) (fun x35 h36 => F_val (.int .i64 x31) (fun _ => by kernel_rfl) (F_val (.int .i64 x35) (fun _ => by kernel_rfl) (F_nil hM10 hL28 (fun w37 hM38 => S_nil (R_seq (R_region (S_val (.int .i64 x31) (by kernel_rfl) (S_call (s_umbraref25_floor x31) (fun r : Int => .int .i64 r) hM38 (w_umbraref25_floor x31 w37) (by kernel_rfl) (fun r39 h40 w41 hM42 => ?_))))))))))))
            have HR := hr_lt HR h34
            have HR := hr_lt HR h36
            have HR := hr_lt HR h40
            refine S_val (.int .i64 x35) (by kernel_rfl) (S_call (s_umbraref25_floor x35) (fun r : Int => .int .i64 r) hM42 (w_umbraref25_floor x35 w41) (by kernel_rfl) (fun r43 h44 w45 hM46 => S_val (.int .i64 r39) (by kernel_rfl) (S_val (.int .i64 r43) (by kernel_rfl) (S_nil (R_seq (R_region (S_val (.int .i64 x31) (by kernel_rfl) (S_val (.int .i64 r39) (by kernel_rfl) (S_int (IntKind.i64.wrap (65536 * r39)) .i64 (by kernel_rfl) (fun x47 h48 => S_int (IntKind.i64.wrap (x31 - x47)) .i64 (by kernel_rfl) (fun x49 h50 => S_val (.int .i64 x35) (by kernel_rfl) (?_))))))))))))
            have HR := hr_lt HR h44
            have HR := hr_lt HR h48
            have HR := hr_lt HR h50
            refine S_val (.int .i64 r43) (by kernel_rfl) (S_int (IntKind.i64.wrap (65536 * r43)) .i64 (by kernel_rfl) (fun x51 h52 => S_int (IntKind.i64.wrap (x35 - x51)) .i64 (by kernel_rfl) (fun x53 h54 => S_val (.int .i64 x49) (by kernel_rfl) (S_val (.int .i64 x53) (by kernel_rfl) (S_nil (R_seq (R_region (S_val (.slice none 0 0) (by kernel_rfl) (S_nil (R_seq (R_seq (?_))))))))))))
            have HR := hr_lt HR h52
            have HR := hr_lt HR h54
            refine R_region (S_val (.int .i64 0) (by kernel_rfl) (S_nil (R_block (R_loop (R_seq (R_seq (R_region (S_val (.int .i64 0) (by kernel_rfl) (S_val (.bool true) (by kernel_rfl) (S_nil (R_yes (by kernel_rfl) (?_))))))))))))
            refine R_skip (R_seq (R_block (R_seq (R_drawF 20 (by kernel_rfl) (fun F55 U56 hL57 => F_load 1 0 (.agg #[.int .i64 side, .slice A (List.length l) cap]) hM46 (by kernel_rfl) (F_val (.int .i64 r39) (fun _ => by kernel_rfl) (F_val (.int .i64 r43) (fun _ => by kernel_rfl) (F_call (s_umbraref14_Texel side l r39 r43) (fun r : Int × Int × Int => .agg #[.int .i64 r.1, .int .i64 r.2.1, .int .i64 r.2.2]) hM46 hL57 (fun w' hM' => w_umbraref14_Texel side l r39 r43 (check14_sq (h8.trans c11)) w' A cap (Rd.stay hR (St.below hM')) (by assumption)) (by kernel_rfl) (fun _ => by kernel_rfl) (fun r58 h59 => F_val (.int .i64 0) (fun _ => by kernel_rfl) (F_val (.int .i64 r58.1) (fun _ => by kernel_rfl) (F_val (.int .i64 x49) (fun _ => by kernel_rfl) (?_))))))))))))
            have HR := hr_lt HR h59
            refine F_int (IntKind.i64.wrap (65536 - x49)) .i64 (fun _ => by kernel_rfl) (fun x60 h61 => F_int (IntKind.i64.wrap (r58.1 * x60)) .i64 (fun _ => by kernel_rfl) (fun x62 h63 => F_load 1 0 (.agg #[.int .i64 side, .slice A (List.length l) cap]) hM46 (by kernel_rfl) (F_val (.int .i64 r39) (fun _ => by kernel_rfl) (F_int (IntKind.i64.wrap (r39 + 1)) .i64 (fun _ => by kernel_rfl) (fun x64 h65 => F_val (.int .i64 r43) (fun _ => by kernel_rfl) (F_call (s_umbraref14_Texel side l x64 r43) (fun r : Int × Int × Int => .agg #[.int .i64 r.1, .int .i64 r.2.1, .int .i64 r.2.2]) hM46 hL57 (fun w' hM' => w_umbraref14_Texel side l x64 r43 (check14_sq (h8.trans c11)) w' A cap (Rd.stay hR (St.below hM')) (by assumption)) (by kernel_rfl) (fun _ => by kernel_rfl) (fun r66 h67 => F_val (.int .i64 0) (fun _ => by kernel_rfl) (F_val (.int .i64 r66.1) (fun _ => by kernel_rfl) (F_val (.int .i64 x49) (fun _ => by kernel_rfl) (F_int (IntKind.i64.wrap (r66.1 * x49)) .i64 (fun _ => by kernel_rfl) (fun x68 h69 => F_int (IntKind.i64.wrap (x62 + x68)) .i64 (fun _ => by kernel_rfl) (fun x70 h71 => ?_))))))))))))
            have HR := hr_lt HR h61
            have HR := hr_lt HR h63
            have HR := hr_lt HR h65
            have HR := hr_lt HR h67
            have HR := hr_lt HR h69
            have HR := hr_lt HR h71
            refine F_val (.int .i64 x70) (fun _ => by kernel_rfl) (F_nil hM46 hL57 (fun w72 hM73 => S_nil (R_seq (R_drawF 22 (by kernel_rfl) (fun F74 U75 hL76 => F_load 1 0 (.agg #[.int .i64 side, .slice A (List.length l) cap]) hM73 (by kernel_rfl) (F_val (.int .i64 r39) (fun _ => by kernel_rfl) (F_val (.int .i64 r43) (fun _ => by kernel_rfl) (F_int (IntKind.i64.wrap (r43 + 1)) .i64 (fun _ => by kernel_rfl) (fun x77 h78 => F_call (s_umbraref14_Texel side l r39 x77) (fun r : Int × Int × Int => .agg #[.int .i64 r.1, .int .i64 r.2.1, .int .i64 r.2.2]) hM73 hL76 (fun w' hM' => w_umbraref14_Texel side l r39 x77 (check14_sq (h8.trans c11)) w' A cap (Rd.stay hR (St.below hM')) (by assumption)) (by kernel_rfl) (fun _ => by kernel_rfl) (fun r79 h80 => F_val (.int .i64 0) (fun _ => by kernel_rfl) (F_val (.int .i64 r79.1) (fun _ => by kernel_rfl) (?_))))))))))))
            have HR := hr_lt HR h78
            have HR := hr_lt HR h80
            refine F_val (.int .i64 x49) (fun _ => by kernel_rfl) (F_int (IntKind.i64.wrap (65536 - x49)) .i64 (fun _ => by kernel_rfl) (fun x81 h82 => F_int (IntKind.i64.wrap (r79.1 * x81)) .i64 (fun _ => by kernel_rfl) (fun x83 h84 => F_load 1 0 (.agg #[.int .i64 side, .slice A (List.length l) cap]) hM73 (by kernel_rfl) (F_val (.int .i64 r39) (fun _ => by kernel_rfl) (F_int (IntKind.i64.wrap (r39 + 1)) .i64 (fun _ => by kernel_rfl) (fun x85 h86 => F_val (.int .i64 r43) (fun _ => by kernel_rfl) (F_int (IntKind.i64.wrap (r43 + 1)) .i64 (fun _ => by kernel_rfl) (fun x87 h88 => F_call (s_umbraref14_Texel side l x85 x87) (fun r : Int × Int × Int => .agg #[.int .i64 r.1, .int .i64 r.2.1, .int .i64 r.2.2]) hM73 hL76 (fun w' hM' => w_umbraref14_Texel side l x85 x87 (check14_sq (h8.trans c11)) w' A cap (Rd.stay hR (St.below hM')) (by assumption)) (by kernel_rfl) (fun _ => by kernel_rfl) (fun r89 h90 => F_val (.int .i64 0) (fun _ => by kernel_rfl) (F_val (.int .i64 r89.1) (fun _ => by kernel_rfl) (F_val (.int .i64 x49) (fun _ => by kernel_rfl) (?_))))))))))))
            have HR := hr_lt HR h82
            have HR := hr_lt HR h84
            have HR := hr_lt HR h86
            have HR := hr_lt HR h88
            have HR := hr_lt HR h90
            refine F_int (IntKind.i64.wrap (r89.1 * x49)) .i64 (fun _ => by kernel_rfl) (fun x91 h92 => F_int (IntKind.i64.wrap (x83 + x91)) .i64 (fun _ => by kernel_rfl) (fun x93 h94 => F_val (.int .i64 x93) (fun _ => by kernel_rfl) (F_nil hM73 hL76 (fun w95 hM96 => S_nil (R_region (S_val (.slice none 0 0) (by kernel_rfl) (S_val (.int .i64 x70) (by kernel_rfl) (S_val (.int .i64 x53) (by kernel_rfl) (S_int (IntKind.i64.wrap (65536 - x53)) .i64 (by kernel_rfl) (fun x97 h98 => S_int (IntKind.i64.wrap (x70 * x97)) .i64 (by kernel_rfl) (fun x99 h100 => S_val (.int .i64 x93) (by kernel_rfl) (?_))))))))))))
            have HR := hr_lt HR h92
            have HR := hr_lt HR h94
            have HR := hr_lt HR h98
            have HR := hr_lt HR h100
            refine S_val (.int .i64 x53) (by kernel_rfl) (S_int (IntKind.i64.wrap (x93 * x53)) .i64 (by kernel_rfl) (fun x101 h102 => S_int (IntKind.i64.wrap (x99 + x101)) .i64 (by kernel_rfl) (fun x103 h104 => S_int (IntKind.i64.wrap (Int.tdiv x103 255)) .i64 (by kernel_rfl) (fun x105 h106 => S_fresh (some 1) #[.int .i64 x105] 27 hM96 (by kernel_rfl) (fun g107 w108 hM109 => S_app0 0 1 1 27 1 8 (.int .i64 0) [.int .i64 x105] hM109 (by kernel_rfl) (by kernel_rfl) (fun g110 cap111 rest112 w113 ok114 hM115 => S_val (.slice (some ⟨g110, 0, none⟩) 1 cap111) (by kernel_rfl) (S_nil (R_inBlock (R_region (S_val (.int .i64 0) (by kernel_rfl) (S_val (.int .i64 1) (by kernel_rfl) (?_))))))))))))
            have HR := hr_lt HR h102
            have HR := hr_lt HR h104
            have HR := hr_lt HR h106
            refine S_val (.int .i64 1) (by kernel_rfl) (S_nil (R_inLoop (R_seq (R_seq (R_region (S_val (.int .i64 1) (by kernel_rfl) (S_val (.bool true) (by kernel_rfl) (S_nil (R_yes (by kernel_rfl) (R_skip (R_seq (?_))))))))))))
            refine R_block (R_seq (R_drawF 20 (by kernel_rfl) (fun F116 U117 hL118 => F_load 3 0 (.agg #[.int .i64 side, .slice A (List.length l) cap]) hM115 (by kernel_rfl) (F_val (.int .i64 r39) (fun _ => by kernel_rfl) (F_val (.int .i64 r43) (fun _ => by kernel_rfl) (F_call (s_umbraref14_Texel side l r39 r43) (fun r : Int × Int × Int => .agg #[.int .i64 r.1, .int .i64 r.2.1, .int .i64 r.2.2]) hM115 hL118 (fun w' hM' => w_umbraref14_Texel side l r39 r43 (check14_sq (h8.trans c11)) w' A cap (Rd.stay hR (St.below hM')) (by assumption)) (by kernel_rfl) (fun _ => by kernel_rfl) (fun r119 h120 => F_val (.int .i64 1) (fun _ => by kernel_rfl) (F_val (.int .i64 r119.2.1) (fun _ => by kernel_rfl) (F_val (.int .i64 x49) (fun _ => by kernel_rfl) (F_int (IntKind.i64.wrap (65536 - x49)) .i64 (fun _ => by kernel_rfl) (fun x121 h122 => F_int (IntKind.i64.wrap (r119.2.1 * x121)) .i64 (fun _ => by kernel_rfl) (fun x123 h124 => ?_))))))))))))
            have HR := hr_lt HR h120
            have HR := hr_lt HR h122
            have HR := hr_lt HR h124
            refine F_load 3 0 (.agg #[.int .i64 side, .slice A (List.length l) cap]) hM115 (by kernel_rfl) (F_val (.int .i64 r39) (fun _ => by kernel_rfl) (F_int (IntKind.i64.wrap (r39 + 1)) .i64 (fun _ => by kernel_rfl) (fun x125 h126 => F_val (.int .i64 r43) (fun _ => by kernel_rfl) (F_call (s_umbraref14_Texel side l x125 r43) (fun r : Int × Int × Int => .agg #[.int .i64 r.1, .int .i64 r.2.1, .int .i64 r.2.2]) hM115 hL118 (fun w' hM' => w_umbraref14_Texel side l x125 r43 (check14_sq (h8.trans c11)) w' A cap (Rd.stay hR (St.below hM')) (by assumption)) (by kernel_rfl) (fun _ => by kernel_rfl) (fun r127 h128 => F_val (.int .i64 1) (fun _ => by kernel_rfl) (F_val (.int .i64 r127.2.1) (fun _ => by kernel_rfl) (F_val (.int .i64 x49) (fun _ => by kernel_rfl) (F_int (IntKind.i64.wrap (r127.2.1 * x49)) .i64 (fun _ => by kernel_rfl) (fun x129 h130 => F_int (IntKind.i64.wrap (x123 + x129)) .i64 (fun _ => by kernel_rfl) (fun x131 h132 => F_val (.int .i64 x131) (fun _ => by kernel_rfl) (F_nil hM115 hL118 (fun w133 hM134 => ?_))))))))))))
            have HR := hr_lt HR h126
            have HR := hr_lt HR h128
            have HR := hr_lt HR h130
            have HR := hr_lt HR h132
            refine S_nil (R_seq (R_drawF 22 (by kernel_rfl) (fun F135 U136 hL137 => F_load 3 0 (.agg #[.int .i64 side, .slice A (List.length l) cap]) hM134 (by kernel_rfl) (F_val (.int .i64 r39) (fun _ => by kernel_rfl) (F_val (.int .i64 r43) (fun _ => by kernel_rfl) (F_int (IntKind.i64.wrap (r43 + 1)) .i64 (fun _ => by kernel_rfl) (fun x138 h139 => F_call (s_umbraref14_Texel side l r39 x138) (fun r : Int × Int × Int => .agg #[.int .i64 r.1, .int .i64 r.2.1, .int .i64 r.2.2]) hM134 hL137 (fun w' hM' => w_umbraref14_Texel side l r39 x138 (check14_sq (h8.trans c11)) w' A cap (Rd.stay hR (St.below hM')) (by assumption)) (by kernel_rfl) (fun _ => by kernel_rfl) (fun r140 h141 => F_val (.int .i64 1) (fun _ => by kernel_rfl) (F_val (.int .i64 r140.2.1) (fun _ => by kernel_rfl) (F_val (.int .i64 x49) (fun _ => by kernel_rfl) (F_int (IntKind.i64.wrap (65536 - x49)) .i64 (fun _ => by kernel_rfl) (fun x142 h143 => ?_))))))))))))
            have HR := hr_lt HR h139
            have HR := hr_lt HR h141
            have HR := hr_lt HR h143
            refine F_int (IntKind.i64.wrap (r140.2.1 * x142)) .i64 (fun _ => by kernel_rfl) (fun x144 h145 => F_load 3 0 (.agg #[.int .i64 side, .slice A (List.length l) cap]) hM134 (by kernel_rfl) (F_val (.int .i64 r39) (fun _ => by kernel_rfl) (F_int (IntKind.i64.wrap (r39 + 1)) .i64 (fun _ => by kernel_rfl) (fun x146 h147 => F_val (.int .i64 r43) (fun _ => by kernel_rfl) (F_int (IntKind.i64.wrap (r43 + 1)) .i64 (fun _ => by kernel_rfl) (fun x148 h149 => F_call (s_umbraref14_Texel side l x146 x148) (fun r : Int × Int × Int => .agg #[.int .i64 r.1, .int .i64 r.2.1, .int .i64 r.2.2]) hM134 hL137 (fun w' hM' => w_umbraref14_Texel side l x146 x148 (check14_sq (h8.trans c11)) w' A cap (Rd.stay hR (St.below hM')) (by assumption)) (by kernel_rfl) (fun _ => by kernel_rfl) (fun r150 h151 => F_val (.int .i64 1) (fun _ => by kernel_rfl) (F_val (.int .i64 r150.2.1) (fun _ => by kernel_rfl) (F_val (.int .i64 x49) (fun _ => by kernel_rfl) (F_int (IntKind.i64.wrap (r150.2.1 * x49)) .i64 (fun _ => by kernel_rfl) (fun x152 h153 => F_int (IntKind.i64.wrap (x144 + x152)) .i64 (fun _ => by kernel_rfl) (fun x154 h155 => ?_))))))))))))
            have HR := hr_lt HR h145
            have HR := hr_lt HR h147
            have HR := hr_lt HR h149
            have HR := hr_lt HR h151
            have HR := hr_lt HR h153
            have HR := hr_lt HR h155
            refine F_val (.int .i64 x154) (fun _ => by kernel_rfl) (F_nil hM134 hL137 (fun w156 hM157 => S_nil (R_region (S_val (.slice (some ⟨g110, 0, none⟩) 1 cap111) (by kernel_rfl) (S_val (.int .i64 x131) (by kernel_rfl) (S_val (.int .i64 x53) (by kernel_rfl) (S_int (IntKind.i64.wrap (65536 - x53)) .i64 (by kernel_rfl) (fun x158 h159 => S_int (IntKind.i64.wrap (x131 * x158)) .i64 (by kernel_rfl) (fun x160 h161 => S_val (.int .i64 x154) (by kernel_rfl) (S_val (.int .i64 x53) (by kernel_rfl) (S_int (IntKind.i64.wrap (x154 * x53)) .i64 (by kernel_rfl) (fun x162 h163 => ?_))))))))))))
            have HR := hr_lt HR h159
            have HR := hr_lt HR h161
            have HR := hr_lt HR h163
            refine S_int (IntKind.i64.wrap (x160 + x162)) .i64 (by kernel_rfl) (fun x164 h165 => S_int (IntKind.i64.wrap (Int.tdiv x164 255)) .i64 (by kernel_rfl) (fun x166 h167 => S_fresh (some 1) #[.int .i64 x166] 27 hM157 (by kernel_rfl) (fun g168 w169 hM170 => S_appN 1 0 1 cap111 1 1 27 1 8 (.int .i64 0) [.int .i64 x105] rest112 [.int .i64 x166] hM170 ok114 (by kernel_rfl) (by kernel_rfl) (by omega) (fun g171 cap172 rest173 w174 ok175 hM176 => S_val (.slice (some ⟨g171, 0, none⟩) 2 cap172) (by kernel_rfl) (S_nil (R_inBlock (R_region (S_val (.int .i64 1) (by kernel_rfl) (S_val (.int .i64 2) (by kernel_rfl) (S_val (.int .i64 2) (by kernel_rfl) (S_nil (?_))))))))))))
            have HR := hr_lt HR h165
            have HR := hr_lt HR h167
            refine R_inLoop (R_seq (R_seq (R_region (S_val (.int .i64 2) (by kernel_rfl) (S_val (.bool true) (by kernel_rfl) (S_nil (R_yes (by kernel_rfl) (R_skip (R_seq (R_block (R_seq (?_))))))))))))
            refine R_drawF 20 (by kernel_rfl) (fun F177 U178 hL179 => F_load 4 0 (.agg #[.int .i64 side, .slice A (List.length l) cap]) hM176 (by kernel_rfl) (F_val (.int .i64 r39) (fun _ => by kernel_rfl) (F_val (.int .i64 r43) (fun _ => by kernel_rfl) (F_call (s_umbraref14_Texel side l r39 r43) (fun r : Int × Int × Int => .agg #[.int .i64 r.1, .int .i64 r.2.1, .int .i64 r.2.2]) hM176 hL179 (fun w' hM' => w_umbraref14_Texel side l r39 r43 (check14_sq (h8.trans c11)) w' A cap (Rd.stay hR (St.below hM')) (by assumption)) (by kernel_rfl) (fun _ => by kernel_rfl) (fun r180 h181 => F_val (.int .i64 2) (fun _ => by kernel_rfl) (F_val (.int .i64 r180.2.2) (fun _ => by kernel_rfl) (F_val (.int .i64 x49) (fun _ => by kernel_rfl) (F_int (IntKind.i64.wrap (65536 - x49)) .i64 (fun _ => by kernel_rfl) (fun x182 h183 => F_int (IntKind.i64.wrap (r180.2.2 * x182)) .i64 (fun _ => by kernel_rfl) (fun x184 h185 => F_load 4 0 (.agg #[.int .i64 side, .slice A (List.length l) cap]) hM176 (by kernel_rfl) (F_val (.int .i64 r39) (fun _ => by kernel_rfl) (?_))))))))))))
            have HR := hr_lt HR h181
            have HR := hr_lt HR h183
            have HR := hr_lt HR h185
            refine F_int (IntKind.i64.wrap (r39 + 1)) .i64 (fun _ => by kernel_rfl) (fun x186 h187 => F_val (.int .i64 r43) (fun _ => by kernel_rfl) (F_call (s_umbraref14_Texel side l x186 r43) (fun r : Int × Int × Int => .agg #[.int .i64 r.1, .int .i64 r.2.1, .int .i64 r.2.2]) hM176 hL179 (fun w' hM' => w_umbraref14_Texel side l x186 r43 (check14_sq (h8.trans c11)) w' A cap (Rd.stay hR (St.below hM')) (by assumption)) (by kernel_rfl) (fun _ => by kernel_rfl) (fun r188 h189 => F_val (.int .i64 2) (fun _ => by kernel_rfl) (F_val (.int .i64 r188.2.2) (fun _ => by kernel_rfl) (F_val (.int .i64 x49) (fun _ => by kernel_rfl) (F_int (IntKind.i64.wrap (r188.2.2 * x49)) .i64 (fun _ => by kernel_rfl) (fun x190 h191 => F_int (IntKind.i64.wrap (x184 + x190)) .i64 (fun _ => by kernel_rfl) (fun x192 h193 => F_val (.int .i64 x192) (fun _ => by kernel_rfl) (F_nil hM176 hL179 (fun w194 hM195 => S_nil (R_seq (?_))))))))))))
            have HR := hr_lt HR h187
            have HR := hr_lt HR h189
            have HR := hr_lt HR h191
            have HR := hr_lt HR h193
            refine R_drawF 22 (by kernel_rfl) (fun F196 U197 hL198 => F_load 4 0 (.agg #[.int .i64 side, .slice A (List.length l) cap]) hM195 (by kernel_rfl) (F_val (.int .i64 r39) (fun _ => by kernel_rfl) (F_val (.int .i64 r43) (fun _ => by kernel_rfl) (F_int (IntKind.i64.wrap (r43 + 1)) .i64 (fun _ => by kernel_rfl) (fun x199 h200 => F_call (s_umbraref14_Texel side l r39 x199) (fun r : Int × Int × Int => .agg #[.int .i64 r.1, .int .i64 r.2.1, .int .i64 r.2.2]) hM195 hL198 (fun w' hM' => w_umbraref14_Texel side l r39 x199 (check14_sq (h8.trans c11)) w' A cap (Rd.stay hR (St.below hM')) (by assumption)) (by kernel_rfl) (fun _ => by kernel_rfl) (fun r201 h202 => F_val (.int .i64 2) (fun _ => by kernel_rfl) (F_val (.int .i64 r201.2.2) (fun _ => by kernel_rfl) (F_val (.int .i64 x49) (fun _ => by kernel_rfl) (F_int (IntKind.i64.wrap (65536 - x49)) .i64 (fun _ => by kernel_rfl) (fun x203 h204 => F_int (IntKind.i64.wrap (r201.2.2 * x203)) .i64 (fun _ => by kernel_rfl) (fun x205 h206 => F_load 4 0 (.agg #[.int .i64 side, .slice A (List.length l) cap]) hM195 (by kernel_rfl) (?_))))))))))))
            have HR := hr_lt HR h200
            have HR := hr_lt HR h202
            have HR := hr_lt HR h204
            have HR := hr_lt HR h206
            refine F_val (.int .i64 r39) (fun _ => by kernel_rfl) (F_int (IntKind.i64.wrap (r39 + 1)) .i64 (fun _ => by kernel_rfl) (fun x207 h208 => F_val (.int .i64 r43) (fun _ => by kernel_rfl) (F_int (IntKind.i64.wrap (r43 + 1)) .i64 (fun _ => by kernel_rfl) (fun x209 h210 => F_call (s_umbraref14_Texel side l x207 x209) (fun r : Int × Int × Int => .agg #[.int .i64 r.1, .int .i64 r.2.1, .int .i64 r.2.2]) hM195 hL198 (fun w' hM' => w_umbraref14_Texel side l x207 x209 (check14_sq (h8.trans c11)) w' A cap (Rd.stay hR (St.below hM')) (by assumption)) (by kernel_rfl) (fun _ => by kernel_rfl) (fun r211 h212 => F_val (.int .i64 2) (fun _ => by kernel_rfl) (F_val (.int .i64 r211.2.2) (fun _ => by kernel_rfl) (F_val (.int .i64 x49) (fun _ => by kernel_rfl) (F_int (IntKind.i64.wrap (r211.2.2 * x49)) .i64 (fun _ => by kernel_rfl) (fun x213 h214 => F_int (IntKind.i64.wrap (x205 + x213)) .i64 (fun _ => by kernel_rfl) (fun x215 h216 => F_val (.int .i64 x215) (fun _ => by kernel_rfl) (F_nil hM195 hL198 (fun w217 hM218 => ?_))))))))))))
            have HR := hr_lt HR h208
            have HR := hr_lt HR h210
            have HR := hr_lt HR h212
            have HR := hr_lt HR h214
            have HR := hr_lt HR h216
            refine S_nil (R_region (S_val (.slice (some ⟨g171, 0, none⟩) 2 cap172) (by kernel_rfl) (S_val (.int .i64 x192) (by kernel_rfl) (S_val (.int .i64 x53) (by kernel_rfl) (S_int (IntKind.i64.wrap (65536 - x53)) .i64 (by kernel_rfl) (fun x219 h220 => S_int (IntKind.i64.wrap (x192 * x219)) .i64 (by kernel_rfl) (fun x221 h222 => S_val (.int .i64 x215) (by kernel_rfl) (S_val (.int .i64 x53) (by kernel_rfl) (S_int (IntKind.i64.wrap (x215 * x53)) .i64 (by kernel_rfl) (fun x223 h224 => S_int (IntKind.i64.wrap (x221 + x223)) .i64 (by kernel_rfl) (fun x225 h226 => S_int (IntKind.i64.wrap (Int.tdiv x225 255)) .i64 (by kernel_rfl) (fun x227 h228 => ?_))))))))))))
            have HR := hr_lt HR h220
            have HR := hr_lt HR h222
            have HR := hr_lt HR h224
            have HR := hr_lt HR h226
            have HR := hr_lt HR h228
            refine S_fresh (some 1) #[.int .i64 x227] 27 hM218 (by kernel_rfl) (fun g229 w230 hM231 => S_appN 1 0 2 cap172 1 1 27 1 8 (.int .i64 0) [.int .i64 x105, .int .i64 x166] rest173 [.int .i64 x227] hM231 ok175 (by kernel_rfl) (by kernel_rfl) (by omega) (fun g232 cap233 rest234 w235 ok236 hM237 => S_val (.slice (some ⟨g232, 0, none⟩) 3 cap233) (by kernel_rfl) (S_nil (R_inBlock (R_region (S_val (.int .i64 2) (by kernel_rfl) (S_val (.int .i64 3) (by kernel_rfl) (S_val (.int .i64 3) (by kernel_rfl) (S_nil (R_inLoop (R_seq (?_))))))))))))
            refine R_seq (R_region (S_val (.int .i64 3) (by kernel_rfl) (S_val (.bool false) (by kernel_rfl) (S_nil (R_no (by kernel_rfl) (R_exit rfl (R_seq (R_drawF 10 (by kernel_rfl) (fun F238 U239 hL240 => F_val (.slice (some ⟨g232, 0, none⟩) 3 cap233) (fun _ => by kernel_rfl) (F_val (.pointer (some ⟨g232, 0, none⟩)) (fun _ => by kernel_rfl) (F_load 0 0 (.int .i64 x105) hM237 (by kernel_rfl) (?_))))))))))))
            refine F_val (.slice (some ⟨g232, 0, none⟩) 3 cap233) (fun _ => by kernel_rfl) (F_val (.pointer (some ⟨g232, 1, none⟩)) (fun _ => by kernel_rfl) (F_load 0 1 (.int .i64 x166) hM237 (by kernel_rfl) (F_val (.slice (some ⟨g232, 0, none⟩) 3 cap233) (fun _ => by kernel_rfl) (F_val (.pointer (some ⟨g232, 2, none⟩)) (fun _ => by kernel_rfl) (F_load 0 2 (.int .i64 x227) hM237 (by kernel_rfl) (F_val (.agg #[.int .i64 x105, .int .i64 x166, .int .i64 x227]) (fun _ => by kernel_rfl) (F_nil hM237 hL240 (fun w241 hM242 => S_store 4 0 #[.int .i64 x105, .int .i64 x166, .int .i64 x227] hM242 (by kernel_rfl) (fun w243 hM244 => S_val (.int .i64 0) (by kernel_rfl) (S_nil (?_)))))))))))
            refine R_ret hM244 rfl (.cons (.cell _ _ 4 0 (.agg #[.int .i64 x105, .int .i64 x166, .int .i64 x227]) (by kernel_rfl)) (.cons (.tmp _ (.int .i64 0) (by kernel_rfl)) .nil)) rfl ?_
            exact ⟨congrArg Ending.returned HR, hM244.below⟩

theorem gdI {l : List T3} (hI : ∀ x ∈ l, InV x) {i : Int} (hi : 0 ≤ i ∧ i < (List.length l : Int)) : InV (gd zero3 l i) := hI _ (gd_mem zero3 hi)
theorem gdI' {l : List T3} (hI : ∀ x ∈ l, InV x) (i : Int) : InV (gd zero3 l i) := by
  unfold gd
  by_cases h : i.toNat < l.length
  · rw [List.getD_eq_getElem?_getD, List.getElem?_eq_getElem h, Option.getD_some]; exact hI _ (List.getElem_mem h)
  · rw [List.getD_eq_getElem?_getD, List.getElem?_eq_none (by omega), Option.getD_none]; exact zero3_I
theorem fewI {l l' : List T3} {m : Nat} (hI : ∀ x ∈ l, InV x) (h : l.take m = l') : ∀ x ∈ l', InV x := fun x hx => by subst h; exact hI x (List.mem_of_mem_take hx)
theorem few_le {l l' : List T3} (h : l.take (Int.toNat (gmin (List.length l : Int) 260)) = l') : (List.length l' : Int) ≤ 1000 := by
  subst h; rw [List.length_take, gmin_eq]; omega
theorem L4_I (side : Int) (l : List T3) : ∀ (f : Nat) (k : Int), L4_texture_Check side l f k = 0 ∨ L4_texture_Check side l f k = 5
  | 0, _ => .inl rfl
  | f + 1, k => by
    rw [L4_texture_Check]
    simp only [lt]
    split
    · split
      · exact .inr rfl
      · split
        · exact .inr rfl
        · exact L4_I side l f _
    · exact .inl rfl
theorem Check_or (side : Int) (l : List T3) : s_texture_Check side l = 0 ∨ s_texture_Check side l = 5 := by
  unfold s_texture_Check
  simp only [lt]
  split
  · split
    · exact L4_I _ _ _ _
    · exact .inr rfl
  · exact .inr rfl
theorem At_I {side : Int} {l : List T3} (hI : ∀ x ∈ l, InV x) (x y : Int) : InV (s_texture_At side l x y).1 ∧ InI (s_texture_At side l x y).2 := by
  unfold s_texture_At s_texture_at
  simp only [lt]
  split
  · exact ⟨gdI' hI _, by show InI 0; unfold InI; omega⟩
  · exact ⟨zero3_I, by have := Check_or side l; show InI (s_texture_Check side l); unfold InI; omega⟩

end Go.Proofs.Ytognbeejobfpfaa
