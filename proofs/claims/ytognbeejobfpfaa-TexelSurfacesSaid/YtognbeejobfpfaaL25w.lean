/- Walks: texel.Bary, texel.Color, few; the example of layer 25. -/
import Derived.Test.YtognbeejobfpfaaG25x
import Derived.Test.YtognbeejobfpfaaGoK
namespace Go.Proofs.Ytognbeejobfpfaa
open Go.RowKit Go.Sort
set_option linter.unusedVariables false
set_option linter.unusedSimpArgs false

def InM (m : Int × Int × Int × Int) : Prop := InI m.1 ∧ InI m.2.1 ∧ InI m.2.2.1 ∧ InI m.2.2.2

def e_texel_Bary_1_k0 (r : Int) : Value := .int .i64 r
def s_texel_Bary_1_k0 (m : Int × Int × Int × Int) (uv : (Int × Int) × (Int × Int) × (Int × Int)) : Int :=
  lt (IntKind.i64.wrap (m.2.1 - m.2.2.1)) fun x1 =>
  lt (IntKind.i64.wrap (x1 - m.2.2.2)) fun x3 =>
  lt (x3 * uv.1.1) fun r8 =>
  lt (m.2.2.1 * uv.2.1.1) fun r10 =>
  lt (m.2.2.2 * uv.2.2.1) fun r12 =>
  lt (addW [r8, r10, r12]) fun r18 =>
  if r18.2 = true then
    lt (wdivT r18.1 m.2.1) fun r39 =>
    if r39.2.2 = true then
      lt (wint r39.1) fun r70 =>
      if r70.2 = true then
        lt (gmax r70.1 (-2147483648)) fun x78 =>
        lt (gmin x78 2147483647) fun x80 =>
        x80
      else
        if wHi r39.1 < 0 then
          (-2147483648)
        else
          2147483647
    else
      lt (wint r39.1) fun r52 =>
      if r52.2 = true then
        lt (gmax r52.1 (-2147483648)) fun x60 =>
        lt (gmin x60 2147483647) fun x62 =>
        x62
      else
        if wHi r39.1 < 0 then
          (-2147483648)
        else
          2147483647
  else
    0
set_option maxRecDepth 100000 in
set_option maxHeartbeats 4000000 in
theorem w_texel_Bary_1_k0 (m : Int × Int × Int × Int) (uv : (Int × Int) × (Int × Int) × (Int × Int)) (h_m : InM m) (h_uv : ((InI uv.1.1 ∧ InI uv.1.2) ∧ (InI uv.2.1.1 ∧ InI uv.2.1.2) ∧ (InI uv.2.2.1 ∧ InI uv.2.2.2))) (B0 : Nat) (T0 : TypeId) (fr0 : Nat × Nat) (B1 : Nat) (T1 : TypeId) (fr1 : Nat × Nat) (w : World) (hB0 : Has B0 (.cells #[.int .i64 m.1, .int .i64 m.2.1, .int .i64 m.2.2.1, .int .i64 m.2.2.2] T0 fr0) w) (hB1 : Has B1 (.cells #[.int .i64 uv.1.1, .int .i64 uv.1.2, .int .i64 uv.2.1.1, .int .i64 uv.2.1.2, .int .i64 uv.2.2.1, .int .i64 uv.2.2.2] T1 fr1) w) (hne : B1 ≠ B0) : Calls Try.prog 51 #[.int .i64 0, .pointer (some ⟨B0, 0, none⟩), .pointer (some ⟨B1, 0, none⟩)] w (Ret (e_texel_Bary_1_k0 (s_texel_Bary_1_k0 m uv)) w) := by
  obtain ⟨R, HR⟩ : ∃ R, e_texel_Bary_1_k0 (s_texel_Bary_1_k0 m uv) = R := ⟨_, rfl⟩
  rw [HR]
  unfold s_texel_Bary_1_k0 at HR
  have hM0 := St.start2 (St.start1 hB0) hB1 (by simpa using hne)
  refine calls_run Try.func51 rfl ?_
  refine R_seq (R_region (S_val (.int .i64 0) (by kernel_rfl) (S_nil (R_seq (R_region (S_val (.pointer (some ⟨B0, 1, none⟩)) (by kernel_rfl) (S_load 1 1 (.int .i64 m.2.1) hM0 (by kernel_rfl) (S_val (.pointer (some ⟨B0, 2, none⟩)) (by kernel_rfl) (S_load 1 2 (.int .i64 m.2.2.1) hM0 (by kernel_rfl) (S_int (IntKind.i64.wrap (m.2.1 - m.2.2.1)) .i64 (by kernel_rfl) (fun x1 h2 => S_val (.pointer (some ⟨B0, 3, none⟩)) (by kernel_rfl) (?_))))))))))))
  have HR := hr_lt HR h2
  refine S_load 1 3 (.int .i64 m.2.2.2) hM0 (by kernel_rfl) (S_int (IntKind.i64.wrap (x1 - m.2.2.2)) .i64 (by kernel_rfl) (fun x3 h4 => S_val (.int .i64 x3) (by kernel_rfl) (S_nil (R_seq (R_drawG 28 (by kernel_rfl) (fun F5 U6 hL7 => G_val (.int .i64 x3) (fun _ => by kernel_rfl) (G_val (.int .i64 0) (fun _ => by kernel_rfl) (G_val (.pointer (some ⟨B1, 0, none⟩)) (fun _ => by kernel_rfl) (G_val (.pointer (some ⟨B1, 0, none⟩)) (fun _ => by kernel_rfl) (G_load 0 0 (.int .i64 uv.1.1) hM0 (by kernel_rfl) (G_call (x3 * uv.1.1) (fun r : Int => .agg #[.int .i64 (wHi r), .int .u64 (wLo r)]) hM0 hL7 (fun w' hM' => wMul x3 uv.1.1 (wr_i64 h4) h_uv.1.1 w') (by kernel_rfl) (fun _ => by kernel_rfl) (fun r8 h9 => ?_))))))))))))
  have HR := hr_lt HR h4
  have HR := hr_lt HR h9
  refine G_val (.pointer (some ⟨B0, 2, none⟩)) (fun _ => by kernel_rfl) (G_load 1 2 (.int .i64 m.2.2.1) hM0 (by kernel_rfl) (G_val (.int .i64 0) (fun _ => by kernel_rfl) (G_val (.pointer (some ⟨B1, 2, none⟩)) (fun _ => by kernel_rfl) (G_val (.pointer (some ⟨B1, 2, none⟩)) (fun _ => by kernel_rfl) (G_load 0 2 (.int .i64 uv.2.1.1) hM0 (by kernel_rfl) (G_call (m.2.2.1 * uv.2.1.1) (fun r : Int => .agg #[.int .i64 (wHi r), .int .u64 (wLo r)]) hM0 hL7 (fun w' hM' => wMul m.2.2.1 uv.2.1.1 h_m.2.2.1 h_uv.2.1.1 w') (by kernel_rfl) (fun _ => by kernel_rfl) (fun r10 h11 => G_val (.pointer (some ⟨B0, 3, none⟩)) (fun _ => by kernel_rfl) (G_load 1 3 (.int .i64 m.2.2.2) hM0 (by kernel_rfl) (G_val (.int .i64 0) (fun _ => by kernel_rfl) (G_val (.pointer (some ⟨B1, 4, none⟩)) (fun _ => by kernel_rfl) (G_val (.pointer (some ⟨B1, 4, none⟩)) (fun _ => by kernel_rfl) (?_))))))))))))
  have HR := hr_lt HR h11
  refine G_load 0 4 (.int .i64 uv.2.2.1) hM0 (by kernel_rfl) (G_call (m.2.2.2 * uv.2.2.1) (fun r : Int => .agg #[.int .i64 (wHi r), .int .u64 (wLo r)]) hM0 hL7 (fun w' hM' => wMul m.2.2.2 uv.2.2.1 h_m.2.2.2 h_uv.2.2.1 w') (by kernel_rfl) (fun _ => by kernel_rfl) (fun r12 h13 => G_fresh (some 3) #[.int .i64 (wHi r8), .int .u64 (wLo r8), .int .i64 (wHi r10), .int .u64 (wLo r10), .int .i64 (wHi r12), .int .u64 (wLo r12)] 98 hL7 (by kernel_rfl) (fun _ => by kernel_rfl) (fun g14 F15 U16 hL17 => G_call (addW [r8, r10, r12]) (fun r : Int × Bool => .tuple #[.agg #[.int .i64 (wHi r.1), .int .u64 (wLo r.1)], .bool r.2]) hM0 hL17 (fun w' hM' => wAddL [r8, r10, r12] ⟨(tr (P := fun r : Int => InW r) h9 (mul_InW (wr_i64 h4) h_uv.1.1)).out, (tr (P := fun r : Int => InW r) h11 (mul_InW h_m.2.2.1 h_uv.2.1.1)).out, (tr (P := fun r : Int => InW r) h13 (mul_InW h_m.2.2.2 h_uv.2.2.1)).out, trivial⟩ hM' 0 3 3 rfl (by kernel_rfl) (by kernel_rfl)) (by kernel_rfl) (fun _ => by kernel_rfl) (fun r18 h19 => ?_))))
  have HR := hr_lt HR h13
  have HR := hr_lt HR h19
  obtain ⟨r20, b22⟩ := r18
  cases b22
  · refine G_val (.tuple #[.agg #[.int .i64 (wHi r20), .int .u64 (wLo r20)], .bool false]) (fun _ => by kernel_rfl) (G_val (.agg #[.int .i64 (wHi r20), .int .u64 (wLo r20)]) (fun _ => by kernel_rfl) (G_val (.bool false) (fun _ => by kernel_rfl) (G_fresh none #[.int .i64 0, .int .u64 0] 98 hL17 (by kernel_rfl) (fun _ => by kernel_rfl) (fun g23 F24 U25 hL26 => G_store 0 0 #[.int .i64 (wHi r20), .int .u64 (wLo r20)] hL26 (by kernel_rfl) (by kernel_rfl) (fun F27 hL28 => G_val (.bool false) (fun _ => by kernel_rfl) (G_nil hM0 hL28 (fun w29 hM30 => S_nil (R_seq (R_seq (R_region (S_val (.bool false) (by kernel_rfl) (?_))))))))))))
    have HR := hr_neg HR Bool.false_ne_true
    refine S_val (.bool true) (by kernel_rfl) (S_nil (R_yes (by kernel_rfl) (R_seq (R_region (S_val (.int .i64 0) (by kernel_rfl) (S_nil (?_)))))))
    refine R_ret hM30 rfl (.cons (.tmp _ (.int .i64 0) (by kernel_rfl)) .nil) rfl ?_
    exact ⟨congrArg Ending.returned HR, hM30.below⟩
  · refine G_val (.tuple #[.agg #[.int .i64 (wHi r20), .int .u64 (wLo r20)], .bool true]) (fun _ => by kernel_rfl) (G_val (.agg #[.int .i64 (wHi r20), .int .u64 (wLo r20)]) (fun _ => by kernel_rfl) (G_val (.bool true) (fun _ => by kernel_rfl) (G_fresh none #[.int .i64 0, .int .u64 0] 98 hL17 (by kernel_rfl) (fun _ => by kernel_rfl) (fun g31 F32 U33 hL34 => G_store 0 0 #[.int .i64 (wHi r20), .int .u64 (wLo r20)] hL34 (by kernel_rfl) (by kernel_rfl) (fun F35 hL36 => G_val (.bool true) (fun _ => by kernel_rfl) (G_nil hM0 hL36 (fun w37 hM38 => S_nil (R_seq (R_seq (R_region (S_val (.bool true) (by kernel_rfl) (?_))))))))))))
    have HR := hr_pos HR rfl
    refine S_val (.bool false) (by kernel_rfl) (S_nil (R_no (by kernel_rfl) (R_skip (R_seq (R_region (S_load 0 0 (.agg #[.int .i64 (wHi r20), .int .u64 (wLo r20)]) hM38 (by kernel_rfl) (S_val (.pointer (some ⟨B0, 1, none⟩)) (by kernel_rfl) (S_load 3 1 (.int .i64 m.2.1) hM38 (by kernel_rfl) (S_call (wdivT r20 m.2.1) (fun r : Int × Int × Bool => .tuple #[.agg #[.int .i64 (wHi r.1), .int .u64 (wLo r.1)], .int .i64 r.2.1, .bool r.2.2]) hM38 (c_wide_Div r20 m.2.1 ((tr (P := fun r : Int × Bool => (InW r.1 ∧ True)) h19 (addW_W [r8, r10, r12])).out.1) h_m.2.1 w37) (by kernel_rfl) (fun r39 h40 w41 hM42 => ?_))))))))))
    have HR := hr_lt HR h40
    obtain ⟨r43, r44, b46⟩ := r39
    cases b46
    · refine S_val (.tuple #[.agg #[.int .i64 (wHi r43), .int .u64 (wLo r43)], .int .i64 r44, .bool false]) (by kernel_rfl) (S_val (.agg #[.int .i64 (wHi r43), .int .u64 (wLo r43)]) (by kernel_rfl) (S_val (.int .i64 r44) (by kernel_rfl) (S_val (.bool false) (by kernel_rfl) (S_fresh none #[.int .i64 0, .int .u64 0] 98 hM42 (by kernel_rfl) (fun g47 w48 hM49 => S_store 0 0 #[.int .i64 (wHi r43), .int .u64 (wLo r43)] hM49 (by kernel_rfl) (fun w50 hM51 => S_val (.int .i64 r44) (by kernel_rfl) (S_val (.bool false) (by kernel_rfl) (S_nil (R_seq (R_region (S_load 0 0 (.agg #[.int .i64 (wHi r43), .int .u64 (wLo r43)]) hM51 (by kernel_rfl) (?_))))))))))))
      have HR := hr_neg HR Bool.false_ne_true
      refine S_call (wint r43) (fun r : Int × Bool => .tuple #[.int .i64 r.1, .bool r.2]) hM51 (c_wide_Int r43 ((tr (P := fun r : Int × Int × Bool => (InW r.1 ∧ InI r.2.1 ∧ True)) h40 (wdivT_W ((tr (P := fun r : Int × Bool => (InW r.1 ∧ True)) h19 (addW_W [r8, r10, r12])).out.1) h_m.2.1)).out.1) w50) (by kernel_rfl) (fun r52 h53 w54 hM55 => ?_)
      have HR := hr_lt HR h53
      obtain ⟨r56, b58⟩ := r52
      cases b58
      · refine S_val (.tuple #[.int .i64 r56, .bool false]) (by kernel_rfl) (S_val (.int .i64 r56) (by kernel_rfl) (S_val (.bool false) (by kernel_rfl) (S_val (.int .i64 r56) (by kernel_rfl) (S_val (.bool false) (by kernel_rfl) (S_nil (R_seq (R_block (R_seq (R_region (S_val (.bool false) (by kernel_rfl) (S_val (.bool true) (by kernel_rfl) (?_))))))))))))
        have HR := hr_neg HR Bool.false_ne_true
        refine S_val (.bool true) (by kernel_rfl) (S_val (.pointer (some ⟨g47, 0, none⟩)) (by kernel_rfl) (S_load 0 0 (.int .i64 (wHi r43)) hM55 (by kernel_rfl) (?_)))
        refine S_dec (wHi r43 < 0) (by kernel_rfl) (fun c59 => ?_) (fun c59 => ?_)
        · refine S_val (.bool true) (by kernel_rfl) (S_val (.bool true) (by kernel_rfl) (S_nil (R_yes (by kernel_rfl) (R_seq (R_region (S_val (.int .i64 (-2147483648)) (by kernel_rfl) (S_nil (?_))))))))
          have HR := hr_pos HR c59
          refine R_ret hM55 rfl (.cons (.tmp _ (.int .i64 (-2147483648)) (by kernel_rfl)) .nil) rfl ?_
          exact ⟨congrArg Ending.returned HR, hM55.below⟩
        · refine S_val (.bool false) (by kernel_rfl) (S_val (.bool false) (by kernel_rfl) (S_nil (R_no (by kernel_rfl) (R_seq (R_region (S_val (.bool false) (by kernel_rfl) (S_val (.bool true) (by kernel_rfl) (S_val (.bool true) (by kernel_rfl) (S_nil (R_yes (by kernel_rfl) (R_seq (?_))))))))))))
          have HR := hr_neg HR c59
          refine R_region (S_val (.int .i64 2147483647) (by kernel_rfl) (S_nil (?_)))
          refine R_ret hM55 rfl (.cons (.tmp _ (.int .i64 2147483647) (by kernel_rfl)) .nil) rfl ?_
          exact ⟨congrArg Ending.returned HR, hM55.below⟩
      · refine S_val (.tuple #[.int .i64 r56, .bool true]) (by kernel_rfl) (S_val (.int .i64 r56) (by kernel_rfl) (S_val (.bool true) (by kernel_rfl) (S_val (.int .i64 r56) (by kernel_rfl) (S_val (.bool true) (by kernel_rfl) (S_nil (R_seq (R_block (R_seq (R_region (S_val (.bool true) (by kernel_rfl) (S_val (.bool false) (by kernel_rfl) (?_))))))))))))
        have HR := hr_pos HR rfl
        refine S_val (.bool false) (by kernel_rfl) (S_skip (by kernel_rfl) (S_skip (by kernel_rfl) (S_skip (by kernel_rfl) (S_val (.bool false) (by kernel_rfl) (S_val (.bool false) (by kernel_rfl) (S_nil (R_no (by kernel_rfl) (R_seq (R_region (S_val (.bool true) (by kernel_rfl) (S_val (.bool false) (by kernel_rfl) (?_))))))))))))
        refine S_val (.bool false) (by kernel_rfl) (S_nil (R_no (by kernel_rfl) (R_skip (R_inBlock (R_seq (R_region (S_val (.int .i64 r56) (by kernel_rfl) (S_int (gmax r56 (-2147483648)) .i64 (by kernel_rfl) (fun x60 h61 => S_int (gmin x60 2147483647) .i64 (by kernel_rfl) (fun x62 h63 => S_val (.int .i64 x62) (by kernel_rfl) (S_nil (?_))))))))))))
        have HR := hr_lt HR h61
        have HR := hr_lt HR h63
        refine R_ret hM55 rfl (.cons (.tmp _ (.int .i64 x62) (by kernel_rfl)) .nil) rfl ?_
        exact ⟨congrArg Ending.returned HR, hM55.below⟩
    · refine S_val (.tuple #[.agg #[.int .i64 (wHi r43), .int .u64 (wLo r43)], .int .i64 r44, .bool true]) (by kernel_rfl) (S_val (.agg #[.int .i64 (wHi r43), .int .u64 (wLo r43)]) (by kernel_rfl) (S_val (.int .i64 r44) (by kernel_rfl) (S_val (.bool true) (by kernel_rfl) (S_fresh none #[.int .i64 0, .int .u64 0] 98 hM42 (by kernel_rfl) (fun g65 w66 hM67 => S_store 0 0 #[.int .i64 (wHi r43), .int .u64 (wLo r43)] hM67 (by kernel_rfl) (fun w68 hM69 => S_val (.int .i64 r44) (by kernel_rfl) (S_val (.bool true) (by kernel_rfl) (S_nil (R_seq (R_region (S_load 0 0 (.agg #[.int .i64 (wHi r43), .int .u64 (wLo r43)]) hM69 (by kernel_rfl) (?_))))))))))))
      have HR := hr_pos HR rfl
      refine S_call (wint r43) (fun r : Int × Bool => .tuple #[.int .i64 r.1, .bool r.2]) hM69 (c_wide_Int r43 ((tr (P := fun r : Int × Int × Bool => (InW r.1 ∧ InI r.2.1 ∧ True)) h40 (wdivT_W ((tr (P := fun r : Int × Bool => (InW r.1 ∧ True)) h19 (addW_W [r8, r10, r12])).out.1) h_m.2.1)).out.1) w68) (by kernel_rfl) (fun r70 h71 w72 hM73 => ?_)
      have HR := hr_lt HR h71
      obtain ⟨r74, b76⟩ := r70
      cases b76
      · refine S_val (.tuple #[.int .i64 r74, .bool false]) (by kernel_rfl) (S_val (.int .i64 r74) (by kernel_rfl) (S_val (.bool false) (by kernel_rfl) (S_val (.int .i64 r74) (by kernel_rfl) (S_val (.bool false) (by kernel_rfl) (S_nil (R_seq (R_block (R_seq (R_region (S_val (.bool false) (by kernel_rfl) (S_val (.bool true) (by kernel_rfl) (?_))))))))))))
        have HR := hr_neg HR Bool.false_ne_true
        refine S_val (.bool true) (by kernel_rfl) (S_val (.pointer (some ⟨g65, 0, none⟩)) (by kernel_rfl) (S_load 0 0 (.int .i64 (wHi r43)) hM73 (by kernel_rfl) (?_)))
        refine S_dec (wHi r43 < 0) (by kernel_rfl) (fun c77 => ?_) (fun c77 => ?_)
        · refine S_val (.bool true) (by kernel_rfl) (S_val (.bool true) (by kernel_rfl) (S_nil (R_yes (by kernel_rfl) (R_seq (R_region (S_val (.int .i64 (-2147483648)) (by kernel_rfl) (S_nil (?_))))))))
          have HR := hr_pos HR c77
          refine R_ret hM73 rfl (.cons (.tmp _ (.int .i64 (-2147483648)) (by kernel_rfl)) .nil) rfl ?_
          exact ⟨congrArg Ending.returned HR, hM73.below⟩
        · refine S_val (.bool false) (by kernel_rfl) (S_val (.bool false) (by kernel_rfl) (S_nil (R_no (by kernel_rfl) (R_seq (R_region (S_val (.bool false) (by kernel_rfl) (S_val (.bool true) (by kernel_rfl) (S_val (.bool true) (by kernel_rfl) (S_nil (R_yes (by kernel_rfl) (R_seq (?_))))))))))))
          have HR := hr_neg HR c77
          refine R_region (S_val (.int .i64 2147483647) (by kernel_rfl) (S_nil (?_)))
          refine R_ret hM73 rfl (.cons (.tmp _ (.int .i64 2147483647) (by kernel_rfl)) .nil) rfl ?_
          exact ⟨congrArg Ending.returned HR, hM73.below⟩
      · refine S_val (.tuple #[.int .i64 r74, .bool true]) (by kernel_rfl) (S_val (.int .i64 r74) (by kernel_rfl) (S_val (.bool true) (by kernel_rfl) (S_val (.int .i64 r74) (by kernel_rfl) (S_val (.bool true) (by kernel_rfl) (S_nil (R_seq (R_block (R_seq (R_region (S_val (.bool true) (by kernel_rfl) (S_val (.bool false) (by kernel_rfl) (?_))))))))))))
        have HR := hr_pos HR rfl
        refine S_val (.bool false) (by kernel_rfl) (S_skip (by kernel_rfl) (S_skip (by kernel_rfl) (S_skip (by kernel_rfl) (S_val (.bool false) (by kernel_rfl) (S_val (.bool false) (by kernel_rfl) (S_nil (R_no (by kernel_rfl) (R_seq (R_region (S_val (.bool true) (by kernel_rfl) (S_val (.bool false) (by kernel_rfl) (?_))))))))))))
        refine S_val (.bool false) (by kernel_rfl) (S_nil (R_no (by kernel_rfl) (R_skip (R_inBlock (R_seq (R_region (S_val (.int .i64 r74) (by kernel_rfl) (S_int (gmax r74 (-2147483648)) .i64 (by kernel_rfl) (fun x78 h79 => S_int (gmin x78 2147483647) .i64 (by kernel_rfl) (fun x80 h81 => S_val (.int .i64 x80) (by kernel_rfl) (S_nil (?_))))))))))))
        have HR := hr_lt HR h79
        have HR := hr_lt HR h81
        refine R_ret hM73 rfl (.cons (.tmp _ (.int .i64 x80) (by kernel_rfl)) .nil) rfl ?_
        exact ⟨congrArg Ending.returned HR, hM73.below⟩

def P_texel_Bary_1_k0 (r : Int) : Prop := InI r
theorem i_texel_Bary_1_k0 (m : Int × Int × Int × Int) (uv : (Int × Int) × (Int × Int) × (Int × Int)) (h_m : InM m) (h_uv : ((InI uv.1.1 ∧ InI uv.1.2) ∧ (InI uv.2.1.1 ∧ InI uv.2.1.2) ∧ (InI uv.2.2.1 ∧ InI uv.2.2.2))) : P_texel_Bary_1_k0 (s_texel_Bary_1_k0 m uv) := by
  unfold s_texel_Bary_1_k0
  exact (lt_P fun x1 h2 => (lt_P fun x3 h4 => (lt_P fun r8 h9 => (lt_P fun r10 h11 => (lt_P fun r12 h13 => (lt_P fun r18 h19 => (ite_P (fun c84 => (lt_P fun r39 h40 => (ite_P (fun c83 => (lt_P fun r70 h71 => (ite_P (fun c82 => (lt_P fun x78 h79 => (lt_P fun x80 h81 => (show InI x80 from (tr (P := InI) h81 (gmin_InI (tr (P := InI) h79 (gmax_InI (tr (P := fun r : Int × Bool => (InI r.1 ∧ True)) h71 (wint_I ((tr (P := fun r : Int × Int × Bool => (InW r.1 ∧ InI r.2.1 ∧ True)) h40 (wdivT_W ((tr (P := fun r : Int × Bool => (InW r.1 ∧ True)) h19 (addW_W [r8, r10, r12])).out.1) h_m.2.1)).out.1))).out.1 (show InI (-2147483648) from by unfold InI; omega))).out (show InI 2147483647 from by unfold InI; omega))).out)))) (fun c82 => (ite_P (fun c77 => (show InI (-2147483648) from (show InI (-2147483648) from by unfold InI; omega))) (fun c77 => (show InI 2147483647 from (show InI 2147483647 from by unfold InI; omega)))))))) (fun c83 => (lt_P fun r52 h53 => (ite_P (fun c64 => (lt_P fun x60 h61 => (lt_P fun x62 h63 => (show InI x62 from (tr (P := InI) h63 (gmin_InI (tr (P := InI) h61 (gmax_InI (tr (P := fun r : Int × Bool => (InI r.1 ∧ True)) h53 (wint_I ((tr (P := fun r : Int × Int × Bool => (InW r.1 ∧ InI r.2.1 ∧ True)) h40 (wdivT_W ((tr (P := fun r : Int × Bool => (InW r.1 ∧ True)) h19 (addW_W [r8, r10, r12])).out.1) h_m.2.1)).out.1))).out.1 (show InI (-2147483648) from by unfold InI; omega))).out (show InI 2147483647 from by unfold InI; omega))).out)))) (fun c64 => (ite_P (fun c59 => (show InI (-2147483648) from (show InI (-2147483648) from by unfold InI; omega))) (fun c59 => (show InI 2147483647 from (show InI 2147483647 from by unfold InI; omega))))))))))) (fun c84 => (show InI 0 from (show InI 0 from by unfold InI; omega))))))))))

def e_texel_Bary_1_k1 (r : Int) : Value := .int .i64 r
def s_texel_Bary_1_k1 (m : Int × Int × Int × Int) (uv : (Int × Int) × (Int × Int) × (Int × Int)) : Int :=
  lt (IntKind.i64.wrap (m.2.1 - m.2.2.1)) fun x1 =>
  lt (IntKind.i64.wrap (x1 - m.2.2.2)) fun x3 =>
  lt (x3 * uv.1.2) fun r8 =>
  lt (m.2.2.1 * uv.2.1.2) fun r10 =>
  lt (m.2.2.2 * uv.2.2.2) fun r12 =>
  lt (addW [r8, r10, r12]) fun r18 =>
  if r18.2 = true then
    lt (wdivT r18.1 m.2.1) fun r39 =>
    if r39.2.2 = true then
      lt (wint r39.1) fun r70 =>
      if r70.2 = true then
        lt (gmax r70.1 (-2147483648)) fun x78 =>
        lt (gmin x78 2147483647) fun x80 =>
        x80
      else
        if wHi r39.1 < 0 then
          (-2147483648)
        else
          2147483647
    else
      lt (wint r39.1) fun r52 =>
      if r52.2 = true then
        lt (gmax r52.1 (-2147483648)) fun x60 =>
        lt (gmin x60 2147483647) fun x62 =>
        x62
      else
        if wHi r39.1 < 0 then
          (-2147483648)
        else
          2147483647
  else
    0
set_option maxRecDepth 100000 in
set_option maxHeartbeats 4000000 in
theorem w_texel_Bary_1_k1 (m : Int × Int × Int × Int) (uv : (Int × Int) × (Int × Int) × (Int × Int)) (h_m : InM m) (h_uv : ((InI uv.1.1 ∧ InI uv.1.2) ∧ (InI uv.2.1.1 ∧ InI uv.2.1.2) ∧ (InI uv.2.2.1 ∧ InI uv.2.2.2))) (B0 : Nat) (T0 : TypeId) (fr0 : Nat × Nat) (B1 : Nat) (T1 : TypeId) (fr1 : Nat × Nat) (w : World) (hB0 : Has B0 (.cells #[.int .i64 m.1, .int .i64 m.2.1, .int .i64 m.2.2.1, .int .i64 m.2.2.2] T0 fr0) w) (hB1 : Has B1 (.cells #[.int .i64 uv.1.1, .int .i64 uv.1.2, .int .i64 uv.2.1.1, .int .i64 uv.2.1.2, .int .i64 uv.2.2.1, .int .i64 uv.2.2.2] T1 fr1) w) (hne : B1 ≠ B0) : Calls Try.prog 51 #[.int .i64 1, .pointer (some ⟨B0, 0, none⟩), .pointer (some ⟨B1, 0, none⟩)] w (Ret (e_texel_Bary_1_k1 (s_texel_Bary_1_k1 m uv)) w) := by
  obtain ⟨R, HR⟩ : ∃ R, e_texel_Bary_1_k1 (s_texel_Bary_1_k1 m uv) = R := ⟨_, rfl⟩
  rw [HR]
  unfold s_texel_Bary_1_k1 at HR
  have hM0 := St.start2 (St.start1 hB0) hB1 (by simpa using hne)
  refine calls_run Try.func51 rfl ?_
  refine R_seq (R_region (S_val (.int .i64 0) (by kernel_rfl) (S_nil (R_seq (R_region (S_val (.pointer (some ⟨B0, 1, none⟩)) (by kernel_rfl) (S_load 1 1 (.int .i64 m.2.1) hM0 (by kernel_rfl) (S_val (.pointer (some ⟨B0, 2, none⟩)) (by kernel_rfl) (S_load 1 2 (.int .i64 m.2.2.1) hM0 (by kernel_rfl) (S_int (IntKind.i64.wrap (m.2.1 - m.2.2.1)) .i64 (by kernel_rfl) (fun x1 h2 => S_val (.pointer (some ⟨B0, 3, none⟩)) (by kernel_rfl) (?_))))))))))))
  have HR := hr_lt HR h2
  refine S_load 1 3 (.int .i64 m.2.2.2) hM0 (by kernel_rfl) (S_int (IntKind.i64.wrap (x1 - m.2.2.2)) .i64 (by kernel_rfl) (fun x3 h4 => S_val (.int .i64 x3) (by kernel_rfl) (S_nil (R_seq (R_drawG 28 (by kernel_rfl) (fun F5 U6 hL7 => G_val (.int .i64 x3) (fun _ => by kernel_rfl) (G_val (.int .i64 1) (fun _ => by kernel_rfl) (G_val (.pointer (some ⟨B1, 0, none⟩)) (fun _ => by kernel_rfl) (G_val (.pointer (some ⟨B1, 1, none⟩)) (fun _ => by kernel_rfl) (G_load 0 1 (.int .i64 uv.1.2) hM0 (by kernel_rfl) (G_call (x3 * uv.1.2) (fun r : Int => .agg #[.int .i64 (wHi r), .int .u64 (wLo r)]) hM0 hL7 (fun w' hM' => wMul x3 uv.1.2 (wr_i64 h4) h_uv.1.2 w') (by kernel_rfl) (fun _ => by kernel_rfl) (fun r8 h9 => ?_))))))))))))
  have HR := hr_lt HR h4
  have HR := hr_lt HR h9
  refine G_val (.pointer (some ⟨B0, 2, none⟩)) (fun _ => by kernel_rfl) (G_load 1 2 (.int .i64 m.2.2.1) hM0 (by kernel_rfl) (G_val (.int .i64 1) (fun _ => by kernel_rfl) (G_val (.pointer (some ⟨B1, 2, none⟩)) (fun _ => by kernel_rfl) (G_val (.pointer (some ⟨B1, 3, none⟩)) (fun _ => by kernel_rfl) (G_load 0 3 (.int .i64 uv.2.1.2) hM0 (by kernel_rfl) (G_call (m.2.2.1 * uv.2.1.2) (fun r : Int => .agg #[.int .i64 (wHi r), .int .u64 (wLo r)]) hM0 hL7 (fun w' hM' => wMul m.2.2.1 uv.2.1.2 h_m.2.2.1 h_uv.2.1.2 w') (by kernel_rfl) (fun _ => by kernel_rfl) (fun r10 h11 => G_val (.pointer (some ⟨B0, 3, none⟩)) (fun _ => by kernel_rfl) (G_load 1 3 (.int .i64 m.2.2.2) hM0 (by kernel_rfl) (G_val (.int .i64 1) (fun _ => by kernel_rfl) (G_val (.pointer (some ⟨B1, 4, none⟩)) (fun _ => by kernel_rfl) (G_val (.pointer (some ⟨B1, 5, none⟩)) (fun _ => by kernel_rfl) (?_))))))))))))
  have HR := hr_lt HR h11
  refine G_load 0 5 (.int .i64 uv.2.2.2) hM0 (by kernel_rfl) (G_call (m.2.2.2 * uv.2.2.2) (fun r : Int => .agg #[.int .i64 (wHi r), .int .u64 (wLo r)]) hM0 hL7 (fun w' hM' => wMul m.2.2.2 uv.2.2.2 h_m.2.2.2 h_uv.2.2.2 w') (by kernel_rfl) (fun _ => by kernel_rfl) (fun r12 h13 => G_fresh (some 3) #[.int .i64 (wHi r8), .int .u64 (wLo r8), .int .i64 (wHi r10), .int .u64 (wLo r10), .int .i64 (wHi r12), .int .u64 (wLo r12)] 98 hL7 (by kernel_rfl) (fun _ => by kernel_rfl) (fun g14 F15 U16 hL17 => G_call (addW [r8, r10, r12]) (fun r : Int × Bool => .tuple #[.agg #[.int .i64 (wHi r.1), .int .u64 (wLo r.1)], .bool r.2]) hM0 hL17 (fun w' hM' => wAddL [r8, r10, r12] ⟨(tr (P := fun r : Int => InW r) h9 (mul_InW (wr_i64 h4) h_uv.1.2)).out, (tr (P := fun r : Int => InW r) h11 (mul_InW h_m.2.2.1 h_uv.2.1.2)).out, (tr (P := fun r : Int => InW r) h13 (mul_InW h_m.2.2.2 h_uv.2.2.2)).out, trivial⟩ hM' 0 3 3 rfl (by kernel_rfl) (by kernel_rfl)) (by kernel_rfl) (fun _ => by kernel_rfl) (fun r18 h19 => ?_))))
  have HR := hr_lt HR h13
  have HR := hr_lt HR h19
  obtain ⟨r20, b22⟩ := r18
  cases b22
  · refine G_val (.tuple #[.agg #[.int .i64 (wHi r20), .int .u64 (wLo r20)], .bool false]) (fun _ => by kernel_rfl) (G_val (.agg #[.int .i64 (wHi r20), .int .u64 (wLo r20)]) (fun _ => by kernel_rfl) (G_val (.bool false) (fun _ => by kernel_rfl) (G_fresh none #[.int .i64 0, .int .u64 0] 98 hL17 (by kernel_rfl) (fun _ => by kernel_rfl) (fun g23 F24 U25 hL26 => G_store 0 0 #[.int .i64 (wHi r20), .int .u64 (wLo r20)] hL26 (by kernel_rfl) (by kernel_rfl) (fun F27 hL28 => G_val (.bool false) (fun _ => by kernel_rfl) (G_nil hM0 hL28 (fun w29 hM30 => S_nil (R_seq (R_seq (R_region (S_val (.bool false) (by kernel_rfl) (?_))))))))))))
    have HR := hr_neg HR Bool.false_ne_true
    refine S_val (.bool true) (by kernel_rfl) (S_nil (R_yes (by kernel_rfl) (R_seq (R_region (S_val (.int .i64 0) (by kernel_rfl) (S_nil (?_)))))))
    refine R_ret hM30 rfl (.cons (.tmp _ (.int .i64 0) (by kernel_rfl)) .nil) rfl ?_
    exact ⟨congrArg Ending.returned HR, hM30.below⟩
  · refine G_val (.tuple #[.agg #[.int .i64 (wHi r20), .int .u64 (wLo r20)], .bool true]) (fun _ => by kernel_rfl) (G_val (.agg #[.int .i64 (wHi r20), .int .u64 (wLo r20)]) (fun _ => by kernel_rfl) (G_val (.bool true) (fun _ => by kernel_rfl) (G_fresh none #[.int .i64 0, .int .u64 0] 98 hL17 (by kernel_rfl) (fun _ => by kernel_rfl) (fun g31 F32 U33 hL34 => G_store 0 0 #[.int .i64 (wHi r20), .int .u64 (wLo r20)] hL34 (by kernel_rfl) (by kernel_rfl) (fun F35 hL36 => G_val (.bool true) (fun _ => by kernel_rfl) (G_nil hM0 hL36 (fun w37 hM38 => S_nil (R_seq (R_seq (R_region (S_val (.bool true) (by kernel_rfl) (?_))))))))))))
    have HR := hr_pos HR rfl
    refine S_val (.bool false) (by kernel_rfl) (S_nil (R_no (by kernel_rfl) (R_skip (R_seq (R_region (S_load 0 0 (.agg #[.int .i64 (wHi r20), .int .u64 (wLo r20)]) hM38 (by kernel_rfl) (S_val (.pointer (some ⟨B0, 1, none⟩)) (by kernel_rfl) (S_load 3 1 (.int .i64 m.2.1) hM38 (by kernel_rfl) (S_call (wdivT r20 m.2.1) (fun r : Int × Int × Bool => .tuple #[.agg #[.int .i64 (wHi r.1), .int .u64 (wLo r.1)], .int .i64 r.2.1, .bool r.2.2]) hM38 (c_wide_Div r20 m.2.1 ((tr (P := fun r : Int × Bool => (InW r.1 ∧ True)) h19 (addW_W [r8, r10, r12])).out.1) h_m.2.1 w37) (by kernel_rfl) (fun r39 h40 w41 hM42 => ?_))))))))))
    have HR := hr_lt HR h40
    obtain ⟨r43, r44, b46⟩ := r39
    cases b46
    · refine S_val (.tuple #[.agg #[.int .i64 (wHi r43), .int .u64 (wLo r43)], .int .i64 r44, .bool false]) (by kernel_rfl) (S_val (.agg #[.int .i64 (wHi r43), .int .u64 (wLo r43)]) (by kernel_rfl) (S_val (.int .i64 r44) (by kernel_rfl) (S_val (.bool false) (by kernel_rfl) (S_fresh none #[.int .i64 0, .int .u64 0] 98 hM42 (by kernel_rfl) (fun g47 w48 hM49 => S_store 0 0 #[.int .i64 (wHi r43), .int .u64 (wLo r43)] hM49 (by kernel_rfl) (fun w50 hM51 => S_val (.int .i64 r44) (by kernel_rfl) (S_val (.bool false) (by kernel_rfl) (S_nil (R_seq (R_region (S_load 0 0 (.agg #[.int .i64 (wHi r43), .int .u64 (wLo r43)]) hM51 (by kernel_rfl) (?_))))))))))))
      have HR := hr_neg HR Bool.false_ne_true
      refine S_call (wint r43) (fun r : Int × Bool => .tuple #[.int .i64 r.1, .bool r.2]) hM51 (c_wide_Int r43 ((tr (P := fun r : Int × Int × Bool => (InW r.1 ∧ InI r.2.1 ∧ True)) h40 (wdivT_W ((tr (P := fun r : Int × Bool => (InW r.1 ∧ True)) h19 (addW_W [r8, r10, r12])).out.1) h_m.2.1)).out.1) w50) (by kernel_rfl) (fun r52 h53 w54 hM55 => ?_)
      have HR := hr_lt HR h53
      obtain ⟨r56, b58⟩ := r52
      cases b58
      · refine S_val (.tuple #[.int .i64 r56, .bool false]) (by kernel_rfl) (S_val (.int .i64 r56) (by kernel_rfl) (S_val (.bool false) (by kernel_rfl) (S_val (.int .i64 r56) (by kernel_rfl) (S_val (.bool false) (by kernel_rfl) (S_nil (R_seq (R_block (R_seq (R_region (S_val (.bool false) (by kernel_rfl) (S_val (.bool true) (by kernel_rfl) (?_))))))))))))
        have HR := hr_neg HR Bool.false_ne_true
        refine S_val (.bool true) (by kernel_rfl) (S_val (.pointer (some ⟨g47, 0, none⟩)) (by kernel_rfl) (S_load 0 0 (.int .i64 (wHi r43)) hM55 (by kernel_rfl) (?_)))
        refine S_dec (wHi r43 < 0) (by kernel_rfl) (fun c59 => ?_) (fun c59 => ?_)
        · refine S_val (.bool true) (by kernel_rfl) (S_val (.bool true) (by kernel_rfl) (S_nil (R_yes (by kernel_rfl) (R_seq (R_region (S_val (.int .i64 (-2147483648)) (by kernel_rfl) (S_nil (?_))))))))
          have HR := hr_pos HR c59
          refine R_ret hM55 rfl (.cons (.tmp _ (.int .i64 (-2147483648)) (by kernel_rfl)) .nil) rfl ?_
          exact ⟨congrArg Ending.returned HR, hM55.below⟩
        · refine S_val (.bool false) (by kernel_rfl) (S_val (.bool false) (by kernel_rfl) (S_nil (R_no (by kernel_rfl) (R_seq (R_region (S_val (.bool false) (by kernel_rfl) (S_val (.bool true) (by kernel_rfl) (S_val (.bool true) (by kernel_rfl) (S_nil (R_yes (by kernel_rfl) (R_seq (?_))))))))))))
          have HR := hr_neg HR c59
          refine R_region (S_val (.int .i64 2147483647) (by kernel_rfl) (S_nil (?_)))
          refine R_ret hM55 rfl (.cons (.tmp _ (.int .i64 2147483647) (by kernel_rfl)) .nil) rfl ?_
          exact ⟨congrArg Ending.returned HR, hM55.below⟩
      · refine S_val (.tuple #[.int .i64 r56, .bool true]) (by kernel_rfl) (S_val (.int .i64 r56) (by kernel_rfl) (S_val (.bool true) (by kernel_rfl) (S_val (.int .i64 r56) (by kernel_rfl) (S_val (.bool true) (by kernel_rfl) (S_nil (R_seq (R_block (R_seq (R_region (S_val (.bool true) (by kernel_rfl) (S_val (.bool false) (by kernel_rfl) (?_))))))))))))
        have HR := hr_pos HR rfl
        refine S_val (.bool false) (by kernel_rfl) (S_skip (by kernel_rfl) (S_skip (by kernel_rfl) (S_skip (by kernel_rfl) (S_val (.bool false) (by kernel_rfl) (S_val (.bool false) (by kernel_rfl) (S_nil (R_no (by kernel_rfl) (R_seq (R_region (S_val (.bool true) (by kernel_rfl) (S_val (.bool false) (by kernel_rfl) (?_))))))))))))
        refine S_val (.bool false) (by kernel_rfl) (S_nil (R_no (by kernel_rfl) (R_skip (R_inBlock (R_seq (R_region (S_val (.int .i64 r56) (by kernel_rfl) (S_int (gmax r56 (-2147483648)) .i64 (by kernel_rfl) (fun x60 h61 => S_int (gmin x60 2147483647) .i64 (by kernel_rfl) (fun x62 h63 => S_val (.int .i64 x62) (by kernel_rfl) (S_nil (?_))))))))))))
        have HR := hr_lt HR h61
        have HR := hr_lt HR h63
        refine R_ret hM55 rfl (.cons (.tmp _ (.int .i64 x62) (by kernel_rfl)) .nil) rfl ?_
        exact ⟨congrArg Ending.returned HR, hM55.below⟩
    · refine S_val (.tuple #[.agg #[.int .i64 (wHi r43), .int .u64 (wLo r43)], .int .i64 r44, .bool true]) (by kernel_rfl) (S_val (.agg #[.int .i64 (wHi r43), .int .u64 (wLo r43)]) (by kernel_rfl) (S_val (.int .i64 r44) (by kernel_rfl) (S_val (.bool true) (by kernel_rfl) (S_fresh none #[.int .i64 0, .int .u64 0] 98 hM42 (by kernel_rfl) (fun g65 w66 hM67 => S_store 0 0 #[.int .i64 (wHi r43), .int .u64 (wLo r43)] hM67 (by kernel_rfl) (fun w68 hM69 => S_val (.int .i64 r44) (by kernel_rfl) (S_val (.bool true) (by kernel_rfl) (S_nil (R_seq (R_region (S_load 0 0 (.agg #[.int .i64 (wHi r43), .int .u64 (wLo r43)]) hM69 (by kernel_rfl) (?_))))))))))))
      have HR := hr_pos HR rfl
      refine S_call (wint r43) (fun r : Int × Bool => .tuple #[.int .i64 r.1, .bool r.2]) hM69 (c_wide_Int r43 ((tr (P := fun r : Int × Int × Bool => (InW r.1 ∧ InI r.2.1 ∧ True)) h40 (wdivT_W ((tr (P := fun r : Int × Bool => (InW r.1 ∧ True)) h19 (addW_W [r8, r10, r12])).out.1) h_m.2.1)).out.1) w68) (by kernel_rfl) (fun r70 h71 w72 hM73 => ?_)
      have HR := hr_lt HR h71
      obtain ⟨r74, b76⟩ := r70
      cases b76
      · refine S_val (.tuple #[.int .i64 r74, .bool false]) (by kernel_rfl) (S_val (.int .i64 r74) (by kernel_rfl) (S_val (.bool false) (by kernel_rfl) (S_val (.int .i64 r74) (by kernel_rfl) (S_val (.bool false) (by kernel_rfl) (S_nil (R_seq (R_block (R_seq (R_region (S_val (.bool false) (by kernel_rfl) (S_val (.bool true) (by kernel_rfl) (?_))))))))))))
        have HR := hr_neg HR Bool.false_ne_true
        refine S_val (.bool true) (by kernel_rfl) (S_val (.pointer (some ⟨g65, 0, none⟩)) (by kernel_rfl) (S_load 0 0 (.int .i64 (wHi r43)) hM73 (by kernel_rfl) (?_)))
        refine S_dec (wHi r43 < 0) (by kernel_rfl) (fun c77 => ?_) (fun c77 => ?_)
        · refine S_val (.bool true) (by kernel_rfl) (S_val (.bool true) (by kernel_rfl) (S_nil (R_yes (by kernel_rfl) (R_seq (R_region (S_val (.int .i64 (-2147483648)) (by kernel_rfl) (S_nil (?_))))))))
          have HR := hr_pos HR c77
          refine R_ret hM73 rfl (.cons (.tmp _ (.int .i64 (-2147483648)) (by kernel_rfl)) .nil) rfl ?_
          exact ⟨congrArg Ending.returned HR, hM73.below⟩
        · refine S_val (.bool false) (by kernel_rfl) (S_val (.bool false) (by kernel_rfl) (S_nil (R_no (by kernel_rfl) (R_seq (R_region (S_val (.bool false) (by kernel_rfl) (S_val (.bool true) (by kernel_rfl) (S_val (.bool true) (by kernel_rfl) (S_nil (R_yes (by kernel_rfl) (R_seq (?_))))))))))))
          have HR := hr_neg HR c77
          refine R_region (S_val (.int .i64 2147483647) (by kernel_rfl) (S_nil (?_)))
          refine R_ret hM73 rfl (.cons (.tmp _ (.int .i64 2147483647) (by kernel_rfl)) .nil) rfl ?_
          exact ⟨congrArg Ending.returned HR, hM73.below⟩
      · refine S_val (.tuple #[.int .i64 r74, .bool true]) (by kernel_rfl) (S_val (.int .i64 r74) (by kernel_rfl) (S_val (.bool true) (by kernel_rfl) (S_val (.int .i64 r74) (by kernel_rfl) (S_val (.bool true) (by kernel_rfl) (S_nil (R_seq (R_block (R_seq (R_region (S_val (.bool true) (by kernel_rfl) (S_val (.bool false) (by kernel_rfl) (?_))))))))))))
        have HR := hr_pos HR rfl
        refine S_val (.bool false) (by kernel_rfl) (S_skip (by kernel_rfl) (S_skip (by kernel_rfl) (S_skip (by kernel_rfl) (S_val (.bool false) (by kernel_rfl) (S_val (.bool false) (by kernel_rfl) (S_nil (R_no (by kernel_rfl) (R_seq (R_region (S_val (.bool true) (by kernel_rfl) (S_val (.bool false) (by kernel_rfl) (?_))))))))))))
        refine S_val (.bool false) (by kernel_rfl) (S_nil (R_no (by kernel_rfl) (R_skip (R_inBlock (R_seq (R_region (S_val (.int .i64 r74) (by kernel_rfl) (S_int (gmax r74 (-2147483648)) .i64 (by kernel_rfl) (fun x78 h79 => S_int (gmin x78 2147483647) .i64 (by kernel_rfl) (fun x80 h81 => S_val (.int .i64 x80) (by kernel_rfl) (S_nil (?_))))))))))))
        have HR := hr_lt HR h79
        have HR := hr_lt HR h81
        refine R_ret hM73 rfl (.cons (.tmp _ (.int .i64 x80) (by kernel_rfl)) .nil) rfl ?_
        exact ⟨congrArg Ending.returned HR, hM73.below⟩

def P_texel_Bary_1_k1 (r : Int) : Prop := InI r
theorem i_texel_Bary_1_k1 (m : Int × Int × Int × Int) (uv : (Int × Int) × (Int × Int) × (Int × Int)) (h_m : InM m) (h_uv : ((InI uv.1.1 ∧ InI uv.1.2) ∧ (InI uv.2.1.1 ∧ InI uv.2.1.2) ∧ (InI uv.2.2.1 ∧ InI uv.2.2.2))) : P_texel_Bary_1_k1 (s_texel_Bary_1_k1 m uv) := by
  unfold s_texel_Bary_1_k1
  exact (lt_P fun x1 h2 => (lt_P fun x3 h4 => (lt_P fun r8 h9 => (lt_P fun r10 h11 => (lt_P fun r12 h13 => (lt_P fun r18 h19 => (ite_P (fun c84 => (lt_P fun r39 h40 => (ite_P (fun c83 => (lt_P fun r70 h71 => (ite_P (fun c82 => (lt_P fun x78 h79 => (lt_P fun x80 h81 => (show InI x80 from (tr (P := InI) h81 (gmin_InI (tr (P := InI) h79 (gmax_InI (tr (P := fun r : Int × Bool => (InI r.1 ∧ True)) h71 (wint_I ((tr (P := fun r : Int × Int × Bool => (InW r.1 ∧ InI r.2.1 ∧ True)) h40 (wdivT_W ((tr (P := fun r : Int × Bool => (InW r.1 ∧ True)) h19 (addW_W [r8, r10, r12])).out.1) h_m.2.1)).out.1))).out.1 (show InI (-2147483648) from by unfold InI; omega))).out (show InI 2147483647 from by unfold InI; omega))).out)))) (fun c82 => (ite_P (fun c77 => (show InI (-2147483648) from (show InI (-2147483648) from by unfold InI; omega))) (fun c77 => (show InI 2147483647 from (show InI 2147483647 from by unfold InI; omega)))))))) (fun c83 => (lt_P fun r52 h53 => (ite_P (fun c64 => (lt_P fun x60 h61 => (lt_P fun x62 h63 => (show InI x62 from (tr (P := InI) h63 (gmin_InI (tr (P := InI) h61 (gmax_InI (tr (P := fun r : Int × Bool => (InI r.1 ∧ True)) h53 (wint_I ((tr (P := fun r : Int × Int × Bool => (InW r.1 ∧ InI r.2.1 ∧ True)) h40 (wdivT_W ((tr (P := fun r : Int × Bool => (InW r.1 ∧ True)) h19 (addW_W [r8, r10, r12])).out.1) h_m.2.1)).out.1))).out.1 (show InI (-2147483648) from by unfold InI; omega))).out (show InI 2147483647 from by unfold InI; omega))).out)))) (fun c64 => (ite_P (fun c59 => (show InI (-2147483648) from (show InI (-2147483648) from by unfold InI; omega))) (fun c59 => (show InI 2147483647 from (show InI 2147483647 from by unfold InI; omega))))))))))) (fun c84 => (show InI 0 from (show InI 0 from by unfold InI; omega))))))))))

def e_texel_Bary (r : Int × Int) : Value := .tuple #[.int .i64 r.1, .int .i64 r.2]
def s_texel_Bary (m : Int × Int × Int × Int) (uv : (Int × Int) × (Int × Int) × (Int × Int)) : Int × Int :=
  if m.2.1 < 1 then
    (0, 0)
  else
    lt (gmax (gmax (gmax m.1 m.2.1) m.2.2.1) m.2.2.2) fun x8 =>
    if x8 > 1152921504606846976 then
      (0, 0)
    else
      lt (gmin (gmin m.1 m.2.2.1) m.2.2.2) fun x11 =>
      if x11 < (-1152921504606846976) then
        (0, 0)
      else
        lt (s_texel_Bary_1_k0 m uv) fun r14 =>
        lt (s_texel_Bary_1_k1 m uv) fun r18 =>
        (r14, r18)
set_option maxRecDepth 100000 in
set_option maxHeartbeats 4000000 in
theorem w_texel_Bary (m : Int × Int × Int × Int) (uv : (Int × Int) × (Int × Int) × (Int × Int)) (h_m : InM m) (h_uv : ((InI uv.1.1 ∧ InI uv.1.2) ∧ (InI uv.2.1.1 ∧ InI uv.2.1.2) ∧ (InI uv.2.2.1 ∧ InI uv.2.2.2))) (w : World) : Calls Try.prog 23 #[.agg #[.int .i64 m.1, .int .i64 m.2.1, .int .i64 m.2.2.1, .int .i64 m.2.2.2], .agg #[.int .i64 uv.1.1, .int .i64 uv.1.2, .int .i64 uv.2.1.1, .int .i64 uv.2.1.2, .int .i64 uv.2.2.1, .int .i64 uv.2.2.2]] w (Ret (e_texel_Bary (s_texel_Bary m uv)) w) := by
  obtain ⟨R, HR⟩ : ∃ R, e_texel_Bary (s_texel_Bary m uv) = R := ⟨_, rfl⟩
  rw [HR]
  unfold s_texel_Bary at HR
  have hM0 := St.start w
  refine calls_run Try.func23 rfl ?_
  refine R_seq (R_region (S_fresh none #[.int .i64 m.1, .int .i64 m.2.1, .int .i64 m.2.2.1, .int .i64 m.2.2.2] 50 hM0 (by kernel_rfl) (fun g1 w2 hM3 => S_fresh none #[.int .i64 uv.1.1, .int .i64 uv.1.2, .int .i64 uv.2.1.1, .int .i64 uv.2.1.2, .int .i64 uv.2.2.1, .int .i64 uv.2.2.2] 51 hM3 (by kernel_rfl) (fun g4 w5 hM6 => S_val (.int .i64 0) (by kernel_rfl) (S_val (.int .i64 0) (by kernel_rfl) (S_nil (R_seq (R_seq (R_region (S_val (.pointer (some ⟨g1, 1, none⟩)) (by kernel_rfl) (S_load 1 1 (.int .i64 m.2.1) hM6 (by kernel_rfl) (?_))))))))))))
  refine S_dec (m.2.1 < 1) (by kernel_rfl) (fun c7 => ?_) (fun c7 => ?_)
  · refine S_val (.bool true) (by kernel_rfl) (S_skip (by kernel_rfl) (S_skip (by kernel_rfl) (S_skip (by kernel_rfl) (S_skip (by kernel_rfl) (S_skip (by kernel_rfl) (S_skip (by kernel_rfl) (S_skip (by kernel_rfl) (S_skip (by kernel_rfl) (S_skip (by kernel_rfl) (S_skip (by kernel_rfl) (S_val (.bool true) (by kernel_rfl) (?_))))))))))))
    have HR := hr_pos HR c7
    refine S_val (.bool true) (by kernel_rfl) (S_skip (by kernel_rfl) (S_skip (by kernel_rfl) (S_skip (by kernel_rfl) (S_skip (by kernel_rfl) (S_skip (by kernel_rfl) (S_skip (by kernel_rfl) (S_skip (by kernel_rfl) (S_skip (by kernel_rfl) (S_val (.bool true) (by kernel_rfl) (S_nil (R_yes (by kernel_rfl) (?_))))))))))))
    refine R_seq (R_region (S_val (.int .i64 0) (by kernel_rfl) (S_val (.int .i64 0) (by kernel_rfl) (S_nil (?_)))))
    refine R_ret hM6 rfl (.cons (.tmp _ (.int .i64 0) (by kernel_rfl)) (.cons (.tmp _ (.int .i64 0) (by kernel_rfl)) .nil)) rfl ?_
    exact ⟨congrArg Ending.returned HR, hM6.below⟩
  · refine S_val (.bool false) (by kernel_rfl) (S_val (.pointer (some ⟨g1, 0, none⟩)) (by kernel_rfl) (S_load 1 0 (.int .i64 m.1) hM6 (by kernel_rfl) (S_val (.pointer (some ⟨g1, 1, none⟩)) (by kernel_rfl) (S_load 1 1 (.int .i64 m.2.1) hM6 (by kernel_rfl) (S_val (.pointer (some ⟨g1, 2, none⟩)) (by kernel_rfl) (S_load 1 2 (.int .i64 m.2.2.1) hM6 (by kernel_rfl) (S_val (.pointer (some ⟨g1, 3, none⟩)) (by kernel_rfl) (S_load 1 3 (.int .i64 m.2.2.2) hM6 (by kernel_rfl) (S_int (gmax (gmax (gmax m.1 m.2.1) m.2.2.1) m.2.2.2) .i64 (by kernel_rfl) (fun x8 h9 => ?_))))))))))
    have HR := hr_neg HR c7
    have HR := hr_lt HR h9
    refine S_dec (x8 > 1152921504606846976) (by kernel_rfl) (fun c10 => ?_) (fun c10 => ?_)
    · refine S_val (.bool true) (by kernel_rfl) (S_val (.bool true) (by kernel_rfl) (S_skip (by kernel_rfl) (S_skip (by kernel_rfl) (S_skip (by kernel_rfl) (S_skip (by kernel_rfl) (S_skip (by kernel_rfl) (S_skip (by kernel_rfl) (S_skip (by kernel_rfl) (S_skip (by kernel_rfl) (S_val (.bool true) (by kernel_rfl) (S_nil (?_))))))))))))
      have HR := hr_pos HR c10
      refine R_yes (by kernel_rfl) (R_seq (R_region (S_val (.int .i64 0) (by kernel_rfl) (S_val (.int .i64 0) (by kernel_rfl) (S_nil (?_))))))
      refine R_ret hM6 rfl (.cons (.tmp _ (.int .i64 0) (by kernel_rfl)) (.cons (.tmp _ (.int .i64 0) (by kernel_rfl)) .nil)) rfl ?_
      exact ⟨congrArg Ending.returned HR, hM6.below⟩
    · refine S_val (.bool false) (by kernel_rfl) (S_val (.bool false) (by kernel_rfl) (S_val (.pointer (some ⟨g1, 0, none⟩)) (by kernel_rfl) (S_load 1 0 (.int .i64 m.1) hM6 (by kernel_rfl) (S_val (.pointer (some ⟨g1, 2, none⟩)) (by kernel_rfl) (S_load 1 2 (.int .i64 m.2.2.1) hM6 (by kernel_rfl) (S_val (.pointer (some ⟨g1, 3, none⟩)) (by kernel_rfl) (S_load 1 3 (.int .i64 m.2.2.2) hM6 (by kernel_rfl) (S_int (gmin (gmin m.1 m.2.2.1) m.2.2.2) .i64 (by kernel_rfl) (fun x11 h12 => ?_)))))))))
      have HR := hr_neg HR c10
      have HR := hr_lt HR h12
      refine S_dec (x11 < (-1152921504606846976)) (by kernel_rfl) (fun c13 => ?_) (fun c13 => ?_)
      · refine S_val (.bool true) (by kernel_rfl) (S_nil (R_yes (by kernel_rfl) (R_seq (R_region (S_val (.int .i64 0) (by kernel_rfl) (S_val (.int .i64 0) (by kernel_rfl) (S_nil (?_))))))))
        have HR := hr_pos HR c13
        refine R_ret hM6 rfl (.cons (.tmp _ (.int .i64 0) (by kernel_rfl)) (.cons (.tmp _ (.int .i64 0) (by kernel_rfl)) .nil)) rfl ?_
        exact ⟨congrArg Ending.returned HR, hM6.below⟩
      · refine S_val (.bool false) (by kernel_rfl) (S_nil (R_no (by kernel_rfl) (R_skip (R_seq (R_region (S_val (.func (.func 51) #[] #[.pointer (some ⟨g1, 0, none⟩), .pointer (some ⟨g4, 0, none⟩)]) (by kernel_rfl) (S_val (.func (.func 51) #[] #[.pointer (some ⟨g1, 0, none⟩), .pointer (some ⟨g4, 0, none⟩)]) (by kernel_rfl) (S_nil (R_seq (R_region (S_val (.func (.func 51) #[] #[.pointer (some ⟨g1, 0, none⟩), .pointer (some ⟨g4, 0, none⟩)]) (by kernel_rfl) (?_))))))))))))
        have HR := hr_neg HR c13
        refine S_call (s_texel_Bary_1_k0 m uv) (fun r : Int => .int .i64 r) hM6 (w_texel_Bary_1_k0 m uv h_m h_uv g1 _ _ g4 _ _ w5 (hM6.at 1 rfl) (hM6.at 0 rfl) (hM6.ne 0 1 rfl rfl (by decide))) (by kernel_rfl) (fun r14 h15 w16 hM17 => S_val (.func (.func 51) #[] #[.pointer (some ⟨g1, 0, none⟩), .pointer (some ⟨g4, 0, none⟩)]) (by kernel_rfl) (S_call (s_texel_Bary_1_k1 m uv) (fun r : Int => .int .i64 r) hM17 (w_texel_Bary_1_k1 m uv h_m h_uv g1 _ _ g4 _ _ w16 (hM17.at 1 rfl) (hM17.at 0 rfl) (hM17.ne 0 1 rfl rfl (by decide))) (by kernel_rfl) (fun r18 h19 w20 hM21 => S_val (.int .i64 r14) (by kernel_rfl) (S_val (.int .i64 r18) (by kernel_rfl) (S_nil (?_))))))
        have HR := hr_lt HR h15
        have HR := hr_lt HR h19
        refine R_ret hM21 rfl (.cons (.tmp _ (.int .i64 r14) (by kernel_rfl)) (.cons (.tmp _ (.int .i64 r18) (by kernel_rfl)) .nil)) rfl ?_
        exact ⟨congrArg Ending.returned HR, hM21.below⟩

def P_texel_Bary (r : Int × Int) : Prop := (InI r.1 ∧ InI r.2)
theorem i_texel_Bary (m : Int × Int × Int × Int) (uv : (Int × Int) × (Int × Int) × (Int × Int)) (h_m : InM m) (h_uv : ((InI uv.1.1 ∧ InI uv.1.2) ∧ (InI uv.2.1.1 ∧ InI uv.2.1.2) ∧ (InI uv.2.2.1 ∧ InI uv.2.2.2))) : P_texel_Bary (s_texel_Bary m uv) := by
  unfold s_texel_Bary
  exact (ite_P (fun c7 => (show (InI 0 ∧ InI 0) from ⟨(show InI 0 from by unfold InI; omega), (show InI 0 from by unfold InI; omega)⟩)) (fun c7 => (lt_P fun x8 h9 => (ite_P (fun c10 => (show (InI 0 ∧ InI 0) from ⟨(show InI 0 from by unfold InI; omega), (show InI 0 from by unfold InI; omega)⟩)) (fun c10 => (lt_P fun x11 h12 => (ite_P (fun c13 => (show (InI 0 ∧ InI 0) from ⟨(show InI 0 from by unfold InI; omega), (show InI 0 from by unfold InI; omega)⟩)) (fun c13 => (lt_P fun r14 h15 => (lt_P fun r18 h19 => (show (InI r14 ∧ InI r18) from ⟨(tr (P := fun r : Int => InI r) h15 (i_texel_Bary_1_k0 m uv h_m h_uv)).out, (tr (P := fun r : Int => InI r) h19 (i_texel_Bary_1_k1 m uv h_m h_uv)).out⟩)))))))))))

def e_texel_Color_1 (r : Int) : Value := .int .i64 r
def s_texel_Color_1 (most : Int) (n : Int) : Int :=
  lt (fof n) fun r4 =>
  lt (fof most) fun r6 =>
  lt (fdiv r4 r6) fun r8 =>
  r8
set_option maxRecDepth 100000 in
set_option maxHeartbeats 4000000 in
theorem w_texel_Color_1 (most : Int) (n : Int) (h_most : InI most) (h_n : InI n) (B0 : Nat) (T0 : TypeId) (fr0 : Nat × Nat) (w : World) (hB0 : Has B0 (.cells #[.int .i64 most] T0 fr0) w) : Calls Try.prog 47 #[.int .i64 n, .pointer (some ⟨B0, 0, none⟩)] w (Ret (e_texel_Color_1 (s_texel_Color_1 most n)) w) := by
  obtain ⟨R, HR⟩ : ∃ R, e_texel_Color_1 (s_texel_Color_1 most n) = R := ⟨_, rfl⟩
  rw [HR]
  unfold s_texel_Color_1 at HR
  have hM0 := St.start1 hB0
  refine calls_run Try.func47 rfl ?_
  refine R_seq (R_region (S_val (.int .i64 0) (by kernel_rfl) (S_nil (R_seq (R_drawF 6 (by kernel_rfl) (fun F1 U2 hL3 => F_val (.int .i64 n) (fun _ => by kernel_rfl) (F_call (fof n) (fun r : Int => .int .i64 r) hM0 hL3 (fun w' hM' => c_fix_Of n h_n w') (by kernel_rfl) (fun _ => by kernel_rfl) (fun r4 h5 => F_load 0 0 (.int .i64 most) hM0 (by kernel_rfl) (F_call (fof most) (fun r : Int => .int .i64 r) hM0 hL3 (fun w' hM' => c_fix_Of most h_most w') (by kernel_rfl) (fun _ => by kernel_rfl) (fun r6 h7 => F_call (fdiv r4 r6) (fun r : Int => .int .i64 r) hM0 hL3 (fun w' hM' => c_fix_Div r4 r6 ((tr (P := fun r : Int => InI r) h5 (fof_I n)).out) ((tr (P := fun r : Int => InI r) h7 (fof_I most)).out) w') (by kernel_rfl) (fun _ => by kernel_rfl) (fun r8 h9 => F_val (.int .i64 r8) (fun _ => by kernel_rfl) (?_))))))))))))
  have HR := hr_lt HR h5
  have HR := hr_lt HR h7
  have HR := hr_lt HR h9
  refine F_nil hM0 hL3 (fun w10 hM11 => S_nil (?_))
  refine R_ret hM11 rfl (.cons (.tmp _ (.int .i64 r8) (by kernel_rfl)) .nil) rfl ?_
  exact ⟨congrArg Ending.returned HR, hM11.below⟩

def P_texel_Color_1 (r : Int) : Prop := InI r
theorem i_texel_Color_1 (most : Int) (n : Int) (h_most : InI most) (h_n : InI n) : P_texel_Color_1 (s_texel_Color_1 most n) := by
  unfold s_texel_Color_1
  exact (lt_P fun r4 h5 => (lt_P fun r6 h7 => (lt_P fun r8 h9 => (show InI r8 from (tr (P := fun r : Int => InI r) h9 (fdiv_I r4 r6)).out))))

def e_texel_Color (r : Int × Int × Int) : Value := .agg #[.int .i64 r.1, .int .i64 r.2.1, .int .i64 r.2.2]
def s_texel_Color (c : Int × Int × Int) (most : Int) : Int × Int × Int :=
  lt (s_texel_Color_1 most c.1) fun r13 =>
  lt (s_texel_Color_1 most c.2.1) fun r15 =>
  lt (s_texel_Color_1 most c.2.2) fun r17 =>
  (r13, r15, r17)
set_option maxRecDepth 100000 in
set_option maxHeartbeats 4000000 in
theorem w_texel_Color (c : Int × Int × Int) (most : Int) (h_c : InV c) (h_most : InI most) (w : World) : Calls Try.prog 20 #[.agg #[.int .i64 c.1, .int .i64 c.2.1, .int .i64 c.2.2], .int .i64 most] w (Ret (e_texel_Color (s_texel_Color c most)) w) := by
  obtain ⟨R, HR⟩ : ∃ R, e_texel_Color (s_texel_Color c most) = R := ⟨_, rfl⟩
  rw [HR]
  unfold s_texel_Color at HR
  have hM0 := St.start w
  refine calls_run Try.func20 rfl ?_
  refine R_seq (R_region (S_fresh none #[.int .i64 c.1, .int .i64 c.2.1, .int .i64 c.2.2] 36 hM0 (by kernel_rfl) (fun g1 w2 hM3 => S_fresh none #[.int .i64 most] 3 hM3 (by kernel_rfl) (fun g4 w5 hM6 => S_fresh none #[.int .i64 0, .int .i64 0, .int .i64 0] 29 hM6 (by kernel_rfl) (fun g7 w8 hM9 => S_nil (R_seq (R_region (S_val (.func (.func 47) #[] #[.pointer (some ⟨g4, 0, none⟩)]) (by kernel_rfl) (S_val (.func (.func 47) #[] #[.pointer (some ⟨g4, 0, none⟩)]) (by kernel_rfl) (S_nil (R_seq (?_))))))))))))
  refine R_drawF 13 (by kernel_rfl) (fun F10 U11 hL12 => F_val (.func (.func 47) #[] #[.pointer (some ⟨g4, 0, none⟩)]) (fun _ => by kernel_rfl) (F_val (.pointer (some ⟨g1, 0, none⟩)) (fun _ => by kernel_rfl) (F_load 2 0 (.int .i64 c.1) hM9 (by kernel_rfl) (F_call (s_texel_Color_1 most c.1) (fun r : Int => .int .i64 r) hM9 hL12 (fun w' hM' => w_texel_Color_1 most c.1 h_most h_c.1 g4 _ _ w' (hM'.at 1 rfl)) (by kernel_rfl) (fun _ => by kernel_rfl) (fun r13 h14 => F_val (.func (.func 47) #[] #[.pointer (some ⟨g4, 0, none⟩)]) (fun _ => by kernel_rfl) (F_val (.pointer (some ⟨g1, 1, none⟩)) (fun _ => by kernel_rfl) (F_load 2 1 (.int .i64 c.2.1) hM9 (by kernel_rfl) (F_call (s_texel_Color_1 most c.2.1) (fun r : Int => .int .i64 r) hM9 hL12 (fun w' hM' => w_texel_Color_1 most c.2.1 h_most h_c.2.1 g4 _ _ w' (hM'.at 1 rfl)) (by kernel_rfl) (fun _ => by kernel_rfl) (fun r15 h16 => F_val (.func (.func 47) #[] #[.pointer (some ⟨g4, 0, none⟩)]) (fun _ => by kernel_rfl) (F_val (.pointer (some ⟨g1, 2, none⟩)) (fun _ => by kernel_rfl) (F_load 2 2 (.int .i64 c.2.2) hM9 (by kernel_rfl) (?_))))))))))))
  have HR := hr_lt HR h14
  have HR := hr_lt HR h16
  refine F_call (s_texel_Color_1 most c.2.2) (fun r : Int => .int .i64 r) hM9 hL12 (fun w' hM' => w_texel_Color_1 most c.2.2 h_most h_c.2.2 g4 _ _ w' (hM'.at 1 rfl)) (by kernel_rfl) (fun _ => by kernel_rfl) (fun r17 h18 => F_val (.agg #[.int .i64 r13, .int .i64 r15, .int .i64 r17]) (fun _ => by kernel_rfl) (F_nil hM9 hL12 (fun w19 hM20 => S_store 0 0 #[.int .i64 r13, .int .i64 r15, .int .i64 r17] hM20 (by kernel_rfl) (fun w21 hM22 => S_nil (?_)))))
  have HR := hr_lt HR h18
  refine R_ret hM22 rfl (.cons (.cell _ _ 0 0 (.agg #[.int .i64 r13, .int .i64 r15, .int .i64 r17]) (by kernel_rfl)) .nil) rfl ?_
  exact ⟨congrArg Ending.returned HR, hM22.below⟩

def P_texel_Color (r : Int × Int × Int) : Prop := InV r
theorem i_texel_Color (c : Int × Int × Int) (most : Int) (h_c : InV c) (h_most : InI most) : P_texel_Color (s_texel_Color c most) := by
  unfold s_texel_Color
  exact (lt_P fun r13 h14 => (lt_P fun r15 h16 => (lt_P fun r17 h18 => (show InV (r13, r15, r17) from ⟨(tr (P := fun r : Int => InI r) h14 (i_texel_Color_1 most c.1 h_most h_c.1)).out, (tr (P := fun r : Int => InI r) h16 (i_texel_Color_1 most c.2.1 h_most h_c.2.1)).out, (tr (P := fun r : Int => InI r) h18 (i_texel_Color_1 most c.2.2 h_most h_c.2.2)).out⟩))))

def e_umbraref25_Color (r : Int × Int × Int) : Value := .agg #[.int .i64 r.1, .int .i64 r.2.1, .int .i64 r.2.2]
def s_umbraref25_Color (c : Int × Int × Int) (most : Int) : Int × Int × Int :=
  lt (fof most) fun r7 =>
  lt (fof c.1) fun r14 =>
  lt (fdiv r14 r7) fun r16 =>
  lt (fof c.2.1) fun r18 =>
  lt (fdiv r18 r7) fun r20 =>
  lt (fof c.2.2) fun r22 =>
  lt (fdiv r22 r7) fun r24 =>
  (r16, r20, r24)
set_option maxRecDepth 100000 in
set_option maxHeartbeats 4000000 in
theorem w_umbraref25_Color (c : Int × Int × Int) (most : Int) (h_c : InV c) (h_most : InI most) (w : World) : Calls Try.prog 21 #[.agg #[.int .i64 c.1, .int .i64 c.2.1, .int .i64 c.2.2], .int .i64 most] w (Ret (e_umbraref25_Color (s_umbraref25_Color c most)) w) := by
  obtain ⟨R, HR⟩ : ∃ R, e_umbraref25_Color (s_umbraref25_Color c most) = R := ⟨_, rfl⟩
  rw [HR]
  unfold s_umbraref25_Color at HR
  have hM0 := St.start w
  refine calls_run Try.func21 rfl ?_
  refine R_seq (R_region (S_fresh none #[.int .i64 c.1, .int .i64 c.2.1, .int .i64 c.2.2] 36 hM0 (by kernel_rfl) (fun g1 w2 hM3 => S_fresh none #[.int .i64 0, .int .i64 0, .int .i64 0] 29 hM3 (by kernel_rfl) (fun g4 w5 hM6 => S_nil (R_seq (R_region (S_val (.int .i64 most) (by kernel_rfl) (S_call (fof most) (fun r : Int => .int .i64 r) hM6 (c_umbraref02_Of most h_most w5) (by kernel_rfl) (fun r7 h8 w9 hM10 => S_val (.int .i64 r7) (by kernel_rfl) (S_nil (R_seq (?_))))))))))))
  have HR := hr_lt HR h8
  refine R_drawF 16 (by kernel_rfl) (fun F11 U12 hL13 => F_val (.pointer (some ⟨g1, 0, none⟩)) (fun _ => by kernel_rfl) (F_load 1 0 (.int .i64 c.1) hM10 (by kernel_rfl) (F_call (fof c.1) (fun r : Int => .int .i64 r) hM10 hL13 (fun w' hM' => c_umbraref02_Of c.1 h_c.1 w') (by kernel_rfl) (fun _ => by kernel_rfl) (fun r14 h15 => F_val (.int .i64 r7) (fun _ => by kernel_rfl) (F_call (fdiv r14 r7) (fun r : Int => .int .i64 r) hM10 hL13 (fun w' hM' => c_umbraref02_Div r14 r7 ((tr (P := fun r : Int => InI r) h15 (fof_I c.1)).out) ((tr (P := fun r : Int => InI r) h8 (fof_I most)).out) w') (by kernel_rfl) (fun _ => by kernel_rfl) (fun r16 h17 => F_val (.pointer (some ⟨g1, 1, none⟩)) (fun _ => by kernel_rfl) (F_load 1 1 (.int .i64 c.2.1) hM10 (by kernel_rfl) (F_call (fof c.2.1) (fun r : Int => .int .i64 r) hM10 hL13 (fun w' hM' => c_umbraref02_Of c.2.1 h_c.2.1 w') (by kernel_rfl) (fun _ => by kernel_rfl) (fun r18 h19 => F_val (.int .i64 r7) (fun _ => by kernel_rfl) (F_call (fdiv r18 r7) (fun r : Int => .int .i64 r) hM10 hL13 (fun w' hM' => c_umbraref02_Div r18 r7 ((tr (P := fun r : Int => InI r) h19 (fof_I c.2.1)).out) ((tr (P := fun r : Int => InI r) h8 (fof_I most)).out) w') (by kernel_rfl) (fun _ => by kernel_rfl) (fun r20 h21 => F_val (.pointer (some ⟨g1, 2, none⟩)) (fun _ => by kernel_rfl) (?_))))))))))))
  have HR := hr_lt HR h15
  have HR := hr_lt HR h17
  have HR := hr_lt HR h19
  have HR := hr_lt HR h21
  refine F_load 1 2 (.int .i64 c.2.2) hM10 (by kernel_rfl) (F_call (fof c.2.2) (fun r : Int => .int .i64 r) hM10 hL13 (fun w' hM' => c_umbraref02_Of c.2.2 h_c.2.2 w') (by kernel_rfl) (fun _ => by kernel_rfl) (fun r22 h23 => F_val (.int .i64 r7) (fun _ => by kernel_rfl) (F_call (fdiv r22 r7) (fun r : Int => .int .i64 r) hM10 hL13 (fun w' hM' => c_umbraref02_Div r22 r7 ((tr (P := fun r : Int => InI r) h23 (fof_I c.2.2)).out) ((tr (P := fun r : Int => InI r) h8 (fof_I most)).out) w') (by kernel_rfl) (fun _ => by kernel_rfl) (fun r24 h25 => F_val (.agg #[.int .i64 r16, .int .i64 r20, .int .i64 r24]) (fun _ => by kernel_rfl) (F_nil hM10 hL13 (fun w26 hM27 => S_store 0 0 #[.int .i64 r16, .int .i64 r20, .int .i64 r24] hM27 (by kernel_rfl) (fun w28 hM29 => S_nil (?_))))))))
  have HR := hr_lt HR h23
  have HR := hr_lt HR h25
  refine R_ret hM29 rfl (.cons (.cell _ _ 0 0 (.agg #[.int .i64 r16, .int .i64 r20, .int .i64 r24]) (by kernel_rfl)) .nil) rfl ?_
  exact ⟨congrArg Ending.returned HR, hM29.below⟩

def P_umbraref25_Color (r : Int × Int × Int) : Prop := InV r
theorem i_umbraref25_Color (c : Int × Int × Int) (most : Int) (h_c : InV c) (h_most : InI most) : P_umbraref25_Color (s_umbraref25_Color c most) := by
  unfold s_umbraref25_Color
  exact (lt_P fun r7 h8 => (lt_P fun r14 h15 => (lt_P fun r16 h17 => (lt_P fun r18 h19 => (lt_P fun r20 h21 => (lt_P fun r22 h23 => (lt_P fun r24 h25 => (show InV (r16, r20, r24) from ⟨(tr (P := fun r : Int => InI r) h17 (fdiv_I r14 r7)).out, (tr (P := fun r : Int => InI r) h21 (fdiv_I r18 r7)).out, (tr (P := fun r : Int => InI r) h25 (fdiv_I r22 r7)).out⟩))))))))

def e_umbralaw25_few (r : Int × Value) : Value := .agg #[.int .i64 r.1, r.2]
def s_umbralaw25_few (side : Int) (l : List (Int × Int × Int)) (A : Option Addr) (cap : Nat) : Int × Value :=
  lt (gmin (List.length l : Int) 260) fun x10 =>
  lt (List.take (Int.toNat x10) l) fun l12 =>
  (side, .slice A (List.length l12) cap)
set_option maxRecDepth 100000 in
set_option maxHeartbeats 4000000 in
theorem w_umbralaw25_few (side : Int) (l : List (Int × Int × Int)) (A : Option Addr) (cap : Nat) (w : World) (hR : Rd v3c 3 w A l) (hcap : List.length l ≤ cap) : Calls Try.prog 13 #[.agg #[.int .i64 side, .slice A (List.length l) cap]] w (Ret (e_umbralaw25_few (s_umbralaw25_few side l A cap)) w) := by
  obtain ⟨R, HR⟩ : ∃ R, e_umbralaw25_few (s_umbralaw25_few side l A cap) = R := ⟨_, rfl⟩
  rw [HR]
  unfold s_umbralaw25_few at HR
  have hM0 := St.start w
  refine calls_run Try.func13 rfl ?_
  refine R_seq (R_region (S_fresh none #[.int .i64 side, .slice A (List.length l) cap] 24 hM0 (by kernel_rfl) (fun g1 w2 hM3 => S_fresh none #[.int .i64 0, .slice none 0 0] 24 hM3 (by kernel_rfl) (fun g4 w5 hM6 => S_nil (R_seq (R_drawF 10 (by kernel_rfl) (fun F7 U8 hL9 => F_val (.pointer (some ⟨g1, 0, none⟩)) (fun _ => by kernel_rfl) (F_load 1 0 (.int .i64 side) hM6 (by kernel_rfl) (F_val (.pointer (some ⟨g1, 1, none⟩)) (fun _ => by kernel_rfl) (F_load 1 1 (.slice A (List.length l) cap) hM6 (by kernel_rfl) (F_val (.pointer (some ⟨g1, 1, none⟩)) (fun _ => by kernel_rfl) (?_))))))))))))
  refine F_load 1 1 (.slice A (List.length l) cap) hM6 (by kernel_rfl) (F_val (.int .i64 (List.length l : Int)) (fun _ => by kernel_rfl) (F_int (gmin (List.length l : Int) 260) .i64 (fun _ => by kernel_rfl) (fun x10 h11 => ?_)))
  have HR := hr_lt HR h11
  have hw_x10 := h11; rw [gmin_eq] at hw_x10
  refine F_cutX 36 A cap l x10 (by have := hcap; omega) (by kernel_rfl) (fun l12 h13 => F_val (.agg #[.int .i64 side, .slice A (List.length l12) cap]) (fun _ => by kernel_rfl) (F_nil hM6 hL9 (fun w14 hM15 => S_store 0 0 #[.int .i64 side, .slice A (List.length l12) cap] hM15 (by kernel_rfl) (fun w16 hM17 => S_nil (?_)))))
  have HR := hr_lt HR h13
  refine R_ret hM17 rfl (.cons (.cell _ _ 0 0 (.agg #[.int .i64 side, .slice A (List.length l12) cap]) (by kernel_rfl)) .nil) rfl ?_
  exact ⟨congrArg Ending.returned HR, hM17.below⟩

theorem few_w (side : Int) (l : List T3) {w : World} {A : Option Addr} {cap : Nat} (hR : Rd v3c 3 w A l) (hcap : List.length l ≤ cap) :
    Calls Try.prog 13 #[.agg #[.int .i64 side, .slice A (List.length l) cap]] w (Ret ((fun r : List T3 => .agg #[.int .i64 side, .slice A (List.length r) cap]) (List.take (Int.toNat (gmin (List.length l : Int) 260)) l)) w) := w_umbralaw25_few side l A cap w hR hcap
theorem rd3_of {w0 : Base} {w : World} {L : List Blk} (hM : St w0 L w) (i : Nat) (l : List T3) (hi : (L[i]?, (bAt L i).c) = (some (bAt L i), ⟨cellsT l⟩)) : Rd v3c 3 w (some ⟨(bAt L i).g, 0, none⟩) l := by
  simp only [Prod.mk.injEq] at hi
  have hg := hM.get hi.1
  unfold Blk.obj at hg
  rw [hi.2] at hg
  refine .inr ⟨_, _, _, _, _, rfl, hg, fun k hk j hj => ?_⟩
  obtain ⟨k0, k1, k2⟩ := cellsT_at l k hk
  rw [Nat.zero_add]
  match j, hj with
  | 0, _ => exact k0
  | 1, _ => exact k1
  | 2, _ => exact k2

def e_umbralaw25_works (r : Bool) : Value := .bool r
def s_umbralaw25_works  : Bool :=
  lt (s_texel_Sample 2 [(0, 0, 0), (255, 0, 0), (0, 0, 0), (255, 0, 0)] 32768 16384) fun r4 =>
  if r4.2 = 0 then
    if (r4.1 : Int × Int × Int) = (2147483648, 0, 0) then
      true
    else
      false
  else
    false
set_option maxRecDepth 100000 in
set_option maxHeartbeats 4000000 in
theorem w_umbralaw25_works  (w : World) : Calls Try.prog 16 #[] w (Ret (e_umbralaw25_works (s_umbralaw25_works )) w) := by
  obtain ⟨R, HR⟩ : ∃ R, e_umbralaw25_works (s_umbralaw25_works ) = R := ⟨_, rfl⟩
  rw [HR]
  unfold s_umbralaw25_works at HR
  have hM0 := St.start w
  refine calls_run Try.func16 rfl ?_
  refine R_seq (R_region (S_val (.bool false) (by kernel_rfl) (S_nil (R_seq (R_region (S_val (.agg #[.int .i64 0, .int .i64 0, .int .i64 0]) (by kernel_rfl) (S_val (.agg #[.int .i64 255, .int .i64 0, .int .i64 0]) (by kernel_rfl) (S_val (.agg #[.int .i64 0, .int .i64 0, .int .i64 0]) (by kernel_rfl) (S_val (.agg #[.int .i64 255, .int .i64 0, .int .i64 0]) (by kernel_rfl) (S_fresh (some 4) #[.int .i64 0, .int .i64 0, .int .i64 0, .int .i64 255, .int .i64 0, .int .i64 0, .int .i64 0, .int .i64 0, .int .i64 0, .int .i64 255, .int .i64 0, .int .i64 0] 36 hM0 (by kernel_rfl) (fun g1 w2 hM3 => S_val (.agg #[.int .i64 2, .slice (some ⟨g1, 0, none⟩) 4 4]) (by kernel_rfl) (?_))))))))))))
  refine S_call (s_texel_Sample 2 [(0, 0, 0), (255, 0, 0), (0, 0, 0), (255, 0, 0)] 32768 16384) (fun r : (Int × Int × Int) × Int => .tuple #[.agg #[.int .i64 r.1.1, .int .i64 r.1.2.1, .int .i64 r.1.2.2], .int .i64 r.2]) hM3 (w_texel_Sample 2 [(0, 0, 0), (255, 0, 0), (0, 0, 0), (255, 0, 0)] 32768 16384 w2 (some ⟨g1, 0, none⟩) 4 (rd3_of hM3 0 [(0, 0, 0), (255, 0, 0), (0, 0, 0), (255, 0, 0)] rfl) (by simp)) (by kernel_rfl) (fun r4 h5 w6 hM7 => S_val (.tuple #[.agg #[.int .i64 r4.1.1, .int .i64 r4.1.2.1, .int .i64 r4.1.2.2], .int .i64 r4.2]) (by kernel_rfl) (S_val (.agg #[.int .i64 r4.1.1, .int .i64 r4.1.2.1, .int .i64 r4.1.2.2]) (by kernel_rfl) (S_val (.int .i64 r4.2) (by kernel_rfl) (S_fresh none #[.int .i64 0, .int .i64 0, .int .i64 0] 29 hM7 (by kernel_rfl) (fun g8 w9 hM10 => S_store 0 0 #[.int .i64 r4.1.1, .int .i64 r4.1.2.1, .int .i64 r4.1.2.2] hM10 (by kernel_rfl) (fun w11 hM12 => S_val (.int .i64 r4.2) (by kernel_rfl) (S_nil (R_seq (R_region (S_val (.int .i64 r4.2) (by kernel_rfl) (?_)))))))))))
  have HR := hr_lt HR h5
  refine S_dec (r4.2 = 0) (by kernel_rfl) (fun c13 => ?_) (fun c13 => ?_)
  · refine S_val (.bool true) (by kernel_rfl) (S_load 0 0 (.agg #[.int .i64 r4.1.1, .int .i64 r4.1.2.1, .int .i64 r4.1.2.2]) hM12 (by kernel_rfl) (S_val (.agg #[.int .i64 2147483648, .int .i64 0, .int .i64 0]) (by kernel_rfl) (?_)))
    have HR := hr_pos HR c13
    refine S_dec ((r4.1 : Int × Int × Int) = (2147483648, 0, 0)) (eqv_umbra_api_Vec (x := r4.1) (y := (2147483648, 0, 0)) (by kernel_rfl) (by kernel_rfl) (by kernel_rfl)) (fun c14 => ?_) (fun c14 => ?_)
    · refine S_val (.bool true) (by kernel_rfl) (S_val (.bool true) (by kernel_rfl) (S_nil (?_)))
      have HR := hr_pos HR c14
      refine R_ret hM12 rfl (.cons (.tmp _ (.bool true) (by kernel_rfl)) .nil) rfl ?_
      exact ⟨congrArg Ending.returned HR, hM12.below⟩
    · refine S_val (.bool false) (by kernel_rfl) (S_val (.bool false) (by kernel_rfl) (S_nil (?_)))
      have HR := hr_neg HR c14
      refine R_ret hM12 rfl (.cons (.tmp _ (.bool false) (by kernel_rfl)) .nil) rfl ?_
      exact ⟨congrArg Ending.returned HR, hM12.below⟩
  · refine S_val (.bool false) (by kernel_rfl) (S_skip (by kernel_rfl) (S_skip (by kernel_rfl) (S_skip (by kernel_rfl) (S_val (.bool false) (by kernel_rfl) (S_val (.bool false) (by kernel_rfl) (S_nil (?_)))))))
    have HR := hr_neg HR c13
    refine R_ret hM12 rfl (.cons (.tmp _ (.bool false) (by kernel_rfl)) .nil) rfl ?_
    exact ⟨congrArg Ending.returned HR, hM12.below⟩

theorem works25w : s_umbralaw25_works = true := by decide +kernel

end Go.Proofs.Ytognbeejobfpfaa
