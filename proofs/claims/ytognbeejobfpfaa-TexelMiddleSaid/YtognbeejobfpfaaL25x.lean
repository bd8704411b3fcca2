/- Walks: TexelMiddle, TexelBetween, TexelSamples. -/
import Derived.Test.YtognbeejobfpfaaG25x
import Derived.Test.YtognbeejobfpfaaG25
namespace Go.Proofs.Ytognbeejobfpfaa
open Go.RowKit Go.Sort
set_option linter.unusedVariables false
set_option linter.unusedSimpArgs false

def e_texel_Color_1 (r : Int) : Value := .int .i64 r
def s_texel_Color_1 (most : Int) (n : Int) : Int :=
  lt (fof n) fun r4 =>
  lt (fof most) fun r6 =>
  lt (fdiv r4 r6) fun r8 =>
  r8
set_option maxRecDepth 100000 in
set_option maxHeartbeats 4000000 in
theorem w_texel_Color_1 (most : Int) (n : Int) (h_most : InI most) (h_n : InI n) (B0 : Nat) (T0 : TypeId) (fr0 : Nat × Nat) (w : World) (hB0 : Has B0 (.cells #[.int .i64 most] T0 fr0) w) : Calls Try.prog 47 #[.int .i64 n, .pointer (some ⟨B0, 0, none⟩)] w (Ret (e_texel_Color_1 (s_texel_Color_1 most n)) w) := by
  obtain ⟨R, HR⟩ : ∃ R, e_texel_Color_1 (s_texel_Color_1 most n) = R := ⟨_, rfl⟩
  rw [HR]
  unfold s_texel_Color_1 at HR
  have hM0 := St.start1 hB0
  refine calls_run Try.func47 rfl ?_
  refine R_seq (R_region (S_val (.int .i64 0) (by kernel_rfl) (S_nil (R_seq (R_drawF 6 (by kernel_rfl) (fun F1 U2 hL3 => F_val (.int .i64 n) (fun _ => by kernel_rfl) (F_call (fof n) (fun r : Int => .int .i64 r) hM0 hL3 (fun w' hM' => c_fix_Of n h_n w') (by kernel_rfl) (fun _ => by kernel_rfl) (fun r4 h5 => F_load 0 0 (.int .i64 most) hM0 (by kernel_rfl) (F_call (fof most) (fun r : Int => .int .i64 r) hM0 hL3 (fun w' hM' => c_fix_Of most h_most w') (by kernel_rfl) (fun _ => by kernel_rfl) (fun r6 h7 => F_call (fdiv r4 r6) (fun r : Int => .int .i64 r) hM0 hL3 (fun w' hM' => c_fix_Div r4 r6 ((tr (P := fun r : Int => InI r) h5 (fof_I n)).out) ((tr (P := fun r : Int => InI r) h7 (fof_I most)).out) w') (by kernel_rfl) (fun _ => by kernel_rfl) (fun r8 h9 => F_val (.int .i64 r8) (fun _ => by kernel_rfl) (?_))))))))))))
  have HR := hr_lt HR h5
  have HR := hr_lt HR h7
  have HR := hr_lt HR h9
  refine F_nil hM0 hL3 (fun w10 hM11 => S_nil (?_))
  refine R_ret hM11 rfl (.cons (.tmp _ (.int .i64 r8) (by kernel_rfl)) .nil) rfl ?_
  exact ⟨congrArg Ending.returned HR, hM11.below⟩

def P_texel_Color_1 (r : Int) : Prop := InI r
theorem i_texel_Color_1 (most : Int) (n : Int) (h_most : InI most) (h_n : InI n) : P_texel_Color_1 (s_texel_Color_1 most n) := by
  unfold s_texel_Color_1
  exact (lt_P fun r4 h5 => (lt_P fun r6 h7 => (lt_P fun r8 h9 => (show InI r8 from (tr (P := fun r : Int => InI r) h9 (fdiv_I r4 r6)).out))))

def e_texel_Color (r : Int × Int × Int) : Value := .agg #[.int .i64 r.1, .int .i64 r.2.1, .int .i64 r.2.2]
def s_texel_Color (c : Int × Int × Int) (most : Int) : Int × Int × Int :=
  lt (s_texel_Color_1 most c.1) fun r13 =>
  lt (s_texel_Color_1 most c.2.1) fun r15 =>
  lt (s_texel_Color_1 most c.2.2) fun r17 =>
  (r13, r15, r17)
set_option maxRecDepth 100000 in
set_option maxHeartbeats 4000000 in
theorem w_texel_Color (c : Int × Int × Int) (most : Int) (h_c : InV c) (h_most : InI most) (w : World) : Calls Try.prog 20 #[.agg #[.int .i64 c.1, .int .i64 c.2.1, .int .i64 c.2.2], .int .i64 most] w (Ret (e_texel_Color (s_texel_Color c most)) w) := by
  obtain ⟨R, HR⟩ : ∃ R, e_texel_Color (s_texel_Color c most) = R := ⟨_, rfl⟩
  rw [HR]
  unfold s_texel_Color at HR
  have hM0 := St.start w
  refine calls_run Try.func20 rfl ?_
  refine R_seq (R_region (S_fresh none #[.int .i64 c.1, .int .i64 c.2.1, .int .i64 c.2.2] 36 hM0 (by kernel_rfl) (fun g1 w2 hM3 => S_fresh none #[.int .i64 most] 3 hM3 (by kernel_rfl) (fun g4 w5 hM6 => S_fresh none #[.int .i64 0, .int .i64 0, .int .i64 0] 29 hM6 (by kernel_rfl) (fun g7 w8 hM9 => S_nil (R_seq (R_region (S_val (.func (.func 47) #[] #[.pointer (some ⟨g4, 0, none⟩)]) (by kernel_rfl) (S_val (.func (.func 47) #[] #[.pointer (some ⟨g4, 0, none⟩)]) (by kernel_rfl) (S_nil (R_seq (?_))))))))))))
  refine R_drawF 13 (by kernel_rfl) (fun F10 U11 hL12 => F_val (.func (.func 47) #[] #[.pointer (some ⟨g4, 0, none⟩)]) (fun _ => by kernel_rfl) (F_val (.pointer (some ⟨g1, 0, none⟩)) (fun _ => by kernel_rfl) (F_load 2 0 (.int .i64 c.1) hM9 (by kernel_rfl) (F_call (s_texel_Color_1 most c.1) (fun r : Int => .int .i64 r) hM9 hL12 (fun w' hM' => w_texel_Color_1 most c.1 h_most h_c.1 g4 _ _ w' (hM'.at 1 rfl)) (by kernel_rfl) (fun _ => by kernel_rfl) (fun r13 h14 => F_val (.func (.func 47) #[] #[.pointer (some ⟨g4, 0, none⟩)]) (fun _ => by kernel_rfl) (F_val (.pointer (some ⟨g1, 1, none⟩)) (fun _ => by kernel_rfl) (F_load 2 1 (.int .i64 c.2.1) hM9 (by kernel_rfl) (F_call (s_texel_Color_1 most c.2.1) (fun r : Int => .int .i64 r) hM9 hL12 (fun w' hM' => w_texel_Color_1 most c.2.1 h_most h_c.2.1 g4 _ _ w' (hM'.at 1 rfl)) (by kernel_rfl) (fun _ => by kernel_rfl) (fun r15 h16 => F_val (.func (.func 47) #[] #[.pointer (some ⟨g4, 0, none⟩)]) (fun _ => by kernel_rfl) (F_val (.pointer (some ⟨g1, 2, none⟩)) (fun _ => by kernel_rfl) (F_load 2 2 (.int .i64 c.2.2) hM9 (by kernel_rfl) (?_))))))))))))
  have HR := hr_lt HR h14
  have HR := hr_lt HR h16
  refine F_call (s_texel_Color_1 most c.2.2) (fun r : Int => .int .i64 r) hM9 hL12 (fun w' hM' => w_texel_Color_1 most c.2.2 h_most h_c.2.2 g4 _ _ w' (hM'.at 1 rfl)) (by kernel_rfl) (fun _ => by kernel_rfl) (fun r17 h18 => F_val (.agg #[.int .i64 r13, .int .i64 r15, .int .i64 r17]) (fun _ => by kernel_rfl) (F_nil hM9 hL12 (fun w19 hM20 => S_store 0 0 #[.int .i64 r13, .int .i64 r15, .int .i64 r17] hM20 (by kernel_rfl) (fun w21 hM22 => S_nil (?_)))))
  have HR := hr_lt HR h18
  refine R_ret hM22 rfl (.cons (.cell _ _ 0 0 (.agg #[.int .i64 r13, .int .i64 r15, .int .i64 r17]) (by kernel_rfl)) .nil) rfl ?_
  exact ⟨congrArg Ending.returned HR, hM22.below⟩

def P_texel_Color (r : Int × Int × Int) : Prop := InV r
theorem i_texel_Color (c : Int × Int × Int) (most : Int) (h_c : InV c) (h_most : InI most) : P_texel_Color (s_texel_Color c most) := by
  unfold s_texel_Color
  exact (lt_P fun r13 h14 => (lt_P fun r15 h16 => (lt_P fun r17 h18 => (show InV (r13, r15, r17) from ⟨(tr (P := fun r : Int => InI r) h14 (i_texel_Color_1 most c.1 h_most h_c.1)).out, (tr (P := fun r : Int => InI r) h16 (i_texel_Color_1 most c.2.1 h_most h_c.2.1)).out, (tr (P := fun r : Int => InI r) h18 (i_texel_Color_1 most c.2.2 h_most h_c.2.2)).out⟩))))

def e_umbraref25_Color (r : Int × Int × Int) : Value := .agg #[.int .i64 r.1, .int .i64 r.2.1, .int .i64 r.2.2]
def s_umbraref25_Color (c : Int × Int × Int) (most : Int) : Int × Int × Int :=
  lt (fof most) fun r7 =>
  lt (fof c.1) fun r14 =>
  lt (fdiv r14 r7) fun r16 =>
  lt (fof c.2.1) fun r18 =>
  lt (fdiv r18 r7) fun r20 =>
  lt (fof c.2.2) fun r22 =>
  lt (fdiv r22 r7) fun r24 =>
  (r16, r20, r24)
set_option maxRecDepth 100000 in
set_option maxHeartbeats 4000000 in
theorem w_umbraref25_Color (c : Int × Int × Int) (most : Int) (h_c : InV c) (h_most : InI most) (w : World) : Calls Try.prog 21 #[.agg #[.int .i64 c.1, .int .i64 c.2.1, .int .i64 c.2.2], .int .i64 most] w (Ret (e_umbraref25_Color (s_umbraref25_Color c most)) w) := by
  obtain ⟨R, HR⟩ : ∃ R, e_umbraref25_Color (s_umbraref25_Color c most) = R := ⟨_, rfl⟩
  rw [HR]
  unfold s_umbraref25_Color at HR
  have hM0 := St.start w
  refine calls_run Try.func21 rfl ?_
  refine R_seq (R_region (S_fresh none #[.int .i64 c.1, .int .i64 c.2.1, .int .i64 c.2.2] 36 hM0 (by kernel_rfl) (fun g1 w2 hM3 => S_fresh none #[.int .i64 0, .int .i64 0, .int .i64 0] 29 hM3 (by kernel_rfl) (fun g4 w5 hM6 => S_nil (R_seq (R_region (S_val (.int .i64 most) (by kernel_rfl) (S_call (fof most) (fun r : Int => .int .i64 r) hM6 (c_umbraref02_Of most h_most w5) (by kernel_rfl) (fun r7 h8 w9 hM10 => S_val (.int .i64 r7) (by kernel_rfl) (S_nil (R_seq (?_))))))))))))
  have HR := hr_lt HR h8
  refine R_drawF 16 (by kernel_rfl) (fun F11 U12 hL13 => F_val (.pointer (some ⟨g1, 0, none⟩)) (fun _ => by kernel_rfl) (F_load 1 0 (.int .i64 c.1) hM10 (by kernel_rfl) (F_call (fof c.1) (fun r : Int => .int .i64 r) hM10 hL13 (fun w' hM' => c_umbraref02_Of c.1 h_c.1 w') (by kernel_rfl) (fun _ => by kernel_rfl) (fun r14 h15 => F_val (.int .i64 r7) (fun _ => by kernel_rfl) (F_call (fdiv r14 r7) (fun r : Int => .int .i64 r) hM10 hL13 (fun w' hM' => c_umbraref02_Div r14 r7 ((tr (P := fun r : Int => InI r) h15 (fof_I c.1)).out) ((tr (P := fun r : Int => InI r) h8 (fof_I most)).out) w') (by kernel_rfl) (fun _ => by kernel_rfl) (fun r16 h17 => F_val (.pointer (some ⟨g1, 1, none⟩)) (fun _ => by kernel_rfl) (F_load 1 1 (.int .i64 c.2.1) hM10 (by kernel_rfl) (F_call (fof c.2.1) (fun r : Int => .int .i64 r) hM10 hL13 (fun w' hM' => c_umbraref02_Of c.2.1 h_c.2.1 w') (by kernel_rfl) (fun _ => by kernel_rfl) (fun r18 h19 => F_val (.int .i64 r7) (fun _ => by kernel_rfl) (F_call (fdiv r18 r7) (fun r : Int => .int .i64 r) hM10 hL13 (fun w' hM' => c_umbraref02_Div r18 r7 ((tr (P := fun r : Int => InI r) h19 (fof_I c.2.1)).out) ((tr (P := fun r : Int => InI r) h8 (fof_I most)).out) w') (by kernel_rfl) (fun _ => by kernel_rfl) (fun r20 h21 => F_val (.pointer (some ⟨g1, 2, none⟩)) (fun _ => by kernel_rfl) (?_))))))))))))
  have HR := hr_lt HR h15
  have HR := hr_lt HR h17
  have HR := hr_lt HR h19
  have HR := hr_lt HR h21
  refine F_load 1 2 (.int .i64 c.2.2) hM10 (by kernel_rfl) (F_call (fof c.2.2) (fun r : Int => .int .i64 r) hM10 hL13 (fun w' hM' => c_umbraref02_Of c.2.2 h_c.2.2 w') (by kernel_rfl) (fun _ => by kernel_rfl) (fun r22 h23 => F_val (.int .i64 r7) (fun _ => by kernel_rfl) (F_call (fdiv r22 r7) (fun r : Int => .int .i64 r) hM10 hL13 (fun w' hM' => c_umbraref02_Div r22 r7 ((tr (P := fun r : Int => InI r) h23 (fof_I c.2.2)).out) ((tr (P := fun r : Int => InI r) h8 (fof_I most)).out) w') (by kernel_rfl) (fun _ => by kernel_rfl) (fun r24 h25 => F_val (.agg #[.int .i64 r16, .int .i64 r20, .int .i64 r24]) (fun _ => by kernel_rfl) (F_nil hM10 hL13 (fun w26 hM27 => S_store 0 0 #[.int .i64 r16, .int .i64 r20, .int .i64 r24] hM27 (by kernel_rfl) (fun w28 hM29 => S_nil (?_))))))))
  have HR := hr_lt HR h23
  have HR := hr_lt HR h25
  refine R_ret hM29 rfl (.cons (.cell _ _ 0 0 (.agg #[.int .i64 r16, .int .i64 r20, .int .i64 r24]) (by kernel_rfl)) .nil) rfl ?_
  exact ⟨congrArg Ending.returned HR, hM29.below⟩

def P_umbraref25_Color (r : Int × Int × Int) : Prop := InV r
theorem i_umbraref25_Color (c : Int × Int × Int) (most : Int) (h_c : InV c) (h_most : InI most) : P_umbraref25_Color (s_umbraref25_Color c most) := by
  unfold s_umbraref25_Color
  exact (lt_P fun r7 h8 => (lt_P fun r14 h15 => (lt_P fun r16 h17 => (lt_P fun r18 h19 => (lt_P fun r20 h21 => (lt_P fun r22 h23 => (lt_P fun r24 h25 => (show InV (r16, r20, r24) from ⟨(tr (P := fun r : Int => InI r) h17 (fdiv_I r14 r7)).out, (tr (P := fun r : Int => InI r) h21 (fdiv_I r18 r7)).out, (tr (P := fun r : Int => InI r) h25 (fdiv_I r22 r7)).out⟩))))))))

def e_umbralaw25_few (r : Int × Value) : Value := .agg #[.int .i64 r.1, r.2]
def s_umbralaw25_few (side : Int) (l : List (Int × Int × Int)) (A : Option Addr) (cap : Nat) : Int × Value :=
  lt (gmin (List.length l : Int) 260) fun x10 =>
  lt (List.take (Int.toNat x10) l) fun l12 =>
  (side, .slice A (List.length l12) cap)
set_option maxRecDepth 100000 in
set_option maxHeartbeats 4000000 in
theorem w_umbralaw25_few (side : Int) (l : List (Int × Int × Int)) (A : Option Addr) (cap : Nat) (w : World) (hR : Rd v3c 3 w A l) (hcap : List.length l ≤ cap) : Calls Try.prog 13 #[.agg #[.int .i64 side, .slice A (List.length l) cap]] w (Ret (e_umbralaw25_few (s_umbralaw25_few side l A cap)) w) := by
  obtain ⟨R, HR⟩ : ∃ R, e_umbralaw25_few (s_umbralaw25_few side l A cap) = R := ⟨_, rfl⟩
  rw [HR]
  unfold s_umbralaw25_few at HR
  have hM0 := St.start w
  refine calls_run Try.func13 rfl ?_
  refine R_seq (R_region (S_fresh none #[.int .i64 side, .slice A (List.length l) cap] 24 hM0 (by kernel_rfl) (fun g1 w2 hM3 => S_fresh none #[.int .i64 0, .slice none 0 0] 24 hM3 (by kernel_rfl) (fun g4 w5 hM6 => S_nil (R_seq (R_drawF 10 (by kernel_rfl) (fun F7 U8 hL9 => F_val (.pointer (some ⟨g1, 0, none⟩)) (fun _ => by kernel_rfl) (F_load 1 0 (.int .i64 side) hM6 (by kernel_rfl) (F_val (.pointer (some ⟨g1, 1, none⟩)) (fun _ => by kernel_rfl) (F_load 1 1 (.slice A (List.length l) cap) hM6 (by kernel_rfl) (F_val (.pointer (some ⟨g1, 1, none⟩)) (fun _ => by kernel_rfl) (?_))))))))))))
  refine F_load 1 1 (.slice A (List.length l) cap) hM6 (by kernel_rfl) (F_val (.int .i64 (List.length l : Int)) (fun _ => by kernel_rfl) (F_int (gmin (List.length l : Int) 260) .i64 (fun _ => by kernel_rfl) (fun x10 h11 => ?_)))
  have HR := hr_lt HR h11
  have hw_x10 := h11; rw [gmin_eq] at hw_x10
  refine F_cutX 36 A cap l x10 (by have := hcap; omega) (by kernel_rfl) (fun l12 h13 => F_val (.agg #[.int .i64 side, .slice A (List.length l12) cap]) (fun _ => by kernel_rfl) (F_nil hM6 hL9 (fun w14 hM15 => S_store 0 0 #[.int .i64 side, .slice A (List.length l12) cap] hM15 (by kernel_rfl) (fun w16 hM17 => S_nil (?_)))))
  have HR := hr_lt HR h13
  refine R_ret hM17 rfl (.cons (.cell _ _ 0 0 (.agg #[.int .i64 side, .slice A (List.length l12) cap]) (by kernel_rfl)) .nil) rfl ?_
  exact ⟨congrArg Ending.returned HR, hM17.below⟩

theorem few_w (side : Int) (l : List T3) {w : World} {A : Option Addr} {cap : Nat} (hR : Rd v3c 3 w A l) (hcap : List.length l ≤ cap) :
    Calls Try.prog 13 #[.agg #[.int .i64 side, .slice A (List.length l) cap]] w (Ret ((fun r : List T3 => .agg #[.int .i64 side, .slice A (List.length r) cap]) (List.take (Int.toNat (gmin (List.length l : Int) 260)) l)) w) := w_umbralaw25_few side l A cap w hR hcap

def e_umbralaw25_TexelMiddle (r : Bool) : Value := .bool r
def s_umbralaw25_TexelMiddle (side : Int) (l : List (Int × Int × Int)) (x : Int) (y : Int) : Bool :=
  lt (List.take (Int.toNat (gmin (List.length l : Int) 260)) l) fun r4 =>
  lt (s_texture_Check side r4) fun r10 =>
  if r10 = 0 then
    lt (IntKind.i64.wrap x) fun x23 =>
    lt (Int.tmod x23 side) fun x25 =>
    lt (IntKind.i64.wrap y) fun x27 =>
    lt (Int.tmod x27 side) fun x29 =>
    lt (IntKind.i64.wrap (2 * x25)) fun x36 =>
    lt (IntKind.i64.wrap (x36 + 1)) fun x38 =>
    lt (IntKind.i64.wrap (x38 * 32768)) fun x40 =>
    lt (IntKind.i64.wrap (Int.tdiv x40 side)) fun x42 =>
    lt (IntKind.i64.wrap (2 * x29)) fun x44 =>
    lt (IntKind.i64.wrap (x44 + 1)) fun x46 =>
    lt (IntKind.i64.wrap (x46 * 32768)) fun x48 =>
    lt (IntKind.i64.wrap (Int.tdiv x48 side)) fun x50 =>
    lt (s_texel_Sample side r4 x42 x50) fun r52 =>
    lt (s_texture_At side r4 x25 x29) fun r62 =>
    if r52.2 = 0 then
      if r62.2 = 0 then
        lt (s_texel_Color r62.1 255) fun r76 =>
        if (r52.1 : Int × Int × Int) = r76 then
          lt (s_umbralaw25_works ) fun r79 =>
          if r79 = true then
            true
          else
            false
        else
          false
      else
        false
    else
      false
  else
    lt (s_umbralaw25_works ) fun r15 =>
    if r15 = true then
      true
    else
      false
set_option maxRecDepth 100000 in
set_option maxHeartbeats 4000000 in
theorem w_umbralaw25_TexelMiddle (side : Int) (l : List (Int × Int × Int)) (x : Int) (y : Int) (h_x : InU8 x) (h_y : InU8 y) (w : World) (A : Option Addr) (cap : Nat) (hR : Rd v3c 3 w A l) (hcap : List.length l ≤ cap) (hI : ∀ x ∈ l, InV x) : Calls Try.prog 5 #[.agg #[.int .i64 side, .slice A (List.length l) cap], .int .u8 x, .int .u8 y] w (Ret (e_umbralaw25_TexelMiddle (s_umbralaw25_TexelMiddle side l x y)) w) := by
  obtain ⟨R, HR⟩ : ∃ R, e_umbralaw25_TexelMiddle (s_umbralaw25_TexelMiddle side l x y) = R := ⟨_, rfl⟩
  rw [HR]
  unfold s_umbralaw25_TexelMiddle at HR
  have hM0 := St.start w
  refine calls_run Try.func5 rfl ?_
  refine R_seq (R_region (S_fresh none #[.int .i64 side, .slice A (List.length l) cap] 24 hM0 (by kernel_rfl) (fun g1 w2 hM3 => S_val (.bool false) (by kernel_rfl) (S_nil (R_seq (R_region (S_load 0 0 (.agg #[.int .i64 side, .slice A (List.length l) cap]) hM3 (by kernel_rfl) (S_call (List.take (Int.toNat (gmin (List.length l : Int) 260)) l) (fun r : List (Int × Int × Int) => .agg #[.int .i64 side, .slice A (List.length r) cap]) hM3 (few_w side l (Rd.stay hR (St.below hM3)) hcap) (by kernel_rfl) (fun r4 h5 w6 hM7 => S_store 0 0 #[.int .i64 side, .slice A (List.length r4) cap] hM7 (by kernel_rfl) (fun w8 hM9 => S_nil (R_seq (?_))))))))))))
  have HR := hr_lt HR h5
  refine R_seq (R_region (S_load 0 0 (.agg #[.int .i64 side, .slice A (List.length r4) cap]) hM9 (by kernel_rfl) (S_call (s_texture_Check side r4) (fun r : Int => .int .i64 r) hM9 (w_texture_Check side r4 w8 A cap (Rd.stay (Rd.cutE hR h5) (St.below hM9)) (few_le h5)) (by kernel_rfl) (fun r10 h11 w12 hM13 => ?_))))
  have HR := hr_lt HR h11
  refine S_decn (r10 = 0) (by kernel_rfl) (fun c14 => ?_) (fun c14 => ?_)
  · refine S_nil (R_yes (by kernel_rfl) (R_seq (R_region (S_call (s_umbralaw25_works ) (fun r : Bool => .bool r) hM13 (w_umbralaw25_works  w12) (by kernel_rfl) (fun r15 h16 w17 hM18 => ?_)))))
    have HR := hr_neg HR c14
    have HR := hr_lt HR h16
    cases r15
    · refine S_val (.bool false) (by kernel_rfl) (S_nil (?_))
      have HR := hr_neg HR Bool.false_ne_true
      refine R_ret hM18 rfl (.cons (.tmp _ (.bool false) (by kernel_rfl)) .nil) rfl ?_
      exact ⟨congrArg Ending.returned HR, hM18.below⟩
    · refine S_val (.bool true) (by kernel_rfl) (S_nil (?_))
      have HR := hr_pos HR rfl
      refine R_ret hM18 rfl (.cons (.tmp _ (.bool true) (by kernel_rfl)) .nil) rfl ?_
      exact ⟨congrArg Ending.returned HR, hM18.below⟩
  · refine S_nil (R_no (by kernel_rfl) (R_skip (R_seq (R_drawF 12 (by kernel_rfl) (fun F20 U21 hL22 => F_val (.int .u8 x) (fun _ => by kernel_rfl) (F_int (IntKind.i64.wrap x) .i64 (fun _ => by kernel_rfl) (fun x23 h24 => F_val (.pointer (some ⟨g1, 0, none⟩)) (fun _ => by kernel_rfl) (F_load 0 0 (.int .i64 side) hM13 (by kernel_rfl) (F_int (Int.tmod x23 side) .i64 (fun _ => rem_run (SqT.ne (check_sq (h11.trans c14))) (by kernel_rfl) _) (fun x25 h26 => F_val (.int .u8 y) (fun _ => by kernel_rfl) (F_int (IntKind.i64.wrap y) .i64 (fun _ => by kernel_rfl) (fun x27 h28 => ?_))))))))))))
    have HR := hr_pos HR c14
    have HR := hr_lt HR h24
    have HR := hr_lt HR h26
    have HR := hr_lt HR h28
    refine F_val (.pointer (some ⟨g1, 0, none⟩)) (fun _ => by kernel_rfl) (F_load 0 0 (.int .i64 side) hM13 (by kernel_rfl) (F_int (Int.tmod x27 side) .i64 (fun _ => rem_run (SqT.ne (check_sq (h11.trans c14))) (by kernel_rfl) _) (fun x29 h30 => F_val (.int .i64 x25) (fun _ => by kernel_rfl) (F_val (.int .i64 x29) (fun _ => by kernel_rfl) (F_nil hM13 hL22 (fun w31 hM32 => S_nil (R_seq (R_drawG 22 (by kernel_rfl) (fun F33 U34 hL35 => G_load 0 0 (.agg #[.int .i64 side, .slice A (List.length r4) cap]) hM32 (by kernel_rfl) (G_val (.int .i64 x25) (fun _ => by kernel_rfl) (G_int (IntKind.i64.wrap (2 * x25)) .i64 (fun _ => by kernel_rfl) (fun x36 h37 => ?_))))))))))))
    have HR := hr_lt HR h30
    have HR := hr_lt HR h37
    refine G_int (IntKind.i64.wrap (x36 + 1)) .i64 (fun _ => by kernel_rfl) (fun x38 h39 => G_int (IntKind.i64.wrap (x38 * 32768)) .i64 (fun _ => by kernel_rfl) (fun x40 h41 => G_val (.pointer (some ⟨g1, 0, none⟩)) (fun _ => by kernel_rfl) (G_load 0 0 (.int .i64 side) hM32 (by kernel_rfl) (G_int (IntKind.i64.wrap (Int.tdiv x40 side)) .i64 (fun _ => quo_run (SqT.ne (check_sq (h11.trans c14))) (by kernel_rfl) _) (fun x42 h43 => G_val (.int .i64 x29) (fun _ => by kernel_rfl) (G_int (IntKind.i64.wrap (2 * x29)) .i64 (fun _ => by kernel_rfl) (fun x44 h45 => G_int (IntKind.i64.wrap (x44 + 1)) .i64 (fun _ => by kernel_rfl) (fun x46 h47 => G_int (IntKind.i64.wrap (x46 * 32768)) .i64 (fun _ => by kernel_rfl) (fun x48 h49 => G_val (.pointer (some ⟨g1, 0, none⟩)) (fun _ => by kernel_rfl) (G_load 0 0 (.int .i64 side) hM32 (by kernel_rfl) (G_int (IntKind.i64.wrap (Int.tdiv x48 side)) .i64 (fun _ => quo_run (SqT.ne (check_sq (h11.trans c14))) (by kernel_rfl) _) (fun x50 h51 => ?_))))))))))))
    have HR := hr_lt HR h39
    have HR := hr_lt HR h41
    have HR := hr_lt HR h43
    have HR := hr_lt HR h45
    have HR := hr_lt HR h47
    have HR := hr_lt HR h49
    have HR := hr_lt HR h51
    refine G_call (s_texel_Sample side r4 x42 x50) (fun r : (Int × Int × Int) × Int => .tuple #[.agg #[.int .i64 r.1.1, .int .i64 r.1.2.1, .int .i64 r.1.2.2], .int .i64 r.2]) hM32 hL35 (fun w' hM' => w_texel_Sample side r4 x42 x50 w' A cap (Rd.stay (Rd.cutE hR h5) (St.below hM')) (few_le h5)) (by kernel_rfl) (fun _ => by kernel_rfl) (fun r52 h53 => G_val (.tuple #[.agg #[.int .i64 r52.1.1, .int .i64 r52.1.2.1, .int .i64 r52.1.2.2], .int .i64 r52.2]) (fun _ => by kernel_rfl) (G_val (.agg #[.int .i64 r52.1.1, .int .i64 r52.1.2.1, .int .i64 r52.1.2.2]) (fun _ => by kernel_rfl) (G_val (.int .i64 r52.2) (fun _ => by kernel_rfl) (G_fresh none #[.int .i64 0, .int .i64 0, .int .i64 0] 29 hL35 (by kernel_rfl) (fun _ => by kernel_rfl) (fun g54 F55 U56 hL57 => G_store 0 0 #[.int .i64 r52.1.1, .int .i64 r52.1.2.1, .int .i64 r52.1.2.2] hL57 (by kernel_rfl) (by kernel_rfl) (fun F58 hL59 => G_val (.int .i64 r52.2) (fun _ => by kernel_rfl) (G_nil hM32 hL59 (fun w60 hM61 => S_nil (R_seq (R_region (S_load 1 0 (.agg #[.int .i64 side, .slice A (List.length r4) cap]) hM61 (by kernel_rfl) (?_))))))))))))
    have HR := hr_lt HR h53
    refine S_val (.int .i64 x25) (by kernel_rfl) (S_val (.int .i64 x29) (by kernel_rfl) (S_call (s_texture_At side r4 x25 x29) (fun r : (Int × Int × Int) × Int => .tuple #[.agg #[.int .i64 r.1.1, .int .i64 r.1.2.1, .int .i64 r.1.2.2], .int .i64 r.2]) hM61 (w_texture_At side r4 x25 x29 w60 A cap (Rd.stay (Rd.cutE hR h5) (St.below hM61)) (few_le h5)) (by kernel_rfl) (fun r62 h63 w64 hM65 => S_val (.tuple #[.agg #[.int .i64 r62.1.1, .int .i64 r62.1.2.1, .int .i64 r62.1.2.2], .int .i64 r62.2]) (by kernel_rfl) (S_val (.agg #[.int .i64 r62.1.1, .int .i64 r62.1.2.1, .int .i64 r62.1.2.2]) (by kernel_rfl) (S_val (.int .i64 r62.2) (by kernel_rfl) (S_fresh none #[.int .i64 0, .int .i64 0, .int .i64 0] 36 hM65 (by kernel_rfl) (fun g66 w67 hM68 => S_store 0 0 #[.int .i64 r62.1.1, .int .i64 r62.1.2.1, .int .i64 r62.1.2.2] hM68 (by kernel_rfl) (fun w69 hM70 => S_val (.int .i64 r62.2) (by kernel_rfl) (S_nil (R_seq (R_drawF 16 (by kernel_rfl) (fun F71 U72 hL73 => ?_))))))))))))
    have HR := hr_lt HR h63
    refine F_val (.int .i64 r52.2) (fun _ => by kernel_rfl) (?_)
    refine F_dec (r52.2 = 0) (fun _ => by kernel_rfl) (fun c74 => ?_) (fun c74 => ?_)
    · refine F_val (.bool true) (fun _ => by kernel_rfl) (F_val (.int .i64 r62.2) (fun _ => by kernel_rfl) (?_))
      have HR := hr_pos HR c74
      refine F_dec (r62.2 = 0) (fun _ => by kernel_rfl) (fun c75 => ?_) (fun c75 => ?_)
      · refine F_val (.bool true) (fun _ => by kernel_rfl) (F_val (.bool true) (fun _ => by kernel_rfl) (F_load 1 0 (.agg #[.int .i64 r52.1.1, .int .i64 r52.1.2.1, .int .i64 r52.1.2.2]) hM70 (by kernel_rfl) (F_load 0 0 (.agg #[.int .i64 r62.1.1, .int .i64 r62.1.2.1, .int .i64 r62.1.2.2]) hM70 (by kernel_rfl) (F_call (s_texel_Color r62.1 255) (fun r : Int × Int × Int => .agg #[.int .i64 r.1, .int .i64 r.2.1, .int .i64 r.2.2]) hM70 hL73 (fun w' hM' => w_texel_Color r62.1 255 ((tr (P := fun r : (Int × Int × Int) × Int => (InV r.1 ∧ InI r.2)) h63 (At_I (fewI hI h5) _ _)).out.1) (show InI 255 from by unfold InI; omega) w') (by kernel_rfl) (fun _ => by kernel_rfl) (fun r76 h77 => ?_)))))
        have HR := hr_pos HR c75
        have HR := hr_lt HR h77
        refine F_dec ((r52.1 : Int × Int × Int) = r76) (fun _ => eqv_umbra_api_Vec (x := r52.1) (y := r76) (by kernel_rfl) (by kernel_rfl) (by kernel_rfl)) (fun c78 => ?_) (fun c78 => ?_)
        · refine F_val (.bool true) (fun _ => by kernel_rfl) (F_val (.bool true) (fun _ => by kernel_rfl) (F_call (s_umbralaw25_works ) (fun r : Bool => .bool r) hM70 hL73 (fun w' hM' => w_umbralaw25_works  w') (by kernel_rfl) (fun _ => by kernel_rfl) (fun r79 h80 => ?_)))
          have HR := hr_pos HR c78
          have HR := hr_lt HR h80
          cases r79
          · refine F_val (.bool false) (fun _ => by kernel_rfl) (F_val (.bool false) (fun _ => by kernel_rfl) (F_nil hM70 hL73 (fun w81 hM82 => S_nil (?_))))
            have HR := hr_neg HR Bool.false_ne_true
            refine R_ret hM82 rfl (.cons (.tmp _ (.bool false) (by kernel_rfl)) .nil) rfl ?_
            exact ⟨congrArg Ending.returned HR, hM82.below⟩
          · refine F_val (.bool true) (fun _ => by kernel_rfl) (F_val (.bool true) (fun _ => by kernel_rfl) (F_nil hM70 hL73 (fun w83 hM84 => S_nil (?_))))
            have HR := hr_pos HR rfl
            refine R_ret hM84 rfl (.cons (.tmp _ (.bool true) (by kernel_rfl)) .nil) rfl ?_
            exact ⟨congrArg Ending.returned HR, hM84.below⟩
        · refine F_val (.bool false) (fun _ => by kernel_rfl) (F_val (.bool false) (fun _ => by kernel_rfl) (F_skip (by kernel_rfl) (F_val (.bool false) (fun _ => by kernel_rfl) (F_val (.bool false) (fun _ => by kernel_rfl) (F_nil hM70 hL73 (fun w86 hM87 => S_nil (?_)))))))
          have HR := hr_neg HR c78
          refine R_ret hM87 rfl (.cons (.tmp _ (.bool false) (by kernel_rfl)) .nil) rfl ?_
          exact ⟨congrArg Ending.returned HR, hM87.below⟩
      · refine F_val (.bool false) (fun _ => by kernel_rfl) (F_val (.bool false) (fun _ => by kernel_rfl) (F_skip (by kernel_rfl) (F_skip (by kernel_rfl) (F_skip (by kernel_rfl) (F_skip (by kernel_rfl) (F_val (.bool false) (fun _ => by kernel_rfl) (F_val (.bool false) (fun _ => by kernel_rfl) (F_skip (by kernel_rfl) (F_val (.bool false) (fun _ => by kernel_rfl) (F_val (.bool false) (fun _ => by kernel_rfl) (F_nil hM70 hL73 (fun w88 hM89 => ?_))))))))))))
        have HR := hr_neg HR c75
        refine S_nil (?_)
        refine R_ret hM89 rfl (.cons (.tmp _ (.bool false) (by kernel_rfl)) .nil) rfl ?_
        exact ⟨congrArg Ending.returned HR, hM89.below⟩
    · refine F_val (.bool false) (fun _ => by kernel_rfl) (F_skip (by kernel_rfl) (F_skip (by kernel_rfl) (F_val (.bool false) (fun _ => by kernel_rfl) (F_val (.bool false) (fun _ => by kernel_rfl) (F_skip (by kernel_rfl) (F_skip (by kernel_rfl) (F_skip (by kernel_rfl) (F_skip (by kernel_rfl) (F_val (.bool false) (fun _ => by kernel_rfl) (F_val (.bool false) (fun _ => by kernel_rfl) (F_skip (by kernel_rfl) (?_))))))))))))
      have HR := hr_neg HR c74
      refine F_val (.bool false) (fun _ => by kernel_rfl) (F_val (.bool false) (fun _ => by kernel_rfl) (F_nil hM70 hL73 (fun w90 hM91 => S_nil (?_))))
      refine R_ret hM91 rfl (.cons (.tmp _ (.bool false) (by kernel_rfl)) .nil) rfl ?_
      exact ⟨congrArg Ending.returned HR, hM91.below⟩

def e_umbralaw25_TexelSamples (r : Bool) : Value := .bool r
def s_umbralaw25_TexelSamples (side : Int) (l : List (Int × Int × Int)) (two : Int × Int) (c : Int × Int × Int × Int) : Bool :=
  lt (List.take (Int.toNat (gmin (List.length l : Int) 260)) l) fun r10 =>
  lt (s_texel_Sample side r10 two.1 two.2) fun r16 =>
  lt (s_umbraref25_Sample side r10 two.1 two.2) fun r25 =>
  if (r16.1 : Int × Int × Int) = r25.1 then
    if r16.2 = r25.2 then
      lt (s_texel_Color (c.1, c.2.1, c.2.2.1) c.2.2.2) fun r44 =>
      lt (s_umbraref25_Color (c.1, c.2.1, c.2.2.1) c.2.2.2) fun r46 =>
      if (r44 : Int × Int × Int) = r46 then
        lt (s_umbralaw25_works ) fun r49 =>
        if r49 = true then
          true
        else
          false
      else
        false
    else
      false
  else
    false
set_option maxRecDepth 100000 in
set_option maxHeartbeats 4000000 in
theorem w_umbralaw25_TexelSamples (side : Int) (l : List (Int × Int × Int)) (two : Int × Int) (c : Int × Int × Int × Int) (h_two : (InI two.1 ∧ InI two.2)) (h_c : InM c) (w : World) (A : Option Addr) (cap : Nat) (hR : Rd v3c 3 w A l) (hcap : List.length l ≤ cap) (hI : ∀ x ∈ l, InV x) : Calls Try.prog 4 #[.agg #[.int .i64 side, .slice A (List.length l) cap], .agg #[.int .i64 two.1, .int .i64 two.2], .agg #[.int .i64 c.1, .int .i64 c.2.1, .int .i64 c.2.2.1, .int .i64 c.2.2.2]] w (Ret (e_umbralaw25_TexelSamples (s_umbralaw25_TexelSamples side l two c)) w) := by
  obtain ⟨R, HR⟩ : ∃ R, e_umbralaw25_TexelSamples (s_umbralaw25_TexelSamples side l two c) = R := ⟨_, rfl⟩
  rw [HR]
  unfold s_umbralaw25_TexelSamples at HR
  have hM0 := St.start w
  refine calls_run Try.func4 rfl ?_
  refine R_seq (R_region (S_fresh none #[.int .i64 side, .slice A (List.length l) cap] 24 hM0 (by kernel_rfl) (fun g1 w2 hM3 => S_fresh none #[.int .i64 two.1, .int .i64 two.2] 40 hM3 (by kernel_rfl) (fun g4 w5 hM6 => S_fresh none #[.int .i64 c.1, .int .i64 c.2.1, .int .i64 c.2.2.1, .int .i64 c.2.2.2] 41 hM6 (by kernel_rfl) (fun g7 w8 hM9 => S_val (.bool false) (by kernel_rfl) (S_nil (R_seq (R_region (S_load 2 0 (.agg #[.int .i64 side, .slice A (List.length l) cap]) hM9 (by kernel_rfl) (S_call (List.take (Int.toNat (gmin (List.length l : Int) 260)) l) (fun r : List (Int × Int × Int) => .agg #[.int .i64 side, .slice A (List.length r) cap]) hM9 (few_w side l (Rd.stay hR (St.below hM9)) hcap) (by kernel_rfl) (fun r10 h11 w12 hM13 => S_store 2 0 #[.int .i64 side, .slice A (List.length r10) cap] hM13 (by kernel_rfl) (fun w14 hM15 => ?_))))))))))))
  have HR := hr_lt HR h11
  refine S_nil (R_seq (R_region (S_load 2 0 (.agg #[.int .i64 side, .slice A (List.length r10) cap]) hM15 (by kernel_rfl) (S_val (.pointer (some ⟨g4, 0, none⟩)) (by kernel_rfl) (S_load 1 0 (.int .i64 two.1) hM15 (by kernel_rfl) (S_val (.pointer (some ⟨g4, 1, none⟩)) (by kernel_rfl) (S_load 1 1 (.int .i64 two.2) hM15 (by kernel_rfl) (S_call (s_texel_Sample side r10 two.1 two.2) (fun r : (Int × Int × Int) × Int => .tuple #[.agg #[.int .i64 r.1.1, .int .i64 r.1.2.1, .int .i64 r.1.2.2], .int .i64 r.2]) hM15 (w_texel_Sample side r10 two.1 two.2 w14 A cap (Rd.stay (Rd.cutE hR h11) (St.below hM15)) (few_le h11)) (by kernel_rfl) (fun r16 h17 w18 hM19 => S_val (.tuple #[.agg #[.int .i64 r16.1.1, .int .i64 r16.1.2.1, .int .i64 r16.1.2.2], .int .i64 r16.2]) (by kernel_rfl) (S_val (.agg #[.int .i64 r16.1.1, .int .i64 r16.1.2.1, .int .i64 r16.1.2.2]) (by kernel_rfl) (S_val (.int .i64 r16.2) (by kernel_rfl) (?_))))))))))))
  have HR := hr_lt HR h17
  refine S_fresh none #[.int .i64 0, .int .i64 0, .int .i64 0] 29 hM19 (by kernel_rfl) (fun g20 w21 hM22 => S_store 0 0 #[.int .i64 r16.1.1, .int .i64 r16.1.2.1, .int .i64 r16.1.2.2] hM22 (by kernel_rfl) (fun w23 hM24 => S_val (.int .i64 r16.2) (by kernel_rfl) (S_nil (R_seq (R_region (S_load 3 0 (.agg #[.int .i64 side, .slice A (List.length r10) cap]) hM24 (by kernel_rfl) (S_val (.pointer (some ⟨g4, 0, none⟩)) (by kernel_rfl) (S_load 2 0 (.int .i64 two.1) hM24 (by kernel_rfl) (S_val (.pointer (some ⟨g4, 1, none⟩)) (by kernel_rfl) (S_load 2 1 (.int .i64 two.2) hM24 (by kernel_rfl) (S_call (s_umbraref25_Sample side r10 two.1 two.2) (fun r : (Int × Int × Int) × Int => .tuple #[.agg #[.int .i64 r.1.1, .int .i64 r.1.2.1, .int .i64 r.1.2.2], .int .i64 r.2]) hM24 (w_umbraref25_Sample side r10 two.1 two.2 w23 A cap (Rd.stay (Rd.cutE hR h11) (St.below hM24)) (few_le h11)) (by kernel_rfl) (fun r25 h26 w27 hM28 => ?_))))))))))))
  have HR := hr_lt HR h26
  refine S_val (.tuple #[.agg #[.int .i64 r25.1.1, .int .i64 r25.1.2.1, .int .i64 r25.1.2.2], .int .i64 r25.2]) (by kernel_rfl) (S_val (.agg #[.int .i64 r25.1.1, .int .i64 r25.1.2.1, .int .i64 r25.1.2.2]) (by kernel_rfl) (S_val (.int .i64 r25.2) (by kernel_rfl) (S_fresh none #[.int .i64 0, .int .i64 0, .int .i64 0] 29 hM28 (by kernel_rfl) (fun g29 w30 hM31 => S_store 0 0 #[.int .i64 r25.1.1, .int .i64 r25.1.2.1, .int .i64 r25.1.2.2] hM31 (by kernel_rfl) (fun w32 hM33 => S_val (.int .i64 r25.2) (by kernel_rfl) (S_nil (R_seq (R_region (S_val (.pointer (some ⟨g7, 0, none⟩)) (by kernel_rfl) (S_load 2 0 (.int .i64 c.1) hM33 (by kernel_rfl) (S_val (.pointer (some ⟨g7, 1, none⟩)) (by kernel_rfl) (?_))))))))))))
  refine S_load 2 1 (.int .i64 c.2.1) hM33 (by kernel_rfl) (S_val (.pointer (some ⟨g7, 2, none⟩)) (by kernel_rfl) (S_load 2 2 (.int .i64 c.2.2.1) hM33 (by kernel_rfl) (S_val (.agg #[.int .i64 c.1, .int .i64 c.2.1, .int .i64 c.2.2.1]) (by kernel_rfl) (S_fresh none #[.int .i64 0, .int .i64 0, .int .i64 0] 36 hM33 (by kernel_rfl) (fun g34 w35 hM36 => S_store 0 0 #[.int .i64 c.1, .int .i64 c.2.1, .int .i64 c.2.2.1] hM36 (by kernel_rfl) (fun w37 hM38 => S_nil (R_seq (R_drawF 23 (by kernel_rfl) (fun F39 U40 hL41 => F_load 2 0 (.agg #[.int .i64 r16.1.1, .int .i64 r16.1.2.1, .int .i64 r16.1.2.2]) hM38 (by kernel_rfl) (F_load 1 0 (.agg #[.int .i64 r25.1.1, .int .i64 r25.1.2.1, .int .i64 r25.1.2.2]) hM38 (by kernel_rfl) (?_)))))))))))
  refine F_dec ((r16.1 : Int × Int × Int) = r25.1) (fun _ => eqv_umbra_api_Vec (x := r16.1) (y := r25.1) (by kernel_rfl) (by kernel_rfl) (by kernel_rfl)) (fun c42 => ?_) (fun c42 => ?_)
  · refine F_val (.bool true) (fun _ => by kernel_rfl) (F_val (.int .i64 r16.2) (fun _ => by kernel_rfl) (F_val (.int .i64 r25.2) (fun _ => by kernel_rfl) (?_)))
    have HR := hr_pos HR c42
    refine F_dec (r16.2 = r25.2) (fun _ => by kernel_rfl) (fun c43 => ?_) (fun c43 => ?_)
    · refine F_val (.bool true) (fun _ => by kernel_rfl) (F_val (.bool true) (fun _ => by kernel_rfl) (F_load 0 0 (.agg #[.int .i64 c.1, .int .i64 c.2.1, .int .i64 c.2.2.1]) hM38 (by kernel_rfl) (F_val (.pointer (some ⟨g7, 3, none⟩)) (fun _ => by kernel_rfl) (F_load 3 3 (.int .i64 c.2.2.2) hM38 (by kernel_rfl) (F_call (s_texel_Color (c.1, c.2.1, c.2.2.1) c.2.2.2) (fun r : Int × Int × Int => .agg #[.int .i64 r.1, .int .i64 r.2.1, .int .i64 r.2.2]) hM38 hL41 (fun w' hM' => w_texel_Color (c.1, c.2.1, c.2.2.1) c.2.2.2 (⟨h_c.1, h_c.2.1, h_c.2.2.1⟩) h_c.2.2.2 w') (by kernel_rfl) (fun _ => by kernel_rfl) (fun r44 h45 => F_load 0 0 (.agg #[.int .i64 c.1, .int .i64 c.2.1, .int .i64 c.2.2.1]) hM38 (by kernel_rfl) (F_val (.pointer (some ⟨g7, 3, none⟩)) (fun _ => by kernel_rfl) (F_load 3 3 (.int .i64 c.2.2.2) hM38 (by kernel_rfl) (F_call (s_umbraref25_Color (c.1, c.2.1, c.2.2.1) c.2.2.2) (fun r : Int × Int × Int => .agg #[.int .i64 r.1, .int .i64 r.2.1, .int .i64 r.2.2]) hM38 hL41 (fun w' hM' => w_umbraref25_Color (c.1, c.2.1, c.2.2.1) c.2.2.2 (⟨h_c.1, h_c.2.1, h_c.2.2.1⟩) h_c.2.2.2 w') (by kernel_rfl) (fun _ => by kernel_rfl) (fun r46 h47 => ?_))))))))))
      have HR := hr_pos HR c43
      have HR := hr_lt HR h45
      have HR := hr_lt HR h47
      refine F_dec ((r44 : Int × Int × Int) = r46) (fun _ => eqv_umbra_api_Vec (x := r44) (y := r46) (by kernel_rfl) (by kernel_rfl) (by kernel_rfl)) (fun c48 => ?_) (fun c48 => ?_)
      · refine F_val (.bool true) (fun _ => by kernel_rfl) (F_val (.bool true) (fun _ => by kernel_rfl) (F_call (s_umbralaw25_works ) (fun r : Bool => .bool r) hM38 hL41 (fun w' hM' => w_umbralaw25_works  w') (by kernel_rfl) (fun _ => by kernel_rfl) (fun r49 h50 => ?_)))
        have HR := hr_pos HR c48
        have HR := hr_lt HR h50
        cases r49
        · refine F_val (.bool false) (fun _ => by kernel_rfl) (F_val (.bool false) (fun _ => by kernel_rfl) (F_nil hM38 hL41 (fun w51 hM52 => S_nil (?_))))
          have HR := hr_neg HR Bool.false_ne_true
          refine R_ret hM52 rfl (.cons (.tmp _ (.bool false) (by kernel_rfl)) .nil) rfl ?_
          exact ⟨congrArg Ending.returned HR, hM52.below⟩
        · refine F_val (.bool true) (fun _ => by kernel_rfl) (F_val (.bool true) (fun _ => by kernel_rfl) (F_nil hM38 hL41 (fun w53 hM54 => S_nil (?_))))
          have HR := hr_pos HR rfl
          refine R_ret hM54 rfl (.cons (.tmp _ (.bool true) (by kernel_rfl)) .nil) rfl ?_
          exact ⟨congrArg Ending.returned HR, hM54.below⟩
      · refine F_val (.bool false) (fun _ => by kernel_rfl) (F_val (.bool false) (fun _ => by kernel_rfl) (F_skip (by kernel_rfl) (F_val (.bool false) (fun _ => by kernel_rfl) (F_val (.bool false) (fun _ => by kernel_rfl) (F_nil hM38 hL41 (fun w56 hM57 => S_nil (?_)))))))
        have HR := hr_neg HR c48
        refine R_ret hM57 rfl (.cons (.tmp _ (.bool false) (by kernel_rfl)) .nil) rfl ?_
        exact ⟨congrArg Ending.returned HR, hM57.below⟩
    · refine F_val (.bool false) (fun _ => by kernel_rfl) (F_val (.bool false) (fun _ => by kernel_rfl) (F_skip (by kernel_rfl) (F_skip (by kernel_rfl) (F_skip (by kernel_rfl) (F_skip (by kernel_rfl) (F_skip (by kernel_rfl) (F_skip (by kernel_rfl) (F_skip (by kernel_rfl) (F_skip (by kernel_rfl) (F_skip (by kernel_rfl) (F_val (.bool false) (fun _ => by kernel_rfl) (?_))))))))))))
      have HR := hr_neg HR c43
      refine F_val (.bool false) (fun _ => by kernel_rfl) (F_skip (by kernel_rfl) (F_val (.bool false) (fun _ => by kernel_rfl) (F_val (.bool false) (fun _ => by kernel_rfl) (F_nil hM38 hL41 (fun w58 hM59 => S_nil (?_))))))
      refine R_ret hM59 rfl (.cons (.tmp _ (.bool false) (by kernel_rfl)) .nil) rfl ?_
      exact ⟨congrArg Ending.returned HR, hM59.below⟩
  · refine F_val (.bool false) (fun _ => by kernel_rfl) (F_skip (by kernel_rfl) (F_skip (by kernel_rfl) (F_skip (by kernel_rfl) (F_val (.bool false) (fun _ => by kernel_rfl) (F_val (.bool false) (fun _ => by kernel_rfl) (F_skip (by kernel_rfl) (F_skip (by kernel_rfl) (F_skip (by kernel_rfl) (F_skip (by kernel_rfl) (F_skip (by kernel_rfl) (F_skip (by kernel_rfl) (?_))))))))))))
    have HR := hr_neg HR c42
    refine F_skip (by kernel_rfl) (F_skip (by kernel_rfl) (F_skip (by kernel_rfl) (F_val (.bool false) (fun _ => by kernel_rfl) (F_val (.bool false) (fun _ => by kernel_rfl) (F_skip (by kernel_rfl) (F_val (.bool false) (fun _ => by kernel_rfl) (F_val (.bool false) (fun _ => by kernel_rfl) (F_nil hM38 hL41 (fun w60 hM61 => S_nil (?_))))))))))
    refine R_ret hM61 rfl (.cons (.tmp _ (.bool false) (by kernel_rfl)) .nil) rfl ?_
    exact ⟨congrArg Ending.returned HR, hM61.below⟩

def e_umbralaw25_TexelBetween (r : Bool) : Value := .bool r
def L10_umbralaw25_TexelBetween_2 (side : Int) (l : List (Int × Int × Int)) (u : Int) (v : Int) (r4 : List (Int × Int × Int)) (r14 : (Int × Int × Int) × Int) : Nat → (Int) → (Int) → (Int) → Bool
  | 0, _, _, _ => default
  | f143 + 1, k140, lo141, hi142 =>
    if k140 < (List.length r4 : Int) then
      lt (gmin lo141 ((gd zero3 r4 k140).2.2)) fun x160 =>
      lt (gmax hi142 ((gd zero3 r4 k140).2.2)) fun x162 =>
      lt (IntKind.i64.wrap (k140 + 1)) fun x166 =>
      L10_umbralaw25_TexelBetween_2 side l u v r4 r14 f143 x166 x160 x162
    else
      lt (fof lo141) fun r168 =>
      lt (fof 255) fun r172 =>
      lt (fdiv r168 r172) fun r176 =>
      if r14.1.2.2 < r176 then
        false
      else
        lt (fof hi142) fun r181 =>
        lt (fof 255) fun r185 =>
        lt (fdiv r181 r185) fun r189 =>
        if r14.1.2.2 > r189 then
          false
        else
          lt (s_umbralaw25_works ) fun r194 =>
          if r194 = true then
            true
          else
            false
def L10_umbralaw25_TexelBetween_1 (side : Int) (l : List (Int × Int × Int)) (u : Int) (v : Int) (r4 : List (Int × Int × Int)) (r14 : (Int × Int × Int) × Int) : Nat → (Int) → (Int) → (Int) → Bool
  | 0, _, _, _ => default
  | f89 + 1, k86, lo87, hi88 =>
    if k86 < (List.length r4 : Int) then
      lt (gmin lo87 ((gd zero3 r4 k86).2.1)) fun x106 =>
      lt (gmax hi88 ((gd zero3 r4 k86).2.1)) fun x108 =>
      lt (IntKind.i64.wrap (k86 + 1)) fun x112 =>
      L10_umbralaw25_TexelBetween_1 side l u v r4 r14 f89 x112 x106 x108
    else
      lt (fof lo87) fun r114 =>
      lt (fof 255) fun r118 =>
      lt (fdiv r114 r118) fun r122 =>
      if r14.1.2.1 < r122 then
        false
      else
        lt (fof hi88) fun r127 =>
        lt (fof 255) fun r131 =>
        lt (fdiv r127 r131) fun r135 =>
        if r14.1.2.1 > r135 then
          false
        else
          L10_umbralaw25_TexelBetween_2 side l u v r4 r14 (Int.toNat ((List.length r4 : Int) - 0) + 1) 0 255 0
def L10_umbralaw25_TexelBetween_0 (side : Int) (l : List (Int × Int × Int)) (u : Int) (v : Int) (r4 : List (Int × Int × Int)) (r14 : (Int × Int × Int) × Int) : Nat → (Int) → (Int) → (Int) → Bool
  | 0, _, _, _ => default
  | f35 + 1, k, lo, hi =>
    if k < (List.length r4 : Int) then
      lt (gmin lo ((gd zero3 r4 k).1)) fun x52 =>
      lt (gmax hi ((gd zero3 r4 k).1)) fun x54 =>
      lt (IntKind.i64.wrap (k + 1)) fun x58 =>
      L10_umbralaw25_TexelBetween_0 side l u v r4 r14 f35 x58 x52 x54
    else
      lt (fof lo) fun r60 =>
      lt (fof 255) fun r64 =>
      lt (fdiv r60 r64) fun r68 =>
      if r14.1.1 < r68 then
        false
      else
        lt (fof hi) fun r73 =>
        lt (fof 255) fun r77 =>
        lt (fdiv r73 r77) fun r81 =>
        if r14.1.1 > r81 then
          false
        else
          L10_umbralaw25_TexelBetween_1 side l u v r4 r14 (Int.toNat ((List.length r4 : Int) - 0) + 1) 0 255 0
def s_umbralaw25_TexelBetween (side : Int) (l : List (Int × Int × Int)) (u : Int) (v : Int) : Bool :=
  lt (List.take (Int.toNat (gmin (List.length l : Int) 260)) l) fun r4 =>
  lt (IntKind.i64.wrap u) fun x10 =>
  lt (IntKind.i64.wrap v) fun x12 =>
  lt (s_texel_Sample side r4 x10 x12) fun r14 =>
  if r14.2 = 0 then
    L10_umbralaw25_TexelBetween_0 side l u v r4 r14 (Int.toNat ((List.length r4 : Int) - 0) + 1) 0 255 0
  else
    lt (s_texture_Check side r4) fun r24 =>
    if r14.2 = r24 then
      if (r14.1 : Int × Int × Int) = (0, 0, 0) then
        lt (s_umbralaw25_works ) fun r30 =>
        if r30 = true then
          true
        else
          false
      else
        false
    else
      false
set_option maxRecDepth 100000 in
set_option maxHeartbeats 4000000 in
theorem w_umbralaw25_TexelBetween (side : Int) (l : List (Int × Int × Int)) (u : Int) (v : Int) (h_u : InU16 u) (h_v : InU16 v) (w : World) (A : Option Addr) (cap : Nat) (hR : Rd v3c 3 w A l) (hcap : List.length l ≤ cap) (hI : ∀ x ∈ l, InV x) : Calls Try.prog 3 #[.agg #[.int .i64 side, .slice A (List.length l) cap], .int .u16 u, .int .u16 v] w (Ret (e_umbralaw25_TexelBetween (s_umbralaw25_TexelBetween side l u v)) w) := by
  obtain ⟨R, HR⟩ : ∃ R, e_umbralaw25_TexelBetween (s_umbralaw25_TexelBetween side l u v) = R := ⟨_, rfl⟩
  rw [HR]
  unfold s_umbralaw25_TexelBetween at HR
  have hM0 := St.start w
  refine calls_run Try.func3 rfl ?_
  refine R_seq (R_region (S_fresh none #[.int .i64 side, .slice A (List.length l) cap] 24 hM0 (by kernel_rfl) (fun g1 w2 hM3 => S_val (.bool false) (by kernel_rfl) (S_nil (R_seq (R_region (S_load 0 0 (.agg #[.int .i64 side, .slice A (List.length l) cap]) hM3 (by kernel_rfl) (S_call (List.take (Int.toNat (gmin (List.length l : Int) 260)) l) (fun r : List (Int × Int × Int) => .agg #[.int .i64 side, .slice A (List.length r) cap]) hM3 (few_w side l (Rd.stay hR (St.below hM3)) hcap) (by kernel_rfl) (fun r4 h5 w6 hM7 => S_store 0 0 #[.int .i64 side, .slice A (List.length r4) cap] hM7 (by kernel_rfl) (fun w8 hM9 => S_nil (R_seq (?_))))))))))))
  have HR := hr_lt HR h5
  refine R_region (S_load 0 0 (.agg #[.int .i64 side, .slice A (List.length r4) cap]) hM9 (by kernel_rfl) (S_val (.int .u16 u) (by kernel_rfl) (S_int (IntKind.i64.wrap u) .i64 (by kernel_rfl) (fun x10 h11 => S_val (.int .u16 v) (by kernel_rfl) (S_int (IntKind.i64.wrap v) .i64 (by kernel_rfl) (fun x12 h13 => S_call (s_texel_Sample side r4 x10 x12) (fun r : (Int × Int × Int) × Int => .tuple #[.agg #[.int .i64 r.1.1, .int .i64 r.1.2.1, .int .i64 r.1.2.2], .int .i64 r.2]) hM9 (w_texel_Sample side r4 x10 x12 w8 A cap (Rd.stay (Rd.cutE hR h5) (St.below hM9)) (few_le h5)) (by kernel_rfl) (fun r14 h15 w16 hM17 => S_val (.tuple #[.agg #[.int .i64 r14.1.1, .int .i64 r14.1.2.1, .int .i64 r14.1.2.2], .int .i64 r14.2]) (by kernel_rfl) (S_val (.agg #[.int .i64 r14.1.1, .int .i64 r14.1.2.1, .int .i64 r14.1.2.2]) (by kernel_rfl) (S_val (.int .i64 r14.2) (by kernel_rfl) (S_fresh none #[.int .i64 0, .int .i64 0, .int .i64 0] 29 hM17 (by kernel_rfl) (fun g18 w19 hM20 => S_store 0 0 #[.int .i64 r14.1.1, .int .i64 r14.1.2.1, .int .i64 r14.1.2.2] hM20 (by kernel_rfl) (fun w21 hM22 => ?_))))))))))))
  have HR := hr_lt HR h11
  have HR := hr_lt HR h13
  have HR := hr_lt HR h15
  refine S_val (.int .i64 r14.2) (by kernel_rfl) (S_nil (R_seq (R_seq (R_region (S_val (.int .i64 r14.2) (by kernel_rfl) (?_))))))
  refine S_decn (r14.2 = 0) (by kernel_rfl) (fun c23 => ?_) (fun c23 => ?_)
  · refine S_nil (R_yes (by kernel_rfl) (R_seq (R_region (S_val (.int .i64 r14.2) (by kernel_rfl) (S_load 1 0 (.agg #[.int .i64 side, .slice A (List.length r4) cap]) hM22 (by kernel_rfl) (S_call (s_texture_Check side r4) (fun r : Int => .int .i64 r) hM22 (w_texture_Check side r4 w21 A cap (Rd.stay (Rd.cutE hR h5) (St.below hM22)) (few_le h5)) (by kernel_rfl) (fun r24 h25 w26 hM27 => ?_)))))))
    have HR := hr_neg HR c23
    have HR := hr_lt HR h25
    refine S_dec (r14.2 = r24) (by kernel_rfl) (fun c28 => ?_) (fun c28 => ?_)
    · refine S_val (.bool true) (by kernel_rfl) (S_load 0 0 (.agg #[.int .i64 r14.1.1, .int .i64 r14.1.2.1, .int .i64 r14.1.2.2]) hM27 (by kernel_rfl) (S_val (.agg #[.int .i64 0, .int .i64 0, .int .i64 0]) (by kernel_rfl) (?_)))
      have HR := hr_pos HR c28
      refine S_dec ((r14.1 : Int × Int × Int) = (0, 0, 0)) (eqv_umbra_api_Vec (x := r14.1) (y := (0, 0, 0)) (by kernel_rfl) (by kernel_rfl) (by kernel_rfl)) (fun c29 => ?_) (fun c29 => ?_)
      · refine S_val (.bool true) (by kernel_rfl) (S_val (.bool true) (by kernel_rfl) (S_call (s_umbralaw25_works ) (fun r : Bool => .bool r) hM27 (w_umbralaw25_works  w26) (by kernel_rfl) (fun r30 h31 w32 hM33 => ?_)))
        have HR := hr_pos HR c29
        have HR := hr_lt HR h31
        cases r30
        · refine S_val (.bool false) (by kernel_rfl) (S_val (.bool false) (by kernel_rfl) (S_nil (?_)))
          have HR := hr_neg HR Bool.false_ne_true
          refine R_ret hM33 rfl (.cons (.tmp _ (.bool false) (by kernel_rfl)) .nil) rfl ?_
          exact ⟨congrArg Ending.returned HR, hM33.below⟩
        · refine S_val (.bool true) (by kernel_rfl) (S_val (.bool true) (by kernel_rfl) (S_nil (?_)))
          have HR := hr_pos HR rfl
          refine R_ret hM33 rfl (.cons (.tmp _ (.bool true) (by kernel_rfl)) .nil) rfl ?_
          exact ⟨congrArg Ending.returned HR, hM33.below⟩
      · refine S_val (.bool false) (by kernel_rfl) (S_val (.bool false) (by kernel_rfl) (S_skip (by kernel_rfl) (S_val (.bool false) (by kernel_rfl) (S_val (.bool false) (by kernel_rfl) (S_nil (?_))))))
        have HR := hr_neg HR c29
        refine R_ret hM27 rfl (.cons (.tmp _ (.bool false) (by kernel_rfl)) .nil) rfl ?_
        exact ⟨congrArg Ending.returned HR, hM27.below⟩
    · refine S_val (.bool false) (by kernel_rfl) (S_skip (by kernel_rfl) (S_skip (by kernel_rfl) (S_skip (by kernel_rfl) (S_val (.bool false) (by kernel_rfl) (S_val (.bool false) (by kernel_rfl) (S_skip (by kernel_rfl) (S_val (.bool false) (by kernel_rfl) (S_val (.bool false) (by kernel_rfl) (S_nil (?_))))))))))
      have HR := hr_neg HR c28
      refine R_ret hM27 rfl (.cons (.tmp _ (.bool false) (by kernel_rfl)) .nil) rfl ?_
      exact ⟨congrArg Ending.returned HR, hM27.below⟩
  · refine S_nil (R_no (by kernel_rfl) (R_skip (R_seq (R_seq (R_region (S_val (.pointer (some ⟨g18, 0, none⟩)) (by kernel_rfl) (S_load 0 0 (.int .i64 r14.1.1) hM22 (by kernel_rfl) (S_val (.pointer (some ⟨g18, 1, none⟩)) (by kernel_rfl) (S_load 0 1 (.int .i64 r14.1.2.1) hM22 (by kernel_rfl) (S_val (.pointer (some ⟨g18, 2, none⟩)) (by kernel_rfl) (S_load 0 2 (.int .i64 r14.1.2.2) hM22 (by kernel_rfl) (?_))))))))))))
    have HR := hr_pos HR c23
    refine S_val (.agg #[.int .i64 r14.1.1, .int .i64 r14.1.2.1, .int .i64 r14.1.2.2]) (by kernel_rfl) (S_val (.int .i64 0) (by kernel_rfl) (S_nil (R_block (R_loop (R_seq (R_region (S_val (.bool true) (by kernel_rfl) (S_nil (R_seq (R_yes (by kernel_rfl) (R_skip (?_))))))))))))
    refine R_seq (R_block (R_seq (R_region (S_val (.int .i64 0) (by kernel_rfl) (S_val (.int .i64 r14.1.1) (by kernel_rfl) (S_val (.int .i64 0) (by kernel_rfl) (S_val (.int .i64 r14.1.1) (by kernel_rfl) (S_nil (R_seq (R_region (S_val (.int .i64 255) (by kernel_rfl) (?_))))))))))))
    refine S_val (.int .i64 0) (by kernel_rfl) (S_nil (R_seq (R_seq (R_region (S_val (.pointer (some ⟨g1, 1, none⟩)) (by kernel_rfl) (S_load 1 1 (.slice A (List.length r4) cap) hM22 (by kernel_rfl) (S_val (.int .i64 (List.length r4 : Int)) (by kernel_rfl) (S_val (.int .i64 0) (by kernel_rfl) (S_nil (R_block (?_)))))))))))
    have hle := (few_le h5)
    refine R_fuel (fun m36 a37 w38 => ∃ (k : Int) (lo : Int) (hi : Int) (u1 : List Value), a37 = { tmps := #[.agg #[.int .i64 side, .slice A (List.length l) cap], .int .u16 u, .int .u16 v, .pointer (some ⟨g1, 0, none⟩), undef, undef, .bool false, .pointer (some ⟨g18, 0, none⟩), .int .i64 r14.2, .int .i64 0, .int .i64 r14.1.1, .int .i64 lo, .int .i64 hi, undef, (gv u1 0), .agg #[.int .i64 side, .slice A (List.length l) cap], .agg #[.int .i64 side, .slice A (List.length r4) cap], .tuple #[.agg #[.int .i64 r14.1.1, .int .i64 r14.1.2.1, .int .i64 r14.1.2.2], .int .i64 r14.2], .agg #[.int .i64 side, .slice A (List.length r4) cap], .int .u16 u, .int .i64 x10, .int .u16 v, .int .i64 x12, .tuple #[.agg #[.int .i64 r14.1.1, .int .i64 r14.1.2.1, .int .i64 r14.1.2.2], .int .i64 r14.2], .agg #[.int .i64 r14.1.1, .int .i64 r14.1.2.1, .int .i64 r14.1.2.2], .int .i64 r14.2, .int .i64 r14.2, .bool false, undef, undef, undef, undef, undef, undef, undef, undef, undef, undef, undef, undef, .pointer (some ⟨g18, 0, none⟩), .int .i64 r14.1.1, .pointer (some ⟨g18, 1, none⟩), .int .i64 r14.1.2.1, .pointer (some ⟨g18, 2, none⟩), .int .i64 r14.1.2.2, .agg #[.int .i64 r14.1.1, .int .i64 r14.1.2.1, .int .i64 r14.1.2.2], .int .i64 0, .bool true, .int .i64 0, .int .i64 r14.1.1, .pointer (some ⟨g1, 1, none⟩), .slice A (List.length r4) cap, .int .i64 (List.length r4 : Int), .int .i64 k, (gv u1 1), (gv u1 2), (gv u1 3), (gv u1 4), (gv u1 5), (gv u1 6), (gv u1 7), (gv u1 8), (gv u1 9), (gv u1 10), (gv u1 11), (gv u1 12), (gv u1 13), (gv u1 14), undef, undef, undef, undef, undef, undef, undef, undef, undef, undef, undef, undef, undef, undef, undef, undef], defers := [] } ∧ St w [⟨g18, #[.int .i64 r14.1.1, .int .i64 r14.1.2.1, .int .i64 r14.1.2.2], 29, (0, 0), true⟩, ⟨g1, #[.int .i64 side, .slice A (List.length r4) cap], 24, (0, 0), true⟩] w38 ∧ (List.length r4 : Int) - k < (m36 : Int) ∧ (InI k) ∧ (InI lo) ∧ (InI hi) ∧ ((0 ≤ k ∧ k ≤ (List.length r4 : Int))) ∧ e_umbralaw25_TexelBetween (L10_umbralaw25_TexelBetween_0 side l u v r4 r14 m36 k lo hi) = R) (Int.toNat ((List.length r4 : Int) - 0) + 1) ⟨0, 255, 0, [undef, undef, undef, undef, undef, undef, undef, undef, undef, undef, undef, undef, undef, undef, undef], by kernel_rfl, hM22, by omega, (show InI 0 from by unfold InI; omega), (show InI 255 from by unfold InI; omega), (show InI 0 from by unfold InI; omega), (by omega), HR⟩ ?_
    rintro m36 a37 w38 ⟨k, lo, hi, u1, rfl, hM39, hmu3, hI_k, hI_lo, hI_hi, hk, HR⟩ hnext40
    obtain ⟨f35, rfl⟩ : ∃ f, m36 = f + 1 := ⟨m36 - 1, by omega⟩
    rw [L10_umbralaw25_TexelBetween_0] at HR
    refine R_seq (R_region (?_))
    refine S_dec (k < (List.length r4 : Int)) (by kernel_rfl) (fun c41 => ?_) (fun c41 => ?_)
    · refine S_nil (R_seq (R_yes (by kernel_rfl) (R_skip (R_seq (R_block (R_seq (R_region (?_))))))))
      have HR := hr_pos HR c41
      obtain ⟨b42, off43, rfl⟩ := Rd.op (i := k) (Rd.cutE hR h5) (by omega)
      refine S_idx 36 3 b42 off43 (List.length r4) cap k (by omega) (by kernel_rfl) (S_loadX v3c 3 zero3 k 0 b42 off43 (.agg #[.int .i64 ((gd zero3 r4 k).1), .int .i64 ((gd zero3 r4 k).2.1), .int .i64 ((gd zero3 r4 k).2.2)]) hM39 (Rd.cutE hR h5) v3c_len (by omega) (by kernel_rfl) (S_fresh none #[.int .i64 0, .int .i64 0, .int .i64 0] 36 hM39 (by kernel_rfl) (fun g44 w45 hM46 => S_store 0 0 #[.int .i64 ((gd zero3 r4 k).1), .int .i64 ((gd zero3 r4 k).2.1), .int .i64 ((gd zero3 r4 k).2.2)] hM46 (by kernel_rfl) (fun w47 hM48 => S_nil (R_drawF 12 (by kernel_rfl) (fun F49 U50 hL51 => F_val (.int .i64 lo) (fun _ => by kernel_rfl) (F_val (.int .i64 0) (fun _ => by kernel_rfl) (F_val (.pointer (some ⟨g44, 0, none⟩)) (fun _ => by kernel_rfl) (F_load 0 0 (.int .i64 ((gd zero3 r4 k).1)) hM48 (by kernel_rfl) (F_int (gmin lo ((gd zero3 r4 k).1)) .i64 (fun _ => by kernel_rfl) (fun x52 h53 => F_val (.int .i64 hi) (fun _ => by kernel_rfl) (?_))))))))))))
      have HR := hr_lt HR h53
      refine F_val (.int .i64 0) (fun _ => by kernel_rfl) (F_val (.pointer (some ⟨g44, 0, none⟩)) (fun _ => by kernel_rfl) (F_load 0 0 (.int .i64 ((gd zero3 r4 k).1)) hM48 (by kernel_rfl) (F_int (gmax hi ((gd zero3 r4 k).1)) .i64 (fun _ => by kernel_rfl) (fun x54 h55 => F_val (.int .i64 x52) (fun _ => by kernel_rfl) (F_val (.int .i64 x54) (fun _ => by kernel_rfl) (F_nil hM48 hL51 (fun w56 hM57 => S_nil (R_inBlock (R_region (S_int (IntKind.i64.wrap (k + 1)) .i64 (by kernel_rfl) (fun x58 h59 => S_val (.int .i64 x58) (by kernel_rfl) (?_))))))))))))
      have HR := hr_lt HR h55
      have HR := hr_lt HR h59
      refine S_nil (?_)
      have hw_x58 := h59; rw [wrI] at hw_x58; unfold wrap64 at hw_x58
      have hw_x52 := h53; rw [gmin_eq] at hw_x52
      have hw_x54 := h55; rw [gmax_eq] at hw_x54
      exact hnext40 f35 _ _ (Nat.lt_succ_self _) ⟨x58, x52, x54, [.pointer (some ⟨g44, 0, none⟩), .bool true, .pointer (some ⟨b42, off43 + Int.toNat k * 3 + 0, none⟩), .agg #[.int .i64 ((gd zero3 r4 k).1), .int .i64 ((gd zero3 r4 k).2.1), .int .i64 ((gd zero3 r4 k).2.2)], .int .i64 lo, .int .i64 0, .pointer (some ⟨g44, 0, none⟩), .int .i64 ((gd zero3 r4 k).1), .int .i64 x52, .int .i64 hi, .int .i64 0, .pointer (some ⟨g44, 0, none⟩), .int .i64 ((gd zero3 r4 k).1), .int .i64 x54, .int .i64 x58], by kernel_rfl, hM57.off, by omega, (wr_i64 h59), (tr (P := InI) h53 (gmin_InI hI_lo (gdI (fewI hI h5) (by omega)).1)).out, (tr (P := InI) h55 (gmax_InI hI_hi (gdI (fewI hI h5) (by omega)).1)).out, (by omega), HR⟩
    · refine S_nil (R_seq (R_no (by kernel_rfl) (R_exit rfl (R_seq (R_region (S_val (.int .i64 r14.1.1) (by kernel_rfl) (S_val (.int .i64 lo) (by kernel_rfl) (S_call (fof lo) (fun r : Int => .int .i64 r) hM39 (c_fix_Of lo hI_lo w38) (by kernel_rfl) (fun r60 h61 w62 hM63 => S_call (fof 255) (fun r : Int => .int .i64 r) hM63 (c_fix_Of 255 (show InI 255 from by unfold InI; omega) w62) (by kernel_rfl) (fun r64 h65 w66 hM67 => S_call (fdiv r60 r64) (fun r : Int => .int .i64 r) hM67 (c_fix_Div r60 r64 ((tr (P := fun r : Int => InI r) h61 (fof_I lo)).out) ((tr (P := fun r : Int => InI r) h65 (fof_I 255)).out) w66) (by kernel_rfl) (fun r68 h69 w70 hM71 => ?_)))))))))))
      have HR := hr_neg HR c41
      have HR := hr_lt HR h61
      have HR := hr_lt HR h65
      have HR := hr_lt HR h69
      refine S_dec (r14.1.1 < r68) (by kernel_rfl) (fun c72 => ?_) (fun c72 => ?_)
      · refine S_val (.bool true) (by kernel_rfl) (S_skip (by kernel_rfl) (S_skip (by kernel_rfl) (S_skip (by kernel_rfl) (S_skip (by kernel_rfl) (S_skip (by kernel_rfl) (S_skip (by kernel_rfl) (S_val (.bool true) (by kernel_rfl) (S_nil (R_yes (by kernel_rfl) (R_seq (R_region (?_))))))))))))
        have HR := hr_pos HR c72
        refine S_val (.bool false) (by kernel_rfl) (S_nil (?_))
        refine R_ret hM71 rfl (.cons (.tmp _ (.bool false) (by kernel_rfl)) .nil) rfl ?_
        exact ⟨congrArg Ending.returned HR, hM71.below⟩
      · refine S_val (.bool false) (by kernel_rfl) (S_val (.int .i64 r14.1.1) (by kernel_rfl) (S_val (.int .i64 hi) (by kernel_rfl) (S_call (fof hi) (fun r : Int => .int .i64 r) hM71 (c_fix_Of hi hI_hi w70) (by kernel_rfl) (fun r73 h74 w75 hM76 => S_call (fof 255) (fun r : Int => .int .i64 r) hM76 (c_fix_Of 255 (show InI 255 from by unfold InI; omega) w75) (by kernel_rfl) (fun r77 h78 w79 hM80 => S_call (fdiv r73 r77) (fun r : Int => .int .i64 r) hM80 (c_fix_Div r73 r77 ((tr (P := fun r : Int => InI r) h74 (fof_I hi)).out) ((tr (P := fun r : Int => InI r) h78 (fof_I 255)).out) w79) (by kernel_rfl) (fun r81 h82 w83 hM84 => ?_))))))
        have HR := hr_neg HR c72
        have HR := hr_lt HR h74
        have HR := hr_lt HR h78
        have HR := hr_lt HR h82
        refine S_dec (r14.1.1 > r81) (by kernel_rfl) (fun c85 => ?_) (fun c85 => ?_)
        · refine S_val (.bool true) (by kernel_rfl) (S_nil (R_yes (by kernel_rfl) (R_seq (R_region (S_val (.bool false) (by kernel_rfl) (S_nil (?_)))))))
          have HR := hr_pos HR c85
          refine R_ret hM84 rfl (.cons (.tmp _ (.bool false) (by kernel_rfl)) .nil) rfl ?_
          exact ⟨congrArg Ending.returned HR, hM84.below⟩
        · refine S_val (.bool false) (by kernel_rfl) (S_nil (R_no (by kernel_rfl) (R_skip (R_inBlock (R_region (S_val (.int .i64 1) (by kernel_rfl) (S_val (.int .i64 1) (by kernel_rfl) (S_nil (R_inLoop (R_seq (R_region (?_))))))))))))
          have HR := hr_neg HR c85
          refine S_val (.bool true) (by kernel_rfl) (S_nil (R_seq (R_yes (by kernel_rfl) (R_skip (R_seq (R_block (R_seq (R_region (S_val (.int .i64 1) (by kernel_rfl) (S_val (.int .i64 r14.1.2.1) (by kernel_rfl) (S_val (.int .i64 1) (by kernel_rfl) (?_))))))))))))
          refine S_val (.int .i64 r14.1.2.1) (by kernel_rfl) (S_nil (R_seq (R_region (S_val (.int .i64 255) (by kernel_rfl) (S_val (.int .i64 0) (by kernel_rfl) (S_nil (R_seq (R_seq (R_region (S_val (.pointer (some ⟨g1, 1, none⟩)) (by kernel_rfl) (S_load 1 1 (.slice A (List.length r4) cap) hM84 (by kernel_rfl) (?_))))))))))))
          refine S_val (.int .i64 (List.length r4 : Int)) (by kernel_rfl) (S_val (.int .i64 0) (by kernel_rfl) (S_nil (R_block (?_))))
          have hle := (few_le h5)
          refine R_fuel (fun m90 a91 w92 => ∃ (k86 : Int) (lo87 : Int) (hi88 : Int) (u2 : List Value), a91 = { tmps := #[.agg #[.int .i64 side, .slice A (List.length l) cap], .int .u16 u, .int .u16 v, .pointer (some ⟨g1, 0, none⟩), undef, undef, .bool false, .pointer (some ⟨g18, 0, none⟩), .int .i64 r14.2, .int .i64 1, .int .i64 r14.1.2.1, .int .i64 lo87, .int .i64 hi88, undef, (gv u2 0), .agg #[.int .i64 side, .slice A (List.length l) cap], .agg #[.int .i64 side, .slice A (List.length r4) cap], .tuple #[.agg #[.int .i64 r14.1.1, .int .i64 r14.1.2.1, .int .i64 r14.1.2.2], .int .i64 r14.2], .agg #[.int .i64 side, .slice A (List.length r4) cap], .int .u16 u, .int .i64 x10, .int .u16 v, .int .i64 x12, .tuple #[.agg #[.int .i64 r14.1.1, .int .i64 r14.1.2.1, .int .i64 r14.1.2.2], .int .i64 r14.2], .agg #[.int .i64 r14.1.1, .int .i64 r14.1.2.1, .int .i64 r14.1.2.2], .int .i64 r14.2, .int .i64 r14.2, .bool false, undef, undef, undef, undef, undef, undef, undef, undef, undef, undef, undef, undef, .pointer (some ⟨g18, 0, none⟩), .int .i64 r14.1.1, .pointer (some ⟨g18, 1, none⟩), .int .i64 r14.1.2.1, .pointer (some ⟨g18, 2, none⟩), .int .i64 r14.1.2.2, .agg #[.int .i64 r14.1.1, .int .i64 r14.1.2.1, .int .i64 r14.1.2.2], .int .i64 1, .bool true, .int .i64 1, .int .i64 r14.1.2.1, .pointer (some ⟨g1, 1, none⟩), .slice A (List.length r4) cap, .int .i64 (List.length r4 : Int), .int .i64 k86, (gv u2 1), (gv u2 2), (gv u2 3), (gv u2 4), (gv u2 5), (gv u2 6), (gv u2 7), (gv u2 8), (gv u2 9), (gv u2 10), (gv u2 11), (gv u2 12), (gv u2 13), (gv u2 14), .int .i64 r14.1.1, .int .i64 lo, .int .i64 r60, .int .i64 r64, .int .i64 r68, .bool false, .bool false, .int .i64 r14.1.1, .int .i64 hi, .int .i64 r73, .int .i64 r77, .int .i64 r81, .bool false, .bool false, .int .i64 1, undef], defers := [] } ∧ St w [⟨g18, #[.int .i64 r14.1.1, .int .i64 r14.1.2.1, .int .i64 r14.1.2.2], 29, (0, 0), true⟩, ⟨g1, #[.int .i64 side, .slice A (List.length r4) cap], 24, (0, 0), true⟩] w92 ∧ (List.length r4 : Int) - k86 < (m90 : Int) ∧ (InI k86) ∧ (InI lo87) ∧ (InI hi88) ∧ ((0 ≤ k86 ∧ k86 ≤ (List.length r4 : Int))) ∧ e_umbralaw25_TexelBetween (L10_umbralaw25_TexelBetween_1 side l u v r4 r14 m90 k86 lo87 hi88) = R) (Int.toNat ((List.length r4 : Int) - 0) + 1) ⟨0, 255, 0, [(gv u1 0), .bool false, (gv u1 2), (gv u1 3), (gv u1 4), (gv u1 5), (gv u1 6), (gv u1 7), (gv u1 8), (gv u1 9), (gv u1 10), (gv u1 11), (gv u1 12), (gv u1 13), (gv u1 14)], by kernel_rfl, hM84, by omega, (show InI 0 from by unfold InI; omega), (show InI 255 from by unfold InI; omega), (show InI 0 from by unfold InI; omega), (by omega), HR⟩ ?_
          rintro m90 a91 w92 ⟨k86, lo87, hi88, u2, rfl, hM93, hmu3, hI_k86, hI_lo87, hI_hi88, hk, HR⟩ hnext94
          obtain ⟨f89, rfl⟩ : ∃ f, m90 = f + 1 := ⟨m90 - 1, by omega⟩
          rw [L10_umbralaw25_TexelBetween_1] at HR
          refine R_seq (R_region (?_))
          refine S_dec (k86 < (List.length r4 : Int)) (by kernel_rfl) (fun c95 => ?_) (fun c95 => ?_)
          · refine S_nil (R_seq (R_yes (by kernel_rfl) (R_skip (R_seq (R_block (R_seq (R_region (?_))))))))
            have HR := hr_pos HR c95
            obtain ⟨b96, off97, rfl⟩ := Rd.op (i := k86) (Rd.cutE hR h5) (by omega)
            refine S_idx 36 3 b96 off97 (List.length r4) cap k86 (by omega) (by kernel_rfl) (S_loadX v3c 3 zero3 k86 0 b96 off97 (.agg #[.int .i64 ((gd zero3 r4 k86).1), .int .i64 ((gd zero3 r4 k86).2.1), .int .i64 ((gd zero3 r4 k86).2.2)]) hM93 (Rd.cutE hR h5) v3c_len (by omega) (by kernel_rfl) (S_fresh none #[.int .i64 0, .int .i64 0, .int .i64 0] 36 hM93 (by kernel_rfl) (fun g98 w99 hM100 => S_store 0 0 #[.int .i64 ((gd zero3 r4 k86).1), .int .i64 ((gd zero3 r4 k86).2.1), .int .i64 ((gd zero3 r4 k86).2.2)] hM100 (by kernel_rfl) (fun w101 hM102 => S_nil (R_drawF 12 (by kernel_rfl) (fun F103 U104 hL105 => F_val (.int .i64 lo87) (fun _ => by kernel_rfl) (F_val (.int .i64 1) (fun _ => by kernel_rfl) (F_val (.pointer (some ⟨g98, 1, none⟩)) (fun _ => by kernel_rfl) (F_load 0 1 (.int .i64 ((gd zero3 r4 k86).2.1)) hM102 (by kernel_rfl) (F_int (gmin lo87 ((gd zero3 r4 k86).2.1)) .i64 (fun _ => by kernel_rfl) (fun x106 h107 => F_val (.int .i64 hi88) (fun _ => by kernel_rfl) (?_))))))))))))
            have HR := hr_lt HR h107
            refine F_val (.int .i64 1) (fun _ => by kernel_rfl) (F_val (.pointer (some ⟨g98, 1, none⟩)) (fun _ => by kernel_rfl) (F_load 0 1 (.int .i64 ((gd zero3 r4 k86).2.1)) hM102 (by kernel_rfl) (F_int (gmax hi88 ((gd zero3 r4 k86).2.1)) .i64 (fun _ => by kernel_rfl) (fun x108 h109 => F_val (.int .i64 x106) (fun _ => by kernel_rfl) (F_val (.int .i64 x108) (fun _ => by kernel_rfl) (F_nil hM102 hL105 (fun w110 hM111 => S_nil (R_inBlock (R_region (S_int (IntKind.i64.wrap (k86 + 1)) .i64 (by kernel_rfl) (fun x112 h113 => S_val (.int .i64 x112) (by kernel_rfl) (?_))))))))))))
            have HR := hr_lt HR h109
            have HR := hr_lt HR h113
            refine S_nil (?_)
            have hw_x112 := h113; rw [wrI] at hw_x112; unfold wrap64 at hw_x112
            have hw_x106 := h107; rw [gmin_eq] at hw_x106
            have hw_x108 := h109; rw [gmax_eq] at hw_x108
            exact hnext94 f89 _ _ (Nat.lt_succ_self _) ⟨x112, x106, x108, [.pointer (some ⟨g98, 0, none⟩), .bool true, .pointer (some ⟨b96, off97 + Int.toNat k86 * 3 + 0, none⟩), .agg #[.int .i64 ((gd zero3 r4 k86).1), .int .i64 ((gd zero3 r4 k86).2.1), .int .i64 ((gd zero3 r4 k86).2.2)], .int .i64 lo87, .int .i64 1, .pointer (some ⟨g98, 1, none⟩), .int .i64 ((gd zero3 r4 k86).2.1), .int .i64 x106, .int .i64 hi88, .int .i64 1, .pointer (some ⟨g98, 1, none⟩), .int .i64 ((gd zero3 r4 k86).2.1), .int .i64 x108, .int .i64 x112], by kernel_rfl, hM111.off, by omega, (wr_i64 h113), (tr (P := InI) h107 (gmin_InI hI_lo87 (gdI (fewI hI h5) (by omega)).2.1)).out, (tr (P := InI) h109 (gmax_InI hI_hi88 (gdI (fewI hI h5) (by omega)).2.1)).out, (by omega), HR⟩
          · refine S_nil (R_seq (R_no (by kernel_rfl) (R_exit rfl (R_seq (R_region (S_val (.int .i64 r14.1.2.1) (by kernel_rfl) (S_val (.int .i64 lo87) (by kernel_rfl) (S_call (fof lo87) (fun r : Int => .int .i64 r) hM93 (c_fix_Of lo87 hI_lo87 w92) (by kernel_rfl) (fun r114 h115 w116 hM117 => S_call (fof 255) (fun r : Int => .int .i64 r) hM117 (c_fix_Of 255 (show InI 255 from by unfold InI; omega) w116) (by kernel_rfl) (fun r118 h119 w120 hM121 => S_call (fdiv r114 r118) (fun r : Int => .int .i64 r) hM121 (c_fix_Div r114 r118 ((tr (P := fun r : Int => InI r) h115 (fof_I lo87)).out) ((tr (P := fun r : Int => InI r) h119 (fof_I 255)).out) w120) (by kernel_rfl) (fun r122 h123 w124 hM125 => ?_)))))))))))
            have HR := hr_neg HR c95
            have HR := hr_lt HR h115
            have HR := hr_lt HR h119
            have HR := hr_lt HR h123
            refine S_dec (r14.1.2.1 < r122) (by kernel_rfl) (fun c126 => ?_) (fun c126 => ?_)
            · refine S_val (.bool true) (by kernel_rfl) (S_skip (by kernel_rfl) (S_skip (by kernel_rfl) (S_skip (by kernel_rfl) (S_skip (by kernel_rfl) (S_skip (by kernel_rfl) (S_skip (by kernel_rfl) (S_val (.bool true) (by kernel_rfl) (S_nil (R_yes (by kernel_rfl) (R_seq (R_region (?_))))))))))))
              have HR := hr_pos HR c126
              refine S_val (.bool false) (by kernel_rfl) (S_nil (?_))
              refine R_ret hM125 rfl (.cons (.tmp _ (.bool false) (by kernel_rfl)) .nil) rfl ?_
              exact ⟨congrArg Ending.returned HR, hM125.below⟩
            · refine S_val (.bool false) (by kernel_rfl) (S_val (.int .i64 r14.1.2.1) (by kernel_rfl) (S_val (.int .i64 hi88) (by kernel_rfl) (S_call (fof hi88) (fun r : Int => .int .i64 r) hM125 (c_fix_Of hi88 hI_hi88 w124) (by kernel_rfl) (fun r127 h128 w129 hM130 => S_call (fof 255) (fun r : Int => .int .i64 r) hM130 (c_fix_Of 255 (show InI 255 from by unfold InI; omega) w129) (by kernel_rfl) (fun r131 h132 w133 hM134 => S_call (fdiv r127 r131) (fun r : Int => .int .i64 r) hM134 (c_fix_Div r127 r131 ((tr (P := fun r : Int => InI r) h128 (fof_I hi88)).out) ((tr (P := fun r : Int => InI r) h132 (fof_I 255)).out) w133) (by kernel_rfl) (fun r135 h136 w137 hM138 => ?_))))))
              have HR := hr_neg HR c126
              have HR := hr_lt HR h128
              have HR := hr_lt HR h132
              have HR := hr_lt HR h136
              refine S_dec (r14.1.2.1 > r135) (by kernel_rfl) (fun c139 => ?_) (fun c139 => ?_)
              · refine S_val (.bool true) (by kernel_rfl) (S_nil (R_yes (by kernel_rfl) (R_seq (R_region (S_val (.bool false) (by kernel_rfl) (S_nil (?_)))))))
                have HR := hr_pos HR c139
                refine R_ret hM138 rfl (.cons (.tmp _ (.bool false) (by kernel_rfl)) .nil) rfl ?_
                exact ⟨congrArg Ending.returned HR, hM138.below⟩
              · refine S_val (.bool false) (by kernel_rfl) (S_nil (R_no (by kernel_rfl) (R_skip (R_inBlock (R_region (S_val (.int .i64 2) (by kernel_rfl) (S_val (.int .i64 2) (by kernel_rfl) (S_nil (R_inLoop (R_seq (R_region (?_))))))))))))
                have HR := hr_neg HR c139
                refine S_val (.bool true) (by kernel_rfl) (S_nil (R_seq (R_yes (by kernel_rfl) (R_skip (R_seq (R_block (R_seq (R_region (S_val (.int .i64 2) (by kernel_rfl) (S_val (.int .i64 r14.1.2.2) (by kernel_rfl) (S_val (.int .i64 2) (by kernel_rfl) (?_))))))))))))
                refine S_val (.int .i64 r14.1.2.2) (by kernel_rfl) (S_nil (R_seq (R_region (S_val (.int .i64 255) (by kernel_rfl) (S_val (.int .i64 0) (by kernel_rfl) (S_nil (R_seq (R_seq (R_region (S_val (.pointer (some ⟨g1, 1, none⟩)) (by kernel_rfl) (S_load 1 1 (.slice A (List.length r4) cap) hM138 (by kernel_rfl) (?_))))))))))))
                refine S_val (.int .i64 (List.length r4 : Int)) (by kernel_rfl) (S_val (.int .i64 0) (by kernel_rfl) (S_nil (R_block (?_))))
                have hle := (few_le h5)
                refine R_fuel (fun m144 a145 w146 => ∃ (k140 : Int) (lo141 : Int) (hi142 : Int) (u3 : List Value), a145 = { tmps := #[.agg #[.int .i64 side, .slice A (List.length l) cap], .int .u16 u, .int .u16 v, .pointer (some ⟨g1, 0, none⟩), undef, undef, .bool false, .pointer (some ⟨g18, 0, none⟩), .int .i64 r14.2, .int .i64 2, .int .i64 r14.1.2.2, .int .i64 lo141, .int .i64 hi142, undef, (gv u3 0), .agg #[.int .i64 side, .slice A (List.length l) cap], .agg #[.int .i64 side, .slice A (List.length r4) cap], .tuple #[.agg #[.int .i64 r14.1.1, .int .i64 r14.1.2.1, .int .i64 r14.1.2.2], .int .i64 r14.2], .agg #[.int .i64 side, .slice A (List.length r4) cap], .int .u16 u, .int .i64 x10, .int .u16 v, .int .i64 x12, .tuple #[.agg #[.int .i64 r14.1.1, .int .i64 r14.1.2.1, .int .i64 r14.1.2.2], .int .i64 r14.2], .agg #[.int .i64 r14.1.1, .int .i64 r14.1.2.1, .int .i64 r14.1.2.2], .int .i64 r14.2, .int .i64 r14.2, .bool false, undef, undef, undef, undef, undef, undef, undef, undef, undef, undef, undef, undef, .pointer (some ⟨g18, 0, none⟩), .int .i64 r14.1.1, .pointer (some ⟨g18, 1, none⟩), .int .i64 r14.1.2.1, .pointer (some ⟨g18, 2, none⟩), .int .i64 r14.1.2.2, .agg #[.int .i64 r14.1.1, .int .i64 r14.1.2.1, .int .i64 r14.1.2.2], .int .i64 2, .bool true, .int .i64 2, .int .i64 r14.1.2.2, .pointer (some ⟨g1, 1, none⟩), .slice A (List.length r4) cap, .int .i64 (List.length r4 : Int), .int .i64 k140, (gv u3 1), (gv u3 2), (gv u3 3), (gv u3 4), (gv u3 5), (gv u3 6), (gv u3 7), (gv u3 8), (gv u3 9), (gv u3 10), (gv u3 11), (gv u3 12), (gv u3 13), (gv u3 14), .int .i64 r14.1.2.1, .int .i64 lo87, .int .i64 r114, .int .i64 r118, .int .i64 r122, .bool false, .bool false, .int .i64 r14.1.2.1, .int .i64 hi88, .int .i64 r127, .int .i64 r131, .int .i64 r135, .bool false, .bool false, .int .i64 2, undef], defers := [] } ∧ St w [⟨g18, #[.int .i64 r14.1.1, .int .i64 r14.1.2.1, .int .i64 r14.1.2.2], 29, (0, 0), true⟩, ⟨g1, #[.int .i64 side, .slice A (List.length r4) cap], 24, (0, 0), true⟩] w146 ∧ (List.length r4 : Int) - k140 < (m144 : Int) ∧ (InI k140) ∧ (InI lo141) ∧ (InI hi142) ∧ ((0 ≤ k140 ∧ k140 ≤ (List.length r4 : Int))) ∧ e_umbralaw25_TexelBetween (L10_umbralaw25_TexelBetween_2 side l u v r4 r14 m144 k140 lo141 hi142) = R) (Int.toNat ((List.length r4 : Int) - 0) + 1) ⟨0, 255, 0, [(gv u2 0), .bool false, (gv u2 2), (gv u2 3), (gv u2 4), (gv u2 5), (gv u2 6), (gv u2 7), (gv u2 8), (gv u2 9), (gv u2 10), (gv u2 11), (gv u2 12), (gv u2 13), (gv u2 14)], by kernel_rfl, hM138, by omega, (show InI 0 from by unfold InI; omega), (show InI 255 from by unfold InI; omega), (show InI 0 from by unfold InI; omega), (by omega), HR⟩ ?_
                rintro m144 a145 w146 ⟨k140, lo141, hi142, u3, rfl, hM147, hmu3, hI_k140, hI_lo141, hI_hi142, hk, HR⟩ hnext148
                obtain ⟨f143, rfl⟩ : ∃ f, m144 = f + 1 := ⟨m144 - 1, by omega⟩
                rw [L10_umbralaw25_TexelBetween_2] at HR
                refine R_seq (R_region (?_))
                refine S_dec (k140 < (List.length r4 : Int)) (by kernel_rfl) (fun c149 => ?_) (fun c149 => ?_)
                · refine S_nil (R_seq (R_yes (by kernel_rfl) (R_skip (R_seq (R_block (R_seq (R_region (?_))))))))
                  have HR := hr_pos HR c149
                  obtain ⟨b150, off151, rfl⟩ := Rd.op (i := k140) (Rd.cutE hR h5) (by omega)
                  refine S_idx 36 3 b150 off151 (List.length r4) cap k140 (by omega) (by kernel_rfl) (S_loadX v3c 3 zero3 k140 0 b150 off151 (.agg #[.int .i64 ((gd zero3 r4 k140).1), .int .i64 ((gd zero3 r4 k140).2.1), .int .i64 ((gd zero3 r4 k140).2.2)]) hM147 (Rd.cutE hR h5) v3c_len (by omega) (by kernel_rfl) (S_fresh none #[.int .i64 0, .int .i64 0, .int .i64 0] 36 hM147 (by kernel_rfl) (fun g152 w153 hM154 => S_store 0 0 #[.int .i64 ((gd zero3 r4 k140).1), .int .i64 ((gd zero3 r4 k140).2.1), .int .i64 ((gd zero3 r4 k140).2.2)] hM154 (by kernel_rfl) (fun w155 hM156 => S_nil (R_drawF 12 (by kernel_rfl) (fun F157 U158 hL159 => F_val (.int .i64 lo141) (fun _ => by kernel_rfl) (F_val (.int .i64 2) (fun _ => by kernel_rfl) (F_val (.pointer (some ⟨g152, 2, none⟩)) (fun _ => by kernel_rfl) (F_load 0 2 (.int .i64 ((gd zero3 r4 k140).2.2)) hM156 (by kernel_rfl) (F_int (gmin lo141 ((gd zero3 r4 k140).2.2)) .i64 (fun _ => by kernel_rfl) (fun x160 h161 => F_val (.int .i64 hi142) (fun _ => by kernel_rfl) (?_))))))))))))
                  have HR := hr_lt HR h161
                  refine F_val (.int .i64 2) (fun _ => by kernel_rfl) (F_val (.pointer (some ⟨g152, 2, none⟩)) (fun _ => by kernel_rfl) (F_load 0 2 (.int .i64 ((gd zero3 r4 k140).2.2)) hM156 (by kernel_rfl) (F_int (gmax hi142 ((gd zero3 r4 k140).2.2)) .i64 (fun _ => by kernel_rfl) (fun x162 h163 => F_val (.int .i64 x160) (fun _ => by kernel_rfl) (F_val (.int .i64 x162) (fun _ => by kernel_rfl) (F_nil hM156 hL159 (fun w164 hM165 => S_nil (R_inBlock (R_region (S_int (IntKind.i64.wrap (k140 + 1)) .i64 (by kernel_rfl) (fun x166 h167 => S_val (.int .i64 x166) (by kernel_rfl) (?_))))))))))))
                  have HR := hr_lt HR h163
                  have HR := hr_lt HR h167
                  refine S_nil (?_)
                  have hw_x166 := h167; rw [wrI] at hw_x166; unfold wrap64 at hw_x166
                  have hw_x160 := h161; rw [gmin_eq] at hw_x160
                  have hw_x162 := h163; rw [gmax_eq] at hw_x162
                  exact hnext148 f143 _ _ (Nat.lt_succ_self _) ⟨x166, x160, x162, [.pointer (some ⟨g152, 0, none⟩), .bool true, .pointer (some ⟨b150, off151 + Int.toNat k140 * 3 + 0, none⟩), .agg #[.int .i64 ((gd zero3 r4 k140).1), .int .i64 ((gd zero3 r4 k140).2.1), .int .i64 ((gd zero3 r4 k140).2.2)], .int .i64 lo141, .int .i64 2, .pointer (some ⟨g152, 2, none⟩), .int .i64 ((gd zero3 r4 k140).2.2), .int .i64 x160, .int .i64 hi142, .int .i64 2, .pointer (some ⟨g152, 2, none⟩), .int .i64 ((gd zero3 r4 k140).2.2), .int .i64 x162, .int .i64 x166], by kernel_rfl, hM165.off, by omega, (wr_i64 h167), (tr (P := InI) h161 (gmin_InI hI_lo141 (gdI (fewI hI h5) (by omega)).2.2)).out, (tr (P := InI) h163 (gmax_InI hI_hi142 (gdI (fewI hI h5) (by omega)).2.2)).out, (by omega), HR⟩
                · refine S_nil (R_seq (R_no (by kernel_rfl) (R_exit rfl (R_seq (R_region (S_val (.int .i64 r14.1.2.2) (by kernel_rfl) (S_val (.int .i64 lo141) (by kernel_rfl) (S_call (fof lo141) (fun r : Int => .int .i64 r) hM147 (c_fix_Of lo141 hI_lo141 w146) (by kernel_rfl) (fun r168 h169 w170 hM171 => S_call (fof 255) (fun r : Int => .int .i64 r) hM171 (c_fix_Of 255 (show InI 255 from by unfold InI; omega) w170) (by kernel_rfl) (fun r172 h173 w174 hM175 => S_call (fdiv r168 r172) (fun r : Int => .int .i64 r) hM175 (c_fix_Div r168 r172 ((tr (P := fun r : Int => InI r) h169 (fof_I lo141)).out) ((tr (P := fun r : Int => InI r) h173 (fof_I 255)).out) w174) (by kernel_rfl) (fun r176 h177 w178 hM179 => ?_)))))))))))
                  have HR := hr_neg HR c149
                  have HR := hr_lt HR h169
                  have HR := hr_lt HR h173
                  have HR := hr_lt HR h177
                  refine S_dec (r14.1.2.2 < r176) (by kernel_rfl) (fun c180 => ?_) (fun c180 => ?_)
                  · refine S_val (.bool true) (by kernel_rfl) (S_skip (by kernel_rfl) (S_skip (by kernel_rfl) (S_skip (by kernel_rfl) (S_skip (by kernel_rfl) (S_skip (by kernel_rfl) (S_skip (by kernel_rfl) (S_val (.bool true) (by kernel_rfl) (S_nil (R_yes (by kernel_rfl) (R_seq (R_region (?_))))))))))))
                    have HR := hr_pos HR c180
                    refine S_val (.bool false) (by kernel_rfl) (S_nil (?_))
                    refine R_ret hM179 rfl (.cons (.tmp _ (.bool false) (by kernel_rfl)) .nil) rfl ?_
                    exact ⟨congrArg Ending.returned HR, hM179.below⟩
                  · refine S_val (.bool false) (by kernel_rfl) (S_val (.int .i64 r14.1.2.2) (by kernel_rfl) (S_val (.int .i64 hi142) (by kernel_rfl) (S_call (fof hi142) (fun r : Int => .int .i64 r) hM179 (c_fix_Of hi142 hI_hi142 w178) (by kernel_rfl) (fun r181 h182 w183 hM184 => S_call (fof 255) (fun r : Int => .int .i64 r) hM184 (c_fix_Of 255 (show InI 255 from by unfold InI; omega) w183) (by kernel_rfl) (fun r185 h186 w187 hM188 => S_call (fdiv r181 r185) (fun r : Int => .int .i64 r) hM188 (c_fix_Div r181 r185 ((tr (P := fun r : Int => InI r) h182 (fof_I hi142)).out) ((tr (P := fun r : Int => InI r) h186 (fof_I 255)).out) w187) (by kernel_rfl) (fun r189 h190 w191 hM192 => ?_))))))
                    have HR := hr_neg HR c180
                    have HR := hr_lt HR h182
                    have HR := hr_lt HR h186
                    have HR := hr_lt HR h190
                    refine S_dec (r14.1.2.2 > r189) (by kernel_rfl) (fun c193 => ?_) (fun c193 => ?_)
                    · refine S_val (.bool true) (by kernel_rfl) (S_nil (R_yes (by kernel_rfl) (R_seq (R_region (S_val (.bool false) (by kernel_rfl) (S_nil (?_)))))))
                      have HR := hr_pos HR c193
                      refine R_ret hM192 rfl (.cons (.tmp _ (.bool false) (by kernel_rfl)) .nil) rfl ?_
                      exact ⟨congrArg Ending.returned HR, hM192.below⟩
                    · refine S_val (.bool false) (by kernel_rfl) (S_nil (R_no (by kernel_rfl) (R_skip (R_inBlock (R_region (S_val (.int .i64 3) (by kernel_rfl) (S_val (.int .i64 3) (by kernel_rfl) (S_nil (R_inLoop (R_seq (R_region (?_))))))))))))
                      have HR := hr_neg HR c193
                      refine S_val (.bool false) (by kernel_rfl) (S_nil (R_seq (R_no (by kernel_rfl) (R_exit rfl (R_seq (R_region (S_call (s_umbralaw25_works ) (fun r : Bool => .bool r) hM192 (w_umbralaw25_works  w191) (by kernel_rfl) (fun r194 h195 w196 hM197 => ?_))))))))
                      have HR := hr_lt HR h195
                      cases r194
                      · refine S_val (.bool false) (by kernel_rfl) (S_nil (?_))
                        have HR := hr_neg HR Bool.false_ne_true
                        refine R_ret hM197 rfl (.cons (.tmp _ (.bool false) (by kernel_rfl)) .nil) rfl ?_
                        exact ⟨congrArg Ending.returned HR, hM197.below⟩
                      · refine S_val (.bool true) (by kernel_rfl) (S_nil (?_))
                        have HR := hr_pos HR rfl
                        refine R_ret hM197 rfl (.cons (.tmp _ (.bool true) (by kernel_rfl)) .nil) rfl ?_
                        exact ⟨congrArg Ending.returned HR, hM197.below⟩

end Go.Proofs.Ytognbeejobfpfaa
